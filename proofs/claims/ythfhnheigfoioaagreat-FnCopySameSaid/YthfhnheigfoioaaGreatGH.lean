/- A part of the proof of the given row. Conditions: none. -/
import Derived.Test.YthfhnheigfoioaaGreatGG
set_option linter.unusedVariables false
set_option linter.unusedSimpArgs false
set_option maxRecDepth 100000
section
namespace Go.Lf
open Go Sm
theorem Q0 {p n:Nat} {S S' : Sim} {g:Img} {R:RM} (y:Ok R S g) (a4:∀R g A,Ok R S g->S.pause n = some A->Fn P Dn [Pt p] R (Ag p S g) (DJ p A λ_=>True)) (x:S.collector n = some S') :
  Fn P Gp [Pt p] R (Ag p S g) (DJ p S' λ_=>True):=by
 refine LG λF=>?_
 refine z_1 ?_;unfold Sim.collector at x;refine jl rfl (jif (λh0=>?_) (λh0=>?_))
 .rw[if_pos h0] at x;refine jcS (Zn y) λ_ R2 g2 H hr K=>?_
  subst hr;refine jif (λhc=>?_) (λhc=>?_)
  .rw[if_pos hc] at x;refine jcS (a4 R2 g2 S' K x) λ_ R3 g3 a3 _ O=>(B7 (H.trans a3) trivial rfl O)
  .rw[if_neg (by rw[hc];decide)] at x;simp only[dW] at x;subst x;exact B7 H trivial rfl K
 rw[if_neg (by rw[h0];decide)] at x;refine jl rfl (jeq (jif (λG=>?_) (λG=>?_)))
 .rw[if_pos (eq_of_beq G)] at x;refine jl rfl (jif (λT=>?_) (λT=>?_))
  .rw[if_pos T] at x;refine Jl y λb=>?_
   obtain⟨a,Q,a5,-⟩:=Ay.reads (D:=[]) y.AR;have N:=y.AR;rw[a5] at N ⊢;refine jS (BW { S.col with Ap:=false } (.slice a S.col.AR.length Q)) (jS (BW { S.col with Ap:=false,want:=1 } (.slice a S.col.AR.length Q)) (JM { S with col:={ S.col with Ap:=false,want:=1 } } y (by exact N) τ λg3 O=>(jss { S with stop:=true,col:={ S.col with Ap:=false,want:=1 } } g3 rfl rfl δ τ τ ?_)));simp only[dW] at x;subst x;exact B7 (RM.le.refl R) trivial rfl { O with }
  .rw[if_neg (by rw[T];decide)] at x;simp only[dW] at x;subst x;exact B7 (RM.le.refl R) trivial rfl y
 .rw[if_neg (ne_of_beq_false G)] at x;refine jss { S with used:=false } g rfl rfl δ τ τ ?_;refine jlp (λm vs R' D'=>R.le R'/\∃A g1,Ok R' A g1/\Sim.cloop m A = some S'/\D' = Ag p A g1 ++ F/\vs = [Pt p])
   ⟨RM.le.refl R,{ S with used:=false },g,{ y with },x,rfl,rfl⟩ ?_
  rintro m e R1 D1 K3 ⟨a0,A,g1,a1,j,hD,he⟩ a2;refine z_W ?_;cases m with
  | zero=>cases j
  | succ m=>
  unfold Sim.cloop at j;refine jan [Pt p] ((!A.used) && (!A.stop)) (λK' W=>?_) (λe c u ho he=>?_)
  .refine jl rfl (Dl (λG=>?_) (λG=>?_))
   .refine jl (v:=.bool A.stop) rfl (W _ _ _ (G▸Bh) (by rw[G,eP]))
   .exact W _ _ _ (G▸By) (by rw[G,fA])
  refine z_V ?_;rw[ho];refine jif (λhc=>?_) (λhc=>?_)
  .rw[if_pos hc] at j;obtain⟨S2,T,j⟩:=AG j;refine jcS (Zp a1 T) λ_ R2 g2 H _ K=>(a2 m _ _ _ Z ⟨a0.trans H,S2,g2,K,j,rfl,rfl⟩)
  .rw[if_neg (by rw[hc];decide)] at j;simp only[dW] at j;subst j;exact B7 a0 trivial rfl a1
theorem Y2 {p:Nat} {S S' : Sim} {g:Img} {a:Int} {R:RM} (x:Ok R S g) (ha:inR a) (K:∀R g N,Ok R S g->S.pause S.fuel = some N->Fn P Dn [Pt p] R (Ag p S g) (DJ p N λ_=>True)) (j:S.pick a = some S') :
  Fn P Ii [Pt p,I a] R (Ag p S g) (DJ p S' λ_=>True):=by
 refine Ti λF=>?_
 refine z_2 ?_;unfold Sim.pick at j;have T:=x.hl;refine jl rfl (jln (jan [Pt p,I a,I S.th.length] ((decide (a>=0)) && (decide (a < S.th.length))) (λK' G=>?_) (λe c u W he=>?_)))
 .refine jge (Dl (λy=>?_) (λy=>?_))
  .refine jlt (G _ _ _ (y▸Bh) (by rw[y,eP]))
  .exact G _ _ _ (y▸By) (by rw[y,fA])
 refine z_V ?_;rw[W];refine jif (λhc=>?_) (λhc=>?_)
 .simp only[z_b,z_d] at hc;rw[if_pos ⟨Z,Z⟩] at j;refine jcS (X8 x j) λ_ O Q A _ D=>(B7 A trivial rfl D)
 have hc:¬ (0<=a/\a < S.th.length):=by
  intro h;simp[h.1,h.2] at hc
 rw[if_neg hc] at j;refine jeq (jif (λy=>?_) (λy=>?_))
 .rw[if_pos (eq_of_beq y)] at j;refine jcS (Q0 x K j) λ_ O Q A _ D=>(B7 A trivial rfl D)
 rw[if_neg (ne_of_beq_false y)] at j;refine jad (jeq (jif (λH=>?_) (λH=>?_)))
 .rw[if_pos (eq_of_beq H)] at j;simp only[dW] at j;refine jss { S with col:={ S.col with Ap:=true } } g rfl rfl δ τ τ ?_;subst j;exact B7 (RM.le.refl R) trivial rfl { x with }
 .rw[if_neg (ne_of_beq_false H)] at j;simp only[dW] at j;subst j;exact B7 (RM.le.refl R) trivial rfl x
theorem jpg {R:RM} {D:Chs} {pv:Value} {AZ:List (List Sm.Op)} {i:Nat} {k:Value->M} (O:FI R pv AZ) (K:i < AZ.length) (H:∀x,Ops R x (AZ[i])->J R D (k x)):J R D (IA 1 pv (I (i:Int)) λq=>L1 q k):=by
 obtain⟨vs,G,hl,Bp⟩:=O;obtain⟨x,Q,N⟩:=Bp i K;rcases G with ⟨_,j,_⟩ | ⟨b,o,y,t,T,rfl,j,W,A,h5⟩
 .omega
 .refine jia Z Z ?_;rw[dG,fN];exact jlr j (Bm A Q) (H x N)
theorem O8 {R:RM} {D:Chs} {j:Cfg} {pv W:Value} {AZ:List (List Sm.Op)} {picks:List Int} (hp:FI R pv AZ) (hk:Ay R W picks) :
  Ro Kg [.agg #[I j.AH,I j.AB,I j.AU],pv,W] (.bool (Cy j AZ picks)) R D:=by
 refine Q6 λF=>?_
 refine z_3 ?_;obtain⟨vs,T,-,-⟩:=id hp;have A:=T.sl;refine ja λb=>?_
 rw[show cl (.agg #[I j.AH,I j.AB,I j.AU]) = [I j.AH,I j.AB,I j.AU] from rfl];refine jor [pv,W] ((!Bg j) || (((AZ.length:Int) != j.AB))) (λK' y=>?_) (λe c u Q he=>?_)
 .refine jla (l:=[I j.AH,I j.AB,I j.AU]) V rfl (jp (N7 j) (jgO y λH N=>Bf A (jfo (jl rfl (jne N)))))
 refine z_V ?_;refine jor [pv] ((!Bg j || ((AZ.length:Int) != j.AB)) || (decide ((picks.length:Int) > 4000))) (λK' y=>?_) (λe c u Q he=>?_)
 .rw[Q];refine jgO y λH N=>Bf hk.sl (jgr N)
 refine z_V ?_;rw[Q];refine jif (λh0=>?_) (λh0=>?_)
 .refine BB ?_;have:Cy j AZ picks = false:=by
   unfold Cy;simp only[du,dp,bne_iff_ne,ne_eq,z_d] at h0;rcases h0 with (h0 | h0) | h0
   .rw[h0];simp
   .rw[decide_eq_false h0];simp
   .rw[decide_eq_false (show ¬ picks.length<=4000 by omega)];simp
  rw[this]
 have e0:Cy j AZ picks = AZ.all λp=>decide (p.length<=40):=by
  simp only[db,eL,bne_eq_false_iff_eq,decide_eq_false_iff_not] at h0;unfold Cy;rw[h0.1.1,decide_eq_true h0.1.2,decide_eq_true (show picks.length<=4000 by omega)];simp
 rw[e0];have a0:AZ.length<=3:=by
  simp only[db,eL,bne_eq_false_iff_eq,decide_eq_false_iff_not] at h0;have H:=h0.1.1;unfold Bg at H;simp only[z_b,z_d] at H;omega
 refine jlp (λm vs R' D'=>R' = R/\D' = (b,C 24 [I j.AH,I j.AB,I j.AU]) :: (D ++ F)/\∃i:Nat,i<=AZ.length/\vs = [pv,I i]/\m = AZ.length - i/\(AZ.drop i).all (λp=>decide (p.length<=40)) = AZ.all λp=>decide (p.length<=40))
  (n:=AZ.length) ⟨rfl,rfl,0,Z,rfl,Z,by rw[fG]⟩ ?_
 rintro m e R1 D1 K ⟨O,hD,i,hi,he,hm,Bp⟩ hK;subst O;refine z_W ?_;refine Bf A (jlt (jif (λhc=>?_) (λhc=>?_)))
 .have hc:i < AZ.length:=by have:=z_f hc;omega
  rw[dQ hc,List.all_cons] at Bp;refine jpg hp hc λx hx=>Bf (Fz.sl hx) (jgr (jif (λG=>?_) (λG=>?_)))
  .refine BB ?_;have G:=z_f G;rw[<- Bp,decide_eq_false Z,fA]
  .have G:=z_g G;rw[decide_eq_true Z,eP] at Bp;refine jad (hK (AZ.length - (i + 1)) _ _ _ Z ⟨rfl,rfl,i + 1,Z,rfl,rfl,Bp⟩)
 .have hc:=z_g hc;refine BB ?_;rw[<- Bp,dT Z];rfl
theorem Lc:∀(l:List Int) (a:Int) {S y A:Sim},Sim.picks l S = some y->y.pick a = some A->Sim.picks (l ++ [a]) S = some A
 | [],a,S,y,A,j,h2=>by
  unfold Sim.picks at j;cases j;show (S.pick a >>= λx=>Sim.picks [] x) = _;rw[h2];rfl
 | b :: l,a,S,y,A,j,h2=>by
  unfold Sim.picks at j;obtain⟨G,D,j⟩:=AG j;show (S.pick b >>= λx=>Sim.picks (l ++ [a]) x) = _;rw[D];exact Lc l a j h2
theorem Qf {R:RM} {x:Cfg} {pv kv:Value} {AZ:List (List Sm.Op)} {picks:List Int} {S' : Sim} (hp:FI R pv AZ) (hk:Ay R kv picks) (H:Cy x AZ picks = true) (ha:∀a∈picks,inR a)
  (hS:Sim.picks picks (Sm.start x AZ) = some S') (hz:S'.sz = true)
  (a7:∀i S,Sim.picks (picks.take i) (Sm.start x AZ) = some S->∀p R g O,Ok R S g->S.pause S.fuel = some O->Fn P Dn [Pt p] R (Ag p S g) (DJ p O λ_=>True)) :
  Fn P Fy [.agg #[I x.AH,I x.AB,I x.AU],pv,kv] R [] (λv T A=>∃p g rows D A',Ok T S' g/\Rw (Cd T) rows S'.view.AB/\SW 117 4 rows D A'/\A = A' ++ Ag p S' g/\
   v = .tuple #[.agg (eSt S'.view (wS S' g) (tS S' g) (mS S' g) D g.old g.AJ).toArray,evV S' g]):=by
 refine Nb λF=>?_
 refine z_3 ?_;have a5:Bg x = true:=by
  unfold Cy at H;simp only[z_b] at H;exact H.1.1.1
 have b3:picks.length<=4000:=by
  unfold Cy at H;simp only[z_b,z_d] at H;exact H.1.2
 refine ja λb1=>?_
 rw[show cl (.agg #[I x.AH,I x.AB,I x.AU]) = [I x.AH,I x.AB,I x.AU] from rfl];refine ja λW=>(jla V rfl ?_)
 refine jro (O8 hp hk) ?_;rw[H];refine CQ (jla V rfl ?_);refine jc (OJ a5 hp) ?_;rintro _ R1 _ a4 ⟨p,g,rfl,rfl,ok⟩;refine Ac (λvs T D'=>R.le T/\∃y,Ok T S' y/\D' = Ag p S' y ++ (W,C AW (cl z50)) :: F/\vs = [Pt W,Pt p]) (λK hK=>?_) ?_
 .refine jcI hK λK2 a2=>?_
  refine Al (Ag p (Sm.start x AZ) g) (G:=(W,C AW (cl z50)) :: (b1,C 24 [I x.AH,I x.AB,I x.AU]) :: ([] ++ F)) ?_;refine jlp (λm vs T D'=>R.le T/\∃(i:Nat) (O:Sim) (y:Img),i<=picks.length/\Sim.picks (picks.take i) (Sm.start x AZ) = some O/\Sim.picks (picks.drop i) O = some S'/\Ok T O y/\D' = Ag p O y ++ (W,C AW (cl z50)) :: (b1,C 24 [I x.AH,I x.AB,I x.AU]) :: ([] ++ F)/\vs = [kv,Pt W,Pt p,I i]/\m = picks.length - i)
   (n:=picks.length) ⟨a4,0,Sm.start x AZ,g,Z,rfl,by rw[fG];exact hS,ok,rfl,rfl,Z⟩ ?_
  rintro m e R2 D2 K3 ⟨hR,i,O,y,hi,a1,j,N,hD,he,hm⟩ a3;refine z_W ?_;have a0:=hk.le hR;refine Bf a0.sl (jlt (jif (λhc=>?_) (λhc=>?_)));rotate_left
  .have hc:=z_g hc;rw[dT Z] at j;unfold Sim.picks at j;cases j;refine B8 (D':=(b1,C 24 [I x.AH,I x.AB,I x.AU]) :: (Ag p S' y ++ (W,C AW (cl z50)) :: F)) ?_ (BV ?_)
   .rw[zl];exact ((fF _ _ _).append_left _).trans dw
   exact a2 _ _ _ ⟨hR,y,N,rfl,rfl⟩
  have hc:i < picks.length:=by have:=z_f hc;omega
  rw[dQ hc] at j;unfold Sim.picks at j;obtain⟨S2,h2,j⟩:=AG j;refine Bk a0 Z Z ?_;rw[getElem_congr_idx (dG i)];refine jcS (Y2 N (ha _ (dL hc)) (a7 i O a1 p) h2) λ_ R3 g3 Q _ b0=>(jad (a3 (picks.length - (i + 1)) _ _ _ Z ⟨hR.trans Q,i + 1,S2,g3,Z,?_,j,b0,rfl,rfl,rfl⟩))
  rw[dJ hc];exact Lc _ _ a1 h2
 rintro e R2 D2 ⟨hR,y,N,hD,he⟩;refine z_W ?_;refine jl rfl (jc (UV N hz) ?_);rintro _ R3 _ Q ⟨rows,D,A',a8,so,rfl,rfl⟩;obtain⟨ta,tc,a9⟩:=so.sl;have a6:flat D = true:=by rw[a9];rfl
 have el:eSt S'.view (wS S' y) (tS S' y) (mS S' y) D y.old y.AJ = eVw S' y (.bool S'.col.Ap) (I S'.col.want) D:=rfl;rw[el,dS];refine Ak (jl rfl jev) (js (cs':=eVw S' y (.bool S'.col.Ap) (I S'.col.want) D) rfl (MG N rfl rfl a6) (by exact z_n 13) rfl (Ak (jl rfl jev) (jla (by exact z_n 13) rfl (B8 (D':=(A' ++ Ag p S' y) ++ ((W,C AW (eVw S' y (.bool S'.col.Ap) (I S'.col.want) D)) :: F)) (by rw[dS]) (Ao (hR.trans Q) ⟨p,y,rows,D,A',N.le Q,a8,so,rfl,rfl⟩)))))
def l7d (e24:Env) (K:Value->M):M:=
 CUT [2,19] (λJe25=>CUT [2,19] (λJe28=>LP [1,2,3,5,9,19,20] (λKe29 e29=>FO 8 (e29 1) λx30=>L1 x30 λx31=>LN x31 λx32=>BO .lss (e29 20) x32 λx33=>IF x33 (FO 8 (e29 1) λx34=>L1 x34 λx35=>IA 4 x35 (e29 20) λx36=>FO 1 x36 λx37=>L1 x37 λx38=>FO 8 (e29 1) λx39=>L1 x39 λx40=>IA 4 x40 (e29 20) λx41=>FO 3 x41 λx42=>L1 x42 λx43=>BD (cl WW) [(1,1,x38),(3,1,x43)] λx44=>AL 117 WW λx45=>AND (L1 x34 λx46=>EV x46 x35)<|AND (L1 x37 λx47=>EV x47 x38)<|AND (L1 x39 λx48=>EV x48 x40)<|AND (L1 x42 λx49=>EV x49 x43)<|ST 4 x45 x44<|CUT [1,2,3,5,9,19,20,21] (λJe50=>FO 3 x45 λx94=>L1 x94 λx95=>BO .eql x95 (I 1) λx96=>IF x96 (FO 3 x45 λx97=>ST 1 x97 (I 2)<|Je50 [(e29 1),(e29 2),(e29 3),(e29 5),(e29 9),(e29 19),(e29 20),x45]) (Je50 [(e29 1),(e29 2),(e29 3),(e29 5),(e29 9),(e29 19),(e29 20),x45])) λe50=>CUT [1,2,3,5,9,19,20,21] (λJe51=>CUT [1,2,3,5,9,19,20,21] (λJe59=>LP [1,2,3,5,9,19,20,21,22] (λKe60 e60=>FO 8 (e60 1) λx61=>L1 x61 λx62=>IA 4 x62 (e60 20) λx63=>FO 0 x63 λx64=>L1 x64 λx65=>LN x65 λx66=>BO .lss (e60 22) x66 λx67=>IF x67 (CUT [1,2,3,5,9,19,20,21,22] (λJe68=>CUT [1,2,3,5,9,19,20,21,22] (λJe70=>FO 8 (e60 1) λx71=>L1 x71 λx72=>IA 4 x72 (e60 20) λx73=>FO 0 x73 λx74=>L1 x74 λx75=>IA 1 x75 (e60 22) λx76=>L1 x76 λx77=>CA P 64 [(e60 3),x77] λx78=>CA P 63 [(e60 5),x78] λx79=>BO .lss x79 (I 0) λx80=>IF x80 (FO 0 (e60 21) λx81=>L1 x81 λx82=>BS 3 1 (ZR 1 z3) [(0,1,(I 0))] λx83=>AP 3 1 8 (cl z3) x82 x83 λx84=>FO 0 (e60 21) λx85=>ST 1 x85 x84<|Je70 [(e60 1),(e60 2),(e60 3),(e60 5),(e60 9),(e60 19),(e60 20),(e60 21),(e60 22)]) (FO 0 (e60 21) λx86=>L1 x86 λx87=>IA 1 (e60 9) x79 λx88=>L1 x88 λx89=>BS 3 1 (ZR 1 z3) [(0,1,x89)] λx90=>AND (L1 x86 λx91=>EV x91 x87)<|AP 3 1 8 (cl z3) x87 x90 λx92=>FO 0 (e60 21) λx93=>ST 1 x93 x92<|Je70 [(e60 1),(e60 2),(e60 3),(e60 5),(e60 9),(e60 19),(e60 20),(e60 21),(e60 22)])) λe70=>Je68 [(e70 1),(e70 2),(e70 3),(e70 5),(e70 9),(e70 19),(e70 20),(e70 21),(e70 22)]) λe68=>BO .add (e68 22) (I 1) λx69=>Ke60 [(e68 1),(e68 2),(e68 3),(e68 5),(e68 9),(e68 19),(e68 20),(e68 21),x69]) (Je59 [(e60 1),(e60 2),(e60 3),(e60 5),(e60 9),(e60 19),(e60 20),(e60 21)])) [(e50 1),(e50 2),(e50 3),(e50 5),(e50 9),(e50 19),(e50 20),(e50 21),(I 0)]) λe59=>Je51 [(e59 1),(e59 2),(e59 3),(e59 5),(e59 9),(e59 19),(e59 20),(e59 21)]) λe51=>FO 8 (e51 19) λx52=>L1 x52 λx53=>LA 4 (e51 21) λx54=>BS 117 1 (ZR 1 WW) [(0,4,x54)] λx55=>AP 117 4 48 (cl WW) x53 x55 λx56=>FO 8 (e51 19) λx57=>ST 1 x57 x56<|BO .add (e51 20) (I 1) λx58=>Ke29 [(e51 1),(e51 2),(e51 3),(e51 5),(e51 9),(e51 19),x58]) (Je28 [(e29 2),(e29 19)])) [(e24 1),(e24 2),(e24 3),(e24 5),(e24 9),(e24 19),(I 0)]) λe28=>Je25 [(e28 2),(e28 19)]) λe25=>LA 13 (e25 19) λx26=>ST 13 (e25 2) x26<|LA 13 (e25 2) λx27=>K x27
theorem NE {l:List AQ} {AI x:List Int} {t:Th} {r ths:List Th} (h:Da l AI x (t :: r) = some ths):∃AD j,DD l AI x t.AD = some AD/\Da l AI x r = some j/\ths = ⟨AD,t.next,false,if t.Am = 1 then 2 else t.Am⟩ :: j:=by
 unfold Da at h;obtain⟨AD,y,h⟩:=AG h;obtain⟨j,A,h⟩:=AG h;simp only[dW] at h;exact⟨AD,j,y,A,h.symm⟩
theorem PZ {l:List AQ} {AI x:List Int} {a:Int} {r out:List Int} (h:DD l AI x (a :: r) = some out):∃z b j,now l a = some z/\(if BP AI z < 0 then some 0 else idx x (BP AI z)) = some b/\DD l AI x r = some j/\out = b :: j:=by
 unfold DD at h;obtain⟨z,y,h⟩:=AG h;obtain⟨b,A,h⟩:=AG h;obtain⟨j,D,h⟩:=AG h;simp only[dW] at h;exact⟨z,b,j,y,A,D,h.symm⟩
theorem Zr {R:RM} {E:Chs} {s s' : Sm.Ah} {wv tv mv f8 ov pv lv v9 v w t m D : Value} {l:List AQ} {AI c8:List Int} {ths:List Th} {b1 T y:Nat} {e:Env} {K:Value->M}
  (h:StC R s wv tv mv f8 ov pv) (h7:Tgs R lv l) (j0:l.length < 1000000) (d2:Ay R v9 AI) (i4:AI.length < 1000000) (h8:Ay R v c8) (f5:Da l AI c8 s.AB = some ths) (hn:s.AB.length < 1000000) (f1:∀t∈s.AB,t.AD.length < 1000000)
  (i9:At E b1 (C AW (eSt s wv tv mv f8 ov pv))) (he:[e 1,e 2,e 3,e 5,e 9,e 19] = [Pt b1,Pt T,lv,v9,v,Pt y])
  (hf:∀x,flat x = true->Bz (eSt s' w t m x (SN) D) = true)
  (H:∀W rows x A,R.le W->Rw (Cd W) rows ths->SW 117 4 rows x A->J W (A ++ (y,C AW (eSt s' w t m x (SN) D)) :: (T,C AW (eSt s' w t m x (SN) D)) :: E) (K (.agg (eSt s' w t m x (SN) D).toArray))) :
  J R ((y,C AW (eSt s' w t m (SN) (SN) D)) :: (T,C AW (cl z50)) :: E) (l7d e K):=by
 unfold l7d;simp only[zj,z_t] at he;simp only[he];refine Ac (λvs W D'=>R.le W/\∃rows x A,Rw (Cd W) rows ths/\SW 117 4 rows x A/\D' = A ++ (y,C AW (eSt s' w t m x (SN) D)) :: (T,C AW (cl z50)) :: E/\vs = [Pt T,Pt y]) (λK1 g0=>?_) ?_;rotate_left
 .rintro e R1 D1 ⟨hR,rows,x,A,a3,so,hD,he⟩;refine z_W ?_;obtain⟨sa,sc,e2⟩:=so.sl;subst e2;refine jla (by exact z_n 13) rfl ?_;refine js rfl (hf _ rfl) (by exact z_n 13) rfl (jla (by exact z_n 13) rfl ?_);exact H R1 rows _ A hR a3 so
 refine jcI g0 λK2 g1=>?_
 refine jlp (λmm vs W D'=>R.le W/\∃(i:Nat) (a0 a4:List Th) (rows:List (List Value)) (x:Value) (A:Chs),i<=s.AB.length/\Da l AI c8 (s.AB.drop i) = some a4/\ths = a0 ++ a4/\a0.length = i/\Rw (Cd W) rows a0/\SW 117 4 rows x A/\D' = A ++ (y,C AW (eSt s' w t m x (SN) D)) :: (T,C AW (cl z50)) :: E/\vs = [Pt b1,Pt T,lv,v9,v,Pt y,I i]/\mm = s.AB.length - i)
  (n:=s.AB.length) ⟨RM.le.refl R,0,[],ths,[],SN,[],Z,f5,rfl,rfl,Rw.nil,.inl ⟨rfl,rfl,rfl⟩,rfl,rfl,Z⟩ ?_
 rintro mm e R1 D1 K3 ⟨hR,i,a0,a4,rows,x,A,hi,a7,b0,h6,a3,so,hD,he,hm⟩ g2;refine z_W ?_;have h1:=h.le hR;have f0:=h7.le hR;have b8:=d2.le hR;have f6:=h8.le hR;refine jl rfl (Bf h1.th.sl (jlt (jif (λhc=>?_) (λhc=>?_))));rotate_left
 .have hc:=z_g hc;rw[dT Z] at a7;have:a4 = []:=by unfold Da at a7;simpa using a7.symm
  subst this;rw[eD] at b0;subst b0;exact g1 _ _ _ ⟨hR,rows,x,A,a3,so,rfl,rfl⟩
 have hc:i < s.AB.length:=by have:=z_f hc;omega
 rw[dQ hc] at a7;obtain⟨AD,e3,c5,c0,rfl⟩:=NE a7;have j6:=f1 _ (dL hc);refine jl rfl (jtr h1.th hc λb3 o3 ty cs rv j7 e8 j2 a8=>(jfo (jlr e8 (Bm a8 rfl) (jl rfl (jtr h1.th hc λb4 o4 k4 i6 j9 i5 e9 j3 a9=>(jfo (jlr e9 (Bm a9 rfl) (jbd rfl rfl (ja λO=>(Ak (jl rfl jev) (Ak (jlr e8 (Bm a8 rfl) jev) (Ak (jl rfl jev) (Ak (jlr e9 (Bm a9 rfl) jev) (jS ([SN,I (s.AB[i]).next,.bool false,I (s.AB[i]).Am]) ?_))))))))))))));generalize f7:(if (s.AB[i]).Am = 1 then 2 else (s.AB[i]).Am) = tr at a3 b0;refine Ac (λvs W D'=>W = R1/\D' = [] ++ (O,C 117 [SN,I (s.AB[i]).next,.bool false,I tr]) :: (A ++ (y,C AW (eSt s' w t m x (SN) D)) :: (T,C AW (cl z50)) :: E)/\vs = [Pt b1,Pt T,lv,v9,v,Pt y,I i,Pt O]) (λK4 e5=>?_) ?_
 .refine jfo (jl rfl (jeq (jif (λh3=>?_) (λh3=>?_))))
  .refine jfo (js rfl rfl V rfl (e5 _ _ _ ⟨rfl,?_,rfl⟩));rw[<- f7,if_pos (eq_of_beq h3)];rfl
  .refine e5 _ _ _ ⟨rfl,?_,rfl⟩;rw[<- f7,if_neg (ne_of_beq_false h3)];rfl
 rintro e Rx D1 ⟨g7,hD,he⟩;subst g7;refine z_W ?_;refine Ac (λvs W D'=>W = Rx/\∃rv A2,SO AD rv A2/\D' = A2 ++ (O,C 117 [rv,I (s.AB[i]).next,.bool false,I tr]) :: (A ++ (y,C AW (eSt s' w t m x (SN) D)) :: (T,C AW (cl z50)) :: E)/\vs = [Pt b1,Pt T,lv,v9,v,Pt y,I i,Pt O]) (λK5 g3=>?_) ?_
 .refine jcI g3 λK6 g4=>?_
  refine jlp (λmm vs W D'=>W = Rx/\∃(j:Nat) (N Q:List Int) (rv:Value) (A2:Chs),j<=(s.AB[i]).AD.length/\DD l AI c8 ((s.AB[i]).AD.drop j) = some Q/\AD = N ++ Q/\N.length = j/\SO N rv A2/\D' = A2 ++ (O,C 117 [rv,I (s.AB[i]).next,.bool false,I tr]) :: (A ++ (y,C AW (eSt s' w t m x (SN) D)) :: (T,C AW (cl z50)) :: E)/\vs = [Pt b1,Pt T,lv,v9,v,Pt y,I i,Pt O,I j]/\mm = (s.AB[i]).AD.length - j)
   (n:=(s.AB[i]).AD.length) ⟨rfl,0,[],AD,SN,[],Z,c5,rfl,rfl,.inl ⟨rfl,rfl,rfl⟩,rfl,rfl,Z⟩ ?_
  rintro m5 e Ry D5 K7 ⟨g8,j,N,Q,rv,A2,hj,a6,e1,h5,a2,hD,he,j1⟩ g5;subst g8;refine z_W ?_;refine jl rfl (jtr h1.th hc λb5 o5 k7 i7 k2 f2 h2 j4 d3=>(jfo (jlr h2 (Bm d3 rfl) (Bf f2.sl (jlt (jif (λhd=>?_) (λhd=>?_)))))));rotate_left
  .have hd:=z_g hd;rw[dT Z] at a6;have:Q = []:=by unfold DD at a6;simpa using a6.symm
   subst this;rw[eD] at e1;subst e1;exact g4 _ _ _ ⟨rfl,rv,A2,a2,rfl,rfl⟩
  have hd:j < (s.AB[i]).AD.length:=by have:=z_f hd;omega
  rw[dQ hd] at a6;obtain⟨z,bz,e4,hz,a5,c4,rfl⟩:=PZ a6;refine Ac (λvs W D'=>W = Ry/\∃rv A2,SO (N ++ [bz]) rv A2/\D' = A2 ++ (O,C 117 [rv,I (s.AB[i]).next,.bool false,I tr]) :: (A ++ (y,C AW (eSt s' w t m x (SN) D)) :: (T,C AW (cl z50)) :: E)/\vs = [Pt b1,Pt T,lv,v9,v,Pt y,I i,Pt O,I j]) (λK8 g6=>?_) ?_;rotate_left
  .rintro e R2 D2 ⟨d1,rv,A2,a2,hD,he⟩;subst d1;refine z_W ?_;refine jad (g5 ((s.AB[i]).AD.length - (j + 1)) _ _ _ Z ⟨rfl,j + 1,N ++ [bz],e4,rv,A2,Z,c4,by rw[e1];simp,by rw[dK,h5];rfl,a2,rfl,rfl,rfl⟩)
  refine jcI g6 λK9 e6=>?_
  obtain⟨sa,sn,sc,rfl⟩:=a2.sl;refine jl rfl (jtr h1.th hc λb6 o6 l2 i8 k3 f3 h4 j5 d4=>(jfo (jlr h4 (Bm d4 rfl) (Bk f3 Z Z ?_))));rw[getElem_congr_idx (dG j)];refine jro (Fp f0 Z hz) (jro (Gi z (Ay.rd b8) Z) (jlt (jif (λh0=>?_) (λh0=>?_))))
  .rw[if_pos (z_f h0)] at a5;simp only[dW] at a5;subst a5;refine jfo (jl rfl (jbs rfl rfl λb7=>(Gw a2 Z λv' A' a1=>?_)));obtain⟨c6,h9,c7,rfl⟩:=a1.sl;refine jfo (js rfl rfl V rfl (e6 _ _ _ ⟨rfl,_,A',a1,rfl,rfl⟩))
  .rw[if_neg (z_g h0)] at a5;obtain⟨y0,y1,y2,y3⟩:=Av a5;refine jfo (jl rfl (Bk f6 y0 y1 ?_));rw[y3];refine jbs rfl rfl λb7=>(Ak (jl rfl jev) (Gw a2 Z λv' A' a1=>?_))
   obtain⟨c6,h9,c7,rfl⟩:=a1.sl;refine jfo (js rfl rfl V rfl (e6 _ _ _ ⟨rfl,_,A',a1,rfl,rfl⟩))
 rintro e R2 D2 ⟨d1,j8,A2,a2,hD,he⟩;subst d1;refine z_W ?_;refine Dv a2 λR3 e7 c9=>?_
 obtain⟨ua,uc,rfl⟩:=c9.sl;obtain⟨sa,sc,e2⟩:=so.sl;subst e2;refine jfo (jl rfl (jla (by exact z_n 4) rfl (jbs (cs:=[.slice ua AD.length uc,I (s.AB[i]).next,.bool false,I tr]) rfl rfl λb9=>(Al A (G:=(b9,C 117 [.slice ua AD.length uc,I (s.AB[i]).next,.bool false,I tr]) :: (O,C 117 [.slice ua AD.length uc,I (s.AB[i]).next,.bool false,I tr]) :: ((y,C AW (eSt s' w t m (.slice sa rows.length sc) (SN) D)) :: (T,C AW (cl z50)) :: E)) ?_))));have hx:BY R3 (A ++ ((b9,C 117 [.slice ua AD.length uc,I (s.AB[i]).next,.bool false,I tr]) :: (O,C 117 [.slice ua AD.length uc,I (s.AB[i]).next,.bool false,I tr]) :: ((y,C AW (eSt s' w t m (.slice sa rows.length sc) (SN) D)) :: (T,C AW (cl z50)) :: E))) (some ⟨b9,0,none⟩) (1 * 4) [[.slice ua AD.length uc,I (s.AB[i]).next,.bool false,I tr]].flatten:=BY.held (cs:=[.slice ua AD.length uc,I (s.AB[i]).next,.bool false,I tr]) (z_n 4);have f1:=a3.1;refine jaw so (a3.all λ_ _=>Cd.len) (by intro r hr;rw[dZ.1 hr];rfl) rfl rfl rfl δ (by rw[di];omega) hx λv' A' a1=>?_
 obtain⟨c6,c7,f4⟩:=a1.sl;subst f4;refine jfo (jS (eSt s' w t m (.slice c6 (rows ++ [[.slice ua AD.length uc,I (s.AB[i]).next,.bool false,I tr]]).length c7) (SN) D) (jad (Al A' (G:=(y,C AW (eSt s' w t m (.slice c6 (rows ++ [[.slice ua AD.length uc,I (s.AB[i]).next,.bool false,I tr]]).length c7) (SN) D)) :: (T,C AW (cl z50)) :: E) (g2 (s.AB.length - (i + 1)) _ _ _ Z ⟨hR.trans e7,i + 1,a0 ++ [⟨AD,(s.AB[i]).next,false,tr⟩],e3,_,_,A',Z,c0,by rw[b0];simp,by rw[dK,h6];rfl,(a3.mono λ_ _=>Cd.le e7).app (Rw.one ⟨_,rfl,c9⟩),a1,rfl,rfl,rfl⟩))))
end Go.Lf
end
section
namespace Go.Lf
open Go Sm
set_option maxHeartbeats 4000000 in
theorem OH {R:RM} {s O : Sm.Ah} {wv tv mv T ov pv:Value} (h:StC R s wv tv mv T ov pv) (hw:s.AC.length<=1000) (t5:2<=s.AA.length) (t6:s.AA.length<=12) (m6:s.AB.length < 1000000) (m4:∀t∈s.AB,t.AD.length < 1000000)
  (b8:s.AJ.length < 1000000) (hp:∀a∈s.AJ,AN a<=9223372036854775807) (hS:Fi s = some O) :
  Fn P Ij [.agg (eSt s wv tv mv T ov pv).toArray] R [] (λv Q A=>∃bw wsp cw bt tsp ct bm g7 c4 rows A',O.AC.length = s.AC.length/\O.AA.length = s.AA.length/\O.AM.length = s.AC.length/\O.AC.length<=cw/\O.AA.length<=ct/\Rw (Cd Q) rows O.AB/\SW 117 4 rows g7 A'/\Ay Q c4 O.AJ/\
   A = (bw,C Ab (O.AC.map I ++ wsp)) :: (bt,C AO (Ad eRg O.AA ++ tsp)) :: (bm,C Az (O.AM.map Value.bool)) :: A'/\
   v = .agg (eSt O (S0 bw O.AC.length cw) (S0 bt O.AA.length ct) (S0 bm O.AM.length O.AM.length) g7 (SN) c4).toArray):=by
 refine Td λF=>?_
 refine z_1 ?_;unfold Fi at hS;obtain⟨c0,b9,hS⟩:=AG hS;obtain⟨⟨w1,t1⟩,f1,hS⟩:=AG hS;obtain⟨⟨t2,a7⟩,a8,hS⟩:=AG hS;obtain⟨w2,c7,hS⟩:=AG hS;obtain⟨ths,f4,hS⟩:=AG hS;obtain⟨BK,l5,hS⟩:=AG hS;simp only[dW] at hS;refine ja λb1=>?_
 rw[show cl (.agg (eSt s wv tv mv T ov pv).toArray) = eSt s wv tv mv T ov pv from rfl];refine ja λb2=>?_
 refine jla (l:=eSt s wv tv mv T ov pv) (by exact z_n 13) rfl ?_;refine jc (A:=[]) (IL h Z Z) ?_;rintro v R1 _ k3 ⟨rfl,hq⟩;have l8:∃lv ok,v = .tuple #[lv,.bool ok]/\Tgs R1 lv ((BJ s).getD []):=by
  cases f0:BJ s with
  | none=>rw[f0] at hq;exact⟨_,_,hq,[],Rw.nil,.inl ⟨rfl,rfl,rfl⟩⟩
  | some l=>rw[f0] at hq;obtain⟨lv,h1,h2⟩:=hq;exact⟨lv,true,h2,h1⟩
 have c9:TB ((BJ s).getD [])/\((BJ s).getD []).length<=16 * s.AA.length:=by
  cases f0:BJ s with
  | none=>exact⟨λt ht=>(by cases ht),V⟩
  | some l=>
   unfold BJ at f0;have:=NF Z f0;rw[fh] at this;exact⟨this.1,by simp;omega⟩
 generalize (BJ s).getD [] = l at l8 c9 b9 f1 a8 c7 f4;obtain⟨lv,t8,rfl,m0⟩:=l8;obtain⟨c9,t3⟩:=c9;have o7:=Hf b9;refine jex rfl (jex rfl ?_);refine jla (l:=eSt s wv tv mv T ov pv) (by exact z_n 13) rfl ?_;have h1:=h.le k3;refine jc (A:=[]) (Ky h1 m0 Z b9 m6 (λt ht=>by have:=m4 t ht;omega) b8 (λt ht=>by have:=(c9 t ht).2.2.1;omega)) ?_;rintro v8 R2 A8 k4 q7;refine Dv q7 λR3 k7 o2=>?_
 refine jc (A:=[]) (Tl o2 Z) ?_;rintro v9 R4 A9 s3 ⟨i4,q8⟩;subst i4;refine Dv q8 λR5 l2 e3=>?_
 have g3:=(k4.trans k7).trans l2;have h5:=h1.le g3;have d2:=m0.le g3;have j0:(Aa c0).length = c0.length:=by have:=En c0 [];simpa [Aa] using this
 generalize o8:Aa c0 = AI at a8 c7 f4 e3 j0;refine jl (v:=tv) rfl (Bf h5.t.sl ?_);refine jmk (Ip (s.AA.length:Int)) ?_;intro t9 N e8;unfold WH at e8;have j2:(AV (s.AA.length:Int)).length = s.AA.length:=by
  unfold AV;rw[if_neg Z];simp;omega
 rw[if_neg (by intro hn;rw[hn] at j2;simp at j2;omega)] at e8;obtain⟨sv,⟨bt,ct,tsp,s6,rfl,rfl⟩,rfl⟩:=e8;refine jex rfl (jex rfl ?_);refine jl (v:=wv) rfl (Bf h5.w.sl ?_);refine jms Z Z Z λbw=>?_
 rw[dG];have p9:(List.replicate s.AC.length (cl z3)).flatten = (List.replicate s.AC.length (0:Int)).map I ++ []:=by
  rw[show cl z3 = [I 0] from rfl];simp[fx]
 rw[p9];refine jla (l:=eSt s wv tv mv T ov pv) (by exact z_n 13) rfl ?_;have e1:=Xn (cw:=s.AC.length) (ct:=ct) (bw:=bw) (bt:=bt) (wsp:=[]) (tsp:=tsp) h5 d2 c9 Z hp b8 f1;rw[dV] at e1;refine jc (A:=[(bw,C Ab ((List.replicate s.AC.length (0:Int)).map I ++ [])),(bt,C AO (Ad eRg (AV (s.AA.length:Int)) ++ tsp))]) e1 ?_;rintro _ R6 _ s4 ⟨l3,q0,m7,rfl⟩;subst l3;rw[j2] at m7 ⊢;generalize hE:(b2,C AW (cl z50)) :: (b1,C AW (eSt s wv tv mv T ov pv)) :: ([] ++ F) = E;have s2:At E b1 (C AW (eSt s wv tv mv T ov pv)):=by rw[<- hE];exact inferInstance
 have g6:∀{r t0 a6},slide s.AJ l [] t0 r a6 = some (t2,a7)->t0 = t2/\a6 = a7:=λh=>by
  unfold slide at h;simpa using h
 refine B8 (D':=[] ++ ((bw,C Ab (w1.map I ++ [])) :: (bt,C AO (Ad eRg t1 ++ tsp)) :: E)) (by rw[<- hE];exact eK _) ?_;refine Ac (λvs Q D'=>Q = R6/\t2.length = s.AA.length/\a7.length = AI.length/\∃(v:Value) (A:Chs),SO a7 v A/\D' = A ++ ((bw,C Ab (w1.map I ++ [])) :: (bt,C AO (Ad eRg t2 ++ tsp)) :: E)/\vs = [Pt b1,Pt b2,lv,v9,S0 bt s.AA.length ct,S0 bw s.AC.length s.AC.length,v]) (λK hK=>?_) ?_
 .refine jcI hK λK2 h4=>?_
  refine jlp (λm vs Q D'=>Q = R6/\∃(i:Nat) (r:Int) (t0:List Rg) (a6:List Int) (v:Value) (A:Chs),i<=AI.length/\1<=r/\r<=12/\t0.length = s.AA.length/\a6.length = i/\slide s.AJ l (AI.drop i) t0 r a6 = some (t2,a7)/\SO a6 v A/\D' = A ++ ((bw,C Ab (w1.map I ++ [])) :: (bt,C AO (Ad eRg t0 ++ tsp)) :: E)/\vs = [Pt b1,Pt b2,lv,v9,S0 bt s.AA.length ct,S0 bw s.AC.length s.AC.length,v,I r,I i]/\m = AI.length - i)
   (n:=AI.length) ⟨rfl,0,1,t1,[],SN,[],Z,Z,Z,m7,rfl,a8,.inl ⟨rfl,rfl,rfl⟩,rfl,rfl,Z⟩ ?_
  rintro m e R7 D7 K3 ⟨hR,i,r,t0,a6,v,A,hi,f8,p6,f3,g5,a2,so,hD,he,hm⟩ h6;subst hR;refine z_W ?_;clear hD;refine Bf e3.sl (jlt (jif (λhc=>?_) (λhc=>?_)));rotate_left
  .have hc:=z_g hc;rw[dT Z] at a2;obtain⟨rfl,rfl⟩:=g6 a2;exact h4 _ _ _ ⟨rfl,f3,Z,v,A,so,rfl,rfl⟩
  have hc:i < AI.length:=by have:=z_f hc;omega
  rw[dQ hc] at a2;unfold slide at a2;obtain⟨x,hx,a2⟩:=AG a2;obtain⟨k,hk,i7,rfl⟩:=Ei hx;have s5:(l[k]).at_ = AI[i]:=by
   have:=List.find?_some hx;exact eq_of_beq this
  obtain⟨a0,a1,-,-⟩:=c9 _ (dL hk);have m3:AN AI[i]<=9223372036854775807:=by unfold AN;split<;>omega
  refine Ac (λvs Q D'=>Q = R7/\∃(r:Int) (t0:List Rg) (a6:List Int) (v:Value) (A:Chs),1<=r/\r<=12/\t0.length = s.AA.length/\a6.length = i + 1/\slide s.AJ l (AI.drop (i + 1)) t0 r a6 = some (t2,a7)/\SO a6 v A/\D' = A ++ ((bw,C Ab (w1.map I ++ [])) :: (bt,C AO (Ad eRg t0 ++ tsp)) :: E)/\vs = [Pt b1,Pt b2,lv,v9,S0 bt s.AA.length ct,S0 bw s.AC.length s.AC.length,v,I r,I i]) (λK4 h7=>?_) ?_;rotate_left
  .rintro e R8 D8 ⟨hR,r,t0,a6,v,A,q1,q2,q3,q4,q5,so,hD,he⟩;subst hR;refine z_W ?_;clear hD;refine jad ?_;exact h6 (AI.length - (i + 1)) _ _ _ Z ⟨rfl,i + 1,r,t0,a6,v,A,Z,q1,q2,q3,q4,q5,so,rfl,rfl,rfl⟩
  refine jcI h7 λK5 f5=>?_
  refine Bk e3 Z Z ?_;rw[getElem_congr_idx (dG i)];refine jro (Do _ d2 Z) ?_;rw[i7];refine jtg d2 hk λb3 o3 r5 j6 rv nv i9 i8 i5 m1 c8=>?_
  have g2:(j6.drop (o3 + 2)).take 2 = [I (l[k]).sh.refs,I (l[k]).sh.nums]:=by
   have:=congrArg (λx=>(x.drop 2).take 2) c8;simp only[gO,gT,gS] at this;simpa [eTh] using this
  refine jfo (DR i5 Z g2 (jp (CN (l[k]).sh) ?_));obtain⟨r3,r4⟩:=EE (l[k]).sh;generalize AF (l[k]).sh = size at a2 r3 r4 ⊢;refine jla (t:=AW) (cs:=eSt s wv tv mv T ov pv) (l:=eSt s wv tv mv T ov pv) (by exact z_n 13) rfl ?_;refine Bk e3 Z Z ?_;rw[getElem_congr_idx (dG i)];refine jp (Cf _ m3) (Ak (jla (t:=AW) (cs:=eSt s wv tv mv T ov pv) (l:=eSt s wv tv mv T ov pv) (by exact z_n 13) rfl jev) ?_);refine jro (Lr (AN AI[i]) h5 hp b8) (jif (λhh=>?_) (λhh=>?_))
  .rw[if_pos hh] at a2;refine Bk e3 Z Z ?_;rw[getElem_congr_idx (dG i)];refine jbs (cs:=[I AI[i]]) rfl rfl λb4=>?_
   refine Gw (A:=A) so Z λv' A' j5=>?_
   exact f5 _ _ _ ⟨rfl,r,t0,_,v',A',f8,p6,f3,by rw[dK,g5];rfl,a2,j5,rfl,rfl⟩
  rw[if_neg (by rw[hh];decide)] at a2;obtain⟨r2,W,a2⟩:=AG a2;refine Ac (λvs Q D'=>Q = R7/\D' = A ++ ((bw,C Ab (w1.map I ++ [])) :: (bt,C AO (Ad eRg t0 ++ tsp)) :: E)/\vs = [Pt b1,Pt b2,lv,v9,S0 bt s.AA.length ct,S0 bw s.AC.length s.AC.length,v,I r2,I i,I size]) (λK6 h9=>?_) ?_
  .refine jcI h9 λK7 e5=>?_
   refine jlp (λm vs Q D'=>Q = R7/\∃r:Int,1<=r/\r + m<=30/\FA s.AJ t0 size m r = some r2/\D' = A ++ ((bw,C Ab (w1.map I ++ [])) :: (bt,C AO (Ad eRg t0 ++ tsp)) :: E)/\vs = [Pt b1,Pt b2,lv,v9,S0 bt s.AA.length ct,S0 bw s.AC.length s.AC.length,v,I r,I i,I size])
    (n:=t0.length + 2) ⟨rfl,r,f8,Z,W,rfl,rfl⟩ ?_
   clear W;rintro m2 e R8 D8 K8 ⟨hR,r,f8,t4,W,hD,he⟩ e6;subst hR;refine z_W ?_;clear hD;cases m2 with
   | zero=>cases W
   | succ m2=>
   unfold FA at W;refine Ac (λvs Q D'=>Q = R8/\D' = A ++ ((bw,C Ab (w1.map I ++ [])) :: (bt,C AO (Ad eRg t0 ++ tsp)) :: E)/\∃bn:Bool,(bn = true->FA s.AJ t0 size m2 (r + 1) = some r2)/\(bn = false->r = r2)/\vs = [Pt b1,Pt b2,lv,v9,S0 bt s.AA.length ct,S0 bw s.AC.length s.AC.length,v,I r,I i,I size,.bool bn]) (λK9 f6=>?_) ?_;rotate_left
   .rintro e R9 D9 ⟨hR,hD,bn,n8,n9,he⟩;subst hR;refine z_W ?_;clear hD;cases bn with
    | true=>
     refine DG (jad ?_);exact e6 m2 _ _ _ Z ⟨rfl,r + 1,Z,Z,n8 rfl,rfl,rfl⟩
    | false=>
     have:=n9 rfl;subst this;exact CQ (e5 _ _ _ ⟨rfl,rfl,rfl⟩)
   refine jla (t:=AW) (cs:=eSt s wv tv mv T ov pv) (l:=eSt s wv tv mv T ov pv) (by exact z_n 13) rfl (jro (Lr r h5 hp b8) ?_);cases l6:Aj s.AJ r with
   | true=>
    rw[if_pos l6] at W;refine Ce (jtf (C5 λe he=>?_));refine z_V ?_;refine jtf (EP (Ak jev ?_));exact f6 _ _ _ ⟨rfl,rfl,true,λ_=>W,(λh=>by cases h),rfl⟩
   | false=>
    rw[if_neg (by rw[l6];decide)] at W;obtain⟨row,e9,W⟩:=AG W;obtain⟨q9,f2,W⟩:=AG W;obtain⟨rfl,i6⟩:=BA f2;obtain⟨y0,y1,y2,y3⟩:=Av e9;obtain⟨k2,rfl⟩:∃k2:Nat,r = k2:=⟨r.toNat,Z⟩;have e7:k2 < t0.length:=Z
    have ey:t0[k2] = row:=by rw[<- y3];exact getElem_congr_idx Z
    have r7:0<=AK k2/\AK k2<=176:=by unfold AK;split<;>omega
    refine Ce (jff (C0 Z (jfo (jl (v:=I row.top) (by rw[da];exact C6 (f:=2) e7 (by rw[ey];rfl)) (D0 i6 (C5 λe he=>?_))))));refine z_V ?_;refine jff (jp (BX k2) (jad (jgr (F5 (Ak (jl (v:=I row.top) (by rw[da];exact C6 (f:=2) e7 (by rw[ey];rfl)) jev) ?_)))));refine f6 _ _ _ ⟨rfl,rfl,decide (row.top + size > AK k2 + 16),λhb=>?_,λhb=>?_,rfl⟩
    .rw[if_pos (by have:=z_f hb;omega)] at W;exact W
    .rw[if_neg (by have:=z_g hb;omega)] at W;simpa using W
  rintro e R8 D8 ⟨hR,hD,he⟩;subst hR;refine z_W ?_;clear hD;obtain⟨row,e9,a2⟩:=AG a2;obtain⟨q9,f2,a2⟩:=AG a2;obtain⟨rfl,i6⟩:=BA f2;obtain⟨y0,y1,y2,y3⟩:=Av e9;have r6:1<=r2:=by
   have:∀(n:Nat) (r:Int),1<=r->FA s.AJ t0 size n r = some r2->1<=r2:=by
    intro n;induction n with
    | zero=>intro r _ h;cases h
    | succ n ih=>
     intro r hr h;unfold FA at h;split at h
     .exact ih _ Z h
     .obtain⟨_,_,h⟩:=AG h;obtain⟨_,_,h⟩:=AG h;split at h
      .exact ih _ Z h
      .cases h;exact hr
   exact this _ _ f8 W
  obtain⟨k2,rfl⟩:∃k2:Nat,r2 = k2:=⟨r2.toNat,Z⟩;have e7:k2 < t0.length:=Z
  have ey:t0[k2] = row:=by rw[<- y3];exact getElem_congr_idx Z
  refine C0 Z (Lb e7 ?_);rw[ey];refine ja λb5=>?_
  refine js (cs':=eRg row) rfl rfl V rfl ?_;refine jfo (jl (v:=I row.top) rfl ?_);refine jbs (cs:=[I row.top]) rfl rfl λb4=>?_
  refine Gw (A:=A) so Z λv' A' j5=>?_
  refine js (cs':=eRg { row with kind:=3 }) rfl rfl V rfl ?_;refine jfo (jl (v:=I row.top) rfl (D0 i6 ?_));refine jfo (js (cs':=eRg { row with kind:=3,top:=row.top + size }) rfl rfl V rfl ?_);refine jfo (jl (v:=I (row.top + size)) rfl ?_);refine jfo (js (cs':=eRg { row with kind:=3,top:=row.top + size,BC:=row.top + size }) rfl rfl V rfl ?_);refine jla (l:=eRg { row with kind:=3,top:=row.top + size,BC:=row.top + size }) V rfl ?_;refine C0 Z (Gl (t:=t0) (x:={ row with kind:=3,top:=row.top + size,BC:=row.top + size }) e7 ?_);refine Al A' (G:=(bw,C Ab (w1.map I ++ [])) :: (bt,C AO (Ad eRg (t0.set k2 { row with kind:=3,top:=row.top + size,BC:=row.top + size }) ++ tsp)) :: E) ?_;exact f5 _ _ _ ⟨rfl,k2,t0.set k2 { row with kind:=3,top:=row.top + size,BC:=row.top + size },_,v',A',Z,Z,by rw[eG];exact f3,by rw[dK,g5];rfl,by simpa [AT] using a2,j5,rfl,rfl⟩
 clear a8 g6;rintro e R7 D7 ⟨hR,p8,t7,v,A,so,hD,he⟩;subst hR;refine z_W ?_;clear hD;refine Dv so λR8 f7 a9=>?_
 have h8:=h5.le f7;have d3:=d2.le f7;have d1:=e3.le f7;refine Ac (λvs Q D'=>Q = R8/\w2.length = s.AC.length/\D' = (bw,C Ab (w2.map I ++ [])) :: (bt,C AO (Ad eRg t2 ++ tsp)) :: E/\vs = [Pt b1,Pt b2,lv,v9,S0 bt s.AA.length ct,S0 bw s.AC.length s.AC.length,v]) (λK hK=>?_) ?_
 .refine jcI hK λK2 h4=>?_
  refine jlp (λm vs Q D'=>Q = R8/\∃(i:Nat) (w:List Int),i<=AI.length/\w.length = s.AC.length/\El l AI a7 (AI.drop i) (a7.drop i) w = some w2/\D' = (bw,C Ab (w.map I ++ [])) :: (bt,C AO (Ad eRg t2 ++ tsp)) :: E/\vs = [Pt b1,Pt b2,lv,v9,S0 bt s.AA.length ct,S0 bw s.AC.length s.AC.length,v,I i]/\m = AI.length - i)
   (n:=AI.length) ⟨rfl,0,w1,Z,q0,c7,rfl,rfl,Z⟩ ?_
  rintro m e R9 D9 K3 ⟨hR,i,w,hi,n4,a4,hD,he,hm⟩ h6;subst hR;refine z_W ?_;clear hD;refine Bf d1.sl (jlt (jif (λhc=>?_) (λhc=>?_)));rotate_left
  .have hc:=z_g hc;rw[dT Z] at a4;have:w = w2:=by unfold El at a4;simpa using a4
   subst this;exact h4 _ _ _ ⟨rfl,n4,rfl,rfl⟩
  have hc:i < AI.length:=by have:=z_f hc;omega
  rw[dQ hc,dQ (show i < a7.length by omega)] at a4;unfold El at a4;obtain⟨x,hx,a4⟩:=AG a4;obtain⟨k,hk,i7,rfl⟩:=Ei hx;obtain⟨wa,m8,a4⟩:=AG a4;obtain⟨wb,m9,a4⟩:=AG a4;obtain⟨wc,n2,a4⟩:=AG a4;obtain⟨wd,n3,a4⟩:=AG a4;refine Ac (λvs Q D'=>Q = R9/\wd.length = s.AC.length/\D' = (bw,C Ab (wd.map I ++ [])) :: (bt,C AO (Ad eRg t2 ++ tsp)) :: E/\vs = [Pt b1,Pt b2,lv,v9,S0 bt s.AA.length ct,S0 bw s.AC.length s.AC.length,v,I i]) (λK4 h7=>?_) ?_;rotate_left
  .rintro e R8 D8 ⟨hR,o5,hD,he⟩;subst hR;refine z_W ?_;clear hD;refine jad ?_;exact h6 (AI.length - (i + 1)) _ _ _ Z ⟨rfl,i + 1,wd,Z,o5,a4,rfl,rfl,rfl⟩
  refine jcI h7 λK5 f5=>?_
  obtain⟨y,hy⟩:∃y,a7[i]'(Z) = y:=⟨_,rfl⟩;rw[hy] at m8 m9 n2 n3;obtain⟨q1,q2,q3⟩:=ES m8;obtain⟨q4,q5,q6⟩:=ES m9;obtain⟨-,-,tr,tn⟩:=c9 _ (dL hk);have s7:wa.length = w.length:=by rw[q3,eG]
  have s8:wb.length = wa.length:=by rw[q6,eG]
  have ty:a7[((i:Nat):Int).toNat]'(Z) = y:=by rw[<- hy];exact getElem_congr_idx (dG i)
  refine Bk d1 Z Z ?_;rw[getElem_congr_idx (dG i)];refine jro (Do _ d3 Z) ?_;rw[i7];refine jtg d3 hk λb3 o3 r5 j6 rv nv i9 i8 i5 m1 c8=>?_
  obtain⟨ra,rc,rfl⟩:=i9.sl;obtain⟨na,nc,rfl⟩:=i8.sl;refine DR i5 m1 c8 (ja λc5=>?_);refine jS (eTh l[k] (.slice ra l[k].refs.length rc) (.slice na l[k].nums.length nc)) ?_;refine Bk a9 Z Z (Bk a9 Z Z ?_);rw[ty];refine jia q1 Z (jsi (l:=w) (sp:=[]) Z ?_);rw[<- q3];refine Xe a9 Z Z λq hq=>hq _ _ ?_
  rw[ty] at hq ⊢;refine jad (jfo (jla (t:=BL) (cs:=eTh l[k] (.slice ra l[k].refs.length rc) (.slice na l[k].nums.length nc)) (l:=[I l[k].sh.refs,I l[k].sh.nums]) (by exact (by decide:4<=6)) rfl (jp (EN l[k].sh) ?_)));refine jia q4 Z (Ak (hq _ _ jev) (jsi (l:=wa) (sp:=[]) Z ?_));rw[<- q6];refine Ac (λvs Q D'=>Q = R9/\wc.length = s.AC.length/\D' = (c5,C BL (eTh l[k] (.slice ra l[k].refs.length rc) (.slice na l[k].nums.length nc))) :: (bw,C Ab (wc.map I ++ [])) :: (bt,C AO (Ad eRg t2 ++ tsp)) :: E/\vs = [Pt b1,Pt b2,lv,v9,S0 bt s.AA.length ct,S0 bw s.AC.length s.AC.length,v,I i,Pt c5]) (λK6 h9=>?_) ?_
  .refine jcI h9 λK7 e5=>?_
   refine jlp (λm vs Q D'=>Q = R9/\∃(j:Nat) (w5:List Int),j<=l[k].refs.length/\w5.length = s.AC.length/\F3 l AI a7 w5 (y + 2 + j) (l[k].refs.drop j) = some wc/\D' = (c5,C BL (eTh l[k] (.slice ra l[k].refs.length rc) (.slice na l[k].nums.length nc))) :: (bw,C Ab (w5.map I ++ [])) :: (bt,C AO (Ad eRg t2 ++ tsp)) :: E/\vs = [Pt b1,Pt b2,lv,v9,S0 bt s.AA.length ct,S0 bw s.AC.length s.AC.length,v,I i,Pt c5,I j]/\m = l[k].refs.length - j)
    (n:=l[k].refs.length) ⟨rfl,0,wb,Z,Z,by simpa using n2,rfl,rfl,Z⟩ ?_
   rintro m5 e R8 D8 K8 ⟨hR,j,w5,hj,e4,D,hD,he,o9⟩ e6;subst hR;refine z_W ?_;clear hD;refine jl (v:=.slice ra l[k].refs.length rc) rfl (jln (jlt (jif (λhd=>?_) (λhd=>?_))));rotate_left
   .have hd:=z_g hd;rw[dT Z] at D;have:w5 = wc:=by unfold F3 at D;simpa using D
    subst this;exact e5 _ _ _ ⟨rfl,e4,rfl,rfl⟩
   have hd:j < l[k].refs.length:=by have:=z_f hd;omega
   rw[dQ hd] at D;unfold F3 at D;obtain⟨z,hz,D⟩:=AG D;obtain⟨w6,c6,D⟩:=AG D;refine Ac (λvs Q D'=>Q = R8/\w6.length = s.AC.length/\D' = (c5,C BL (eTh l[k] (.slice ra l[k].refs.length rc) (.slice na l[k].nums.length nc))) :: (bw,C Ab (w6.map I ++ [])) :: (bt,C AO (Ad eRg t2 ++ tsp)) :: E/\vs = [Pt b1,Pt b2,lv,v9,S0 bt s.AA.length ct,S0 bw s.AC.length s.AC.length,v,I i,Pt c5,I j]) (λK9 f6=>?_) ?_;rotate_left
   .rintro e Rx D9 ⟨hR,o4,hD,he⟩;subst hR;refine z_W ?_;clear hD;refine jad ?_;exact e6 (l[k].refs.length - (j + 1)) _ _ _ Z ⟨rfl,j + 1,w6,Z,o4,by rw[<- D];congr 1;omega,rfl,rfl,rfl⟩
   refine jcI f6 λK10 g1=>?_
   refine jl (v:=.slice ra l[k].refs.length rc) rfl (Bk i9 Z Z ?_);rw[getElem_congr_idx (dG j)];refine jro (Fp d3 Z hz) (jro (Gi z (Ay.rd d1) Z) (jge (jif (λh0=>?_) (λh0=>?_))))
   .have h0:=z_f h0;rw[if_pos Z] at c6;obtain⟨u,hu,c6⟩:=AG c6;obtain⟨u0,u1,u2,u3⟩:=Av hu;obtain⟨p1,p2,p3⟩:=ES c6;refine Bk a9 Z Z ?_;rw[ty];refine jad (jad (Bk a9 u0 u1 ?_));rw[u3];refine jia p1 Z (jsi (l:=w5) (sp:=[]) Z ?_);rw[<- p3];exact g1 _ _ _ ⟨rfl,by rw[p3,eG];exact e4,rfl,rfl⟩
   .have h0:=z_g h0;rw[if_neg Z] at c6;have:w5 = w6:=by simpa using c6
    subst this;exact g1 _ _ _ ⟨rfl,e4,rfl,rfl⟩
  rintro e R8 D8 ⟨hR,s9,hD,he⟩;subst hR;refine z_W ?_;clear hD;refine jcI f5 λK7 e5=>?_
  refine jlp (λm vs Q D'=>Q = R8/\∃(j:Nat) (w5:List Int),j<=l[k].nums.length/\w5.length = s.AC.length/\wrs w5 (y + 2 + l[k].refs.length + j) (l[k].nums.drop j) = some wd/\D' = (c5,C BL (eTh l[k] (.slice ra l[k].refs.length rc) (.slice na l[k].nums.length nc))) :: (bw,C Ab (w5.map I ++ [])) :: (bt,C AO (Ad eRg t2 ++ tsp)) :: E/\vs = [Pt b1,Pt b2,lv,v9,S0 bt s.AA.length ct,S0 bw s.AC.length s.AC.length,v,I i,Pt c5,I j]/\m = l[k].nums.length - j)
   (n:=l[k].nums.length) ⟨rfl,0,wc,Z,Z,by simpa using n3,rfl,rfl,Z⟩ ?_
  rintro m5 e Rx D9 K8 ⟨hR,j,w5,hj,e4,D,hD,he,o9⟩ e6;subst hR;refine z_W ?_;clear hD;refine jfo (jl (v:=.slice na l[k].nums.length nc) rfl (jln (jlt (jif (λhd=>?_) (λhd=>?_)))));rotate_left
  .have hd:=z_g hd;rw[dT Z] at D;have:w5 = wd:=by unfold wrs at D;simpa using D
   subst this;exact BV (e5 _ _ _ ⟨rfl,e4,rfl,rfl⟩)
  have hd:j < l[k].nums.length:=by have:=z_f hd;omega
  rw[dQ hd] at D;unfold wrs at D;obtain⟨w6,c6,D⟩:=AG D;obtain⟨p1,p2,p3⟩:=ES c6;refine Bk a9 Z Z ?_;rw[ty];refine jad (jfo (jl (v:=.slice ra l[k].refs.length rc) rfl (jln (jad (jad ?_)))));refine jfo (jl (v:=.slice na l[k].nums.length nc) rfl (Bk i8 Z Z ?_));rw[getElem_congr_idx (dG j)];refine jia p1 Z (jsi (l:=w5) (sp:=[]) Z (jad ?_));rw[<- p3];exact e6 (l[k].nums.length - (j + 1)) _ _ _ Z ⟨rfl,j + 1,w6,Z,by rw[p3,eG];exact e4,by rw[<- D];congr 1;omega,rfl,rfl,rfl⟩
 rintro e Rw D9 ⟨n7,l9,hD,he⟩;subst n7;refine z_W ?_;clear hD;obtain⟨rfl,l4⟩:=BA l5;obtain⟨B0,h3⟩:∃B0:Chs,B0 = (bw,C Ab (w2.map I ++ [])) :: (bt,C AO (Ad eRg t2 ++ tsp)) :: E:=⟨_,rfl⟩;have r9:At B0 b1 (C AW (eSt s wv tv mv T ov pv)):=by rw[h3];exact inferInstance
 rw[<- h3];obtain⟨X,hX⟩:∃X:Nat->Value->List Value,X = λbm p=>eSt O (S0 bw s.AC.length s.AC.length) (S0 bt s.AA.length ct) (S0 bm s.AC.length s.AC.length) (SN) (SN) p:=⟨_,rfl⟩
 have j3:∀{Q : RM} {D' : Chs} {m:M} [At D' b1 (C AW (eSt s wv tv mv T ov pv))],J Q D' m->J Q D' (AND (L1 (.pointer (some ⟨b1,0 + 6,none⟩)) λx=>EV x (.bool s.Ap))<|AND (L1 (.pointer (some ⟨b1,0 + 11,none⟩)) λx=>EV x (I s.BE))<|AND (L1 (.pointer (some ⟨b1,0 + 12,none⟩)) λx=>EV x (I s.BK)) m):=λH=>Ak (jl rfl jev) (Ak (jl rfl jev) (Ak (jl rfl jev) H))
 have j4:∀{Q : RM} {D' : Chs} {m:M} [At D' b1 (C AW (eSt s wv tv mv T ov pv))],J Q D' m->J Q D' (AND (L1 (.pointer (some ⟨b1,0 + 6,none⟩)) λx=>EV x (.bool s.Ap))<|AND (L1 (.pointer (some ⟨b1,0 + 10,none⟩)) λx=>EV x (pv))<|AND (L1 (.pointer (some ⟨b1,0 + 11,none⟩)) λx=>EV x (I s.BE))<|AND (L1 (.pointer (some ⟨b1,0 + 12,none⟩)) λx=>EV x (I s.BK)) m):=λH=>Ak (jl rfl jev) (Ak (jl rfl jev) (Ak (jl rfl jev) (Ak (jl rfl jev) H)))
 refine Ac (λvs Q D'=>Rw.le Q/\∃bm a5 c4,Ay Q c4 s.AJ/\D' = (a5,C AW (X bm c4)) :: (bm,C Az ((List.replicate s.AC.length [Value.bool false]).flatten)) :: B0/\vs = [Pt b1,Pt b2,lv,v9,v,Pt a5]) (λK hK=>?_) ?_
 .have e2:∀(Q : RM) (bm a5 bp cp:Nat),Rw.le Q->Ay Q (S0 bp s.AJ.length cp) s.AJ->J Q ((a5,C AW (cl z50)) :: (bm,C Az ((List.replicate s.AC.length [Value.bool false]).flatten)) :: B0) (ST 13 (Pt a5) (.agg (X bm (S0 bp s.AJ.length cp)).toArray) (K [Pt b1,Pt b2,lv,v9,v,Pt a5])):=λQ bm a5 bp cp o6 p5=>by
   refine js (cs':=X bm (S0 bp s.AJ.length cp)) (by rw[hX];rfl) (by rw[hX];rfl) (by exact z_n 13) (by rw[hX];rfl) (hK _ _ _ ⟨o6,bm,a5,_,p5,rfl,rfl⟩)
  refine jln (jl (v:=.bool s.Ap) rfl (jl (v:=pv) rfl (jl (v:=I s.BE) rfl (jl (v:=I s.BK) rfl (D0 l4 ?_)))));refine FG ?_ (FG ?_ (E8 ?_))
  .refine jms Z Z Z λbm=>?_
   rw[dG];refine j4 (FG ?_ (E8 ?_))
   .refine jc (A:=[]) (CY h8.p b8) ?_;rintro _ Ry _ a3 ⟨bp,cp,g0,b7,d4,rfl,rfl⟩;refine B9 (b:=bp) λRz b0 b6=>Pa (jbd (cs:=X bm (S0 bp s.AJ.length cp)) rfl (by rw[hX,<- hS];rfl) (j3 (ja λa5=>j3 ?_)))
    exact e2 _ _ _ _ _ (a3.trans b0) (CO b6 b7)
   .refine ja λa5=>j4 (jc (A:=[]) (CY h8.p b8) ?_)
    rintro _ Ry _ a3 ⟨bp,cp,g0,b7,d4,rfl,rfl⟩;refine B9 (b:=bp) λRz b0 b6=>Pa (jbd (cs:=X bm (S0 bp s.AJ.length cp)) rfl (by rw[hX,<- hS];rfl) (j3 ?_))
    exact e2 _ _ _ _ _ (a3.trans b0) (CO b6 b7)
  .refine jc (A:=[]) (CY h8.p b8) ?_;rintro _ Ry _ a3 ⟨bp,cp,g0,b7,d4,rfl,rfl⟩;refine B9 (b:=bp) λRz b0 b6=>Pa (j3 (FG ?_ (E8 ?_)))
   .refine jms Z Z Z λbm=>?_
    rw[dG];refine jbd (cs:=X bm (S0 bp s.AJ.length cp)) rfl (by rw[hX,<- hS];rfl) (j3 (ja λa5=>j3 ?_));exact e2 _ _ _ _ _ (a3.trans b0) (CO b6 b7)
   .refine ja λa5=>j3 (jms Z Z Z λbm=>?_)
    rw[dG];refine jbd (cs:=X bm (S0 bp s.AJ.length cp)) rfl (by rw[hX,<- hS];rfl) (j3 (B8 (fF _ _ _) ?_));exact e2 _ _ _ _ _ (a3.trans b0) (CO b6 b7)
  .refine ja λa5=>j4 (FG ?_ (E8 ?_))
   .refine jms Z Z Z λbm=>?_
    rw[dG];refine j4 (jc (A:=[]) (CY h8.p b8) ?_);rintro _ Ry _ a3 ⟨bp,cp,g0,b7,d4,rfl,rfl⟩;refine B9 (b:=bp) λRz b0 b6=>Pa (jbd (cs:=X bm (S0 bp s.AJ.length cp)) rfl (by rw[hX,<- hS];rfl) (j3 (B8 (fF _ _ _) ?_)))
    exact e2 _ _ _ _ _ (a3.trans b0) (CO b6 b7)
   .refine jc (A:=[]) (CY h8.p b8) ?_;rintro _ Ry _ a3 ⟨bp,cp,g0,b7,d4,rfl,rfl⟩;refine B9 (b:=bp) λRz b0 b6=>Pa (j3 (jms Z Z Z λbm=>?_))
    rw[dG];refine jbd (cs:=X bm (S0 bp s.AJ.length cp)) rfl (by rw[hX,<- hS];rfl) (j3 (B8 (fF _ _ _) ?_));exact e2 _ _ _ _ _ (a3.trans b0) (CO b6 b7)
 rintro e Ry D9 ⟨a3,bm,a5,c4,g4,hD,he⟩;rw[hD];clear hD;subst hX h3;dsimp only;have g8:O.AC = w2:=by rw[<- hS]
 have j7:O.AA = t2:=by rw[<- hS]
 have n5:O.AJ = s.AJ:=by rw[<- hS]
 have n6:O.AB = ths:=by rw[<- hS]
 have j8:O.AM = List.replicate w2.length false:=by rw[<- hS]
 have j1:Da l AI a7 s.AB = some O.AB:=by rw[n6];exact f4
 rw[<- hE];have ew:s.AC.length = O.AC.length:=by rw[g8];exact l9.symm
 have et:s.AA.length = O.AA.length:=by rw[j7];exact p8.symm
 have em:(List.replicate s.AC.length [Value.bool false]).flatten = O.AM.map Value.bool:=by rw[j8,l9];simp
 have el:O.AM.length = O.AC.length:=by rw[j8,g8,dV]
 rw[em,<- g8,<- j7,ew,et];refine Al [(a5,C AW (eSt O (S0 bw O.AC.length O.AC.length) (S0 bt O.AA.length ct) (S0 bm O.AC.length O.AC.length) (SN) (SN) c4)),(b2,C AW (cl z50)),(b1,C AW (eSt s wv tv mv T ov pv)),(bw,C Ab (O.AC.map I ++ [])),(bt,C AO (Ad eRg O.AA ++ tsp)),(bm,C Az (O.AM.map Value.bool))] (G:=F) ?_;have i4:=k3.trans (k4.trans (k7.trans (l2.trans (f7.trans a3))));have p4:=Fz.flat g4;change J Ry _ (l7d e _);refine Zr (E:=(b1,C AW (eSt s wv tv mv T ov pv)) :: (bw,C Ab (O.AC.map I ++ [])) :: (bt,C AO (Ad eRg O.AA ++ tsp)) :: (bm,C Az (O.AM.map Value.bool)) :: F) (h8.le a3) (d3.le a3) Z (d1.le a3) Z (a9.le a3) j1 m6 m4 inferInstance he (λx hx=>?_) (λQ rows x A j9 p7 so=>?_)
 .show (true && (true && (true && (true && (true && (true && (true && (true && (flat x && (true && (flat c4 && (true && (true && true))))))))))))) = true;rw[hx,p4];rfl
 .refine Ao (A:=(bw,C Ab (O.AC.map I ++ [])) :: (bt,C AO (Ad eRg O.AA ++ tsp)) :: (bm,C Az (O.AM.map Value.bool)) :: A) (i4.trans j9) ⟨bw,[],O.AC.length,bt,tsp,ct,bm,x,c4,rows,A,Z,Z,Z,Z,Z,p7,so,?_,rfl,?_⟩
  .rw[n5];exact g4.le j9
  .rw[el]
theorem W7 {R:RM} {s j : Sm.Ah} {wv tv mv Q ov pv:Value} (h:StC R s wv tv mv Q ov pv) (hw:s.AC.length<=1000) (a4:2<=s.AA.length) (a5:s.AA.length<=12) (a6:s.AB.length < 1000000) (a3:∀t∈s.AB,t.AD.length < 1000000)
  (a1:s.AJ.length < 1000000) (hp:∀a∈s.AJ,AN a<=9223372036854775807) (hS:Fi s = some j) :
  Fn P Ij [.agg (eSt s wv tv mv Q ov pv).toArray] R [] (λv R' A=>∃N wsp W K tsp T H x y,j.AC.length = s.AC.length/\j.AA.length = s.AA.length/\j.AM.length = s.AC.length/\j.AC.length<=W/\j.AA.length<=T/\Ths R' x j.AB/\Ay R' y j.AJ/\
   A = [(N,C Ab (j.AC.map I ++ wsp)),(K,C AO (Ad eRg j.AA ++ tsp)),(H,C Az (j.AM.map Value.bool))]/\
   v = .agg (eSt j (S0 N j.AC.length W) (S0 K j.AA.length T) (S0 H j.AM.length j.AM.length) x (SN) y).toArray):=by
 refine λF=>jc (OH h hw a4 a5 a6 a3 a1 hp hS) ?_
 rintro v R1 _ a0 ⟨N,wsp,W,K,tsp,T,H,x,y,rows,A',e1,e2,e3,e4,e5,O,so,a2,rfl,rfl⟩;obtain⟨sa,sc,rfl⟩:=so.sl;refine Al A' (G:=[(N,C Ab (j.AC.map I ++ wsp)),(K,C AO (Ad eRg j.AA ++ tsp)),(H,C Az (j.AM.map Value.bool))] ++ F) ?_;refine jfw so (O.all λ_ _=>Cd.len) λR3 D hfz=>?_
 exact Ao (A:=[(N,C Ab (j.AC.map I ++ wsp)),(K,C AO (Ad eRg j.AA ++ tsp)),(H,C Az (j.AM.map Value.bool))]) (a0.trans D) ⟨N,wsp,W,K,tsp,T,H,_,y,e1,e2,e3,e4,e5,⟨rows,O.mono λ_ _=>Cd.le D,hfz⟩,a2.le D,rfl,rfl⟩
theorem Wi {R:RM} {b c:Nat} {l:List Rg} {sp:List Value} (h:R b = some (C AO (Ad eRg l ++ sp))) (hc:l.length<=c):Rgs R (S0 b l.length c) l:=by
 have e:=DX (f:=eRg) (w:=5) (λ_=>rfl) l;exact .inr ⟨b,0,c,AO,_,rfl,h,by rw[dK,e];omega,by rw[fG,<- e,List.take_left],hc⟩
theorem SK {R:RM} {b c:Nat} {l:List Bool} {sp:List Value} (h:R b = some (C Az (l.map Value.bool ++ sp))) (hc:l.length<=c):Bls R (S0 b l.length c) l:=by
 have e:(l.map Value.bool).length = l.length * 1:=V
 exact .inr ⟨b,0,c,Az,_,rfl,h,by rw[dK,e];omega,by rw[fG,<- e,List.take_left],hc⟩
theorem IV {l:List AQ} {AI j:List Int}:∀{x r:List Th},Da l AI j x = some r->r.length = x.length
 | [],r,h=>by unfold Da at h;cases h;rfl
 | t :: x,r,h=>by
  obtain⟨AD,y,_,A,rfl⟩:=NE h;rw[dR,dR,IV A]
theorem VJ {s x : Sm.Ah} (h:Fi s = some x):x.AB.length = s.AB.length/\x.old = []:=by
 unfold Fi at h;obtain⟨_,_,h⟩:=AG h;obtain⟨⟨_,_⟩,_,h⟩:=AG h;obtain⟨⟨_,_⟩,_,h⟩:=AG h;obtain⟨_,_,h⟩:=AG h;obtain⟨_,j,h⟩:=AG h;obtain⟨_,_,h⟩:=AG h;simp only[dW] at h;subst h;exact⟨IV j,rfl⟩
theorem Vt {p n:Nat} {S S' : Sim} {g:Img} {R:RM} (x:Ok R S g) (hp:Pr S) (hT:TOk S.AA) (hf:S.full = true) (hS:S.pause n = some S') :
  Fn P Dn [Pt p] R (Ag p S g) (DJ p S' λ_=>True):=by
 refine KT λF=>?_
 refine z_1 ?_;unfold Sim.pause at hS;split at hS
 .cases hS
 rename_i hz;have hz:S.sz = true:=by simpa using hz
 obtain⟨s,hs,hS⟩:=AG hS;simp only[dW] at hS;have b8:=Gv hz;have d1:=x.hl;refine jl rfl ?_;rw[hf];refine DG (jc (aL x hz) ?_);rintro _ R1 _ a6 ⟨-,rfl,e6,b5,rfl⟩;have e2:=x.le a6;unfold Ag;refine B9 (b:=g.wb) λR2 c4 c9=>B9 (b:=g.tb) λR3 a7 c8=>B9 (b:=g.mb) λR4 a1 c7=>?_
 have N:=(c4.trans a7).trans a1;have y:=e2.le N;have b4:StC R4 S.view (wS S g) (tS S g) (mS S g) e6 g.old g.AJ:=⟨CO (a1 _ _ (a7 _ _ c9)) x.wk,Wi (a1 _ _ c8) x.tk,SK c7 x.mk_,b5.le N,y.old,y.AJ⟩;have b7:S.view.AB.length = S.th.length:=by simp[Sim.view]
 obtain⟨d4,hold⟩:=VJ hs;refine jc (W7 b4 x.wl hT.n0 hT.n1 Z (λt ht=>?_) b8.2.2.2.1 hp.2 hs) ?_
 .obtain⟨t',e1,rfl⟩:=dc.1 ht;exact b8.2.2.2.2 _ e1
 rintro _ R5 _ a8 ⟨bw,wsp,cw,bt,tsp,ct,bm,W,b9,w1,w2,w3,w4,w5,Q,a0,rfl,rfl⟩;have e5:=y.le a8;obtain⟨ta,tc,b6⟩:=Q.sl;have d3:=Fz.flat a0;have w1:s.AC.length = S.AC.length:=w1;have w2:s.AA.length = S.AA.length:=w2;have w3:s.AM.length = S.AC.length:=w3;have f0:=x.wl;have e8:=x.tl;refine js rfl ?_ (by show 4 + 13<=35;omega) rfl ?_
 .subst b6;show (true && (true && (true && (true && (true && (true && (true && (true && (true && (true && (flat b9 && (true && (true && true))))))))))))) = true;rw[d3];rfl
 refine jl rfl (jbd rfl rfl ?_);generalize D:({ S with AC:=s.AC,AA:=s.AA,AM:=s.AM,Ae:=s.Ae,stop:=s.stop,full:=s.full,old:=s.old,AJ:=s.AJ,BE:=s.BE,BK:=s.BK,col:=Dd s.Ap 0 }:Sim) = j;generalize O:({ g with wb:=bw,wc:=cw,wsp:=wsp,tb:=bt,tc:=ct,tsp:=tsp,mb:=bm,mc:=s.AM.length,msp:=[],Ap:=.bool s.Ap,want:=I s.want,AB:=W,old:=SN,AJ:=b9,AR:=SN }:Img) = g3;have c0:j.th = S.th:=by rw[<- D]
 have a5:g3.AB = W:=by rw[<- O]
 have e3:Ok R5 j g3:=by
  subst D O b6;exact { e5 with old:=.inl ⟨rfl,by rw[hold];rfl,by rw[hold];rfl⟩,AJ:=a0,AR:=.inl ⟨rfl,rfl,rfl⟩,wl:=by show s.AC.length<=1000;omega,tl:=by show s.AA.length<=1000;omega,ml:=by show s.AM.length<=1000;omega,fl:=⟨rfl,rfl,rfl⟩,wk:=w4,tk:=w5,mk_:=z_n _ }
 refine js (cs':=Ch j g3) rfl rfl (dM rfl) (by rw[<- D,<- O];rfl) ?_;refine B8 (D':=Ag p j g3 ++ F) (by
  have e:Ag p j g3 = (p,C CG (Ch j g3)) :: (bw,C Ab (s.AC.map I ++ wsp)) :: (bt,C AO (Ad eRg s.AA ++ tsp)) :: (bm,C Az (s.AM.map Value.bool ++ [])) :: (g.hb,C Af (Ez S.th g.rv ++ g.hsp)) :: evD S g:=by rw[<- D,<- O];rfl
  rw[e,eD]
  exact dw (l₁:=[(bw,C Ab (s.AC.map I ++ wsp)),(bt,C AO (Ad eRg s.AA ++ tsp)),(bm,C Az (s.AM.map Value.bool))])) ?_
 have a9:S' = { j with th:=s.AB.map λt=>thr0 t.AD t.next t.Am }:=by rw[<- D,<- hS]
 clear hS D O b4;generalize b0 : (s.AB.map λt=>thr0 t.AD t.next t.Am) = A at a9;have a2:A.length = S.th.length:=by rw[<- b0,dN];omega
 have c5:∀k (h:k < A.length) (h' : k < s.AB.length),A[k] = thr0 (s.AB[k]).AD (s.AB[k]).next (s.AB[k]).Am:=λk h h'=>by simp only[<- b0,fQ]
 rw[<- c0] at a2 d1 b7;rw[b7] at d4;subst a9;refine jlp (λm vs R' D'=>R' = R5/\∃(k:Nat) (H:Img),k<=j.th.length/\H.AB = W/\Ok R5 { j with th:=A.take k ++ j.th.drop k } H/\D' = Ag p { j with th:=A.take k ++ j.th.drop k } H ++ F/\vs = [Pt p,I k]/\m = j.th.length - k)
  ⟨rfl,0,g3,Z,a5,e3,rfl,rfl,Z⟩ ?_
 rintro m e R6 D6 K ⟨hR,k,H,hk,e4,y,hD,he,hm⟩ hK;subst hR;refine z_W ?_;clear hD;have e9:=EB (k:=k) a2;refine jl (v:=.slice (some ⟨H.hb,0,none⟩) (A.take k ++ j.th.drop k).length H.hc) rfl (jln (jlt (jif (λhc=>?_) (λhc=>?_))));rotate_left
 .have hc:j.th.length<=k:=by have:=z_g hc;omega
  have ee:A.take k ++ j.th.drop k = A:=by rw[dO Z,dT Z,eD]
  rw[ee] at y ⊢;exact B7 (a6.trans (N.trans a8)) trivial rfl y
 have hc:k < j.th.length:=by have:=z_f hc;omega
 have b1:k < s.AB.length:=Z
 refine jl rfl ?_;rw[e4];refine jtr Q b1 λb3 o3 ty cs rv a4 c6 d2 a3=>(DR c6 d2 a3 ?_)
 obtain⟨ra,rc,b2⟩:=a4.sl;subst b2;refine ja λe7=>(js rfl rfl (by exact z_n 4) rfl (jl (v:=.slice (some ⟨H.hb,0,none⟩) (A.take k ++ j.th.drop k).length H.hc) rfl (jl rfl (jl rfl (jl rfl (jbd (cs:=Aw (thr0 (s.AB[k]).AD (s.AB[k]).next (s.AB[k]).Am) (.slice ra (s.AB[k]).AD.length rc)) rfl rfl (C0 Z (jst (p:=p) _ _ (by show k < (A.take k ++ j.th.drop k).length;omega) y.rvl (Fz.flat a4) rfl rfl (jad ?_)))))))))
 have Em:(A.take k ++ j.th.drop k).set k (thr0 (s.AB[k]).AD (s.AB[k]).next (s.AB[k]).Am) = A.take (k + 1) ++ j.th.drop (k + 1):=by
  rw[<- c5 k Z b1];exact GM a2 hc
 have T:=y.setT (i:=k) (t:=thr0 (s.AB[k]).AD (s.AB[k]).next (s.AB[k]).Am) a4;dsimp only at T ⊢;rw[Em] at T ⊢;refine Al (Ag p { j with th:=A.take (k + 1) ++ j.th.drop (k + 1) } { H with rv:=H.rv.set k (.slice ra (s.AB[k]).AD.length rc) }) (G:=F) (hK (j.th.length - (k + 1)) _ _ _ Z ⟨rfl,k + 1,{ H with rv:=H.rv.set k (.slice ra (s.AB[k]).AD.length rc) },Z,e4,T,rfl,rfl,rfl⟩)
theorem U9 {p n:Nat} {S S' : Sim} {g:Img} {R:RM} (j:Ok R S g) (D:Pr S) (y:TOk S.AA) (x:S.pause n = some S') :
  Fn P Dn [Pt p] R (Ag p S g) (DJ p S' λ_=>True):=by
 cases A:S.full with
 | true=>exact Vt j D y A x
 | false=>exact Te j D y A x
theorem azq (x:Int) (w:World):(Go.convert 5 3 (.int .u8 x):Sem Value).run P w = .ok (.int .i64 (IntKind.i64.wrap x)) w:=by
 kernel_rfl
def Bsl (R:RM) (v:Value) (n:Nat):Prop:=∃a cap,v = .slice a n cap/\n<=cap/\(n = 0\/∃b o,a = some ⟨b,o,none⟩/\∀i,i < n->∃t cs fz x,R b = some (.cells cs t fz)/\cs[o + i]? = some (.int .u8 x)/\0<=x/\x < 256)
theorem Bsl.le {R A : RM} {v:Value} {n:Nat} (h:R.le A) (H:Bsl R v n):Bsl A v n:=by
 obtain⟨a,j,D,G,y | ⟨b,o,y,N⟩⟩:=H
 .exact⟨a,j,D,G,.inl y⟩
 .exact⟨a,j,D,G,.inr ⟨b,o,y,λi O=>by obtain⟨t,K,fz,x,Q,T⟩:=N i O;exact⟨t,K,fz,x,h _ _ Q,T⟩⟩⟩
section rules
variable {R:RM} {D:Chs} {k:Value->M}
theorem jcv {x:Int} (h:inR x) (H:J R D (k (I x))):J R D (X P (Go.convert 5 3 (.int .u8 x)) k):=by
 intro A j w y;rw[azq,Fb h];subst y;exact⟨BH.refl _,H _ j⟩
theorem cq {x y:Int} (j:0<=x/\x < 4611686018427387904) (A:0<=y/\y < 4611686018427387904) (H:∀z:Int,0<=z->z < 4611686018427387904->J R D (k (I z))):J R D (BO .xor (I x) (I y) k):=by
 have e:BO .xor (I x) (I y) k = k (.int .i64 (IntKind.i64.wrap (BitVec.ofInt 64 x ^^^ BitVec.ofInt 64 y).toNat)):=rfl;have G:(BitVec.ofInt 64 x ^^^ BitVec.ofInt 64 y).toNat < 2 ^ 62:=by
  rw[BitVec.toNat_xor];have hb:∀z:Int,0<=z/\z < 4611686018427387904->(BitVec.ofInt 64 z).toNat < 2 ^ 62:=λz K=>by
   rw[BitVec.toNat_ofInt];omega
  exact Nat.xor_lt_two_pow (hb x j) (hb y A)
 rw[e,Fb ⟨Z,Z⟩];exact H _ Z Z
theorem Y7 {v:Value} {n:Nat} {i:Int} (h:Bsl R v n) (h0:0<=i) (W:i < n)
  (H:∀(q:Value) (x:Int),0<=x->x < 256->(∀(j : Chs) (y : Value->M),J R j (y (.int .u8 x))->J R j (L1 q y))->J R D (k q)):J R D (IA 1 v (I i) k):=by
 obtain⟨a,G,rfl,hn,h2 | ⟨b,o,rfl,hc⟩⟩:=h
 .omega
 .obtain⟨t,T,fz,x,hb,N,O,Q⟩:=hc i.toNat Z;refine jia h0 Z (H _ x O Q λj y K=>?_);rw[fN];intro h A;exact⟨.int .u8 x,by simp only[Go.Lf.hc,A.rd b _ hb];exact N,K h A⟩
end rules
def Byt (R:RM) (v:Value):Prop:=∃a n cap,v = .slice a n cap/\Bsl R v n/\n<=1000000
theorem Byt.le {R x : RM} {v:Value} (h:R.le x) (H:Byt R v):Byt x v:=by
 obtain⟨a,n,j,y,A,D⟩:=H;exact⟨a,n,j,y,A.le h,D⟩
@[reducible] def rdO (v:Value) (m:Int):Obj:=C 129 [v,I m]
theorem X1 {R:RM} {G:Nat} {v:Value} {n m:Int} (hb:Byt R v) (Q:0<=m/\m < 1000000000) :
  Fn P G5 [Pt G,I n] R [(G,rdO v m)] (λv' N A=>N = R/\A = [(G,rdO v (m + 1))]/\∃x,v' = I x/\0<=x/\(x < n\/x = 0)):=by
 refine NV λF=>?_
 refine z_2 ?_;obtain⟨a,l,j,rfl,hf,hl⟩:=hb;refine jl rfl (jad (js rfl rfl V rfl (jor [Pt G,I n] (decide (n < 1) || ((l:Int) == 0)) (λK' a0=>?_) (λe c u ho he=>?_))))
 .refine jlt (jgO a0 λO hN=>jl rfl (jln (jeq hN)))
 refine z_V ?_;rw[ho];have D:∀x:Int,0<=x->(x < n\/x = 0)->J R ((G,C 129 [.slice a l j,I (m + 1)]) :: F) (Fj R F (λv' N A=>N = R/\A = [(G,rdO (.slice a l j) (m + 1))]/\∃x,v' = I x/\0<=x/\(x < n\/x = 0)) (I x)):=λx H x1=>
  Ao (RM.le.refl R) ⟨rfl,rfl,x,rfl,H,x1⟩
 refine jif (λh0=>D 0 Z (.inr rfl)) (λh0=>?_);simp only[db,decide_eq_false_iff_not,beq_eq_false_iff_ne] at h0;obtain⟨n1,l1⟩:=h0;have tm:∀x y:Int,0<=x->0 < y->0<=x.tmod y/\x.tmod y < y:=λx y hx hy=>⟨Int.tmod_nonneg y hx,Int.tmod_lt_of_pos x hy⟩
 refine jl rfl (jsu ?_);rw[show m + 1 - 1 = m from Z];refine jl rfl (jln (jlt (jif (λO=>?_) (λO=>?_))))
 .have O:=z_f O;refine jl rfl (Y7 hf Q.1 O λq x H x1 hq=>(hq _ _ (@jcv _ _ _ _ ⟨Z,Z⟩ (QK Z ?_))));obtain⟨t0,t1⟩:=tm x n H Z;exact D _ t0 (.inl t1)
 .refine Ac (λvs N D'=>N = R/\D' = (G,C 129 [.slice a l j,I (m + 1)]) :: F/\∃x:Int,0<=x/\x < 1000000000000/\vs = [I n,I x]) (λK hK=>?_) ?_
  .obtain⟨k0,k1⟩:=tm m l Q.1 Z;obtain⟨k2,k3⟩:=tm (m * 7 + 3) l Z Z;have q0:0<=m.tdiv l:=Int.tdiv_nonneg Q.1 Z;have q1:m.tdiv l<=m:=by
    rw[fL Q.1];exact Int.ediv_le_self _ Q.1
   refine jl rfl (jl rfl (jln (QK Z (Y7 hf k0 k1 λqa x H x1 T=>(T _ _ (jl rfl (HV ⟨Z,Z⟩ (jad (jl rfl (jln (QK Z (Y7 hf k2 k3 λqb y y0 y1 W=>(W _ _ (HV ⟨Z,Z⟩ (jl rfl (jln (PX Z ⟨Z,Z⟩ (HV ⟨Z,Z⟩ (FG ?_ (E8 ?_))))))))))))))))))))
   .refine @jcv _ _ _ _ ⟨Z,Z⟩ (HV ⟨Z,Z⟩ (Ak (jl rfl jev) (Ak (jl rfl jev) (Ak (W _ _ jev) (Ak (jl rfl jev) (@jcv _ _ _ _ ⟨Z,Z⟩ (HV ⟨Z,Z⟩ (jad (jad (jad (Ak (jl rfl jev) (hK _ _ _ ⟨rfl,rfl,_,Z,Z,rfl⟩))))))))))))
   .refine @jcv _ _ _ _ ⟨Z,Z⟩ (HV ⟨Z,Z⟩ (Ak (jl rfl jev) (Ak (jl rfl jev) (Ak (T _ _ jev) (Ak (jl rfl jev) (@jcv _ _ _ _ ⟨Z,Z⟩ (HV ⟨Z,Z⟩ (jad (jad (jad (Ak (jl rfl jev) (hK _ _ _ ⟨rfl,rfl,_,Z,Z,rfl⟩))))))))))))
  rintro e R1 D1 ⟨hR,hD,x,H,x1,he⟩;subst hR;refine z_W ?_;have e1:x.tdiv 64 = x / 64:=fL H;refine PX δ (by rw[e1];constructor<;>omega) ?_;rw[e1];refine cq ⟨H,Z⟩ ⟨Z,Z⟩ λz z0 z1=>QK Z ?_
  obtain⟨t0,t1⟩:=tm z n z0 Z;exact D _ t0 (.inl t1)
theorem jpk {R:RM} {D E:Chs} {j:Nat} {v:Value} {n m:Int} {k:Value->M} (hb:Byt R v) (y:0<=m/\m < 1000000000) [t:Tk D j (rdO v m) E] (H:∀x,0<=x->(x < n\/x = 0)->J R ((j,rdO v (m + 1)) :: E) (k (I x))) :
  J R D (CA P G5 [Pt j,I n] k):=by
 refine jc (X1 hb y) ?_;rintro _ _ _ _ ⟨rfl,rfl,x,rfl,A,G⟩;exact H x A G
end Go.Lf
end
section
namespace Sm
variable {P:List (List Op)}
def thg (w:List Int) (a:Int):AQ:=⟨a,wv w a,shp w a,seg w (a + 2) (shp w a).refs,seg w (a + 2 + (shp w a).refs) (shp w a).nums⟩
theorem KS {n:Nat} {k:Nat} (h:n = 16 * k) (h0:2<=k) (j:k<=12):BM n = true:=by
 subst h;simp only[BM,z_b,beq_iff_eq,z_d];omega
theorem Geo.wok {w:List Int} {t:List Rg} {B:Int->Prop} (G:Geo w t B):BM w.length = true:=by
 have j:=G.len;exact KS (k:=t.length) Z G.ok.n0 G.ok.n1
theorem Geo.fits {w:List Int} {t:List Rg} {B:Int->Prop} (G:Geo w t B) {a s:Int} (h:B a) (s0:1<=s) (s1:s<=sz w a):Sm.fits w.length a s = true:=by
 obtain⟨j,x,y,A,D,H,K,N⟩:=G.inn h;unfold Sm.fits;rw[G.wok,Be Z,Be Z];simp only[eP,z_b,z_d,beq_iff_eq];omega
theorem Geo.thing {w:List Int} {t:List Rg} {B:Int->Prop} (G:Geo w t B) {a:Int} (h:B a):As w a = (thg w a,true):=by
 obtain⟨j,x,y,A,D,H,K,N⟩:=G.inn h;have e:w.getD (a.toNat + 1) 0 = wv w (a + 1):=by unfold wv gv;rw[show (a + 1).toNat = a.toNat + 1 from Z]
 unfold As;rw[if_pos (G.fits h Z Z),e];dsimp only;rw[show AF (AS (wv w (a + 1))).1 = sz w a from rfl,(G.at_ a h).2.2,G.fits h Z (eE _)];rfl
theorem L9 {w:List Int} {t:List Rg} {B:Int->Prop} (G:Geo w t B) {r:Int} (r0:1<=r) (r1:r < t.length):∀(n:Nat) (a:Int),(a = (rv t r).top\/(B a/\a / 16 = r))->(rv t r).top - a<=2 * n->
  ∃l,Au w n a (rv t r).top = some l/\(∀x∈l,B x.at_/\x = thg w x.at_)/\∀b,B b->b / 16 = r->a<=b->thg w b∈l:=by
 have T1:=(G.ok.row r r0 r1).t1;have T0:=(G.ok.row r r0 r1).t0;have j:∀b,B b->b / 16 = r->b < (rv t r).top:=λb hb A=>by
  have g:=G.inn hb;rw[A] at g;omega
 intro n;induction n with
 | zero=>
  intro a N R;have:¬ a < (rv t r).top:=Z
  unfold Au;rw[if_neg this];exact⟨[],rfl,λx h=>(by cases h),λb hb A H=>by have:=j b hb A;omega⟩
 | succ n W=>
  intro a N R;unfold Au;by_cases c:a < (rv t r).top
  .have y:B a/\a / 16 = r:=by rcases N with h | h;omega;exact h
   obtain⟨g1,g2,g3,K,g5,g6,g7,g8⟩:=G.inn y.1;rw[y.2] at K;rw[if_pos c,G.thing y.1];dsimp only;have O:AF (thg w a).sh = sz w a:=rfl;rw[O];rw[if_pos (by simpa using K)];have nx:a + sz w a = (rv t r).top\/(B (a + sz w a)/\(a + sz w a) / 16 = r):=by
    by_cases h:a + sz w a = (rv t r).top
    .exact .inl h
    .right;rcases G.nx a y.1 with D | D
     .rw[y.2] at D;exact absurd D h
     .exact⟨D,Z⟩
   obtain⟨l,e,Q,D⟩:=W (a + sz w a) nx Z;rw[e];refine⟨thg w a :: l,rfl,λx T=>?_,λb hb A H=>?_⟩
   .rcases dX.1 T with h | h
    .subst h;exact⟨y.1,rfl⟩
    .exact Q x h
   .by_cases d:b = a
    .subst d;simp
    .have:=G.dj a b y.1 hb Z;exact dh _ (D b hb A this)
  .rw[if_neg c];exact⟨[],rfl,λx h=>(by cases h),λb hb A H=>by have:=j b hb A;omega⟩
theorem N5 {w:List Int} {t:List Rg} {B:Int->Prop} (G:Geo w t B):∀(l:List Rg) (r:Nat),1<=r->r + l.length = t.length->(∀k (h:k < l.length),l[k] = rv t (r + k:Nat))->
  ∃out,Bc w r l = some out/\(∀x∈out,B x.at_/\x = thg w x.at_)/\∀b,B b->(r:Int)<=b / 16->thg w b∈out:=by
 have n1:=G.ok.n1;have len:=G.len;intro l;induction l with
 | nil=>
  intro r r0 hl _;refine⟨[],rfl,λx h=>(by cases h),λb hb W=>?_⟩;have g:=G.inn hb;simp only[f9] at hl;omega
 | cons x l ih=>
  intro r r0 hl A;simp only[dR] at hl;have hx:x = rv t r:=by have:=A 0 V;simpa using this
  have R:=G.ok.row r Z Z;have R0:=R.t0;have R1:=R.t1;have hb:=Bq (r:=r) Z Z;obtain⟨a,D,N,O⟩:=L9 G (r:=r) Z Z 16 (16 * (r:Int)) (by
   rcases G.bs r Z Z with h | h
   .exact .inl h.symm
   .exact .inr ⟨h,Z⟩) Z
  obtain⟨b,H,Q,T⟩:=ih (r + 1) Z Z λk h=>by
   have:=A (k + 1) (by simpa using h);rw[show r + 1 + k = r + (k + 1) from Z];exact this
  have K:BU w r x.top = some a:=by
   unfold BU;rw[G.wok,hx,hb,if_pos (by simp only[eP,z_b,z_d];omega)];exact D
  refine⟨a ++ b,?_,λy j=>?_,λy j W=>?_⟩
  .unfold Bc;rw[K];simp only[];rw[H]
  .rcases dg.1 j with h | h
   .exact N y h
   .exact Q y h
  .by_cases d:y / 16 = r
   .exact dx _ (O y j d Z)
   .exact eM _ (T y j Z)
structure Thn (w:List Int) (B:Int->Prop) (l:List AQ):Prop where
 all:∀x∈l,B x.at_/\x = thg w x.at_
 has:∀a,B a->thg w a∈l
theorem Nu {s:Ah} {B:Int->Prop} (G:Geo s.AC s.AA B):∃l,BJ s = some l/\Thn s.AC B l:=by
 have n0:=G.ok.n0;obtain⟨l,e,x,y⟩:=N5 G s.AA.tail 1 (z_n 1) (by simp;omega) λk h=>JO h
 exact⟨l,e,x,λa j=>y a j (by have:=G.inn j;omega)⟩
theorem Thn.find {w:List Int} {B:Int->Prop} {l:List AQ} (T:Thn w B l) {a:Int} (h:B a):Ax l a = some (thg w a):=by
 unfold Ax;cases j:l.find? λt=>t.at_ == a with
 | none=>
  have:=List.find?_eq_none.1 j _ (T.has a h);simp[thg] at this
 | some x=>
  have y:=List.find?_some j;have A:=gV j;have D:x.at_ = a:=by simpa using y
  rw[(T.all x A).2,D]
theorem Thn.now {w:List Int} {B:Int->Prop} {l:List AQ} (T:Thn w B l) {a:Int} (h:a≠0->B a):now l a = some (if a = 0 then 0 else wv w a):=by
 unfold Sm.now;by_cases c:a = 0
 .rw[if_pos c,if_pos c]
 .rw[if_neg c,if_neg c,T.find (h c)];rfl
theorem Et {α:Type} [DecidableEq α]:∀{j ys:List α},j.Nodup->(∀x∈j,x∈ys)->j.length<=ys.length:=by
 intro j;induction j with
 | nil=>intro ys _ _;simp
 | cons x r K=>
  intro ys A h;rw[fJ] at A;have G:=h x V;have:=K (ys:=ys.erase x) A.2 λy H=>by
   have D:y≠x:=λc=>by subst c;exact A.1 H
   exact (List.mem_erase_of_ne D).2 (h y (by simp[H]))
  rw[List.length_erase_of_mem G] at this;have:=List.length_pos_of_mem G;simp;omega
section
variable {w:List Int} {B L:Int->Prop} {l:List AQ}
structure Cur (w:List Int) (L:Int->Prop) (out:List Int):Prop where
 nd:out.Nodup
 cu:∀a∈out,L a/\wv w a = a
 nz:∀a∈out,a≠0
theorem Cur.put {out:List Int} (C:Cur w L out) {a:Int} (h:a≠0->L a/\wv w a = a):Cur w L (Bu out a)/\(∀b∈out,b∈Bu out a)/\(a≠0->a∈Bu out a)/\∃e,Bu out a = out ++ e:=by
 unfold Bu;by_cases c:a = 0\/a∈out
 .rw[if_pos c];exact⟨C,λ_ h=>h,λh0=>by rcases c with c | c;exact absurd c h0;exact c,[],V⟩
 .rw[if_neg c];rw[not_or] at c;refine⟨⟨?_,λb hb=>?_,λb hb=>?_⟩,λb hb=>dx _ hb,λ_=>V,[a],rfl⟩
  .rw[List.nodup_append];exact⟨C.nd,V,λx A y j=>by simp only[dZ] at j;subst j;intro e;subst e;exact c.2 A⟩
  .rcases dg.1 hb with hb | hb
   .exact C.cu b hb
   .simp only[dZ] at hb;subst hb;exact h c.1
  .rcases dg.1 hb with hb | hb
   .exact C.nz b hb
   .simp only[dZ] at hb;subst hb;exact c.1
theorem L8 (T:Thn w B l) (lb:∀a,L a->B a) (W:∀a,L a->L (wv w a)/\wv w (wv w a) = wv w a):∀(A out:List Int),(∀a∈A,a≠0->L a)->Cur w L out->∃j,Aq l A out = some j/\Cur w L j/\(∀b∈out,b∈j)/\(∀a∈A,a≠0->wv w a≠0->wv w a∈j)/\∃e,j = out ++ e:=by
 intro A;induction A with
 | nil=>intro out _ C;exact⟨out,rfl,C,λ_ h=>h,λa h=>(by cases h),[],V⟩
 | cons x r ih=>
  intro out h C;unfold Aq;rw[T.now λh0=>lb x (h x V h0)];simp only[dP,z_o];obtain⟨C1,s1,K,O,D⟩:=C.put (a:=if x = 0 then 0 else wv w x) λh0=>by
   by_cases c:x = 0
   .rw[if_pos c] at h0;exact absurd rfl h0
   .rw[if_neg c];exact W x (h x V c)
  obtain⟨j,Q,C2,N,m2,R,G⟩:=ih _ (λa y=>h a (by simp[y])) C1;refine⟨j,Q,C2,λb hb=>N b (s1 b hb),λa y h0 H=>?_,O ++ R,by rw[G,D,dS]⟩;rcases dX.1 y with y | y
  .subst y;rw[if_neg h0] at K;exact N _ (by have:=K H;rw[if_neg h0];exact this)
  .exact m2 a y h0 H
theorem NX (T:Thn w B l) (lb:∀a,L a->B a) (N:∀a,L a->L (wv w a)/\wv w (wv w a) = wv w a):∀(y:List Th) (out:List Int),(∀t∈y,∀a∈t.AD,a≠0->L a)->Cur w L out->∃j,ED l y out = some j/\Cur w L j/\(∀b∈out,b∈j)/\(∀t∈y,∀a∈t.AD,a≠0->wv w a≠0->wv w a∈j):=by
 intro y;induction y with
 | nil=>intro out _ C;exact⟨out,rfl,C,λ_ h=>h,λt h=>(by cases h)⟩
 | cons t r O=>
  intro out h C;unfold ED;obtain⟨o1,H,C1,s1,Q,_⟩:=L8 T lb N t.AD out (h t V) C;rw[H];simp only[dP,z_o];obtain⟨W,K,C2,G,R⟩:=O o1 (λu x=>h u (by simp[x])) C1;refine⟨W,K,C2,λb hb=>G b (s1 b hb),λu x a A h0 D=>?_⟩;rcases dX.1 x with x | x
  .subst x;exact G _ (Q a A h0 D)
  .exact R u x a A h0 D
theorem VG:∀(y out:List Int),(∀a∈y,L a/\wv w a = a)->Cur w L out->Cur w L (y.foldl Bu out)/\(∀b∈out,b∈y.foldl Bu out)/\(∀a∈y,a≠0->a∈y.foldl Bu out):=by
 intro y;induction y with
 | nil=>intro out _ C;exact⟨C,λ_ h=>h,λa h=>(by cases h)⟩
 | cons x r D=>
  intro out h C;obtain⟨C1,s1,G,_⟩:=C.put (a:=x) λ_=>h x V
  obtain⟨C2,A,H⟩:=D _ (λa j=>h a (by simp[j])) C1;refine⟨C2,λb hb=>A b (s1 b hb),λa j h0=>?_⟩;rcases dX.1 j with j | j
  .subst j;exact A _ (G h0)
  .exact H a j h0
theorem OT {w:List Int} {a n v:Int} (h0:0<=a) (h:v∈seg w a n):∃j,0<=j/\j < n/\wv w (a + j) = v:=by
 unfold seg at h;obtain⟨k,x,e⟩:=dm h;simp only[dU,eO] at x;refine⟨k,Z,Z,?_⟩;rw[<- e,fy,fT];unfold wv gv;rw[show (a + (k:Int)).toNat = a.toNat + k from Z,dI,dH Z];rfl
theorem Yk {w:List Int} {a n j:Int} (h0:0<=a) (x:0<=j) (y:j < n) (hl:a + n<=w.length):wv w (a + j)∈seg w a n:=by
 unfold seg;rw[List.mem_iff_getElem];refine⟨j.toNat,by simp only[dU,eO];omega,?_⟩;rw[fy,fT];unfold wv gv;rw[show (a + j).toNat = a.toNat + j.toNat from Z,dI,dH Z];rfl
theorem MV (T:Thn w B l) (lb:∀a,L a->B a) (G:∀a,B a->16<=a) (hL:∀a,L a->L (wv w a)/\wv w (wv w a) = wv w a) (rf:∀a j,L a->0<=j->j < (shp w a).refs->wv w (a + 2 + j)≠0->L (wv w (a + 2 + j))) :
  ∀(n i:Nat) (out:List Int),Cur w L out->l.length + 2<=i + n->i<=out.length->(∀k (h:k < out.length),k < i->∀v∈(thg w out[k]).refs,v≠0->wv w v≠0->wv w v∈out)->
  ∃x,BI l n i out = some x/\Cur w L x/\(∀b∈out,b∈x)/\∀a∈x,∀v∈(thg w a).refs,v≠0->wv w v≠0->wv w v∈x:=by
 intro n;induction n with
 | zero=>
  intro i out C hn hi _;exfalso;have:out.length<=(l.map AQ.at_).length:=Et C.nd λa H=>dc.2 ⟨thg w a,T.has a (lb a (C.cu a H).1),rfl⟩
  rw[dN] at this;omega
 | succ n ih=>
  intro i out C hn hi A;unfold BI;by_cases c:i < out.length
  .rw[dH c];have K:=C.cu out[i] (dL c);simp only[dP];rw[T.find (lb _ K.1)];simp only[z_o];have W:=G _ (lb _ K.1);obtain⟨o1,O,C1,s1,m1,e,he⟩:=L8 T lb hL (thg w out[i]).refs out (λv y h0=>by
    obtain⟨j,j0,j1,hj⟩:=OT Z y
    rw[<- hj] at h0 ⊢
    exact rf _ j K.1 j0 j1 h0) C
   rw[O];simp only[z_o];have hlen:out.length<=o1.length:=by rw[he];simp
   obtain⟨o2,Q,C2,s2,m2⟩:=ih (i + 1) o1 C1 Z Z λk N a0 v y h0 D=>by
    have R:o1[k] = out[k]'(Z):=by simp only[he];rw[fj]
    rw[R] at y;by_cases d:k = i
    .subst d;exact m1 v y h0 D
    .exact s1 _ (A k Z Z v y h0 D)
   exact⟨o2,Q,C2,λb hb=>s2 b (s1 b hb),m2⟩
  .rw[eT Z];refine⟨out,rfl,C,λ_ h=>h,λa H v y h0 D=>?_⟩;obtain⟨k,N,rfl⟩:=dm H;exact A k N Z v y h0 D
theorem MO {s:Ah} {L B:Int->Prop} {l:List AQ} (T:Thn s.AC B l) (lb:∀a,L a->B a) (y:∀a,B a->16<=a) (D:∀a,L a->L (wv s.AC a)/\wv s.AC (wv s.AC a) = wv s.AC a) (rf:∀a j,L a->0<=j->j < (shp s.AC a).refs->wv s.AC (a + 2 + j)≠0->L (wv s.AC (a + 2 + j)))
  (N:∀t∈s.AB,∀a∈t.AD,a≠0->L a) (K:∀a∈s.AJ,L a/\wv s.AC a = a) :
  ∃out,Dg s l = some out/\Cur s.AC L out/\(∀a∈out,∀v∈(thg s.AC a).refs,v≠0->wv s.AC v∈out)/\(∀t∈s.AB,∀a∈t.AD,a≠0->wv s.AC a∈out)/\(∀a∈s.AJ,a∈out):=by
 have nz:∀a,L a->wv s.AC a≠0:=λa x=>by have:=y _ (lb _ (D a x).1);omega
 unfold Dg;obtain⟨o1,R,C1,s1,m1⟩:=NX T lb D s.AB [] N ⟨V,λa h=>(by cases h),λa h=>(by cases h)⟩;rw[R];simp only[dP,z_o];obtain⟨C2,s2,m2⟩:=VG s.AJ o1 K C1;obtain⟨o3,W,C3,Q,m3⟩:=MV T lb y D rf (l.length + 2) 0 _ C2 Z Z (λk _ h=>Z);refine⟨o3,W,C3,λa x v O h0=>?_,λt h a x h0=>Q _ (s2 _ (m1 t h a x h0 (nz a (N t h a x h0)))),λa x=>Q _ (m2 a x (by have:=y a (lb a (K a x).1);omega))⟩;have H:=(C3.cu a x).1;have a0:=y _ (lb _ H);obtain⟨j,j0,j1,G⟩:=OT Z O;have A:=rf _ j H j0 j1 (by rw[G];exact h0);rw[G] at A;exact m3 a x v O h0 (nz v A)
end
end Sm
end
section
namespace Sm
variable {P:List (List Op)}
theorem Rs {l:List Int} {x:Int}:∀k,EH l x k<=k/\(∀j,EH l x k<=j->j < k->x < l.getD j 0)/\(0 < EH l x k->¬ x < l.getD (EH l x k - 1) 0):=by
 intro k;induction k with
 | zero=>exact⟨z_n 0,λj h y=>Z,λh=>by simp[EH] at h⟩
 | succ k H=>
  unfold EH;split
  .obtain⟨K,A,D⟩:=H;refine⟨Z,λj G N=>?_,D⟩;by_cases c:j = k
   .subst c;assumption
   .exact A j G Z
  .exact⟨z_n _,λj h y=>Z,λ_=>by rw[Nat.add_sub_cancel];assumption⟩
theorem Vo {l:List Int} {x:Int} (h:l.Pairwise (· < ·)) (hx:x ∉ l):(HM l x).Pairwise (· < ·)/\∀y,y∈HM l x↔y = x\/y∈l:=by
 obtain⟨Q,D,N⟩:=Rs (l:=l) (x:=x) l.length;unfold HM;dsimp only;generalize EH l x l.length = p at Q D N;have A:∀j (O:j < l.length),l.getD j 0 = l[j]:=λj O=>by rw[dI,dH O];rfl
 have K:=gB.1 h;constructor
 .rw[List.pairwise_append];refine⟨h.sublist (List.take_sublist p l),?_,?_⟩
  .rw[gE];refine⟨λy hy=>?_,h.sublist (List.drop_sublist p l)⟩;obtain⟨k,H,rfl⟩:=dm hy;simp only[eO] at H;rw[fT,<- A (p + k) Z];exact D _ Z Z
  .intro a T b hb;obtain⟨i,W,rfl⟩:=dm T;simp only[dU] at W;rw[fy];have G:l[i] < x:=by
    have R:=N Z;rw[A (p - 1) Z] at R;have h5:l[i]<=l[p - 1]'(Z):=by
     by_cases c:i = p - 1
     .subst c;exact eE _
     .have:=K i (p - 1) Z Z Z;omega
    have h6:l[i]≠x:=λc=>hx (c▸dL Z)
    omega
   rcases dX.1 hb with hb | hb
   .rw[hb];exact G
   .obtain⟨k,H,rfl⟩:=dm hb;simp only[eO] at H;rw[fT,<- A (p + k) Z];have:=D (p + k) Z Z;omega
 .intro y;have:y∈l↔y∈l.take p\/y∈l.drop p:=by rw[<- dg,fk]
  rw[dg,dX,this];constructor
  .rintro (h | h | h)
   .exact .inr (.inl h)
   .exact .inl h
   .exact .inr (.inr h)
  .rintro (h | h | h)
   .exact .inr (.inl h)
   .exact .inl h
   .exact .inr (.inr h)
theorem Bt {l:List Int} (h:l.Nodup):(Aa l).Pairwise (· < ·)/\∀y,y∈Aa l↔y∈l:=by
 have:∀(l j:List Int),l.Nodup->j.Pairwise (· < ·)->(∀x∈l,x ∉ j)->(l.foldl HM j).Pairwise (· < ·)/\∀y,y∈l.foldl HM j↔y∈l\/y∈j:=by
  intro l;induction l with
  | nil=>intro j _ h _;exact⟨h,λy=>V⟩
  | cons x r N=>
   intro j A h hd;rw[fJ] at A;obtain⟨i1,i2⟩:=Vo h (hd x V);obtain⟨O,Q⟩:=N (HM j x) A.2 i1 λy D K=>by
    rcases (i2 y).1 K with c | c
    .subst c;exact A.1 D
    .exact hd y (by simp[D]) c
   refine⟨O,λy=>?_⟩;rw[gJ,Q y,i2 y,dX];constructor
   .rintro (h | h | h)
    .exact .inl (.inr h)
    .exact .inl (.inl h)
    .exact .inr h
   .rintro ((h | h) | h)
    .exact .inr (.inl h)
    .exact .inl h
    .exact .inr (.inr h)
 obtain⟨G,H⟩:=this l [] h List.Pairwise.nil (λ_ _ h=>by cases h);exact⟨G,λy=>by rw[Aa,H y];simp⟩
theorem Gn {w:List Int} {a v:Int} (h0:0<=a) (j:a < w.length):wr w a v = some (AT w a v):=by unfold wr;rw[if_pos ⟨h0,j⟩]
theorem RG:∀(j w:List Int) (a:Int),0<=a->a + j.length<=w.length->∃y,wrs w a j = some y/\y.length = w.length/\∀x,0<=x->(x < a\/a + j.length<=x)->wv y x = wv w x:=by
 intro j;induction j with
 | nil=>intro w a _ _;exact⟨w,rfl,rfl,λ_ _ _=>rfl⟩
 | cons v r K=>
  intro w a h0 D;simp only[dR] at D;unfold wrs;rw[Gn h0 Z];simp only[dP,z_o];obtain⟨y,e,hl,G⟩:=K (AT w a v) (a + 1) Z (by simp;omega);refine⟨y,e,by rw[hl];simp,λx A H=>?_⟩;simp only[dR] at H;rw[G x A Z,Co h0 Z A,if_neg Z]
theorem Hn {w:List Int} {a n:Int} (h0:0<=a) (x:0<=n) (j:a + n<=w.length):((seg w a n).length:Int) = n:=by
 unfold seg;simp only[dU,eO];omega
def Hd (w W:List Int) (f:Int->Shp) (b:Int):Prop:=wv w b = b/\wv w (b + 1) = AY (f b)
theorem Ge (w:List Int) (a:Int):BN (shp w a) = true:=by
 have:=G4 w a;simp[BN];omega
section
variable {s:Ah} {B0:Int->Prop}
theorem OD (G:Geo s.AC s.AA B0):∀(l:List AQ) (w:List Int) (t:List Rg),(∀x∈l,B0 x.at_/\x = thg s.AC x.at_)->w.length = s.AC.length->t.length = s.AA.length->
  ∃N R,stay s l w t = some (N,R)/\N.length = s.AC.length/\R.length = s.AA.length/\
   (∀b,B0 b->Aj s.AJ (b / 16) = true->(thg s.AC b∈l\/Hd w s.AC (shp s.AC) b)->Hd N s.AC (shp s.AC) b)/\
   (∀b j,B0 b->0<=j->j < (shp s.AC b).refs->wv N (b + 2 + j) = wv w (b + 2 + j))/\
   (∀x,0<=x->Aj s.AJ (x / 16) = false->wv N x = wv w x)/\
   (∀r:Int,0<=r->rv R r = if Aj s.AJ r = true/\∃x∈l,x.at_ / 16 = r then ⟨3,-1,(rv s.AA r).top,(rv s.AA r).top,0⟩ else rv t r):=by
 intro l;induction l with
 | nil=>
  intro w t _ hw ht;refine⟨w,t,rfl,hw,ht,λb _ _ h=>?_,λ_ _ _ _ _=>rfl,λ_ _ _=>rfl,λr _=>by rw[if_neg (by rintro⟨_,x,hx,_⟩;cases hx)]⟩;rcases h with h | h
  .cases h
  .exact h
 | cons x l ih=>
  intro w t hx hw ht;obtain⟨hB,he⟩:=hx x V;have W:∀y∈l,B0 y.at_/\y = thg s.AC y.at_:=λy A=>hx y (by simp[A])
  obtain⟨g1,g2,g3,g4,g5,g6,g7,g8⟩:=G.inn hB;have sb:=G4 s.AC x.at_;have a0:x.sh = shp s.AC x.at_:=by rw[he];rfl
  have a3:((x.refs.length:Nat):Int) = (shp s.AC x.at_).refs:=by
   rw[he];exact Hn (by show 0<=x.at_ + 2;omega) Z (by show x.at_ + 2 + (shp s.AC x.at_).refs<=_;omega)
  have a2:((x.nums.length:Nat):Int) = (shp s.AC x.at_).nums:=by
   rw[he];exact Hn (by show 0<=x.at_ + 2 + (shp s.AC x.at_).refs;omega) Z (by show x.at_ + 2 + (shp s.AC x.at_).refs + (shp s.AC x.at_).nums<=_;omega)
  unfold stay;dsimp only;rw[Be Z];by_cases O:Aj s.AJ (x.at_ / 16) = true
  .rw[if_pos O,Gn Z Z];simp only[dP,z_o];rw[Gn Z (by simp;omega)];simp only[z_o];obtain⟨w3,e3,l3,h3⟩:=RG x.nums (AT (AT w x.at_ x.at_) (x.at_ + 1) (AY x.sh)) (x.at_ + 2 + x.refs.length) Z (by simp;omega);rw[e3];simp only[z_o];rw[Cm Z g3,Cm (l:=t) Z Z];simp only[z_o];simp only[DQ] at l3;obtain⟨N,R,e,hl,Q,k1,k2,k3,k4⟩:=ih w3 (AT t (x.at_ / 16) ⟨3,-1,(rv s.AA (x.at_ / 16)).top,(rv s.AA (x.at_ / 16)).top,0⟩) W Z (by simpa using ht);have D:∀y,0<=y->(y < x.at_ + 2 + x.refs.length\/x.at_ + 2 + x.refs.length + x.nums.length<=y)->wv w3 y = if y = x.at_ + 1 then AY x.sh else if y = x.at_ then x.at_ else wv w y:=λy T A=>by
    rw[h3 y T A,Co Z (by simp;omega) T];split
    .rfl
    .rw[Co Z Z T]
   refine⟨N,R,e,hl,Q,λb hb H h=>?_,λb j hb j0 j1=>?_,λy T A=>?_,λr r0=>?_⟩
   .refine k1 b hb H ?_;by_cases c:b = x.at_
    .right;subst c;refine⟨?_,?_⟩
     .rw[D _ Z Z,if_neg Z,if_pos rfl]
     .rw[D _ Z Z,if_pos rfl,a0]
    .rcases h with h | h
     .rcases dX.1 h with h | h
      .exact absurd (by rw[<- h];rfl) c
      .exact .inl h
     .right;have gb:=G.inn hb;have s1:∀k,0<=k->k < sz s.AC x.at_->b≠x.at_ + k:=λk k0 k1 hk=>c (sep G hb hB (k:=0) (l:=k) Z Z k0 k1 Z).1
      have s2:∀k,0<=k->k < sz s.AC x.at_->b + 1≠x.at_ + k:=λk k0 k1 hk=>c (sep G hb hB (k:=1) (l:=k) Z Z k0 k1 Z).1
      refine⟨?_,?_⟩
      .rw[D b Z (by
        have:=s1 (b - x.at_)
        omega),if_neg (by have:=s1 1 Z Z;omega),if_neg c]
       exact h.1
      .rw[D (b + 1) Z (by
        have:=s2 (b + 1 - x.at_)
        omega),if_neg Z,if_neg (by have:=s2 0 Z Z;omega)]
       exact h.2
   .rw[k2 b j hb j0 j1];have gb:=G.inn hb;have a4:=G4 s.AC b;have s1:∀k,0<=k->k < sz s.AC x.at_->b + 2 + j = x.at_ + k->b = x.at_/\2 + j = k:=λk k0 k1 hk=>sep G hb hB (k:=2 + j) (l:=k) Z Z k0 k1 Z
    rw[D _ Z ?_,if_neg ?_,if_neg ?_]
    .intro h;have:=s1 0 Z Z Z;omega
    .intro h;have:=s1 1 Z Z Z;omega
    .by_cases c:x.at_ + 2 + x.refs.length<=b + 2 + j/\b + 2 + j < x.at_ + 2 + x.refs.length + x.nums.length
     .exfalso;have:=s1 (b + 2 + j - x.at_) Z Z Z;have e1:=this.1;subst e1;omega
     .omega
   .rw[k3 y T A];have a1:y / 16≠x.at_ / 16:=λc=>by rw[c,O] at A;cases A
    rw[D y T Z,if_neg Z,if_neg Z]
   .rw[k4 r r0,DB Z Z r0];by_cases c:r = x.at_ / 16
    .subst c;rw[if_pos rfl,if_pos (show Aj s.AJ (x.at_ / 16) = true/\∃y∈x :: l,y.at_ / 16 = x.at_ / 16 from ⟨O,x,gD,rfl⟩)];split<;>rfl
    .rw[if_neg c];by_cases d:Aj s.AJ r = true/\∃y∈l,y.at_ / 16 = r
     .rw[if_pos d,if_pos ⟨d.1,by obtain⟨y,A,K⟩:=d.2;exact⟨y,by simp[A],K⟩⟩]
     .rw[if_neg d,if_neg (by
       rintro⟨d1,y,A,K⟩
       rcases dX.1 A with A | A
       .subst A;exact c K.symm
       .exact d ⟨d1,y,A,K⟩)]
  .rw[if_neg O];obtain⟨N,R,e,hl,Q,k1,k2,k3,k4⟩:=ih w t W hw ht;refine⟨N,R,e,hl,Q,λb hb H h=>k1 b hb H ?_,k2,k3,λr r0=>?_⟩
   .rcases h with h | h
    .rcases dX.1 h with h | h
     .exfalso;have:b = x.at_:=by rw[<- h];rfl
      subst this;exact O H
     .exact .inl h
    .exact .inr h
   .rw[k4 r r0];by_cases d:Aj s.AJ r = true/\∃y∈l,y.at_ / 16 = r
    .rw[if_pos d,if_pos ⟨d.1,by obtain⟨y,A,K⟩:=d.2;exact⟨y,by simp[A],K⟩⟩]
    .rw[if_neg d,if_neg (by
      rintro⟨d1,y,A,K⟩
      rcases dX.1 A with A | A
      .subst A;rw[K] at O;exact O d1
      .exact d ⟨d1,y,A,K⟩)]
end
end Sm
end
section
namespace Sm
variable {P:List (List Op)}
structure If (f:Int->Shp) (t:List Rg) (B:Int->Prop):Prop where
 ok:TOk t
 at_:∀a,B a->16<=a/\a + AF (f a)<=(rv t (a / 16)).top/\BN (f a) = true
 nx:∀a,B a->a + AF (f a) = (rv t (a / 16)).top\/B (a + AF (f a))
 bs:∀r:Int,1<=r->r < t.length->(rv t r).top = 16 * r\/B (16 * r)
 dj:∀a b,B a->B b->a < b->a + AF (f a)<=b
theorem Ew {s:Shp} (h:BN s = true):2<=AF s/\AF s<=10/\AF s = 2 + s.refs + s.nums/\0<=s.refs/\0<=s.nums:=by
 have hb:=h;simp only[BN,z_b,z_d] at hb;rw[NG Z];omega
theorem If.inn {f:Int->Shp} {t:List Rg} {B:Int->Prop} (G:If f t B) {a:Int} (h:B a):16<=a/\1<=a / 16/\a / 16 < t.length/\a + AF (f a)<=(rv t (a / 16)).top/\(rv t (a / 16)).top<=16 * (a / 16) + 16/\2<=AF (f a)/\AF (f a)<=10/\a + AF (f a)<=16 * t.length:=by
 obtain⟨x,j,y⟩:=G.at_ a h;have A:=Ew y;by_cases c:a / 16 < t.length
 .have:=(G.ok.row (a / 16) Z c).t1;exact⟨x,Z,c,j,this,Z,Z,Z⟩
 .rw[Df Z Z] at j;simp only[De] at j;omega
theorem If.add {f:Int->Shp} {t:List Rg} {B:Int->Prop} (G:If f t B) {r d:Int} {sh:Shp} (r0:1<=r) (r1:r < t.length) (hd:(rv t r).top = d) (N:(rv t r).AX = -1) (O:BN sh = true) (fit:d + AF sh<=16 * r + 16) :
  If (λx=>if x = d then sh else f x) (AT t r { rv t r with kind:=3,top:=d + AF sh,BC:=d + AF sh }) (λb=>B b\/b = d)/\¬ B d/\d / 16 = r:=by
 have R:=G.ok.row r r0 r1;have t0:=R.t0;have n:=Ew O;have y:d / 16 = r:=Z
 have nb:∀b,B b->b / 16 = r->b + AF (f b)<=d:=λb hb hr=>by
  have:=(G.at_ b hb).2.1;rw[hr,hd] at this;exact this
 have nd:¬ B d:=λh=>by
  have h1:=nb d h y;have h2:=Ew (G.at_ d h).2.2;omega
 have A:∀b,B b->(if b = d then sh else f b) = f b:=λb hb=>if_neg (show ¬ b = d from λc=>nd (c▸hb))
 have e:∀q,0<=q->(rv (AT t r { rv t r with kind:=3,top:=d + AF sh,BC:=d + AF sh }) q).top = if q = r then d + AF sh else (rv t q).top:=λq H=>by
  rw[DB Z r1 H];split
  .rfl
  .rfl
 refine⟨⟨?_,?_,?_,?_,?_⟩,nd,y⟩
 .refine TOk.set G.ok r0 r1 ⟨V,V,?_,fit,?_,eE _,R.l0,?_,λh=>by simp at h,by simp[N],R.o0,R.o1⟩ λs _ _ _ h=>by simp[N] at h
  .show 16 * r<=d + AF sh;omega
  .show 16 * r<=d + AF sh;omega
  .have:=R.l1;show (rv t r).AI<=d + AF sh - 16 * r;omega
 .rintro b (hb | hb)
  .obtain⟨K,T,W⟩:=G.at_ b hb;simp only[A b hb];refine⟨K,?_,W⟩;rw[e _ Z];split
   .have:=nb b hb (by assumption);omega
   .exact T
  .subst hb;simp only[if_true];refine⟨Z,?_,O⟩;rw[e _ Z,if_pos y];omega
 .rintro b (hb | hb)
  .have K:=(G.at_ b hb).1;simp only[A b hb];rw[e _ Z];rcases G.nx b hb with c | c
   .split
    .rename_i c2;rw[c2,hd] at c;exact .inr (.inr c)
    .exact .inl c
   .exact .inr (.inl c)
  .subst hb;left;simp only[if_true];rw[e _ Z,if_pos y]
 .intro q H Q;simp only[DQ] at Q;rw[e q Z];rcases G.bs q H Q with c | c
  .split
   .rename_i c2;subst c2;right;right;omega
   .exact .inl c
  .exact .inr (.inl c)
 .rintro a b (j | j) (hb | hb) D
  .simp only[A a j];exact G.dj a b j hb D
  .subst hb;simp only[A a j];by_cases c:a / 16 = r
   .exact nb a j c
   .have:=G.inn j;omega
  .subst j;simp only[if_true];by_cases c:b / 16 = r
   .have h1:=nb b hb c;have h2:=Ew (G.at_ b hb).2.2;omega
   .omega
  .omega
theorem TH {AJ:List Int} {t:List Rg} {size R:Int} (T:TOk t) (s0:2<=size) (s1:size<=10) (K:Aj AJ R = false) (N:R < t.length) (fit:(rv t R).top + size<=16 * R + 16):∀(n:Nat) (r:Int),1<=r->r<=R->R - r < n->
  ∃j,FA AJ t size n r = some j/\r<=j/\j<=R/\Aj AJ j = false/\(rv t j).top + size<=16 * j + 16:=by
 have n1:=T.n1;intro n;induction n with
 | zero=>intro r _ _ h;omega
 | succ n G=>
  intro r r0 r1 O;unfold FA;have D:=T.row r r0 Z;have t0:=D.t0;have t1:=D.t1;by_cases x:Aj AJ r = true
  .rw[if_pos x];have:r≠R:=λc=>by rw[c,K] at x;cases x
   obtain⟨j,e,H,y,A⟩:=G (r + 1) Z Z Z;exact⟨j,e,Z,y,A⟩
  .rw[if_neg x,Cm Z Z];simp only[dP,z_o];rw[BQ Z Z,Bq Z Z];simp only[z_o];by_cases c:16 * r + 16 < (rv t r).top + size
   .rw[if_pos c];have:r≠R:=λc2=>by rw[c2] at c;omega
    obtain⟨j,e,H,y,A⟩:=G (r + 1) Z Z Z;exact⟨j,e,Z,y,A⟩
   .rw[if_neg c];exact⟨r,rfl,eE r,r1,by simpa using x,Z⟩
theorem Lv {AJ:List Int} {l:List AQ} {W:List Int} {T0:List Rg} {B0:Int->Prop} (T:Thn W B0 l) (G0:Geo W T0 B0):∀(A:List Int) (t:List Rg) (r:Int) (to:List Int) (f:Int->Shp) (B:Int->Prop),
  (∀a∈A,B0 a)->A.Pairwise (· < ·)->If f t B->t.length = T0.length->1<=r->(∀q:Int,1<=q->q < t.length->(rv t q).AX = -1)->(∀q:Int,0<=q->(rv t q).kind≠4)->(∀q:Int,r < q->q < t.length->Aj AJ q = false->(rv t q).top = 16 * q)->
  (∀a∈A,Aj AJ (a / 16) = false->r<=a / 16/\(r = a / 16->(rv t r).top<=a))->(∀a∈A,Aj AJ (a / 16) = true->B a/\f a = shp W a)->
  ∃K x N H,slide AJ l A t r to = some (K,to ++ x)/\x.length = A.length/\If N K H/\K.length = t.length/\(∀q:Int,0<=q->(rv K q).kind≠4)/\(∀b,B b->H b/\N b = f b)/\(∀b,H b->B b\/(b∈x/\Aj AJ (b / 16) = false))/\
   (∀p∈A.zip x,H p.2/\N p.2 = shp W p.1/\(Aj AJ (p.1 / 16) = true->p.2 = p.1)):=by
 intro A;induction A with
 | nil=>
  intro t r to f B _ _ G _ _ _ nf _ _ _;exact⟨t,[],f,B,by simp[slide],rfl,G,rfl,nf,λb h=>⟨h,rfl⟩,λb h=>.inl h,λp h=>(by simp at h)⟩
 | cons a A ih=>
  intro t r to f B hB D G hl r0 ho nf h1 h3 h4;rw[gE] at D;have O:=hB a V;obtain⟨g1,g2,g3,g4,g5,g6,g7,g8⟩:=G0.inn O;have n1:=G.ok.n1;unfold slide;rw[T.find O];simp only[dP,z_o];have es:AF (thg W a).sh = sz W a:=rfl;rw[es,Be Z];cases hh:Aj AJ (a / 16) with
  | true=>
   rw[if_pos rfl];obtain⟨hb,hf⟩:=h4 a V hh;obtain⟨K,x,N,H,e,k1,k2,k3,k4,k5,k6,k7⟩:=ih t r (to ++ [a]) f B (λb hb=>hB b (by simp[hb])) D.2 G hl r0 ho nf h1 (λb hb=>h3 b (by simp[hb])) (λb hb=>h4 b (by simp[hb]));refine⟨K,a :: x,N,H,by rw[e];simp,by simp[k1],k2,k3,k4,k5,λb hb=>?_,λp y=>?_⟩
   .rcases k6 b hb with h | h
    .exact .inl h
    .exact .inr ⟨by simp[h.1],h.2⟩
   .rw[g9] at y;rcases dX.1 y with y | y
    .subst y;exact⟨(k5 a hb).1,by rw[(k5 a hb).2,hf],λ_=>rfl⟩
    .exact k7 p y
  | false=>
   rw[if_neg δ];obtain⟨q1,q2⟩:=h3 a V hh;have a0:(rv t (a / 16)).top + sz W a<=16 * (a / 16) + 16:=by
    by_cases c:r = a / 16
    .have:=q2 c;rw[<- c];rw[<- c] at g4 g5;omega
    .have:=h1 (a / 16) Z Z hh;omega
   obtain⟨j,e1,p1,p2,p3,p4⟩:=TH (size:=sz W a) G.ok Z Z hh Z a0 (t.length + 2) r r0 q1 Z;rw[e1];simp only[z_o];have R:=G.ok.row j Z Z;have t0:=R.t0;rw[Cm Z Z];simp only[z_o];rw[BQ Z Z];simp only[z_o];have a2:AF (shp W a) = sz W a:=rfl;obtain⟨G2,nd,ed⟩:=G.add (r:=j) (sh:=shp W a) Z Z rfl (ho j Z Z) (Ge W a) (by rw[a2];exact p4);rw[a2] at G2;have a5:(rv t j).top<=a\/j < a / 16:=by
    by_cases c:j = a / 16
    .left;by_cases c2:r = j
     .subst c2;exact q2 c
     .have:=h1 j Z Z p3;omega
    .right;omega
   have et:∀q,0<=q->rv (AT t j { rv t j with kind:=3,top:=(rv t j).top + sz W a,BC:=(rv t j).top + sz W a }) q = if q = j then { rv t j with kind:=3,top:=(rv t j).top + sz W a,BC:=(rv t j).top + sz W a } else rv t q:=λq Q=>DB Z Z Q
   obtain⟨K,x,N,H,e,k1,k2,k3,k4,k5,k6,k7⟩:=ih _ j (to ++ [(rv t j).top]) _ _ (λb hb=>hB b (by simp[hb])) D.2 G2 (by simpa using hl) Z (λq Q q1=>by
     rw[et q Z];split
     .exact ho j Z Z
     .exact ho q Q (by simpa using q1)) (λq Q=>by
     rw[et q Q];split
     .simp
     .exact nf q Q) (λq Q q1 hq=>by
     rw[et q Z,if_neg Z]
     exact h1 q Z (by simpa using q1) hq) (λb hb a1=>by
     have a3:=hB b (by simp[hb])
     have a4:=D.1 b hb
     have a6:=G0.dj a b O a3 a4
     refine⟨Z,λhr=>?_⟩
     rw[et j Z,if_pos rfl]
     show (rv t j).top + sz W a<=b
     rcases a5 with h | h
     .omega
     .omega) (λb hb a1=>by
     obtain⟨c1,c2⟩:=h4 b (by simp[hb]) a1
     refine⟨.inl c1,?_⟩
     have:b≠(rv t j).top:=λc=>nd (c▸c1)
     simp only[if_neg this];exact c2)
   refine⟨K,(rv t j).top :: x,N,H,by rw[e];simp,by simp[k1],k2,by rw[k3];simp,k4,λb hb=>?_,λb hb=>?_,λp y=>?_⟩
   .obtain⟨c1,c2⟩:=k5 b (.inl hb);refine⟨c1,?_⟩;have:b≠(rv t j).top:=λc=>nd (c▸hb)
    rw[c2];simp only[if_neg this]
   .rcases k6 b hb with (h | h) | h
    .exact .inl h
    .exact .inr ⟨by simp[h],by rw[h,ed];exact p3⟩
    .exact .inr ⟨by simp[h.1],h.2⟩
   .rw[g9] at y;rcases dX.1 y with y | y
    .subst y;obtain⟨c1,c2⟩:=k5 (rv t j).top (.inr rfl);refine⟨c1,by rw[c2];simp,λh=>by rw[hh] at h;cases h⟩
    .exact k7 p y
theorem DF {l:List Int} {n:Int}:(n∈l->0<=BP l n/\BP l n < l.length)/\(n ∉ l->BP l n = -1):=by
 unfold BP;constructor
 .intro h;rw[if_pos h];have:=eQ h;omega
 .intro h;rw[if_neg h]
theorem TZ {l:List AQ} {AI to:List Int} (hlen:to.length = AI.length):∀(y w:List Int) (a:Int),(∀v∈y,∃u,now l v = some u)->0<=a->a + y.length<=w.length->
  ∃j,F3 l AI to w a y = some j/\j.length = w.length/\(∀x,0<=x->(x < a\/a + y.length<=x)->wv j x = wv w x)/\(∀x,a<=x->x < a + y.length->wv j x = wv w x\/wv j x∈to):=by
 intro y;induction y with
 | nil=>intro w a _ _ _;exact⟨w,rfl,rfl,λ_ _ _=>rfl,λx h T=>by simp at T;omega⟩
 | cons v r ih=>
  intro w a Q h0 W;simp only[dR] at W;obtain⟨u,K⟩:=Q v V;unfold F3;rw[K];simp only[dP,z_o];have step:∀A:List Int,A.length = w.length->(∀x,0<=x->x≠a->wv A x = wv w x)->(wv A a = wv w a\/wv A a∈to)->∃j,F3 l AI to A (a + 1) r = some j/\j.length = w.length/\(∀x,0<=x->(x < a\/a + (v :: r).length<=x)->wv j x = wv w x)/\(∀x,a<=x->x < a + (v :: r).length->wv j x = wv w x\/wv j x∈to):=λA a0 N R=>by
   obtain⟨j,e,hl,k1,k2⟩:=ih A (a + 1) (λu K=>Q u (by simp[K])) Z Z;refine⟨j,e,Z,λx G D=>?_,λx G D=>?_⟩
   .simp only[dR] at D;rw[k1 x G Z,N x G Z]
   .simp only[dR] at D;by_cases c:x = a
    .subst c;rw[k1 x h0 Z];exact R
    .rcases k2 x Z Z with h | h
     .left;rw[h,N x Z c]
     .exact .inr h
  by_cases c:0<=BP AI u
  .rw[if_pos c];have hm:u∈AI:=Classical.byContradiction λh=>by have:=DF.2 h;omega
   have O:=(DF (l:=AI)).1 hm;obtain⟨d,hd,H⟩:=GQ (l:=to) (i:=BP AI u) ⟨O.1,by rw[hlen];exact O.2⟩;rw[hd];simp only[z_o];rw[Gn h0 Z];simp only[z_o];refine step _ V (λx G D=>by rw[Co h0 Z G,if_neg D]) (.inr ?_);rw[Co h0 Z h0,if_pos rfl];exact H
  .rw[if_neg c];simp only[z_o];exact step w rfl (λ_ _ _=>rfl) (.inl rfl)
end Sm
end
section
namespace Sm
variable {P:List (List Op)}
theorem TV {l:List AQ} {AI to W:List Int} {T0 t' : List Rg} {B0 D : Int->Prop} {f:Int->Shp} (T:Thn W B0 l) (G0:Geo W T0 B0) (G:If f t' D) (hlen:to.length = AI.length):∀(N ld w:List Int),N.length = ld.length->
  (∀p∈N.zip ld,D p.2/\f p.2 = shp W p.1/\B0 p.1/\∀v∈(thg W p.1).refs,∃u,now l v = some u)->(w.length:Int) = 16 * t'.length->(∀b j,D b->0<=j->j < (f b).refs->wv w (b + 2 + j) = 0\/wv w (b + 2 + j)∈to)->
  ∃A,El l AI to N ld w = some A/\A.length = w.length/\(∀b j,D b->0<=j->j < (f b).refs->wv A (b + 2 + j) = 0\/wv A (b + 2 + j)∈to)/\(∀b,D b->Hd w W f b->Hd A W f b)/\(∀d∈ld,Hd A W f d):=by
 intro N;induction N with
 | nil=>
  intro ld w hl _ _ rf;cases ld with
  | nil=>exact⟨w,rfl,rfl,rf,λ_ _ h=>h,λd h=>(by cases h)⟩
  | cons _ _=>simp at hl
 | cons a N ih=>
  intro ld w hl hp wl rf;cases ld with
  | nil=>simp at hl
  | cons d ld=>
   rw[g9] at hp;obtain⟨K,R,H,hv⟩:=hp (a,d) V;simp only at K R H hv;obtain⟨g1,g2,g3,g4,g5,g6,g7,g8⟩:=G.inn K;have o1:=Ew (G.at_ d K).2.2;have i0:=G0.inn H;have sb:=G4 W a;have a8:(((thg W a).refs.length:Nat):Int) = (f d).refs:=by
    rw[R];exact Hn Z Z Z
   have a7:(((thg W a).nums.length:Nat):Int) = (f d).nums:=by
    rw[R];exact Hn Z Z Z
   unfold El;rw[T.find H];simp only[dP,z_o];rw[Gn Z Z];simp only[z_o];rw[Gn Z (by simp;omega)];simp only[z_o];have a2:(thg W a).sh = f d:=by rw[R];rfl
   rw[a2];obtain⟨w3,e3,l3,k3,m3⟩:=TZ (l:=l) (AI:=AI) hlen (thg W a).refs (AT (AT w d d) (d + 1) (AY (f d))) (d + 2) hv Z (by simp;omega);rw[e3];simp only[z_o];simp only[DQ] at l3;obtain⟨Q,e4,l4,k4⟩:=RG (thg W a).nums w3 (d + 2 + (thg W a).refs.length) Z Z;rw[e4];simp only[z_o];have v2:∀x,0<=x->wv (AT (AT w d d) (d + 1) (AY (f d))) x = if x = d + 1 then AY (f d) else if x = d then d else wv w x:=λx O=>by
    rw[Co Z (by simp;omega) O];split
    .rfl
    .rw[Co Z Z O]
   have out:∀x,0<=x->(x < d\/d + AF (f d)<=x)->wv Q x = wv w x:=λx O hx=>by
    rw[k4 x O Z,k3 x O Z,v2 x O,if_neg Z,if_neg Z]
   have hd:Hd Q W f d:=by
    refine⟨?_,?_⟩
    .rw[k4 d Z Z,k3 d Z Z,v2 d Z,if_neg Z,if_pos rfl]
    .rw[k4 _ Z Z,k3 _ Z Z,v2 _ Z,if_pos rfl]
   have y:∀b k,D b->b≠d->0<=k->k < AF (f b)->b + k < d\/d + AF (f d)<=b + k:=λb k hb a3 k0 k1=>by
    rcases Int.lt_trichotomy b d with h | h | h
    .have:=G.dj b d hb K h;omega
    .exact absurd h a3
    .have:=G.dj d b K hb h;omega
   have a5:∀b j,D b->0<=j->j < (f b).refs->wv Q (b + 2 + j) = 0\/wv Q (b + 2 + j)∈to:=λb j hb j0 j1=>by
    have gb:=G.inn hb;have ob:=Ew (G.at_ b hb).2.2;by_cases c:b = d
    .subst c;rw[k4 _ Z Z];rcases m3 (b + 2 + j) Z Z with h | h
     .rw[h,v2 _ Z,if_neg Z,if_neg Z];exact rf b j hb j0 j1
     .exact .inr h
    .have:=y b (2 + j) hb c Z Z;rw[out _ Z Z];exact rf b j hb j0 j1
   obtain⟨A,e,a6,q1,q2,q3⟩:=ih ld Q (by simpa using hl) (λp a4=>hp p (by simp[a4])) Z a5;refine⟨A,e,Z,q1,λb hb h=>q2 b hb ?_,λb hb=>?_⟩
   .by_cases c:b = d
    .subst c;exact hd
    .have gb:=G.inn hb;have a0:=y b 0 hb c Z Z;have a1:=y b 1 hb c Z Z;refine⟨?_,?_⟩
     .rw[out b Z Z];exact h.1
     .rw[out _ Z Z];exact h.2
   .rcases dX.1 hb with h | h
    .subst h;exact q2 b K hd
    .exact q3 b h
theorem NW {l:List AQ} {AI to:List Int} (hlen:to.length = AI.length):∀(A:List Int),(∀a∈A,∃u,now l a = some u)->∃D,DD l AI to A = some D/\D.length = A.length/\∀y∈D,y = 0\/y∈to:=by
 intro A;induction A with
 | nil=>intro _;exact⟨[],rfl,rfl,λy h=>(by cases h)⟩
 | cons a r O=>
  intro h;obtain⟨u,N⟩:=h a V;obtain⟨D,e,hl,H⟩:=O λb hb=>h b (by simp[hb])
  unfold DD;rw[N,e];simp only[dP,z_o];by_cases c:BP AI u < 0
  .rw[if_pos c];refine⟨_,rfl,by simp[hl],λy j=>?_⟩;rcases dX.1 j with j | j
   .exact .inl j
   .exact H y j
  .rw[if_neg c];have x:u∈AI:=Classical.byContradiction λh=>by have:=DF.2 h;omega
   have K:=(DF (l:=AI)).1 x;obtain⟨d,hd,G⟩:=GQ (l:=to) (i:=BP AI u) ⟨K.1,by rw[hlen];exact K.2⟩;rw[hd];refine⟨_,rfl,by simp[hl],λy j=>?_⟩;rcases dX.1 j with j | j
   .subst j;exact .inr G
   .exact H y j
theorem Kw {l:List AQ} {AI to:List Int} (hlen:to.length = AI.length):∀(j:List Th),(∀t∈j,∀a∈t.AD,∃u,now l a = some u)->∃A,Da l AI to j = some A/\A.length = j.length/\∀y∈A,∃t∈j,y.next = t.next/\y.AD.length = t.AD.length/\∀a∈y.AD,a = 0\/a∈to:=by
 intro j;induction j with
 | nil=>intro _;exact⟨[],rfl,rfl,λy h=>(by cases h)⟩
 | cons t r N=>
  intro h;obtain⟨rs,D,l1,O⟩:=NW (l:=l) hlen t.AD (h t V);obtain⟨A,e,hl,H⟩:=N λb hb=>h b (by simp[hb])
  unfold Da;rw[D,e];simp only[dP,z_o];refine⟨_,rfl,by simp[hl],λy x=>?_⟩;rcases dX.1 x with x | x
  .subst x;exact⟨t,V,rfl,l1,O⟩
  .obtain⟨u,K,G⟩:=H y x;exact⟨u,by simp[K],G⟩
theorem EA {n:Int} (h0:2<=n) (j:n<=12):((AV n).length:Int) = n/\rv (AV n) 0 = De/\∀r:Int,1<=r->r < n->rv (AV n) r = Dp r:=by
 unfold AV;rw[if_neg Z];refine⟨by simp;omega,rfl,λr r0 r1=>?_⟩;obtain⟨k,rfl⟩:∃k:Nat,r = ((k + 1:Nat):Int):=⟨r.toNat - 1,Z⟩;rw[rv,GV (by simp;omega)];simp
theorem GY {α β:Type} {la:List α} {lb:List β} (h:la.length = lb.length) {b:β} (hb:b∈lb):∃a,(a,b)∈la.zip lb:=by
 obtain⟨i,j,rfl⟩:=dm hb;exact⟨la[i],by rw[List.mem_iff_getElem];exact⟨i,by simp;omega,V⟩⟩
theorem YQ {α β:Type} {la:List α} {lb:List β} (h:la.length = lb.length) {a:α} (j:a∈la):∃b,(a,b)∈la.zip lb:=by
 obtain⟨i,x,rfl⟩:=dm j;exact⟨lb[i],by rw[List.mem_iff_getElem];exact⟨i,by simp;omega,V⟩⟩
def Sim.fulled (S:Sim) (s:Ah):Sim:=
 { S with AC:=s.AC,AA:=s.AA,AM:=s.AM,Ae:=s.Ae,stop:=s.stop,full:=s.full,old:=s.old,AJ:=s.AJ,BE:=s.BE,BK:=s.BK,col:=Dd s.Ap 0,th:=s.AB.map λt=>thr0 t.AD t.next t.Am }
section
variable {c:Nat} {S:Sim} {g:Gh}
theorem YJ (hc:c < 900000) (I:IG P S g) (B:Bd c S) (b2:S.calm = true):∃s g',Fi S.view = some s/\IG P (S.fulled s) g'/\Bd (c + 1) (S.fulled s):=by
 have st:=I.still b2;have H:=I.sh;have G:Geo S.AC S.AA g.B:=H.g;have To:=G.ok;have n0:=To.n0;have n1:=To.n1;have len:=G.len;obtain⟨l,e1,T⟩:=Nu (s:=S.view) G;have T:Thn S.AC g.B l:=T;have b1:∀a,g.L a->g.L (wv S.AC a)/\wv S.AC (wv S.AC a) = wv S.AC a:=λa A=>by
  by_cases h:wv S.AC a = a
  .rw[h];exact⟨A,h⟩
  .have hf:Ba S.AA a:=Classical.byContradiction λhn=>h (H.st a (H.lb a A) hn)
   obtain⟨f1,f2,_⟩:g.L (wv S.AC a)/\¬ Ba S.AA (wv S.AC a)/\_:=H.fw a (H.lb a A) hf h;exact⟨f1,H.st _ (H.lb _ f1) f2⟩
 have a0:∀a,g.B a->16<=a:=λa h=>(G.at_ a h).1
 have a4:∀a∈S.AJ,g.L a/\wv S.AC a = a:=λa h=>⟨(H.pl a h).1,H.st a (H.lb a (H.pl a h).1) (H.pl a h).2⟩
 have a8:∀t∈S.view.AB,∀a∈t.AD,a≠0->g.L a:=λt h a A h0=>by
  obtain⟨u,hu,rfl⟩:=dc.1 (show t∈S.th.map λt=>(⟨t.AD,t.next,t.pc != 0,t.Am⟩:Th) from h);exact (st u hu).rt a A h0
 obtain⟨out,e2,C,cl,rt,pn⟩:=MO (s:=S.view) T H.lb a0 b1 H.rf a8 a4;obtain⟨sp,sm⟩:=Bt C.nd;have D:∀a∈Aa out,g.L a/\wv S.AC a = a:=λa h=>C.cu a ((sm a).1 h)
 obtain⟨c4,b7,b8⟩:=EA (n:=S.AA.length) Z Z;have a3:∀v,(v≠0->g.L v)->∃u,now l v = some u:=λv h=>⟨_,T.now λh0=>H.lb v (h h0)⟩
 obtain⟨w1,t1,e3,l1,a1,s1,s2,s3,s4⟩:=OD (s:=S.view) (B0:=g.B) G l (List.replicate S.AC.length 0) (AV S.AA.length) T.all (by simp[Sim.view]) (by show (AV S.AA.length).length = S.AA.length;omega);have l1:w1.length = S.AC.length:=l1;have a1:t1.length = S.AA.length:=a1;have z0:∀x,wv (List.replicate S.AC.length 0) x = 0:=λx=>by
  unfold wv gv;rw[dI,List.getElem?_replicate];split<;>rfl
 have N:∀r:Int,1<=r->r < S.AA.length->(rv t1 r = ⟨3,-1,(rv S.AA r).top,(rv S.AA r).top,0⟩/\Aj S.AJ r = true/\∃x,g.B x/\x / 16 = r)\/(rv t1 r = ⟨1,-1,16 * r,16 * r,0⟩/\(Aj S.AJ r = true->∀x,g.B x->x / 16≠r)):=λr r0 r1=>by
  rw[s4 r Z];by_cases h:Aj S.view.AJ r = true/\∃x∈l,x.at_ / 16 = r
  .left;rw[if_pos h];obtain⟨K,x,hx,hr⟩:=h;exact⟨rfl,K,x.at_,(T.all x hx).1,hr⟩
  .right;rw[if_neg h,b8 r r0 r1,(Cu r0 Z).2];exact⟨rfl,λK x hx hr=>h ⟨K,thg S.AC x,T.has x hx,hr⟩⟩
 have To1:TOk t1:=by
  refine⟨Z,Z,?_,λr r0 r1=>?_,λr q r0 r1 q0 q1 ho _=>?_⟩
  .rw[s4 0 Z,if_neg,b7];rintro⟨_,x,hx,h⟩;have:=a0 _ (T.all x hx).1;omega
  .have R:=To.row r r0 Z;rcases N r r0 Z with ⟨h,_⟩ | ⟨h,_⟩
   .rw[h];exact⟨V,V,R.t0,R.t1,R.t0,eE _,eE 0,by show 0<=(rv S.AA r).top - 16 * r;have:=R.t0;omega,λh=>by simp at h,V,V,V⟩
   .rw[h];exact⟨V,V,eE _,by show 16 * r<=16 * r + 16;omega,eE _,eE _,eE 0,by show 0<=16 * r - 16 * r;omega,λ_=>rfl,V,V,V⟩
  .rcases N r r0 Z with ⟨h,_⟩ | ⟨h,_⟩<;>rw[h] at ho<;>simp at ho
 have a2:∀b,(g.B b/\Aj S.AJ (b / 16) = true)->(rv t1 (b / 16)).top = (rv S.AA (b / 16)).top:=λb hb=>by
  have i:=G.inn hb.1;rcases N (b / 16) i.2.1 i.2.2.1 with ⟨h,_⟩ | ⟨_,h⟩
  .rw[h]
  .exact absurd rfl (h hb.2 b hb.1)
 have G1:If (shp S.AC) t1 (λb=>g.B b/\Aj S.AJ (b / 16) = true):=by
  refine⟨To1,λa A=>?_,λa A=>?_,λr r0 r1=>?_,λa b A hb h=>G.dj a b A.1 hb.1 h⟩
  .rw[a2 a A];obtain⟨K,O,_⟩:=G.at_ a A.1;exact⟨K,O,Ge S.AC a⟩
  .rw[a2 a A];have i:=G.inn A.1;have es:AF (shp S.AC a) = sz S.AC a:=rfl;rw[es];by_cases h0:a + sz S.AC a = (rv S.AA (a / 16)).top
   .exact .inl h0
   .right;rcases G.nx a A.1 with h | h
    .exact absurd h h0
    .exact⟨h,by rw[show (a + sz S.AC a) / 16 = a / 16 from Z];exact A.2⟩
  .rcases N r r0 Z with ⟨h,O,_⟩ | ⟨h,_⟩
   .rw[h];rcases G.bs r r0 Z with Q | Q
    .exact .inl Q
    .exact .inr ⟨Q,by rw[show 16 * r / 16 = r from Z];exact O⟩
   .rw[h];exact .inl rfl
 have a7:∀q:Int,1<=q->q < S.AA.length->Aj S.AJ q = false->(rv t1 q).top = 16 * q:=λq q0 q1 hq=>by
  rcases N q q0 q1 with ⟨_,h,_⟩ | ⟨h,_⟩
  .rw[hq] at h;cases h
  .rw[h]
 obtain⟨t2,to,f,B',e4,k1,G2,k3,k4,k5,k6,k7⟩:=Lv (AJ:=S.AJ) T G (Aa out) t1 1 [] (shp S.AC) _ (λa h=>H.lb a (D a h).1) sp G1 a1 (eE 1)
  (λq q0 q1=>by rcases N q q0 Z with ⟨h,_⟩ | ⟨h,_⟩<;>rw[h])
  (λq q0=>by
   by_cases c1:q < S.AA.length
   .by_cases c2:1<=q
    .rcases N q c2 c1 with ⟨h,_⟩ | ⟨h,_⟩<;>rw[h]<;>simp
    .rw[show q = 0 from Z,To1.e];simp[De]
   .rw[Df q0 Z];simp[De])
  (λq q0 q1 hq=>a7 q Z Z hq)
  (λa A hq=>by
   have i:=G.inn (H.lb a (D a A).1)
   refine⟨i.2.1,λK=>?_⟩
   rw[a7 1 Z Z (by rw[K];exact hq)];omega)
  (λa A hq=>⟨⟨H.lb a (D a A).1,hq⟩,rfl⟩)
 simp only[List.nil_append] at e4;have b6:t2.length = S.AA.length:=by rw[k3,a1]
 have bk:∀b,B' b->(g.B b/\Aj S.AJ (b / 16) = true/\f b = shp S.AC b)\/(b∈to/\Aj S.AJ (b / 16) = false):=λb hb=>by
  rcases k6 b hb with h | h
  .exact .inl ⟨h.1,h.2,(k5 b h).2⟩
  .exact .inr h
 have b5:∀b j,B' b->0<=j->j < (f b).refs->wv w1 (b + 2 + j) = 0\/wv w1 (b + 2 + j)∈to:=λb j hb j0 j1=>by
  left;have i:=G2.inn hb;have ob:=Ew (G2.at_ b hb).2.2;rcases bk b hb with ⟨K,O,Q⟩ | ⟨K,O⟩
  .rw[Q] at j1;rw[s2 b j K j0 j1];exact z0 _
  .rw[s3 (b + 2 + j) Z (by rw[show (b + 2 + j) / 16 = b / 16 from Z];exact O)];exact z0 _
 obtain⟨W,e5,l2,r2,O,d2⟩:=TV (AI:=Aa out) (to:=to) T G G2 k1 (Aa out) to w1 k1.symm (λp hp=>by
   obtain⟨q1,q2,_⟩:=k7 p hp
   have hm:p.1∈Aa out:=(fB hp).1
   have hL:=(D p.1 hm).1
   have b9:=a0 _ (H.lb _ hL)
   refine⟨q1,q2,H.lb _ hL,λv hv=>a3 v λh0=>?_⟩
   obtain⟨j,j0,j1,hj⟩:=OT Z hv
   rw[<- hj] at h0 ⊢
   exact H.rf p.1 j hL j0 j1 h0) Z b5
 have Hall:∀b,B' b->Hd W S.AC f b:=λb hb=>by
  rcases bk b hb with ⟨K,b0,Q⟩ | ⟨K,_⟩
  .refine O b hb ?_;have:=s1 b K b0 (.inl (T.has b K));exact⟨this.1,by rw[Q];exact this.2⟩
  .exact d2 b K
 have a6:∀d∈to,B' d:=λd hd=>by
  obtain⟨a,A⟩:=GY k1.symm hd;exact (k7 (a,d) A).1
 obtain⟨ths,e6,l6,m6⟩:=Kw (l:=l) (AI:=Aa out) (to:=to) k1 S.view.AB (λt ht a A=>a3 a λh0=>a8 t ht a A h0);have b4:Cg S.BK 1 = some (S.BK + 1):=BQ (by have:=B.fu.1;omega) (by have:=B.fu.2;omega);have eW:∀b,B' b->shp W b = f b/\(AS (wv W (b + 1))).2 = true:=λb hb=>by
  have h:=(Hall b hb).2;have:=Eb (G2.at_ b hb).2.2;unfold shp;rw[h,this];exact⟨rfl,rfl⟩
 have eZ:∀b,B' b->sz W b = AF (f b):=λb hb=>by unfold sz;rw[(eW b hb).1]
 have GF:Geo W t2 B':=⟨by rw[l2,l1,b6];exact len,G2.ok,λa A=>by
   obtain⟨K,O,_⟩:=G2.at_ a A
   exact⟨K,by rw[eZ a A];exact O,(eW a A).2⟩,λa A=>by rw[eZ a A];exact G2.nx a A,G2.bs,λa b A hb h=>by rw[eZ a A];exact G2.dj a b A hb h⟩
 have nf:∀a,¬ Ba t2 a:=λa hf=>k4 (a / 16) (by have:=hf.1;omega) hf.2
 have b3:Fi S.view = some ⟨W,t2,List.replicate S.AC.length false,0,false,false,S.col.Ap,0,ths,[],S.AJ,S.BE,S.BK + 1⟩:=by
  unfold Fi;rw[e1];simp only[eI,dP];rw[e2];simp only[z_o];rw[show S.view.AC = S.AC from rfl,show S.view.AA = S.AA from rfl,show S.view.AJ = S.AJ from rfl,show S.view.BK = S.BK from rfl];have a9 : stay S.view l (List.replicate S.AC.length 0) (AV S.AA.length) = some (w1,t1):=e3;rw[a9];simp only[z_o];rw[e4];simp only[z_o];rw[e5];simp only[z_o];rw[e6];simp only[z_o];rw[b4];simp only[z_o];rw[show W.length = S.AC.length from l2.trans l1];rfl
 refine⟨_,⟨B',(·∈to),g.q,g.r0⟩,b3,I.mk' (S':=S.fulled ⟨W,t2,List.replicate S.AC.length false,0,false,false,S.col.Ap,0,ths,[],S.AJ,S.BE,S.BK + 1⟩) rfl ?_ ?_ (λt ht=>?_) (λh=>absurd (show (0:Int) = 1 from h) δ) (λh=>absurd (show (0:Int) = 2 from h) δ) (λh=>absurd (show (0:Int) = 3 from h) δ) (λh=>by cases h),?_⟩
 .show (ths.map _).length = _;rw[dN,l6];simp[Sim.view]
 .refine⟨GF,a6,λa j h j0 j1 hn=>?_,λa h _=>(Hall a h).1,λa _ hf=>absurd hf (nf a),?_,λa _ h=>?_,by show (0:Int)<=0/\(0:Int)<=3;decide,λ_ r r0=>k4 r r0,λh=>absurd (show (2:Int)<=0 from h) δ,λa h=>⟨?_,nf a⟩,λa _ hf=>absurd hf (nf a),λh=>absurd (show (1:Int)<=0 from h) δ,λh=>absurd (show (0:Int) = 3 from h) δ,λh=>absurd (show (0:Int) = 1 from h) δ⟩
  .have j1:j < (shp W a).refs:=j1;rw[(eW a (a6 a h)).1] at j1;rcases r2 a j (a6 a h) j0 j1 with Q | Q
   .exact absurd Q hn
   .exact Q
  .show (List.replicate S.AC.length false).length = W.length;rw[dV,l2,l1]
  .have h:mv (List.replicate S.AC.length false) a = true:=h;rw[Pj] at h;cases h
  .have A:a∈Aa out:=(sm a).2 (pn a h);obtain⟨d,hd⟩:=YQ k1.symm A;have a5:Aj S.AJ (a / 16) = true:=by
    unfold Aj;rw[List.any_eq_true];exact⟨a,h,by rw[Be (by have:=a0 a (H.lb a (a4 a h).1);omega)];simp⟩
   have:=(k7 (a,d) hd).2.2 a5;simp only at this;subst this;exact (fB hd).2
 .obtain⟨y,hy,rfl⟩:=dc.1 (show t∈ths.map λt=>thr0 t.AD t.next t.Am from ht);obtain⟨u,hu,q1,q2,q3⟩:=m6 y hy;obtain⟨v,hv,rfl⟩:=dc.1 (show u∈S.th.map λt=>(⟨t.AD,t.next,t.pc != 0,t.Am⟩:Th) from hu);have s:=st v hv;refine⟨rfl,rfl,rfl,by show 0<=y.next;rw[q1];exact s.nx,by show y.AD.length<=8;rw[q2];exact s.rl,λa A h0=>?_⟩;rcases q3 a A with h | h
  .exact absurd h h0
  .exact h
 .have O:=My (List.replicate S.AC.length false);rw[dV] at O;have c0:=I.wl;refine⟨by have:=B.ev;show S.ev.length<=c + 1;omega,Nat.zero_le _,by have:=B.cy;show 0<=S.BE/\S.BE<=((c + 1:Nat):Int);omega,by have:=B.fu;show 0<=S.BK + 1/\S.BK + 1<=((c + 1:Nat):Int);omega,?_,B.pn⟩;show ([]:List Int).length + ([]:List Int).length + 5 * (List.replicate S.AC.length false).countP (λb=>!b) + (if (0:Int) = 2 then _ else 0)<=3000 + (c + 1);rw[if_neg δ];simp only[f9];omega
end
end Sm
end
section
namespace Sm
variable {P:List (List Op)}
section
variable {c:Nat} {S:Sim} {g:Gh}
theorem Xy {n:Nat} (hc:c < 900000) (O:S.Ae = 1->mu S < n) (I:IG P S g) (B:Bd c S) (j:S.calm = true) (K:S.stop = true):∃A D,S.pause n = some A/\IG P A D/\Bd (c + 1) A:=by
 unfold Sim.pause;rw[I.szok rfl B hc,if_neg δ];by_cases H:S.full = true
 .rw[if_pos H];obtain⟨s,D,e,y,x⟩:=YJ hc I B j;simp only[dP];rw[e];exact⟨_,D,rfl,y,x⟩
 .rw[if_neg H];dsimp only;rcases I.wt K (by simpa using H) with ⟨h,G⟩ | ⟨h,G⟩ | ⟨h,G,N⟩ | ⟨h,G,N⟩
  .rw[if_pos G];obtain⟨D,y,x⟩:=Qr I B j h;exact⟨_,D,rfl,y,x.mono (eS c)⟩
  .rw[if_neg Z,if_pos G];obtain⟨A,D,e,y,x⟩:=Vf hc (O h) I B j h;exact⟨A,D,e,y,x⟩
  .rw[if_neg Z,if_neg Z,if_pos G];obtain⟨A,e,y,x⟩:=VA I B j h N;exact⟨A,g,e,y,x.mono (eS c)⟩
  .rw[if_neg Z,if_neg Z,if_neg Z];obtain⟨A,D,e,y,x⟩:=VK hc I B j h N;exact⟨A,D,e,y,x⟩
theorem Pg {n:Nat} (hc:c < 900000) (G:S.Ae = 1->mu S + 1 < n) (K:1 < n) (I:IG P S g) (B:Bd c S):∃y A,S.collector n = some y/\IG P y A/\Bd (c + 1) y:=by
 unfold Sim.collector;by_cases x:S.stop = true
 .rw[if_pos x];split
  .exact Xy hc (λh=>by have:=G h;omega) I B (by assumption) x
  .exact⟨S,g,rfl,I,B.mono (eS c)⟩
 .rw[if_neg x];by_cases h0:S.Ae = 0
  .rw[if_pos h0];split
   .refine⟨_,g,rfl,⟨I.pg,I.sh,I.n0,I.n1,I.pl,I.pp,I.ti,λh=>?_,λh=>?_,λh=>?_,(λ_ _=>.inl ⟨h0,rfl⟩),I.rs⟩,(have j:=B.mono (eS c);⟨j.ev,j.old,j.cy,j.fu,j.st,j.pn⟩)⟩
    .exact absurd (h0.symm.trans h) δ
    .exact absurd (h0.symm.trans h) δ
    .exact absurd (h0.symm.trans h) δ
   .exact⟨S,g,rfl,I,B.mono (eS c)⟩
  .rw[if_neg h0];have N:0<=S.Ae:=I.sh.ph.1;obtain⟨y,A,e,H,j⟩:=Wh hc n { S with used:=false } g (I.usd false) (B.usd false) (by show 1<=S.Ae;omega) Z (by
    by_cases D:S.Ae = 1
    .exact .inr (.inr (.inl ⟨D,G D⟩))
    .exact .inr (.inr (.inr ⟨by show 2<=S.Ae;omega,K⟩)))
   exact⟨y,A,e,H,j.mono (eS c)⟩
theorem PW {p:Int} (hc:c + 5 < 900000) (I:IG P S g) (B:Bd c S):∃x y,S.pick p = some x/\IG P x y/\Bd (c + 5) x:=by
 unfold Sim.pick;by_cases h:0<=p/\p < S.th.length
 .rw[if_pos h];exact V9 hc (by unfold Sim.fuel;omega) I B h.1 h.2
 .rw[if_neg h];split
  .obtain⟨x,y,e,D,j⟩:=Pg (n:=S.fuel) Z (λG=>by
    have C:=I.c1 G
    have K:Gc S.col<=4:=by
     unfold Gc
     split
     .rename_i h
      obtain⟨_,_,A,O,_⟩:=C.p2 h
      have:=G4 S.AC S.col.p
      have A:S.col.sh = shp S.AC S.col.p:=A
      rw[A];omega
     .omega
    have N:=My S.AM
    have H:S.AM.length = S.AC.length:=I.sh.ml
    unfold mu Sim.fuel
    omega) (by unfold Sim.fuel;omega) I B
   exact⟨x,y,e,D,j.mono Z⟩
  .split
   .exact⟨_,g,rfl,⟨I.pg,I.sh,I.n0,I.n1,I.pl,I.pp,I.ti,λh=>(I.c1 h).col rfl rfl rfl rfl,λh=>(have C:=I.c2 h;⟨C.r0,C.r1,C.p0,C.p1,C.wk,C.pc⟩),λh=>(have C:=I.c3 h;⟨C.pc,C.r0,C.r1,C.p0,C.at_,C.f,C.v,C.w,C.u,C.cl⟩),I.wt,I.rs⟩,(have j : Bd (c + 5) S:=B.mono Z;⟨j.ev,j.old,j.cy,j.fu,j.st,j.pn⟩)⟩
   .exact⟨S,g,rfl,I,B.mono Z⟩
theorem Ps:∀(j:List Int) (c:Nat) (S:Sim) (g:Gh),c + 5 * j.length < 900000->IG P S g->Bd c S->∃x Q,Sim.picks j S = some x/\IG P x Q/\Bd (c + 5 * j.length) x:=by
 intro j;induction j with
 | nil=>intro c S g _ I B;exact⟨S,g,rfl,I,B⟩
 | cons p r W=>
  intro c S g hc I B;simp only[dR] at hc ⊢;obtain⟨H,R,N,D,y⟩:=PW (p:=p) Z I B;obtain⟨K,T,O,G,A⟩:=W (c + 5) H R Z D y;unfold Sim.picks;rw[N];simp only[dP,z_o];exact⟨K,T,O,G,by rw[show c + 5 * (r.length + 1) = c + 5 + 5 * r.length from Z];exact A⟩
theorem ME {c:Cfg} {AZ:List (List Op)} (hc:Bg c = true) (hl:(AZ.length:Int) = c.AB) (hp:∀p∈AZ,p.length<=40):∃g,IG AZ (start c AZ) g/\Bd 0 (start c AZ):=by
 simp only[Bg,z_b,z_d] at hc;obtain⟨⟨⟨⟨⟨c1,c2⟩,c3⟩,c4⟩,c5⟩,c6⟩:=hc;obtain⟨W,Q,x⟩:=EA (n:=c.AH) Z Z;have hw:(start c AZ).AC = put (List.replicate (c.AH.toNat * 16) 0) 16 [16,66,0,0,0,0,0,0]:=by
  unfold start;show (CU (List.replicate (c.AH.toNat * 16) 0) 16 Bp).1 = _;unfold CU;have hk:BM (List.replicate (c.AH.toNat * 16) (0:Int)).length = true:=KS (k:=c.AH.toNat) (by simp;omega) Z Z;rw[if_pos]
  .rfl
  .unfold fits;rw[hk];have:(List.replicate (c.AH.toNat * 16) (0:Int)).length = c.AH.toNat * 16:=V
   rw[this];simp only[eP,z_b,z_d,beq_iff_eq];refine⟨⟨⟨⟨δ,δ⟩,δ⟩,Z⟩,δ⟩
 have wl:((start c AZ).AC.length:Int) = 16 * c.AH:=by
  rw[hw];unfold put;simp only[dK,dU,eO,dV,dR,f9];rw[show (16:Int).toNat = 16 from rfl];omega
 have y:∀k:Nat,k < 8->wv (start c AZ).AC (16 + k) = [16,66,0,0,0,0,0,0].getD k 0:=λk hk=>by
  rw[hw];unfold wv gv put;rw[show ((16:Int) + (k:Int)).toNat = 16 + k from Z,show (16:Int).toNat = 16 from rfl,dS];have hl:(List.take 16 (List.replicate (c.AH.toNat * 16) (0:Int))).length = 16:=by simp;omega
  rw[dI,fZ Z,hl,fC (by simp;omega),dI];congr 2;omega
 have tl:((start c AZ).AA.length:Int) = c.AH:=by
  show ((AT (AV c.AH) 1 _).length:Int) = _;rw[DQ];exact W
 have D:∀r:Int,0<=r->rv (start c AZ).AA r = if r = 1 then ⟨3,-1,24,24,0⟩ else rv (AV c.AH) r:=λr r0=>DB δ Z r0
 have T:TOk (start c AZ).AA:=by
  refine⟨Z,Z,by rw[D 0 δ,if_neg δ];exact Q,λr r0 r1=>?_,λr s r0 r1 _ _ H _=>?_⟩
  .rw[D r Z];split
   .subst r;exact⟨δ,δ,δ,δ,δ,δ,δ,δ,δ,δ,δ,δ⟩
   .rw[x r r0 Z];exact (Cu r0 Z).1
  .rw[D r Z] at H;split at H
   .simp at H
   .rw[x r r0 Z,(Cu r0 Z).2] at H;simp at H
 have G:wv (start c AZ).AC (16 + 1) = 66:=y 1 δ;have K:shp (start c AZ).AC 16 = ⟨4,2⟩:=by unfold shp;rw[G];rfl
 have N:sz (start c AZ).AC 16 = 8:=by unfold sz;rw[K];rfl
 have R:wv (start c AZ).AC 16 = 16:=y 0 δ;have nf:∀r:Int,0<=r->(rv (start c AZ).AA r).kind≠4:=λr r0=>by
  rw[D r r0];split
  .simp
  .by_cases h:r < c.AH
   .by_cases h1:1<=r
    .rw[x r h1 h,(Cu h1 Z).2];simp
    .rw[show r = 0 from Z,Q];simp[De]
   .rw[Df r0 Z];simp[De]
 have O:∀a,¬ Ba (start c AZ).AA a:=λa A=>nf (a / 16) (by have:=A.1;omega) A.2
 have fm:∀a,mv (start c AZ).AM a = false:=λa=>Pj
 have t1:(rv (start c AZ).AA 1).top = 24:=by rw[D 1 δ,if_pos rfl]
 refine⟨⟨(· = 16),(· = 16),λ_=>0,λ_=>False⟩,⟨rfl,?_,?_,?_,?_,hp,λi t h=>?_,λh=>absurd (show (0:Int) = 1 from h) δ,λh=>absurd (show (0:Int) = 2 from h) δ,λh=>absurd (show (0:Int) = 3 from h) δ,(λh=>by cases h),⟨c5,c6⟩⟩,?_⟩
 .refine⟨⟨by rw[wl,tl],T,?_,?_,?_,?_⟩,λa h=>h,?_,?_,λa _ A=>absurd A (O a),?_,λa _ h=>?_,by show (0:Int)<=0/\(0:Int)<=3;decide,λ_=>nf,λh=>absurd (show (2:Int)<=0 from h) δ,λa h=>(by cases h),λa _ A=>absurd A (O a),λh=>absurd (show (1:Int)<=0 from h) δ,λh=>absurd (show (0:Int) = 3 from h) δ,λh=>absurd (show (0:Int) = 1 from h) δ⟩
  .rintro a rfl;refine⟨δ,?_,?_⟩
   .rw[N,show (16:Int) / 16 = 1 from rfl,t1];decide
   .rw[G];rfl
  .rintro a rfl;left;rw[N,show (16:Int) / 16 = 1 from rfl,t1];rfl
  .intro r r0 r1;have r1:r < (start c AZ).AA.length:=r1;by_cases h:r = 1
   .right;show 16 * r = 16;omega
   .left;rw[D r Z,if_neg h,x r r0 Z,(Cu r0 Z).2]
  .rintro a b rfl rfl h;omega
  .rintro a j rfl j0 j1 hn;exfalso;rw[K] at j1;simp only at j1;have:=y (2 + j.toNat) Z;rw[show (16:Int) + ((2 + j.toNat:Nat):Int) = 16 + 2 + j from Z] at this;apply hn;rw[this];have hj:j.toNat = 0\/j.toNat = 1\/j.toNat = 2\/j.toNat = 3:=Z
   rcases hj with h | h | h | h<;>rw[h]<;>rfl
  .rintro a rfl _;exact R
  .show (List.replicate (c.AH.toNat * 16) false).length = (start c AZ).AC.length;rw[dV];omega
  .rw[fm] at h;cases h
 .show 1<=(List.replicate c.AB.toNat _).length;rw[dV];omega
 .show (List.replicate c.AB.toNat _).length<=3;rw[dV];omega
 .show AZ.length = (List.replicate c.AB.toNat _).length;rw[dV];omega
 .have hm:=J4 h;have:t = thr0 [16] 0 0:=(eR.1 (show t∈List.replicate c.AB.toNat (thr0 [16] 0 0) from hm)).2;subst this;exact⟨λa ha _=>by simpa [thr0] using ha,δ,δ,λ_ _ h=>absurd rfl h,.inl ⟨rfl,rfl,rfl⟩⟩
 .have h2:=My (List.replicate (c.AH.toNat * 16) false);rw[dV] at h2;refine⟨z_n 0,z_n 0,⟨eE 0,eE 0⟩,⟨eE 0,eE 0⟩,?_,Nat.zero_le _⟩;show 0 + 0 + 5 * (List.replicate (c.AH.toNat * 16) false).countP (λb=>!b) + (if (0:Int) = 2 then _ else 0)<=3000 + 0;rw[if_neg δ];omega
end
end Sm
end
section
namespace Go.Lf
open Go Sm
theorem UC {y:List (List Sm.Op)} {S:Sim} {A:Gh} (I:IG y S A):Pr S/\TOk S.AA:=by
 refine⟨⟨⟨by have:=I.rs.1;omega,by have:=I.rs.2;omega⟩,λa H=>?_⟩,I.sh.g.ok⟩;have D:=I.sh.pl a H;have G:=I.sh.g.inn (I.sh.lb a D.1);have K:=I.wl;obtain⟨N,_,_,_,_,j,x,_⟩:=G;have j:a + sz S.AC a<=S.AC.length:=j;have x:2<=sz S.AC a:=x;unfold AN;split<;>omega
theorem cD {j:List (List Sm.Op)} {S:Sim} {x:Gh} {c:Nat} (I:IG j S x) (B:Bd c S) (hc:c < 900000):S.sz = true:=I.szok rfl B hc
theorem YV {A:List (List Sm.Op)} {p c:Nat} {S:Sim} {H:Gh} {a:Int} (i0:IG A S H) (B:Bd c S) (hc:c + 5 < 900000) (K:inR a) :
  ∃x j,IG A x j/\Bd (c + 5) x/\S.pick a = some x/\∀R g,Ok R S g->Fn P Ii [Pt p,I a] R (Ag p S g) (DJ p x λ_=>True):=by
 obtain⟨x,j,e,G,D⟩:=PW hc i0 B;exact⟨x,j,G,D,e,λR g y=>Y2 y K (λR g O ok N=>U9 ok (UC i0).1 (UC i0).2 N) e⟩
theorem SU {D:List (List Sm.Op)}:∀(j:List Int) (i c:Nat) (S:Sim) (y:Gh),c + 5 * j.length < 900000->IG D S y->Bd c S->∀x,Sim.picks (j.take i) S = some x->∃A,IG D x A:=by
 intro j i c S y hc I B x h;have hl:(j.take i).length<=j.length:=by simp;omega
 obtain⟨N,K,G,H,_⟩:=Ps (j.take i) c S y Z I B;rw[h] at G;cases G;exact⟨K,H⟩
theorem Kq {c:Cfg} {AZ:List (List Sm.Op)} {picks:List Int} (h:Cy c AZ picks = true):Bg c = true/\(AZ.length:Int) = c.AB/\picks.length<=4000/\∀p∈AZ,p.length<=40:=by
 unfold Cy at h;simp only[z_b,z_d,df] at h;exact⟨h.1.1.1,h.1.1.2,h.1.2,h.2⟩
theorem Ze {x:Cfg} {AZ:List (List Sm.Op)} {picks:List Int} (y:Cy x AZ picks = true) (ha:∀a∈picks,inR a) :
  ∃j G,IG AZ j G/\Bd 20000 j/\Sim.picks picks (Sm.start x AZ) = some j/\∀R pv K,FI R pv AZ->Ay R K picks->Fn P Fy [.agg #[I x.AH,I x.AB,I x.AU],pv,K] R [] (λv R' A=>∃p g rows D N,Ok R' j g/\Rw (Cd R') rows j.view.AB/\SW 117 4 rows D N/\A = N ++ Ag p j g/\
   v = .tuple #[.agg (eSt j.view (wS j g) (tS j g) (mS j g) D g.old g.AJ).toArray,evV j g]):=by
 obtain⟨h1,h2,h3,h4⟩:=Kq y;obtain⟨g0,T,B0⟩:=ME h1 h2 h4;obtain⟨j,G,e,Q,O⟩:=Ps picks 0 _ g0 Z T B0;refine⟨j,G,Q,O.mono Z,e,λR pv K hp hk=>Qf hp hk y ha e (cD Q O Z) λi S hS p R g S1 ok H=>?_⟩;obtain⟨a0,W⟩:=SU picks i 0 _ g0 Z T B0 S hS;exact U9 ok (UC W).1 (UC W).2 H
end Go.Lf
end
