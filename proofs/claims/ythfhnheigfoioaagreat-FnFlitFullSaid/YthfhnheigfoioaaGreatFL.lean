/- A part of the proof of the given row. Conditions: none. -/
import Derived.Test.YthfhnheigfoioaaGreatFK
set_option linter.unusedVariables false
set_option linter.unusedSimpArgs false
set_option maxRecDepth 100000
section
namespace Go.Lf
open Go Sm
theorem MR {R:RM} {b t n w x:Nat} {j sp:List Value} (hb:R b = some (C t (j ++ sp))) (hl:j.length = n * w) (hc:n<=x):Fz R (S0 b n x) w n j:=
 .inr ⟨b,0,x,t,_,rfl,hb,by rw[de,hl];omega,by rw[fk,<- hl,fK (z_n _),dh (z_n _)],hc⟩
def fdO (s:Sm.Aj):Option Sm.Aj:=match EM s with | none=>none | some _=>FF s
def QFd (r:Option Sm.Aj) (v:Value) (R:RM):Prop:=match r with
 | none=>v = .tuple #[z50,.bool false]
 | some s'=>∃wv tv mv thv ov pv,StC R s' wv tv mv thv ov pv/\RgZ R tv s'.AA/\v = .tuple #[.agg (eSt s' wv tv mv thv ov pv).toArray,.bool true]
section st
variable {R:RM} {s:Sm.Aj} {wv tv mv thv ov pv:Value}
theorem XQ (h:SF R s wv tv mv thv ov pv):Ro N1 [.agg (eSt s wv tv mv thv ov pv).toArray] (.bool (!s.AB.any (·.busy))) R []:=by
 refine Tp λF=>?_
 refine z_1 ?_;have n1:=h.b.n1;obtain⟨N,tc,A⟩:=h.c.th.sl;refine ja λb=>(jli (λi:Nat=>s.AB.length - i) (λi=>[Pt b,I i]) (λ_=>(b,C 50 (eSt s wv tv mv thv ov pv)) :: ([] ++ F)) (λy i=>y = R/\i<=s.AB.length/\s.AB.any (·.busy) = (s.AB.drop i).any (·.busy)) 0 ⟨rfl,Z,by rw[fk]⟩ rfl rfl ?_)
 rintro K e y i ⟨G,T,j⟩ he D;subst G;refine z_V ?_;refine jfo (jl rfl (Bl ⟨N,tc,A⟩ (jlt (jif (λc=>?_) (λc=>?_)))));rotate_left
 .have c:=z_g c;refine BT (B9 ?_);rw[j,dv Z];rfl
 have c:i < s.AB.length:=by have:=z_f c;omega
 rw[dq c,List.any_cons] at j;refine jfo (jl rfl (jtr h.c.th c λO o ty Q rv H hb W x=>jfo (jlr hb (Bt x rfl) (jif (λg=>?_) (λg=>?_)))))
 .refine BT (B9 ?_);rw[j,g];rfl
 .exact jad (D y (i + 1) Z ⟨rfl,Z,by rw[j,g,fH]⟩)
set_option maxRecDepth 4000 in
theorem Xo (h:SF R s wv tv mv thv ov pv):Fn P MB [.agg (eSt s wv tv mv thv ov pv).toArray] R [] (λv R' A=>A = []/\QFd (fdO s) v R'):=by
 refine TS λF=>?_
 refine z_1 ?_;have fu:=h.b.fu;have t0:=h.b.t0;have t1:=h.b.t1;have wl:=h.b.wl;have n1:=h.b.n1;have rl:=h.b.rl;have pl:=h.b.pl;have a6:=h.b.pv;refine ja λT=>BE (b:=T) λR0 D x=>ja λgb=>?_
 have h:=h.le D;have x:R0 T = some (C 50 (eSt s wv tv mv thv ov pv)):=x;refine jor [Pt T,Pt gb] (EM s).isNone (λK' j=>?_) (λe c u ho he=>?_)
 .refine Da x (z_n 13) rfl (jrp (Ur h) ?_);cases W:Bw s with
  | none=>
   refine jtf (j _ _ _ DQ ?_);unfold EM;rw[W];split<;>rfl
  | some q=>
   refine jff (Da x (z_n 13) rfl (jrp (XQ h) (j _ _ _ Bn ?_)));unfold EM;rw[W,Bool.not_not];cases s.AB.any (·.busy)<;>rfl
 refine z_V ?_;refine jor [Pt T,Pt gb] (EM s).isNone (λK' j=>?_) (λe c u a3 he=>?_)
 .rw[ho];refine F6 (λg=>?_) (λg=>?_)
  .rw[g];exact jfo (jlr x rfl (jlt (j _ _ _ Bn (by rw[g];exact decide_eq_false Z))))
  .rw[g];exact j _ _ _ DQ g.symm
 refine z_V ?_;refine jor [Pt T,Pt gb] (EM s).isNone (λK' j=>?_) (λe c u a4 he=>?_)
 .rw[a3];refine F6 (λg=>?_) (λg=>?_)
  .rw[g];exact jfo (jlr x rfl (jgr (j _ _ _ Bn (by rw[g];exact decide_eq_false Z))))
  .rw[g];exact j _ _ _ DQ g.symm
 refine z_V ?_;rw[a4];cases hc:EM s with
 | none=>
  refine DJ (jbd rfl rfl (js rfl rfl (dg rfl) rfl (jla (dg rfl) rfl (Ao D ⟨rfl,?_⟩))));unfold fdO;rw[hc];rfl
 | some q=>
  obtain⟨l,a5⟩:=q;have W:Bw s = some (l,a5):=by
   unfold EM at hc;split at hc
   .cases hc
   .exact hc
  obtain⟨s',to,a8,F0,F1⟩:=LQ (D0 W) Z;refine CK (Da x (z_n 13) rfl (jc (Q4 h.c Z t0 t1 Z (λt ht=>by have:=rl t ht;omega) Z (λa ha=>by have:=a6 a ha;unfold AM;split<;>omega) F0) ?_));rintro v R1 A1 a0 ⟨bw,wsp,cw,bt,tsp,ct,bm,a7,a9,e1,e2,e3,e4,e5,Q,O,rfl,rfl⟩;obtain⟨ta,tc,rfl⟩:=Q.sl;obtain⟨pa,pc,rfl⟩:=O.sl;refine BE (b:=bw) λR2 H a2=>BE (b:=bt) λR3 G K=>BE (b:=bm) λR4 y a1=>(js rfl rfl (dg rfl) rfl (jla (dg rfl) rfl (Ao (D.trans (a0.trans (H.trans (G.trans y)))) ⟨rfl,?_⟩)))
  unfold fdO;rw[hc];show QFd (FF s) _ _;rw[F0];have N:=H.trans (G.trans y);refine⟨_,_,_,_,_,_,⟨MR ((G.trans y) _ _ a2) V e4,?_,?_,Q.le N,?_,O.le N⟩,⟨bt,ct,tsp,rfl,y _ _ K,e5⟩,rfl⟩
  .exact MR (y _ _ K) (by rw[DW (w:=5) (λ_=>rfl)]) e5
  .exact MR (by rw[eh];exact a1) V (z_n _)
  .have:s'.old = []:=by rw[F1.eq]
   rw[this];exact .inl ⟨rfl,rfl,rfl⟩
end st
end Go.Lf
end
section
namespace Sm
open Go.Lf
theorem N4 {AI tops:List Int} {n:Int} {f r:Nat} (h:r < tops.length/\(Ah AI r = true\/AK r + 16 < tops.getD r 0 + n)):nxt AI tops n (f + 1) r = nxt AI tops n f (r + 1):=by
 conv=>lhs;unfold nxt
 rw[if_pos h]
theorem NL {AI tops:List Int} {n:Int} {f r:Nat} (h:¬ (r < tops.length/\(Ah AI r = true\/AK r + 16 < tops.getD r 0 + n))):nxt AI tops n f r = r:=by
 cases f with
 | zero=>rfl
 | succ f=>unfold nxt;rw[if_neg h]
theorem W6 {AI tops:List Int} {n:Int}:∀{f r:Nat},r<=tops.length->nxt AI tops n f r<=tops.length/\r<=nxt AI tops n f r
 | 0,r,h=>⟨h,z_n _⟩
 | f + 1,r,h=>by
  by_cases c:r < tops.length/\(Ah AI r = true\/AK r + 16 < tops.getD r 0 + n)
  .rw[N4 c];have:=W6 (AI:=AI) (n:=n) (f:=f) (r:=r + 1) (tops:=tops) Z;omega
  .rw[NL c];exact⟨h,z_n _⟩
theorem Ib {AI:List Int} {l:List AO} {a:Int} {j tops:List Int} {r:Nat}:Db AI l (a :: j) tops r = if Ah AI (AM a) = true then (Db AI l j tops r).map λq=>(a :: q.1,q.2) else
  if nxt AI tops (Bh l a) (tops.length + 1) r = tops.length then none else
  (Db AI l j (tops.set (nxt AI tops (Bh l a) (tops.length + 1) r) (tops.getD (nxt AI tops (Bh l a) (tops.length + 1) r) 0 + Bh l a)) (nxt AI tops (Bh l a) (tops.length + 1) r)).map λq=>(tops.getD (nxt AI tops (Bh l a) (tops.length + 1) r) 0 :: q.1,q.2):=rfl
end Sm
namespace Go.Lf
open Go Sm
theorem HX:P.underlying 122 = some (.map 3 3):=by kernel_rfl
theorem X0 (w:World):(zeroValue 3).run P w = .ok (I 0) w:=by kernel_rfl
theorem Zh (w:World):(Instr.makeMap 122 none).run P w = .ok (.map (some w.heap.size)) (w.alloc (.map #[] 0)):=rfl
theorem SR {l:List (Int × Value)} {x:Int} {v:Value} (h:∀p∈l,p.1≠x):up l x v = l ++ [(x,v)]:=by
 unfold up;rw[Pb.2 h];rfl
def prs (xs ys:List Int):List (Int × Value):=(xs.zip ys).map λp=>(p.1,I p.2)
theorem UN {xs ys:List Int} {p:Int × Value} (h:p∈prs xs ys):p.1∈xs:=by
 obtain⟨q,j,rfl⟩:=eE.1 h;exact (fR j).1
theorem Uj {xs ys:List Int} {x y:Int} (h:xs.length = ys.length):prs (xs ++ [x]) (ys ++ [y]) = prs xs ys ++ [(x,I y)]:=by
 unfold prs;rw[List.zip_append h,eS];rfl
def cD (r:Option (List Int × List Int)) (order:List Int) (sb:Nat) (so:Obj) (v:Value) (A:Chs):Prop:=match r with
 | none=>v = .tuple #[.map none,SN,.bool false]/\A = [(sb,so)]
 | some (to,tops)=>to.length = order.length/\∃mb o tb,v = .tuple #[.map (some mb),S0 tb tops.length tops.length,.bool true]/\Mg o (prs order to)/\A = [(tb,C Ad (tops.map I ++ [])),(mb,o),(sb,so)]
section st
variable {R:RM} {s:Sm.Aj} {wv tv mv thv ov pv:Value} {l:List AO} {met:List Int}
set_option maxHeartbeats 2000000 in
set_option maxRecDepth 8000 in
theorem Y0 {hb mb N:Nat} {T:Obj} {v rv:Value} {D:List Int} (h:SF R s wv tv mv thv ov pv) (hv:HpV R s wv tv mv thv ov pv l met hb mb v) (c4:Aw R rv D) (f1:D.length<=192) (e5:∀a∈D,∃t,Av l a = some t) (hnd:D.Nodup) (b1:MpI T (λr=>Ah s.AI r = true)) (d2:∀a∈D,0<=a/\a < 1000000) (e6:∀t∈l,0<=AH t.sh/\AH t.sh<=10) :
  Fn P IB [Pt hb,rv,.map (some N)] R [(N,T)] (λv R' A=>R' = R/\cD (Db s.AI l D (CI s) 1) D N T v A):=by
 refine O0 λF=>?_
 refine z_3 ?_;obtain⟨o,g1,g2,g3,-⟩:=hv;obtain⟨c9,tc,sp,rfl,d4,f2⟩:=h.z;have t0:=h.b.t0;have t1:=h.b.t1;have tp:=h.b.tp;obtain⟨ra,rc,e3⟩:=c4.sl;refine Wa Zh λO o0 e1=>jnc (jfo (jfo (jlr (v:=S0 c9 s.AA.length tc) g1 rfl (jln (jms Z Z Z λtb=>?_)))))
 have e0:(List.replicate (s.AA.length:Int).toNat (cl z3)).flatten = (List.replicate s.AA.length (0:Int)).map I ++ []:=by
  rw[da,eh,List.map_replicate];show (List.replicate s.AA.length [I 0]).flatten = _;rw[<- List.map_replicate (f:=λx=>[x])];simp
 rw[e0];have a5:(CI s).length = s.AA.length:=by unfold CI;simp
 have b3:∀(i:Nat) (hi:i < (CI s).length),(CI s)[i] = if Ah s.AI i = true then (Sm.rv s.AA i).top else AK i:=λi hi=>by
  have e:(CI s)[i]? = some (if Ah s.AI i = true then (Sm.rv s.AA i).top else AK i):=by
   unfold CI;rw[eU,gT Z];rfl
  rw[dY hi] at e;exact fN e
 have d3:∀x∈CI s,-1000<=x/\x<=1000:=λx hx=>by
  obtain⟨i,hi,rfl⟩:=eJ hx;rw[b3 i hi];split
  .have e:Sm.rv s.AA i = s.AA[i]'(Z):=by
    unfold Sm.rv gv;rw[da,dZ,dY Z];rfl
   rw[e];have:=tp _ (dc (l:=s.AA) (n:=i) Z);omega
  .unfold AK;split<;>omega
 refine jci (λ_:Unit=>[Pt hb,rv,.map (some N),.map (some O),S0 tb s.AA.length s.AA.length]) (λ_=>(tb,C Ad ((CI s).map I ++ [])) :: (O,o0) :: ([(N,T)] ++ F)) (λR' _=>R' = R) (λK1 k1=>?_) ?_
 .refine jln ?_;refine jiI k1 λK2 k2=>?_
  refine jli (λi:Nat=>s.AA.length - i) (λi=>[Pt hb,rv,.map (some N),.map (some O),S0 tb s.AA.length s.AA.length,I s.AA.length,I i])
   (λi=>(tb,C Ad (((CI s).take i ++ List.replicate (s.AA.length - i) 0).map I ++ [])) :: (O,o0) :: ([(N,T)] ++ F)) (λR' i=>R' = R/\i<=s.AA.length) 0 ⟨rfl,Z⟩ τ τ ?_
  rintro K e R' i ⟨hR,hi⟩ he hK;subst hR;refine z_V ?_;refine jlt (jif (λc=>?_) (λc=>?_));rotate_left
  .have c:=z_g c;rw[dh Z,show s.AA.length - i = 0 from Z,List.replicate_zero,eh (CI s)];exact k2 R' () rfl
  have c:i < s.AA.length:=by have:=z_f c;omega
  have hlen:((CI s).take i ++ List.replicate (s.AA.length - i) 0).length = s.AA.length:=by simp[a5];omega
  have F7:∀(y:Int) (w:List Int),w = (CI s).take i ++ y :: List.replicate (s.AA.length - (i + 1)) 0->∀z,w.set i z = (CI s).take i ++ z :: List.replicate (s.AA.length - (i + 1)) 0:=λy w hw z=>by
   rw[hw,fd _ _ (by simp[a5];omega)];simp[a5,show min i s.AA.length = i from Z]
  have b9:(CI s).take i ++ List.replicate (s.AA.length - i) 0 = (CI s).take i ++ 0 :: List.replicate (s.AA.length - (i + 1)) 0:=by
   rw[show s.AA.length - i = (s.AA.length - (i + 1)) + 1 from Z];rfl
  have a2:(CI s).take (i + 1) ++ List.replicate (s.AA.length - (i + 1)) 0 = (CI s).take i ++ (CI s)[i] :: List.replicate (s.AA.length - (i + 1)) 0:=by
   rw[db Z,dm];rfl
  have b5:=b3 i Z;refine jci (λ_:Unit=>[Pt hb,rv,.map (some N),.map (some O),S0 tb s.AA.length s.AA.length,I s.AA.length,I i])
   (λ_=>(tb,C Ad (((CI s).take (i + 1) ++ List.replicate (s.AA.length - (i + 1)) 0).map I ++ [])) :: (O,o0) :: ([(N,T)] ++ F)) (λH _=>H = R') (λK3 k3=>?_) ?_
  rotate_left
  .rintro e H _ hp he;subst hp;refine z_V ?_;exact jad (hK H (i + 1) Z ⟨rfl,Z⟩)
  refine jiI k3 λK4 k4=>?_
  refine jp (CP i) (CC c (jsi Z ?_));rw[F7 0 _ b9];refine @jlk _ _ _ N T _ _ (Ah s.AI i) _ b1 Iff.rfl (jif (λhh=>?_) (λhh=>?_))
  .have a8:(Af eRg s.AA ++ sp)[0 + i * 5 + 2]? = some (I (s.AA[i]).top):=by rw[eH];exact CF (f:=2) c rfl
   refine jnc (jfo (jfo (jlr (v:=S0 c9 s.AA.length tc) g1 rfl (CC c (jfo (jlr (v:=I (s.AA[i]).top) d4 a8 (CC c (jsi (by simp[a5];omega) ?_))))))));rw[F7 _ _ rfl];rw[a2,b5,if_pos hh] at k4;have e:Sm.rv s.AA i = s.AA[i]:=by
    unfold Sm.rv gv;rw[da,dZ,dY Z];rfl
   rw[e] at k4;exact k4 R' () rfl
  .rw[a2,b5,if_neg (by rw[hh];decide)] at k4;exact k4 R' () rfl
 rintro e R' _ hR he;subst hR;refine z_V ?_;refine jci (λ_:List Int × List Int × Obj=>[.map (some O),S0 tb s.AA.length s.AA.length]) (λq=>(tb,C Ad (q.2.1.map I ++ [])) :: (O,q.2.2) :: ([(N,T)] ++ F)) (λH q=>H = R'/\q.2.1.length = s.AA.length/\q.1.length = D.length/\Db s.AI l D (CI s) 1 = some (q.1,q.2.1)/\Mg q.2.2 (prs D q.1)) (λK1 k1=>?_) ?_;rotate_left
 .rintro e H ⟨to,tops,o2⟩ ⟨hR,hl,c7,G,Q⟩ he;subst hR;dsimp only at hl c7 G Q ⊢;refine z_V ?_;refine Ao (A:=[(tb,C Ad (tops.map I ++ [])),(O,o2),(N,T)]) (RM.le.refl _) ⟨rfl,?_⟩;rw[G];exact⟨c7,O,o2,tb,by rw[hl],Q,rfl⟩
 refine Bl ⟨ra,rc,e3⟩ ?_;refine jiI k1 λK2 k2=>?_
 refine jli (λi:Nat × Nat × List Int × Obj × List Int=>D.length - i.1) (λi=>[Pt hb,.map (some N),.map (some O),S0 tb s.AA.length s.AA.length,I i.2.1,rv,I D.length,I i.1])
  (λi=>(tb,C Ad (i.2.2.1.map I ++ [])) :: (O,i.2.2.2.1) :: ([(N,T)] ++ F))
  (λH i=>H = R'/\i.1<=D.length/\1<=i.2.1/\i.2.1<=s.AA.length/\i.2.2.1.length = s.AA.length/\(∀x∈i.2.2.1,-1000<=x/\x<=1000 + 10 * (i.1:Int))/\i.2.2.2.2.length = i.1/\Mg i.2.2.2.1 (prs (D.take i.1) i.2.2.2.2)/\(Db s.AI l (D.drop i.1) i.2.2.1 i.2.1).map (λq=>(i.2.2.2.2 ++ q.1,q.2)) = Db s.AI l D (CI s) 1)
  (0,1,CI s,o0,[]) ⟨rfl,V,V,by dsimp only;omega,a5,λx hx=>by have:=d3 x hx;dsimp only;omega,rfl,e1,by dsimp only;rw[fk];cases Db s.AI l D (CI s) 1<;>rfl⟩ τ τ ?_
 rintro K e H ⟨k,r,tops,o2,to⟩ ⟨hR,hk,b7,b0,a6,a3,a4,Q,G⟩ he hK;subst hR;dsimp only at hk b7 b0 a6 a3 a4 Q G he hK ⊢;refine z_V ?_;refine jlt (jif (λc=>?_) (λc=>?_));rotate_left
 .have c:=z_g c;rw[dv Z] at G;rw[dh Z] at Q;exact k2 H (to,tops,o2) ⟨rfl,a6,by dsimp only;omega,by rw[<- G];simp[Db],Q⟩
 have c:k < D.length:=by have:=z_f c;omega
 have b4:=dc c;obtain⟨t,ht⟩:=e5 _ b4;have f3:=e6 t (BA ht).1;have a7:=d2 _ b4;have e4:Bh l D[k] = AH t.sh:=by unfold Bh;rw[ht]
 rw[dq c,Ib] at G;have b6:∀p∈prs (D.take k) to,p.1≠D[k]:=λp hp e=>by
  have h1:=UN hp;rw[e] at h1;obtain⟨j,hj,e2⟩:=eJ h1;rw[dp] at hj;rw[gP] at e2;have:=(List.getElem_inj hnd).1 e2;omega
 have c6:∀y:Int,prs (D.take (k + 1)) (to ++ [y]) = prs (D.take k) to ++ [(D[k],I y)]:=λy=>by
  rw[db c,Uj (by rw[dp];omega)]
 refine jci (λq:Nat × List Int × Obj × List Int=>[Pt hb,.map (some N),.map (some O),S0 tb s.AA.length s.AA.length,I q.1,rv,I D.length,I k])
  (λq=>(tb,C Ad (q.2.1.map I ++ [])) :: (O,q.2.2.1) :: ([(N,T)] ++ F))
  (λW q=>W = H/\1<=q.1/\q.1<=s.AA.length/\q.2.1.length = s.AA.length/\(∀x∈q.2.1,-1000<=x/\x<=1000 + 10 * ((k + 1:Nat):Int))/\q.2.2.2.length = k + 1/\Mg q.2.2.1 (prs (D.take (k + 1)) q.2.2.2)/\(Db s.AI l (D.drop (k + 1)) q.2.1 q.1).map (λz=>(q.2.2.2 ++ z.1,z.2)) = Db s.AI l D (CI s) 1) (λK3 k3=>?_) ?_
 rotate_left
 .rintro e W ⟨r2,b2,o3,e7⟩ ⟨hR,q1,q2,q3,q4,q5,q6,q7⟩ he;subst hR;dsimp only at q1 q2 q3 q4 q5 q6 q7 he ⊢;refine z_V ?_;exact jad (hK W (k + 1,r2,b2,o3,e7) (by dsimp only;omega) ⟨rfl,by dsimp only;omega,q1,q2,q3,q4,q5,q6,q7⟩)
 refine jiI k3 λK4 k4=>?_
 clear k3 hK k2 k1;refine C5 c4 Z Z ?_;simp only[da];refine jp (FG a7.1 a7.2) ?_;refine @jlk _ _ _ N T _ _ (Ah s.AI (AM D[k])) _ b1 Iff.rfl (jif (λhh=>?_) (λhh=>?_))
 .rw[if_pos hh] at G;refine @Ye _ _ _ 122 3 O o2 _ (prs (D.take k) to) _ _ _ HX Q λo3 a1=>?_
  rw[SR b6] at a1;refine El tb (k4 H (r,tops,o3,to ++ [D[k]]) ⟨rfl,b7,b0,a6,λx hx=>by have:=a3 x hx;omega,by simp[a4],by show Mg _ _;rw[c6];exact a1,?_⟩);dsimp only;rw[<- G,Option.map_map];congr 1;funext z;simp
 rw[if_neg (by rw[hh];decide),e4] at G;refine jnc (jfo (jlr (v:=.map (some mb)) g1 rfl ?_));refine @QM _ _ _ mb o l D[k] false (Li.fz g2) g3 (λe=>by rw[ht] at e;cases e) (λt' v' e c8=>?_);rw[ht] at e;cases e;refine FV c8 ?_;clear c8;have a0:∀{i:Nat} (hi:i < s.AA.length),(tops.map I ++ [])[0 + i * 1]? = some (I (tops[i]'(Z))):=λ{i} hi=>by
  rw[eH,fY];exact GE Z
 have a9:∀{i:Nat} (hi:i < s.AA.length),tops.getD i 0 = tops[i]'(Z):=λ{i} hi=>by
  rw[dZ,dY Z];rfl
 obtain⟨rN,b8⟩:∃rN,rN = nxt s.AI tops (AH t.sh) (tops.length + 1) r:=⟨_,rfl⟩;have c0:=W6 (AI:=s.AI) (tops:=tops) (n:=AH t.sh) (f:=tops.length + 1) (r:=r) Z;rw[<- b8] at G c0;have d1:∀i:Nat,0<=AK i/\AK i<=176:=λi=>by unfold AK;split<;>omega
 refine jci (λ_:Unit=>[Pt hb,.map (some N),.map (some O),S0 tb s.AA.length s.AA.length,I rN,I D[k],I (AH t.sh),rv,I D.length,I k]) (λ_=>(tb,C Ad (tops.map I ++ [])) :: (O,o2) :: ([(N,T)] ++ F)) (λW _=>W = H) (λK5 k5=>?_) ?_
 .refine jiI k5 λK6 k6=>?_
  refine jli (λi:Nat=>s.AA.length - i) (λi=>[Pt hb,.map (some N),.map (some O),S0 tb s.AA.length s.AA.length,I i,I D[k],I (AH t.sh),rv,I D.length,I k]) (λ_=>(tb,C Ad (tops.map I ++ [])) :: (O,o2) :: ([(N,T)] ++ F)) (λW i=>W = H/\i<=s.AA.length/\∃f,nxt s.AI tops (AH t.sh) f i = rN/\tops.length - i < f) r ⟨rfl,b0,tops.length + 1,b8.symm,Z⟩ τ τ ?_;rintro K e W i ⟨hR,hi,f,hf,f0⟩ he hK;subst hR;refine z_V ?_;refine Ce (Ce (jln (jlt ?_)));have bi:=d1 i;by_cases ca:i < s.AA.length
  .rw[decide_eq_true Z];have e9:=a3 _ (dc (l:=tops) (n:=i) Z);refine jtt (C6 λe he=>?_);refine z_V ?_;refine jtt (@jlk _ _ _ N T _ _ (Ah s.AI i) _ b1 Iff.rfl (Ce (jtt ?_)));obtain⟨f,rfl⟩:∃f',f = f' + 1:=⟨f - 1,Z⟩;cases hs:Ah s.AI i with
   | false=>
    refine jff (CC ca (jl (v:=I (tops[i]'(Z))) (a0 ca) (jad (C6 λe he=>?_))));refine z_V ?_;refine jff (jp (CP i) (Ce (jff (jad (jgr (C6 λe he=>?_))))));refine z_V ?_;refine Ce (jtt (ER (C6 λe he=>?_)));refine z_V ?_;refine EN (Ak (jff (jl (v:=I (tops[i]'(Z))) (a0 ca) jev)) (C6 λe he=>?_));refine z_V ?_;refine jif (λg=>?_) (λg=>?_)
    .have g:=z_f g;rw[N4 ⟨Z,.inr (by rw[a9 ca];omega)⟩] at hf;exact jad (hK W (i + 1) Z ⟨rfl,Z,f,hf,Z⟩)
    .have g:=z_g g;have c5:¬ (i < tops.length/\(Ah s.AI i = true\/AK i + 16 < tops.getD i 0 + AH t.sh)):=by
      rw[hs,a9 ca];rintro⟨_,g2 | g2⟩
      .cases g2
      .omega
     rw[NL c5] at hf;subst hf;exact k6 W () rfl
   | true=>
    refine jtf (C6 λe he=>?_);refine z_V ?_;refine jtf (Ce (jtf (C6 λe he=>?_)));refine z_V ?_;refine Ce (jtt (EN (C6 λe he=>?_)));refine z_V ?_;refine EN (Ak (jtf jev) (C6 λe he=>?_));refine z_V ?_;rw[N4 ⟨Z,.inl hs⟩] at hf;exact DJ (jad (hK W (i + 1) Z ⟨rfl,Z,f,hf,Z⟩))
  .rw[decide_eq_false Z];refine jft (C6 λe he=>?_);refine z_V ?_;refine jft (Ce (jft (C6 λe he=>?_)));refine z_V ?_;refine jgu (Ce (jgu (C6 λe he=>?_)));refine z_V ?_;refine Ce (jft (C6 λe he=>?_));refine z_V ?_;refine ER (Ak (jgu jev) (C6 λe he=>?_));refine z_V ?_;rw[NL (by rintro⟨g2,_⟩;omega)] at hf;subst hf;exact CK (k6 W () rfl)
 rintro e W _ hR he;subst hR;refine z_V ?_;refine jln (jeq (jif (λg=>?_) (λg=>?_)))
 .have g:(rN:Int) = s.AA.length:=by simpa using g
  rw[if_pos Z] at G;refine Ao (A:=[(N,T)]) (RM.le.refl _) ⟨rfl,?_⟩;rw[<- G];exact⟨rfl,rfl⟩
 have g:¬ (rN:Int) = s.AA.length:=by simpa using g
 rw[if_neg Z] at G;have hN:rN < s.AA.length:=Z
 rw[a9 hN] at G;have e8:=a3 _ (dc (l:=tops) (n:=rN) Z);refine CC hN (jl (v:=I (tops[rN]'(Z))) (a0 hN) ?_);refine @Ye _ _ _ 122 3 O o2 _ (prs (D.take k) to) _ _ _ HX Q λo3 a1=>?_
 rw[SR b6] at a1;refine El tb (CC hN (jl (v:=I (tops[rN]'(Z))) (a0 hN) (jad (CC hN (jsi Z ?_)))));refine k4 W (rN,tops.set rN (tops[rN]'(Z) + AH t.sh),o3,to ++ [tops[rN]'(Z)]) ⟨rfl,Z,Z,by simpa using a6,λx hx=>?_,by simp[a4],by show Mg _ _;rw[c6];exact a1,?_⟩
 .rcases fg hx with h2 | h2
  .have:=a3 x h2;omega
  .subst h2;omega
 dsimp only;rw[<- G,Option.map_map];congr 1;funext z;simp
end st
end Go.Lf
end
section
namespace Go.Lf
open Go Sm
section rules
variable {R:RM} {D:Chs} {k:Value->M}
theorem YI {v z:Value} {t w n y:Nat} {j:List Value} (h:Fz R v w n j) (hw:j.length = n * w) (hz:(cl z).length = w) (hb:y≠0) (W:y * (2 * n + 200)<=2 ^ 48) (H:∀b c sp,n<=c->sp.length = (c - n) * w->J R ((b,C t (j ++ sp)) :: D) (k (S0 b n c))) :
  J R D (BS t 0 (ZR 0 z) [] λx=>AP t w y (cl z) x v k):=by
 obtain⟨a,O,rfl,T⟩:=Fz.reads h;refine jbs (cs:=[]) rfl rfl λK=>(Ww (new:=j) ?_ hb W (λ_=>rfl) (λh0=>?_) (λN c hc=>BC (fW _ _ _) (BT ?_)))
 .intro Q G;exact T Q (St.drop (A:=[(K,C t [])]) (by simpa using G))
 .subst h0;have:j = []:=eV.1 Z;subst this;exact H K 0 [] V V
 .exact H N c _ hc (by rw[C4 (w:=w) (by intro x hx;rw[(fE.1 hx).2];exact hz)];simp)
theorem WH {q:Nat} {v:Value} {w n:Nat} {j:List Value} {x y:Operand} (e0:∀w:World,(do eqGuard .eql q x y (SN) (SN);binOp .eql q (SN) (SN):Sem Value).run P w = .ok (.bool true) w) (K:∀(a:Addr) (n c:Nat) (w:World),(do eqGuard .eql q x y (.slice (some a) n c) (SN);binOp .eql q (.slice (some a) n c) (SN):Sem Value).run P w = .ok (.bool false) w) (h:Fz R v w n j) (A:v = SN->n = 0->j = []->J R D (k (.bool true))) (G:J R D (k (.bool false))):J R D (X P (do eqGuard .eql q x y v (SN);binOp .eql q v (SN)) k):=by
 rcases h with ⟨rfl,N,O⟩ | ⟨b,o,H,t,Q,rfl,_⟩
 .exact @jxr R D k _ _ e0 (A rfl N O)
 .exact @jxr R D k _ _ (K _ _ _) G
end rules
def OwW (t w n:Nat) (cells:List Value) (v:Value) (A:Chs):Prop:=(n = 0/\v = SN/\A = [])\/∃b c sp,n<=c/\sp.length = (c - n) * w/\v = S0 b n c/\A = [(b,C t (cells ++ sp))]
section st
variable {R:RM}
theorem S9 {v:Value} {n:Nat} {j:List Value} (h:Fz R v 5 n j) (H:j.length = n * 5) (K:n < 1000000):Fn P Ff [v] R [] (λx y A=>y = R/\OwW AS 5 n j x A):=by
 refine Im λF=>?_
 refine z_1 ?_;refine @WH _ _ _ _ _ _ _ _ _ _ (λw=>by kernel_rfl) (λa n c w=>by kernel_rfl) h (λ_ h0 _=>DJ (Ao (RM.le.refl R) ⟨rfl,.inl ⟨h0,rfl,rfl⟩⟩)) (CK (YI h H rfl δ Z λb c sp D G=>Ao (RM.le.refl R) ⟨rfl,.inr ⟨b,c,sp,D,G,rfl,rfl⟩⟩))
theorem VI {v:Value} {n:Nat} {j:List Value} (h:Fz R v 1 n j) (H:j.length = n * 1) (K:n < 1000000):Fn P Fc [v] R [] (λx y A=>y = R/\OwW Az 1 n j x A):=by
 refine Ir λF=>?_
 refine z_1 ?_;refine @WH _ _ _ _ _ _ _ _ _ _ (λw=>by kernel_rfl) (λa n c w=>by kernel_rfl) h (λ_ h0 _=>DJ (Ao (RM.le.refl R) ⟨rfl,.inl ⟨h0,rfl,rfl⟩⟩)) (CK (YI h H rfl δ Z λb c sp D G=>Ao (RM.le.refl R) ⟨rfl,.inr ⟨b,c,sp,D,G,rfl,rfl⟩⟩))
theorem T6 {v:Value} {n:Nat} {j:List Value} (h:Fz R v 4 n j) (H:j.length = n * 4) (K:n < 1000000):Fn P FT [v] R [] (λx y A=>y = R/\OwW Q9 4 n j x A):=by
 refine Ik λF=>?_
 refine z_1 ?_;refine @WH _ _ _ _ _ _ _ _ _ _ (λw=>by kernel_rfl) (λa n c w=>by kernel_rfl) h (λ_ h0 _=>DJ (Ao (RM.le.refl R) ⟨rfl,.inl ⟨h0,rfl,rfl⟩⟩)) (CK (YI h H rfl δ Z λb c sp D G=>Ao (RM.le.refl R) ⟨rfl,.inr ⟨b,c,sp,D,G,rfl,rfl⟩⟩))
end st
section rules
variable {R:RM} {D:Chs}
theorem aG {t w b i f:Nat} {rows:List (List Value)} {sp:List Value} {v:Value} {D' : Chs} {m:M} (j:∀r∈rows,r.length = w) (y:i < rows.length) (A:f < w) (G:flat v = true) (x:cl v = [v]) [a:At D b (C t (rows.flatten ++ sp))] [u:Up D b (C t (rows.flatten ++ sp)) (C t ((rows.set i ((rows[i]).set f v)).flatten ++ sp)) D'] (H:J R D' m) :
  J R D (ST 1 (.pointer (some ⟨b,0 + i * w + f,none⟩)) v m):=by
 have hl:i * w + w<=(rows.flatten ++ sp).length:=by
  rw[de,C4 j,<- Nat.succ_mul];exact i7 (gQ w Z) (Nat.le_add_right _ _)
 refine js (cs':=(rows.set i ((rows[i]).set f v)).flatten ++ sp) (by rw[x];rfl) (by rw[x];simp[Bz,G]) Z ?_ H;rw[x,eH,ap hl A,GN i y j];exact LZ (by rw[fB];exact j _ (dc y)) i y j
end rules
def Hx:List Th->List (List Value)->Chs->Prop
 | [],rows,A=>rows = []/\A = []
 | t :: ts,rows,A=>∃rv rest A1 A2,rows = [rv,I t.next,.bool t.busy,I t.Aq] :: rest/\SO t.AD rv A1/\Hx ts rest A2/\A = A1 ++ A2
theorem Hx.app:∀{y:List Th} {rows:List (List Value)} {A:Chs},Hx y rows A->∀{t:Th} {rv:Value} {j:Chs},SO t.AD rv j->Hx (y ++ [t]) (rows ++ [[rv,I t.next,.bool t.busy,I t.Aq]]) (A ++ j)
 | [],rows,A,h,t,rv,j,so=>by
  obtain⟨rfl,rfl⟩:=h;exact⟨rv,[],j,[],rfl,so,⟨rfl,rfl⟩,V⟩
 | u :: y,rows,A,h,t,rv,j,so=>by
  obtain⟨x,D,G,H,rfl,K,N,rfl⟩:=h;exact⟨x,_,G,H ++ j,rfl,K,N.app so,by rw[dm]⟩
theorem Hx.len:∀{x:List Th} {rows:List (List Value)} {A:Chs},Hx x rows A->rows.length = x.length/\∀r∈rows,r.length = 4
 | [],rows,A,h=>by obtain⟨rfl,_⟩:=h;exact⟨rfl,λr j=>by cases j⟩
 | t :: x,rows,A,h=>by
  obtain⟨K,y,N,O,rfl,Q,H,rfl⟩:=h;obtain⟨D,G⟩:=H.len;exact⟨by simp[D],λr j=>by
   rcases du.1 j with rfl | j
   .rfl
   .exact G r j⟩
def cR (R:RM) (s:Sm.Aj) (v:Value) (A:Chs):Prop:=∃bw cw wsp bt tc tsp bm mc msp bh hc hsp rows Ar ov pv,s.AC.length<=cw/\wsp.length = cw - s.AC.length/\s.AA.length<=tc/\s.AQ.length<=mc/\msp.length = mc - s.AQ.length/\s.AB.length<=hc/\Hx s.AB rows Ar/\Aw R ov s.old/\Aw R pv s.AI/\
 v = .agg (eSt s (S0 bw s.AC.length cw) (S0 bt s.AA.length tc) (S0 bm s.AQ.length mc) (S0 bh s.AB.length hc) ov pv).toArray/\
 A = (bw,C Ad (s.AC.map I ++ wsp)) :: (bt,C AS (Af eRg s.AA ++ tsp)) :: (bm,C Az (s.AQ.map Value.bool ++ msp)) :: (bh,C Q9 (rows.flatten ++ hsp)) :: Ar
section st
variable {R:RM} {s:Sm.Aj} {wv tv mv thv ov pv:Value}
set_option maxHeartbeats 1000000 in
set_option maxRecDepth 8000 in
theorem WL (h:SF R s wv tv mv thv ov pv):Fn P HS [.agg (eSt s wv tv mv thv ov pv).toArray] R [] (λv Q A=>cR Q s v A):=by
 refine Ms λF=>?_
 refine z_1 ?_;have t0:=h.b.t0;have t1:=h.b.t1;have wl:=h.b.wl;have ml:=h.b.ml;have n0:=h.b.n0;have n1:=h.b.n1;have rl:=h.b.rl;have ol:=h.b.ol;have pl:=h.b.pl;refine ja λsb=>ja λgb=>jfo (jl rfl (jc (Dt h.c.w Z) ?_))
 rintro _ R1 _ _ ⟨j,_,own⟩;subst j;obtain⟨H,cw,wsp,b1,b0,rfl,rfl⟩:=own Z;refine jfo (js rfl rfl (dg rfl) rfl (jfo (jl rfl (jc (S9 h.c.t (by rw[DW (w:=5) (λ_=>rfl)]) Z) ?_))));rintro _ R2 _ _ ⟨j,own⟩;subst j;obtain⟨e,_⟩ | ⟨bt,tc,tsp,htc,htsp,rfl,rfl⟩:=own
 .omega
 refine jfo (js rfl rfl (dg rfl) rfl (jfo (jl rfl (jc (VI h.c.m V Z) ?_))));rintro _ R3 _ _ ⟨j,own⟩;subst j;obtain⟨e,_⟩ | ⟨bm,mc,msp,hmc,hmsp,rfl,rfl⟩:=own
 .omega
 refine jfo (js rfl rfl (dg rfl) rfl (jfo (jl rfl ?_)));obtain⟨rows,a1,hfz⟩:=h.c.th;have a9:=a1.1;have a8:∀r∈rows,r.length = 4:=a1.all λ_ _=>DE.len
 refine jc (T6 hfz (C4 a8) Z) ?_;rintro _ R4 _ _ ⟨j,own⟩;subst j;obtain⟨e,_⟩ | ⟨bh,hc,hsp,hhc,hhsp,rfl,rfl⟩:=own
 .omega
 rw[a9] at hhc;rw[a9];refine jfo (jS (eSt s (S0 H s.AC.length cw) (S0 bt s.AA.length tc) (S0 bm s.AQ.length mc) (S0 bh s.AB.length hc) ov pv) ?_);generalize hW:S0 H s.AC.length cw = W;generalize hT:S0 bt s.AA.length tc = T;generalize hM:S0 bm s.AQ.length mc = M0;refine Al [(bh,C 117 (rows.flatten ++ hsp)),(sb,C 50 (eSt s W T M0 (S0 bh s.AB.length hc) ov pv)),(gb,C 50 (cl z50)),(H,C Ad (s.AC.map I ++ wsp)),(bt,C AS (Af eRg s.AA ++ tsp)),(bm,C Az (s.AQ.map Value.bool ++ msp))] (G:=[] ++ F) ?_;refine jci (λ_:List (List Value) × Chs=>[Pt sb,Pt gb])
  (λq=>(bh,C 117 (q.1.flatten ++ hsp)) :: (sb,C 50 (eSt s W T M0 (S0 bh s.AB.length hc) ov pv)) :: (gb,C 50 (cl z50)) :: (H,C Ad (s.AC.map I ++ wsp)) :: (bt,C AS (Af eRg s.AA ++ tsp)) :: (bm,C Az (s.AQ.map Value.bool ++ msp)) :: (q.2 ++ ([] ++ F)))
  (λQ q=>Q = R4/\Hx s.AB q.1 q.2) (λK1 k1=>?_) ?_
 .refine jfo (jl rfl (jln ?_));refine jiI k1 λK2 k2=>?_
  refine jli (λi:Nat × List (List Value) × Chs=>s.AB.length - i.1) (λi=>[Pt sb,Pt gb,I s.AB.length,I i.1])
   (λi=>(bh,C 117 ((i.2.1 ++ rows.drop i.1).flatten ++ hsp)) :: (sb,C 50 (eSt s W T M0 (S0 bh s.AB.length hc) ov pv)) :: (gb,C 50 (cl z50)) :: (H,C Ad (s.AC.map I ++ wsp)) :: (bt,C AS (Af eRg s.AA ++ tsp)) :: (bm,C Az (s.AQ.map Value.bool ++ msp)) :: (i.2.2 ++ ([] ++ F)))
   (λQ i=>Q = R4/\i.1<=s.AB.length/\Hx (s.AB.take i.1) i.2.1 i.2.2) (0,[],[]) ⟨rfl,V,rfl,rfl⟩ τ τ ?_
  rintro K e Q ⟨i,D,O⟩ ⟨j,hi,x⟩ he hK;subst j;dsimp only at hi x he hK ⊢;refine z_V ?_;refine jlt (jif (λc=>?_) (λc=>?_));rotate_left
  .have c:=z_g c;rw[dh Z] at x;rw[dv Z,eh];exact k2 Q (D,O) ⟨rfl,x⟩
  have c:i < s.AB.length:=by have:=z_f c;omega
  obtain⟨l1,l4⟩:=x.len;rw[dp] at l1;obtain⟨rv,a2,b3⟩:=a1.2 i Z c;have b2:rows.drop i = rows[i]'(Z) :: rows.drop (i + 1):=dq Z;have Bv:∀r∈D ++ rows.drop i,r.length = 4:=λr hr=>by
   rcases eI.1 hr with h1 | h1
   .exact l4 r h1
   .exact a8 r (gH h1)
  have N:i < (D ++ rows.drop i).length:=by rw[de,fA];omega
  have a5:(D ++ rows.drop i)[i]'N = [rv,I (s.AB[i]).next,.bool (s.AB[i]).busy,I (s.AB[i]).Aq]:=by
   rw[fh Z,<- a2,gG];congr 1;omega
  have a0:((D ++ rows.drop i).flatten ++ hsp)[0 + i * 4 + 0]? = some rv:=by
   have e1:=GN (sp:=hsp) i N Bv;rw[a5] at e1;have e2:=congrArg (λz=>z[0]?) e1;simp only[hU (show 0 < 4 by omega),fJ] at e2;rw[show 0 + i * 4 + 0 = i * 4 + 0 from Z];exact e2
  have F7:∀y:Value,(D ++ rows.drop i).set i (((D ++ rows.drop i)[i]'N).set 0 y) = (D ++ [[y,I (s.AB[i]).next,.bool (s.AB[i]).busy,I (s.AB[i]).Aq]]) ++ rows.drop (i + 1):=λy=>by
   rw[a5,fd _ _ Z,b2,show i - D.length = 0 from Z,dm];rfl
  have b6:=rl _ (dc c);refine jfo (jl rfl (jfo (jl rfl (CC c (jfo (jl a0 (jc (Dt b3 Z) ?_)))))));rintro yv R5 A5 _ ⟨j,so,_⟩;subst j;obtain⟨ya,yc,hy⟩:=so.frz;refine CC c (jfo (Ak (jl rfl jev) (aG Bv N Z (by rw[hy];rfl) (by rw[hy]) (jad ?_))));rw[F7];refine BC (D':=(bh,C 117 (((D ++ [[yv,I (s.AB[i]).next,.bool (s.AB[i]).busy,I (s.AB[i]).Aq]]) ++ rows.drop (i + 1)).flatten ++ hsp)) :: (sb,C 50 (eSt s W T M0 (S0 bh s.AB.length hc) ov pv)) :: (gb,C 50 (cl z50)) :: (H,C Ad (s.AC.map I ++ wsp)) :: (bt,C AS (Af eRg s.AA ++ tsp)) :: (bm,C Az (s.AQ.map Value.bool ++ msp)) :: ((O ++ A5) ++ ([] ++ F))) ?_ (hK R5 (i + 1,_,O ++ A5) (by dsimp only;omega) ⟨rfl,c,?_⟩)
  .refine (fO (l₁:=A5)).trans ?_;simp only[zc];refine fo _ (fo _ (fo _ (fo _ (fo _ (fo _ ?_)))));simp only[zl,dm];exact List.Perm.append_left O fO
  .dsimp only;rw[db c];exact x.app so
 rintro e Q ⟨D,O⟩ ⟨j,x⟩ he;subst j;dsimp only at x ⊢;refine z_V ?_;refine jfo (jl rfl (jc (Dt h.c.o Z) ?_));rintro o2 R5 A5 _ ⟨j,b4,_⟩;subst j;refine E0 b4 λR6 a3 a6=>?_
 obtain⟨oa,oc,rfl⟩:=a6.sl;refine jfo (js rfl rfl (dg rfl) rfl (jfo (jl rfl (jc (Dt (h.c.p.le a3) Z) ?_))));rintro p2 R7 A7 _ ⟨j,b5,_⟩;subst j;refine E0 b5 λR8 a4 a7=>?_
 obtain⟨pa,pc,rfl⟩:=a7.sl;subst hW hT hM;refine jfo (js rfl rfl (dg rfl) rfl (jla (dg rfl) rfl (js rfl rfl (dg rfl) rfl (jla (dg rfl) rfl (Al [(H,C Ad (s.AC.map I ++ wsp)),(bt,C AS (Af eRg s.AA ++ tsp)),(bm,C Az (s.AQ.map Value.bool ++ msp)),(bh,C 117 (D.flatten ++ hsp))] (G:=O ++ ([] ++ F)) (Ao (A:=(H,C Ad (s.AC.map I ++ wsp)) :: (bt,C AS (Af eRg s.AA ++ tsp)) :: (bm,C Az (s.AQ.map Value.bool ++ msp)) :: (bh,C 117 (D.flatten ++ hsp)) :: O) (a3.trans a4) (⟨H,cw,wsp,bt,tc,tsp,bm,mc,msp,bh,hc,hsp,D,O,_,_,b1,b0,htc,hmc,by simpa using hmsp,hhc,x,a6.le a4,a7,rfl,rfl⟩)))))))
end st
end Go.Lf
end
section
namespace Sm
open Go.Lf
theorem Qy:∀{c w:List Int} {a:Nat},a + c.length<=w.length->CE w a c = w.take a ++ c ++ w.drop (a + c.length)
 | [],w,a,_=>by simp[CE]
 | v :: c,w,a,h=>by
  simp only[dl] at h;unfold CE;rw[show (a:Int) + 1 = ((a + 1:Nat):Int) from rfl,Qy (by simp[AU];omega)];unfold AU;simp only[da];have j:(w.take a ++ [v]).length = a + 1:=by rw[de,dp];simp;omega
  rw[List.set_eq_take_append_cons_drop,if_pos Z,show w.take a ++ v :: w.drop (a + 1) = (w.take a ++ [v]) ++ w.drop (a + 1) from V,List.take_left' j,List.drop_append,j,dv Z,gt,zl];simp only[dm,zc,zl,dl];rw[show a + 1 + (a + 1 + c.length - (a + 1)) = a + (c.length + 1) from Z]
theorem Vu {c w:List Int} {a v:Int}:CE w a (c ++ [v]) = AU (CE w a c) (a + c.length) v:=by
 rw[Hl];rfl
end Sm
namespace Go.Lf
open Go Sm
theorem PA {u:Int}:∀{xs ys:List Int},ys.length = xs.length->lk (prs xs ys) u = if u∈xs then some (I (ys.getD (xs.idxOf u) 0)) else none
 | [],[],_=>rfl
 | x :: xs,y :: ys,h=>by
  have A:=PA (u:=u) (by simpa using h);by_cases c:x = u
  .subst c;rw[if_pos V];simp[prs,lk]
  .have e:lk (prs (x :: xs) (y :: ys)) u = lk (prs xs ys) u:=by
    unfold prs lk;rw[gR,eX,gJ (by simpa using c)]
   rw[e,A];have j : ¬ u = x:=λh=>c h.symm
   by_cases d:u∈xs
   .rw[if_pos d,if_pos (eD _ d),List.idxOf_cons,beq_eq_false_iff_ne.2 c];rfl
   .rw[if_neg d,if_neg (by simp[j,d])]
section rules
variable {R:RM} {D:Chs} {k:Value->M}
theorem ZK (a:Addr) (n c:Nat) (w:World):(Builtin.copy_ #[30,30] 3 #[.slice (some a) n c,SN]).run P w = (do storeCells a (#[]:Array Value).toList;pure (goInt (Nat.min 0 n)):Sem Value).run P w:=by
 kernel_rfl
theorem dJ {b o len j n:Nat} {lo:Int} (h0:0<=lo) (A:lo<=len) (G:len<=j) (H:∀x,(lo < j->x = o + lo.toNat * n)->(x = o\/x = o + lo.toNat * n)->J R D (k (.slice (some ⟨b,x,none⟩) (len - lo.toNat) (j - lo.toNat)))) :
  J R D (SL n (.slice (some ⟨b,o,none⟩) len j) (some (I lo)) none k):=λh y=>by
 refine⟨⟨h0,Z,Z⟩,?_⟩;split
 .exact H o (λc=>Z) (.inl rfl) h y
 .exact H _ (λ_=>rfl) (.inr rfl) h y
theorem dU {b o n c lo:Nat} {sv:Value} {l j:List Int} {sp:List Value} {D' : Chs} (hl:Aw R sv l) (hn:l.length<=n) (ho:l.length≠0->o = lo) (a2:o<=j.length) (Q:lo + l.length<=j.length) [a:At D b (C Ad (j.map I ++ sp))] [u:Up D b (C Ad (j.map I ++ sp)) (C Ad ((CE j lo l).map I ++ sp)) D'] (H:J R D' (k (I l.length))) :
  J R D (X P (Builtin.copy_ #[30,30] 3 #[.slice (some ⟨b,o,none⟩) n c,sv]) k):=by
 have N:Nat.min l.length n = l.length:=Nat.min_eq_left hn;obtain⟨xa,a0,e,hr⟩:=Aw.reads hl;rcases hl with ⟨rfl,h3,h4⟩ | ⟨b2,o2,T,t2,a1,rfl,h3,h4,h5,h6⟩
 .have e0:l = []:=eV.1 h3;subst e0;have hk:∀h,St h R D->∀w:World,w.heap = h->∃v A,(Builtin.copy_ #[30,30] 3 #[.slice (some ⟨b,o,none⟩) n c,SN]).run P w = .ok v A/\BI w A/\k v A.heap:=by
   intro h hs w Q;subst Q;obtain⟨W,w1,w2,w3⟩:=GH [] o (hs.at_ b _ a.m).1 (by rw[fP,de,df];omega) rfl;obtain⟨A,K,O,e2⟩:=Ej (P:=P) b [] o 0 w W w1;refine⟨I (Nat.min 0 n:Nat),A,?_,O,?_⟩
   .rw[ZK];simp only[eM,K,dy];rfl
   rw[e2,show Nat.min 0 n = 0 from Nat.min_eq_left (Nat.zero_le _)];refine H W (hs.turn (o':=C Ad ((CE j lo []).map I ++ sp)) ?_ w3);rw[w2];unfold lay CE;simp
  exact @jX _ _ _ _ hk
 .cases e;refine @ce R D k b o n c Ad _ _ _ (l.map I) (j.map I ++ sp) ((CE j lo l).map I ++ sp) D' (by rw[N];exact hr) (by rw[df,N]) (by unfold Bz;rw[eG];intro x hx;obtain⟨y,_,rfl⟩:=eE.1 hx;rfl) a ?_ ?_ u (by rw[N];exact H)
  .rw[df,de,df];by_cases G:l.length = 0
   .omega
   .have:=ho G;omega
  .by_cases G:l.length = 0
   .have e0:l = []:=eV.1 G;subst e0;unfold lay CE;simp
   .have K:=ho G;subst K;rw[Qy Q,show o = 0 + o * 1 from Z,YV rfl Z];simp
end rules
section st
variable {R:RM} {s:Sm.Aj} {wv tv mv thv ov pv:Value} {l:List AO} {met:List Int}
def RFn (R:RM) (f:Value) (g:Int->Int) (x:Int):Prop:=∀(D:Chs) (k:Value->M),J R D (k (I (g x)))->J R D (CV P f [I x] k)
theorem bA (x:Int):RFn R (.func (.func 122) #[] #[]) (λ_=>0) x:=λD k H=>by
 refine H8 (by kernel_rfl) ?_;refine jro (v:=I 0) (D:=D) ?_ H;refine It λF=>?_
 refine z_1 ?_;exact B9 rfl
theorem WW {hb mb tb K y:Nat} {v:Value} {o:Obj} {j to:List Int} {x:Int} (Q:HpV R s wv tv mv thv ov pv l met hb mb v) (hlen:to.length = j.length) (O:R tb = some o) (N:Mg o (prs j to)) (h0:0 ∉ j) (A:R K = some (C 122 [.map (some tb)])) (hc:R y = some (C 98 [Pt hb])) (T:∃u,now l x = some u) :
  RFn R (.func (.func 117) #[] #[Pt K,Pt y]) (plc l j to) x:=λD k H=>by
 refine H8 (by kernel_rfl) (jro (Ih λF=>?_) H);refine z_3 ?_;obtain⟨u,G⟩:=T;refine jeq (jif (λh=>?_) (λh=>?_))
 .have e:x = 0:=by simpa using h
  subst e;have:now l 0 = some 0:=rfl;refine B9 ?_;unfold plc;rw[this];dsimp only;rw[if_neg h0]
 refine jlr A rfl (jlr hc rfl (jrp (Uf Q G) (Ak (jlr A rfl jev) (@VP _ _ _ 122 3 tb o (prs j to) u (I 0) false (Li.fz O) HX X0 N (B9 ?_)))));rw[PA hlen];unfold plc;rw[G];show (if u∈j then some (I (to.getD (j.idxOf u) 0)) else none).getD (I 0) = I (if u∈j then to.getD (j.idxOf u) 0 else 0);split<;>rfl
set_option maxHeartbeats 1000000 in
set_option maxRecDepth 4000 in
theorem Zk {D bw n cw d:Nat} {cs sp:List Value} {j:List Int} {t:AO} {rv nv f:Value} {g:Int->Int} (hr:Aw R rv t.refs) (hn:Aw R nv t.nums) (a1:j.length = n) (N:n<=cw) (hd:d + (2 + t.refs.length + t.nums.length)<=n) (a0:n < 1000000) (hf:∀x∈t.refs,RFn R f g x) :
  Fn P FS [.agg (eTh t rv nv).toArray,I d,f,Pt D] R [(D,C 50 (S0 bw n cw :: cs)),(bw,C Ad (j.map I ++ sp))] (λ_ y A=>y = R/\A = [(D,C 50 (S0 bw n cw :: cs)),(bw,C Ad ((CE j d (d :: AZ t.sh :: (t.refs.map g ++ t.nums))).map I ++ sp))]):=by
 refine IT λF=>?_
 refine z_4 ?_;obtain⟨ra,rc,rfl⟩:=hr.sl;obtain⟨na,nc,rfl⟩:=hn.sl;refine ja λtb=>(jfo (jl rfl (jfo (jl rfl (jad (jfo (jla (dg rfl) rfl ?_)))))))
 refine jp (Np t.sh) ?_;rw[show (d:Int) + 1 = ((d + 1:Nat):Int) from rfl];refine CC Z (Ak (jl rfl jev) (Ak (jl rfl jev) (jsi Z (CC Z (Ak (jl rfl jev) (jsi (by simp;omega) ?_))))));have T:(j.set d (d:Int)).set (d + 1) (AZ t.sh) = CE j d [(d:Int),AZ t.sh]:=by
  show _ = AU (AU j d d) (d + 1) (AZ t.sh);unfold AU;rw[show (d:Int) + 1 = ((d + 1:Nat):Int) from rfl];simp only[da]
 rw[T];refine jk3 (F:=F) tb D bw ?_;generalize hW:S0 bw n cw = W;refine jci (λ_:Unit=>[I d,Pt D,Pt tb])
  (λ_=>(tb,C 70 (eTh t (.slice ra t.refs.length rc) (.slice na t.nums.length nc))) :: (D,C 50 (W :: cs)) :: (bw,C Ad ((CE j d ([(d:Int),AZ t.sh] ++ t.refs.map g)).map I ++ sp)) :: F) (λy _=>y = R) (λK1 k1=>?_) ?_
 .refine jfo (jl rfl (jln ?_));refine jiI k1 λK2 k2=>?_
  refine jli (λi:Nat=>t.refs.length - i) (λi=>[I d,f,Pt D,Pt tb,.slice ra t.refs.length rc,I t.refs.length,I i])
   (λi=>(tb,C 70 (eTh t (.slice ra t.refs.length rc) (.slice na t.nums.length nc))) :: (D,C 50 (W :: cs)) :: (bw,C Ad ((CE j d ([(d:Int),AZ t.sh] ++ (t.refs.take i).map g)).map I ++ sp)) :: F) (λy i=>y = R/\i<=t.refs.length) 0 ⟨rfl,Z⟩ rfl V ?_
  rintro K e y i ⟨H,hi⟩ he hK;subst H;refine z_V ?_;refine jlt (jif (λc=>?_) (λc=>?_));rotate_left
  .have c:=z_g c;rw[dh Z];exact k2 y () rfl
  have c:i < t.refs.length:=by have:=z_f c;omega
  refine C5 hr Z Z ?_;simp only[da];refine jfo (jl rfl (jad (jad (hf _ (dc c) _ _ ?_))));subst hW;rw[show (d:Int) + 2 + i = ((d + 2 + i:Nat):Int) from Z];refine CC Z (Ak (jl rfl jev) (jsi (by rw[EB];omega) (jad ?_)));have e2:(CE j d ([(d:Int),AZ t.sh] ++ (t.refs.take i).map g)).set (d + 2 + i) (g t.refs[i]) = CE j d ([(d:Int),AZ t.sh] ++ (t.refs.take (i + 1)).map g):=by
   rw[db c,eS,<- dm];show _ = CE j d (_ ++ [g t.refs[i]]);rw[Vu];unfold AU;congr 1;simp only[de,dl,fP,df,dp];omega
  rw[e2];exact hK y (i + 1) Z ⟨rfl,c⟩
 rintro e y _ H he;subst H;refine z_V ?_;subst hW;refine jfo (jl rfl (jad (jfo (jl rfl (jln (jad ?_))))));rw[show (d:Int) + 2 + t.refs.length = ((d + 2 + t.refs.length:Nat):Int) from Z];refine dJ Z Z N λo' G O=>?_
 simp only[da,fY,eH] at G O ⊢;refine jfo (jl rfl ?_);have Q:t.nums.length≠0->o' = d + 2 + t.refs.length:=λh0=>G Z
 refine dU hn Z Q (by rw[EB];omega) (by rw[EB];omega) ?_;have e3:CE (CE j d ([(d:Int),AZ t.sh] ++ t.refs.map g)) ((d + 2 + t.refs.length:Nat):Int) t.nums = CE j d ((d:Int) :: AZ t.sh :: (t.refs.map g ++ t.nums)):=by
  rw[show (d:Int) :: AZ t.sh :: (t.refs.map g ++ t.nums) = ([(d:Int),AZ t.sh] ++ t.refs.map g) ++ t.nums from V,Hl (d:=t.nums)];congr 1;simp only[de,dl,fP,df];omega
 rw[e3];exact Ao (RM.le.refl _) ⟨rfl,rfl⟩
end st
end Go.Lf
end
section
namespace Sm
open Go.Lf
def Cs (AI order:List Int) (a:Int):Bool:=Ah AI (AM a) && !order.contains a
def H6 (l:List AO) (a:Int):Int × List Int:=match Av l a with | some t=>Dw t | none=>(a,[])
def ZQ (AI:List Int) (t:List Rg) (tops:List Int) (r:Nat):Rg:=if r = 0 then rv t 0 else LH AI r (tops.getD r 0)
def RB (AI:List Int) (t:List Rg) (tops:List Int):List Rg:=(List.range t.length).map (ZQ AI t tops)
def Ez (l:List AO) (order to:List Int) (t:Th):Th:=⟨t.AD.map (plc l order to),t.next,false,if t.Aq = 1 then 2 else t.Aq⟩
structure bu (s s' : Aj) (l:List AO) (order to tops:List Int):Prop where
 wd:∀xs:List Int,xs.Perm (l.map AO.at_)->s'.AC = Bp (Bp (List.replicate s.AC.length 0) ((xs.filter (Cs s.AI order)).map (H6 l))) ((order.zip to).map λp=>DI l order to p.1 p.2)
 hlen:to.length = order.length
 tl:tops.length = s.AA.length
 tb:s'.AA = RB s.AI s.AA tops
 th:s'.AB = s.AB.map (Ez l order to)
 eq:s' = ⟨s'.AC,s'.AA,List.replicate s.AQ.length false,0,false,false,s.As,0,s'.AB,[],s.AI,s.BF,s.BL + 1⟩
 rn:∀i (h:i < order.length) (h' : i < to.length),0<=to[i]/\∀t,Av l order[i] = some t->to[i] + (2 + t.refs.length + t.nums.length:Nat)<=s.AC.length
theorem Kl {w:List Int} {j:List (Int × List Int)} {b:Int × List Int}:Bp w (j ++ [b]) = CE (Bp w j) b.1 b.2:=by
 unfold Bp;rw[gy];rfl
theorem NH {AI:List Int} {t:List Rg} {tops:List Int}:(RB AI t tops).length = t.length:=by simp[RB]
theorem RY {AI:List Int} {t:List Rg} {tops:List Int} {r:Nat} (h:r < (RB AI t tops).length):(RB AI t tops)[r] = ZQ AI t tops r:=by simp[RB]
end Sm
namespace Go.Lf
open Go Sm
section rules
variable {R:RM} {D:Chs} {k:Value->M}
theorem XG (a:Addr) (n c:Nat) (w:World):(Builtin.clear_ #[47] 0 #[.slice (some a) (n + 1) c]).run P w = (do storeCells a (Builtin.zeroCells #[.bool false] (n + 1)).toList;pure (.tuple #[]):Sem Value).run P w:=by
 kernel_rfl
theorem Ql (n:Nat):(Builtin.zeroCells #[.bool false] n).toList = List.replicate n (.bool false):=by
 unfold Builtin.zeroCells;rw[i6];apply fq
 .simp
 .intro i j x;simp[Nat.mod_one]
theorem YO {b o n c t:Nat} {cs cs' : List Value} {D' : Chs} (hn:0 < n) [a:At D b (C t cs)] (Q:o + n<=cs.length) (hc:lay cs o (List.replicate n (.bool false)) = cs') [u:Up D b (C t cs) (C t cs') D'] (H:J R D' (k (.tuple #[]))) :
  J R D (X P (Builtin.clear_ #[47] 0 #[.slice (some ⟨b,o,none⟩) n c]) k):=by
 have O:∀h,St h R D->∀w:World,w.heap = h->∃v j,(Builtin.clear_ #[47] 0 #[.slice (some ⟨b,o,none⟩) n c]).run P w = .ok v j/\BI w j/\k v j.heap:=by
  intro h G w T;subst T;obtain⟨n,rfl⟩:∃m,n = m + 1:=⟨n - 1,Z⟩;obtain⟨A,w1,w2,w3⟩:=GH (List.replicate (n + 1) (.bool false)) o (G.at_ b _ a.m).1 (by rw[dw];exact Q) (by unfold Bz;rw[eG];intro x W;rw[(fE.1 W).2];rfl);obtain⟨j,K,y,N⟩:=Ej (P:=P) b (List.replicate (n + 1) (.bool false)) o 0 w A w1;refine⟨.tuple #[],j,?_,y,?_⟩
  .rw[XG,Ql];simp only[eM,K,dy];rfl
  .rw[N];exact H A (G.turn (by rw[w2,hc]) w3)
 exact @jX _ _ _ _ O
theorem cq {E:Chs} {m:M}:∀{D:List Th} {rows:List (List Value)} {A:Chs} {R:RM},Hx D rows A->(∀x,R.le x->Rw (DE x) rows D->J x E m)->J R (A ++ E) m
 | [],rows,A,R,h,H=>by
  obtain⟨rfl,rfl⟩:=h;exact H R (RM.le.refl _) Rw.nil
 | t :: D,rows,A,R,h,H=>by
  obtain⟨rv,K,A1,A2,rfl,W,Q,rfl⟩:=h;rw[dm];refine E0 W λR1 y T=>cq Q λN j G=>H N (y.trans j) ⟨by simp[G.1],λi h O=>?_⟩
  cases i with
  | zero=>exact⟨rv,rfl,T.le j⟩
  | succ i=>exact G.2 i (by simpa using h) (by simpa using O)
theorem dF {A E:Chs} {l:List Int} {v:Value} {x:Int} {i:Nat} {a m:M} (G:SO l v A) (j:i < l.length) (D:J R (A ++ E) a) (H:∀y,SO (l.set i x) v y->J R (y ++ E) m):J R (A ++ E) (IA 1 v (I (i:Int)) λq=>AND a (ST 1 q (I x) m)):=by
 rcases G with ⟨rfl,_,_⟩ | ⟨b,c,sp,hc,hsp,rfl,rfl⟩
 .exact absurd j V
 .refine CC j (Ak D (jsi j (H _ (.inr ⟨b,c,sp,by simpa using hc,by simpa using hsp,by rw[fB],rfl⟩))))
theorem Hx.split:∀{x:List Th} {rows:List (List Value)} {A:Chs} {i:Nat},Hx x rows A->(h:i < x.length)->∃rv H D K,A = H ++ (D ++ K)/\SO (x[i]).AD rv D/\rows[i]? = some [rv,I (x[i]).next,.bool (x[i]).busy,I (x[i]).Aq]/\∀(t' : Th) (j : Chs),SO t'.AD rv j->Hx (x.set i t') (rows.set i [rv,I t'.next,.bool t'.busy,I t'.Aq]) (H ++ (j ++ K))
 | [],rows,A,i,h,hi=>absurd hi V
 | t :: x,rows,A,0,h,hi=>by
  obtain⟨rv,y,H,D,rfl,Q,N,rfl⟩:=h;exact⟨rv,[],H,D,rfl,Q,rfl,λt' j G=>⟨rv,y,j,D,rfl,G,N,rfl⟩⟩
 | t :: x,rows,A,i + 1,h,hi=>by
  obtain⟨rv,y,T,B2,rfl,Q,N,rfl⟩:=h;obtain⟨O,H,D,K,rfl,R,hr,W⟩:=N.split (by simpa using hi);exact⟨O,T ++ H,D,K,V,R,hr,λt' j G=>⟨rv,_,T,_,rfl,Q,W t' j G,V⟩⟩
end rules
end Go.Lf
end
section
namespace Go.Lf
open Go Sm
section st
variable {R:RM} {s:Sm.Aj} {wv tv mv thv ov pv:Value} {l:List AO} {met:List Int}
set_option maxHeartbeats 4000000 in
set_option maxRecDepth 8000 in
theorem Ri {hb mb:Nat} {v a4:Value} {j:List Int} {r:Option Sm.Aj} (h:SF R s wv tv mv thv ov pv) (hv:HpV R s wv tv mv thv ov pv l met hb mb v) (b2:Aw R a4 j) (r7:j.length<=192) (p3:∀a∈j,∃t,Av l a = some t) (hnd:j.Nodup) (h3:∀a∈j,0 < a/\a < 1000000) (s6:∀t∈l,0<=AH t.sh/\AH t.sh<=10) (q6:(l.map AO.at_).Nodup)
  (r3:∀t∈l,0<=t.at_/\t.at_ + (2 + t.refs.length + t.nums.length:Nat)<=s.AC.length) (o6:∀a∈j,∀t,Av l a = some t->∀x∈t.refs,∃u,now l x = some u) (j8:∀t∈s.AB,∀x∈t.AD,∃u,now l x = some u)
  (e6:match Db s.AI l j (CI s) 1 with | none=>r = none | some (T,y)=>∃s',r = some s'/\bu s s' l j T y) :
  Fn P GP [Pt hb,a4] R [] (λv R' A=>A = []/\QFd r v R'):=by
 refine Jq λF=>?_
 refine z_2 ?_;have t0:=h.b.t0;have t1:=h.b.t1;have wl:=h.b.wl;have ml:=h.b.ml;have n0:=h.b.n0;have n1:=h.b.n1;have rl:=h.b.rl;have fu:=h.b.fu;refine ja λcb=>BE (b:=cb) λR0 b6 a3=>ja λgb=>?_
 have a3:R0 cb = some (C 98 [Pt hb]):=a3;have h:=h.le b6;have hv:=hv.le b6;have b2:=b2.le b6;refine jlr (v:=Pt hb) a3 rfl ?_;refine jc (A:=[]) (VA h hv) ?_;rintro _ R1 _ _ ⟨N,sb,so,rfl,j9,rfl⟩;subst N;refine jlr (v:=Pt hb) a3 rfl ?_;refine jc (A:=[(sb,so)]) (Y0 h hv b2 r7 p3 hnd j9 (λa ha=>by have:=h3 a ha;omega) s6) ?_;rintro x R2 A2 _ ⟨N,hq⟩;subst N;cases n7:Db s.AI l j (CI s) 1 with
 | none=>
  rw[n7] at hq e6;obtain⟨rfl,rfl⟩:=hq;obtain rfl:r = none:=e6;refine jex rfl (jex rfl (jex rfl (ja λkb=>jS [.map none] (DJ ?_))));refine jbd (cs:=cl z50) rfl rfl (jS (cl z50) (jla (l:=cl z50) (dg rfl) rfl ?_));exact Ao (A:=[]) b6 ⟨rfl,rfl⟩
 | some q=>
 obtain⟨T,y⟩:=q;rw[n7] at hq e6;obtain⟨s',rfl,CR⟩:=e6;obtain⟨hlen,m2,o2,tb,rfl,b7,rfl⟩:=hq;have u6:=CR.tl;refine jex rfl (jex rfl (jex rfl (ja λkb=>jS [.map (some m2)] (CK ?_))));refine BE (b:=kb) λR3 m5 b0=>BE (b:=m2) λR4 h7 b1=>BE (b:=tb) λR5 d4 b8=>?_
 have b0:=(h7.trans d4) _ _ b0;have b1:=d4 _ _ b1;have a6:=m5.trans (h7.trans d4);have a3:=a6 _ _ a3;have h:=h.le a6;have hv:=hv.le a6;have b2:=b2.le a6;have f4:=b6.trans a6;clear b6 m5 h7 d4 a6;have s7:=hv;obtain⟨o,g1,g2,g3,g4⟩:=s7;refine jlr (v:=Pt hb) a3 rfl (jnc (jfo (Da (l:=eSt s wv tv mv thv ov pv) g1 (dg rfl) rfl ?_)));refine jc (A:=[]) (WL h) ?_;rintro _ R6 _ a2 ⟨bw,cw,wsp,Q,tc,tsp,bm,mc,msp,O,hc,hsp,rows,Ar,u7,u9,n3,t6,u5,u0,t4,t8,g7,r9,f1,rfl,rfl⟩;have b0:=a2 _ _ b0;have b1:=a2 _ _ b1;have b8:=a2 _ _ b8;have a3:=a2 _ _ a3;have h:=h.le a2;have hv:=hv.le a2;have b2:=b2.le a2;have g1:=a2 _ _ g1;have g2:=a2 _ _ g2;have g3:=g3.le a2;have m4:=f4.trans a2;clear f4 a2;obtain⟨oa,oc,rfl⟩:=r9.sl;obtain⟨pa,pc,rfl⟩:=f1.sl;refine ja λD=>jS (eSt s (S0 bw s.AC.length cw) (S0 Q s.AA.length tc) (S0 bm s.AQ.length mc) (S0 O s.AB.length hc) (.slice oa s.old.length oc) (.slice pa s.AI.length pc)) ?_
 refine jfo (jl (v:=S0 bw s.AC.length cw) rfl (ae (cs':=(List.replicate s.AC.length (0:Int)).map I ++ wsp) Z V (by unfold lay;simp) ?_));obtain⟨cs,i8⟩:∃cs:List Value,cs = [S0 Q s.AA.length tc,S0 bm s.AQ.length mc,I s.Ac,.bool s.stop,.bool s.full,.bool s.As,I s.want,S0 O s.AB.length hc,.slice oa s.old.length oc,.slice pa s.AI.length pc,I s.BF,I s.BL]:=⟨_,rfl⟩;obtain⟨E,hE⟩:∃E:Chs,E = (gb,C 50 (cl z50)) :: (Q,C AS (Af eRg s.AA ++ tsp)) :: (bm,C Az (s.AQ.map Value.bool ++ msp)) :: (O,C 117 (rows.flatten ++ hsp)) :: (Ar ++ F):=⟨_,rfl⟩;obtain⟨v0,hZ⟩:∃v0:List Int,v0 = List.replicate s.AC.length 0:=⟨_,rfl⟩;have m9:v0.length = s.AC.length:=by rw[hZ,dw]
 obtain⟨W,hW⟩:∃W:Value,W = S0 bw s.AC.length cw:=⟨_,rfl⟩;refine BC (D':=(D,C 50 (W :: cs)) :: (bw,C Ad (v0.map I ++ wsp)) :: (sb,so) :: E) ?_ ?_
 .subst i8 hE hZ hW;refine fo _ (fo _ ?_);exact (eP (l₁:=_ :: _ :: _ :: Ar)).trans (fo _ (eP (l₁:=_ :: _ :: _ :: Ar)))
 obtain⟨ps,f0,j4,j5⟩:=g3;have t3:∀p∈ps,∃t∈l,p.1 = t.at_/\ThV R6 p.2 t:=λp hp=>XO (o:=o) j4 j5 hp
 have p6:ps.map Prod.fst = l.map AO.at_:=by
  apply fq (by simpa using j4);intro i h1 h2;rw[fx,fx];exact (j5 i (by simpa using h1) (by simpa using h2)).1
 have k7:∀(xs:List Int) (a:Int) (t:AO),Av l a = some t->Cs s.AI j a = true->Bp v0 (((xs ++ [a]).filter (Cs s.AI j)).map (H6 l)) = CE (Bp v0 ((xs.filter (Cs s.AI j)).map (H6 l))) a (a :: AZ t.sh :: (t.refs.map (λ_=>0) ++ t.nums)):=λxs a t ht hd=>by
  have ha:=(BA ht).2;rw[List.filter_append,List.filter_cons_of_pos hd,List.filter_nil,eS,eX,List.map_nil,Kl];unfold H6;rw[ht];unfold Dw;dsimp only;rw[ha,List.map_const']
 have c8:∀(xs:List Int) (a:Int),Cs s.AI j a = false->(xs ++ [a]).filter (Cs s.AI j) = xs.filter (Cs s.AI j):=λxs a hd=>by
  rw[List.filter_append,List.filter_cons_of_neg (by rw[hd];decide),List.filter_nil,eh]
 have e7:∀a:Int,(lk (prs j T) a).isSome = j.contains a:=λa=>by
  rw[PA hlen];by_cases c:a∈j
  .rw[if_pos c];simpa using c
  .rw[if_neg c];simpa using c
 refine jci (λ_:List Int=>[a4,Pt cb,Pt gb,.map (some sb),Pt kb,S0 tb y.length y.length,.func (.func 117) #[] #[Pt kb,Pt cb],Pt D,.func (.func 119) #[] #[Pt D]])
  (λxs=>(D,C 50 (W :: cs)) :: (bw,C Ad ((Bp v0 ((xs.filter (Cs s.AI j)).map (H6 l))).map I ++ wsp)) :: (sb,so) :: E)
  (λR' xs=>R' = R6/\xs.Perm (l.map AO.at_)) (λK1 k1=>?_) ?_
 .refine jlr (v:=Pt hb) a3 rfl (jnc (jfo (jlr (v:=.map (some mb)) g1 rfl ?_)));refine @d7 _ _ _ 101 70 mb o ps (Li.fz g2) PB f0 λib it r4=>?_
  refine jiI k1 λK2 k2=>?_
  refine jli (λi:List (Int × Value) × List (Int × Value) × Obj × Option (Int × Value)=>i.1.length) (λ_=>[a4,Pt cb,Pt gb,.map (some sb),Pt kb,S0 tb y.length y.length,.func (.func 117) #[] #[Pt kb,Pt cb],Pt D,.func (.func 119) #[] #[Pt D],Pt ib])
   (λi=>(ib,i.2.2.1) :: (D,C 50 (W :: cs)) :: (bw,C Ad ((Bp v0 (((i.2.1.map Prod.fst).filter (Cs s.AI j)).map (H6 l))).map I ++ wsp)) :: (sb,so) :: E)
   (λR' i=>R' = R6/\ps.Perm (i.2.1 ++ i.1)/\ItG mb o i.2.2.1 i.1 i.2.2.2) (ps,[],it,none) ⟨rfl,f9 _,r4⟩ rfl rfl ?_
  rintro K e R' ⟨p7,b5,s8,q0⟩ ⟨N,c6,g0⟩ he hK;subst N;dsimp only at c6 g0 he hK ⊢;refine z_V ?_;refine @cO _ _ _ mb ib o s8 _ ps p7 q0 _ (Li.fz g2) f0 g0 (λh0=>?_) (λp b4 d1 j6 f8=>?_)
  .subst h0;refine jex rfl (CK (BT (k2 _ (b5.map Prod.fst) ⟨rfl,?_⟩)));rw[<- p6];rw[eh] at c6;exact (c6.symm.map Prod.fst)
  have f1:p∈ps:=c6.mem_iff.2 (eI.2 (.inr (j6.mem_iff.2 (.head _))));obtain⟨t,ht,o3,rv,nv,o4,c7,c5⟩:=t3 p f1;have r5 : b4.length < p7.length:=by rw[j6.length_eq,dl];omega
  have n9 : ps.Perm ((b5 ++ [p]) ++ b4):=c6.trans (by
   rw[dm]
   exact List.Perm.append_left b5 j6)
  obtain⟨u8,f3⟩:=p;dsimp only at o3 o4;subst o3;obtain⟨n4,r2⟩:=r3 t ht;obtain⟨d,hd⟩:=Int.eq_ofNat_of_zero_le n4;have s4:=Dp q6 ht;refine jex rfl (DJ ?_);obtain⟨xs,f2⟩:∃xs:List Int,xs = b5.map Prod.fst:=⟨_,rfl⟩;have p5:(b5 ++ [((t.at_,f3):Int × Value)]).map Prod.fst = xs ++ [t.at_]:=by rw[eS,<- f2];rfl
  rw[<- f2];refine jci (λ_:Unit=>[a4,Pt cb,Pt gb,.map (some sb),Pt kb,S0 tb y.length y.length,.func (.func 117) #[] #[Pt kb,Pt cb],Pt D,.func (.func 119) #[] #[Pt D],Pt ib])
   (λ_=>(ib,d1) :: (D,C 50 (W :: cs)) :: (bw,C Ad ((Bp v0 (((xs ++ [t.at_]).filter (Cs s.AI j)).map (H6 l))).map I ++ wsp)) :: (sb,so) :: E)
   (λR3 _=>R3 = R') (λK3 k3=>?_) ?_
  rotate_left
  .rintro e R3 _ N he;subst N;refine z_V ?_;refine hK _ (b4,b5 ++ [(t.at_,f3)],d1,some (t.at_,f3)) (by dsimp only;omega) ⟨rfl,n9,f8⟩ |> λz=>?_
   dsimp only at z;rw[p5] at z;exact z
  refine @cC _ _ _ mb ib o d1 ps b4 (t.at_,f3) _ (Li.fz g2) f0 f8 ?_;obtain⟨ra,rc,rfl⟩:=c7.sl;obtain⟨na,nc,rfl⟩:=c5.sl;refine jex rfl (jex rfl (ja λtk=>?_));subst o4;refine jS (eTh t (.slice ra t.refs.length rc) (.slice na t.nums.length nc)) ?_;refine jlr (v:=.map (some m2)) b0 rfl ?_;refine @VP _ _ _ 122 3 m2 o2 (prs j T) t.at_ (I 0) true (Li.fz b1) HX X0 b7 ?_;rw[if_pos rfl,e7];refine jex rfl (jex rfl ?_);refine jci (λu:Value=>[a4,Pt cb,Pt gb,.map (some sb),Pt kb,S0 tb y.length y.length,.func (.func 117) #[] #[Pt kb,Pt cb],Pt D,.func (.func 119) #[] #[Pt D],I t.at_,Pt tk,Pt ib,.bool (!j.contains t.at_),u])
   (λ_=>(tk,C 70 (eTh t (.slice ra t.refs.length rc) (.slice na t.nums.length nc))) :: (ib,d1) :: (D,C 50 (W :: cs)) :: (bw,C Ad ((Bp v0 ((xs.filter (Cs s.AI j)).map (H6 l))).map I ++ wsp)) :: (sb,so) :: E)
   (λR3 u=>R3 = R'/\(j.contains t.at_ = false->u = .bool (Ah s.AI (AM t.at_)))) (λK4 k4=>?_) ?_
  .refine Dl (λg=>?_) (λg=>?_)
   .refine jp (FG n4 Z) ?_;refine @jlk _ _ _ sb so _ _ (Ah s.AI (AM t.at_)) _ j9 Iff.rfl ?_;exact k4 _ _ ⟨rfl,λ_=>rfl⟩
   .exact k4 _ _ ⟨rfl,λhh=>by rw[hh] at g;cases g⟩
  rintro e R3 u ⟨N,hu⟩ he;subst N;refine z_V ?_;cases j3:j.contains t.at_ with
  | true=>
   have i9:Cs s.AI j t.at_ = false:=by unfold Cs;rw[j3];simp
   refine ER (CK (BT ?_));have z:=k3 R3 () rfl;rw[c8 _ _ i9] at z;exact z
  | false=>
   rw[hu j3];refine EN (jif (λg=>?_) (λg=>?_));rotate_left
   .have i9:Cs s.AI j t.at_ = false:=by unfold Cs;rw[g];rfl
    have z:=k3 R3 () rfl;rw[c8 _ _ i9] at z;exact BT z
   have q8:Cs s.AI j t.at_ = true:=by unfold Cs;rw[g,j3];rfl
   refine jla (l:=eTh t (.slice ra t.refs.length rc) (.slice na t.nums.length nc)) (dg rfl) rfl ?_;refine H8 (by kernel_rfl) ?_;have z:=k3 R3 () rfl;rw[k7 xs t.at_ t s4 q8] at z;rw[hd] at z ⊢;subst hW;refine jc (A:=[(D,C 50 (S0 bw s.AC.length cw :: cs)),(bw,C Ad ((Bp v0 ((xs.filter (Cs s.AI j)).map (H6 l))).map I ++ wsp))]) (Zk (g:=λ_=>0) (d:=d) c7 c5 (by rw[CB,m9]) n3 Z Z λx _=>bA x) ?_;rintro _ R4 A4 _ ⟨N,rfl⟩;subst N;refine Al [(ib,d1),(D,C 50 (S0 bw s.AC.length cw :: cs)),(bw,C Ad ((CE (Bp v0 ((xs.filter (Cs s.AI j)).map (H6 l))) d (d :: AZ t.sh :: (t.refs.map (λ_=>0) ++ t.nums))).map I ++ wsp)),(sb,so)] (G:=E) ?_;exact z
 rintro e R' xs ⟨N,f2⟩ he;subst N;refine z_V ?_;obtain⟨w1,l3⟩:∃w1:List Int,w1 = Bp v0 ((xs.filter (Cs s.AI j)).map (H6 l)):=⟨_,rfl⟩;have g8:w1.length = s.AC.length:=by rw[l3,CB,m9]
 have a7:=CR.wd xs f2;rw[<- hZ,<- l3] at a7;rw[<- l3];have p4 : s'.AC.length = s.AC.length:=by rw[a7,CB,g8]
 obtain⟨s9,t2,o9⟩:=Aw.sl b2;refine jci (λ_:Unit=>[Pt gb,.map (some sb),S0 tb y.length y.length,.func (.func 117) #[] #[Pt kb,Pt cb],Pt D])
  (λ_=>(D,C 50 (W :: cs)) :: (bw,C Ad (s'.AC.map I ++ wsp)) :: (sb,so) :: E)
  (λR3 _=>R3 = R') (λK1 k1=>?_) ?_
 .refine Bl ⟨s9,t2,o9⟩ ?_;refine jiI k1 λK2 k2=>?_
  refine jli (λi:Nat=>j.length - i) (λi=>[Pt cb,Pt gb,.map (some sb),Pt kb,S0 tb y.length y.length,.func (.func 117) #[] #[Pt kb,Pt cb],Pt D,.func (.func 119) #[] #[Pt D],a4,I j.length,I i])
   (λi=>(D,C 50 (W :: cs)) :: (bw,C Ad ((Bp w1 (((j.zip T).take i).map λp=>DI l j T p.1 p.2)).map I ++ wsp)) :: (sb,so) :: E)
   (λR3 i=>R3 = R'/\i<=j.length) 0 ⟨rfl,Z⟩ rfl τ ?_
  rintro K e R3 i ⟨N,hi⟩ he hK;subst N;refine z_V ?_;refine jlt (jif (λc=>?_) (λc=>?_));rotate_left
  .have c:=z_g c;rw[dh (by rw[gU,hlen];omega),<- a7];exact k2 R3 () rfl
  have c:i < j.length:=by have:=z_f c;omega
  refine jci (λ_:Unit=>[Pt cb,Pt gb,.map (some sb),Pt kb,S0 tb y.length y.length,.func (.func 117) #[] #[Pt kb,Pt cb],Pt D,.func (.func 119) #[] #[Pt D],a4,I j.length,I i])
   (λ_=>(D,C 50 (W :: cs)) :: (bw,C Ad ((Bp w1 (((j.zip T).take (i + 1)).map λp=>DI l j T p.1 p.2)).map I ++ wsp)) :: (sb,so) :: E)
   (λR4 _=>R4 = R3) (λK3 k3=>?_) ?_
  rotate_left
  .rintro e R4 q N he;subst N;refine z_V ?_;exact jad (hK _ (i + 1) Z ⟨rfl,c⟩)
  refine jiI k3 λK4 k4=>?_
  have n5:=dc c;obtain⟨t,ht⟩:=p3 _ n5;obtain⟨s2,o5⟩:=CR.rn i c Z;have o5:=o5 t ht;obtain⟨d,hd⟩:=Int.eq_ofNat_of_zero_le s2;have n6:lk (prs j T) j[i] = some (I (T[i]'(Z))):=by
   refine P7 b7.nd (p:=(j[i],I (T[i]'(Z)))) ?_;unfold prs;have hz:(j[i],T[i]'(Z))∈j.zip T:=by
    have j0:i < (j.zip T).length:=by rw[gU,hlen];omega
    have:=dc j0;rwa [gL] at this
   exact eE.2 ⟨_,hz,rfl⟩
  have g5:∀(v' : Value) (k:Value->M),ThV R3 v' t->(∀x,J R3 ((D,C 50 (W :: cs)) :: (bw,C Ad ((Bp w1 (((j.zip T).take (i + 1)).map λp=>DI l j T p.1 p.2)).map I ++ wsp)) :: (sb,so) :: E) (k x))->J R3 ((D,C 50 (W :: cs)) :: (bw,C Ad ((Bp w1 (((j.zip T).take i).map λp=>DI l j T p.1 p.2)).map I ++ wsp)) :: (sb,so) :: E) (CV P (.func (.func 119) #[] #[Pt D]) [v',I (T[i]'(Z)),.func (.func 117) #[] #[Pt kb,Pt cb]] k):=λv' k c9 H=>by
   obtain⟨rv,nv,rfl,c7,c5⟩:=c9;obtain⟨ra,rc,rfl⟩:=c7.sl;obtain⟨na,nc,rfl⟩:=c5.sl;refine H8 (by kernel_rfl) ?_;have j0:i < (j.zip T).length:=by rw[gU,hlen];omega
   have n8:Bp w1 (((j.zip T).take (i + 1)).map λp=>DI l j T p.1 p.2) = CE (Bp w1 (((j.zip T).take i).map λp=>DI l j T p.1 p.2)) d (d :: AZ t.sh :: (t.refs.map (plc l j T) ++ t.nums)):=by
    rw[db j0,eS,eX,List.map_nil,Kl,gL];unfold DI;dsimp only;rw[ht,hd]
   rw[n8] at H;rw[hd];subst hW;refine jc (A:=[(D,C 50 (S0 bw s.AC.length cw :: cs)),(bw,C Ad ((Bp w1 (((j.zip T).take i).map λp=>DI l j T p.1 p.2)).map I ++ wsp))]) (Zk (g:=plc l j T) (d:=d) c7 c5 (by rw[CB,g8]) n3 Z Z λx hx=>WW hv hlen b1 b7 (λh0=>by have:=h3 0 h0;omega) b0 a3 (o6 _ n5 t ht x hx)) ?_;rintro x R4 A4 _ ⟨N,rfl⟩;subst N;exact H x
  have m1:MpT R3 o l:=⟨ps,f0,j4,j5⟩;refine C5 b2 Z Z ?_;simp only[da];refine jlr (v:=Pt hb) a3 rfl (jnc (jfo (jlr (v:=.map (some mb)) g1 rfl (jlr (v:=.map (some m2)) b0 rfl ?_))));refine Eg ?_ (Dj ?_)
  .refine @QM _ _ _ mb o l j[i] false (Li.fz g2) m1 (λe=>by rw[ht] at e;cases e) (λt' v' e c9=>?_);rw[ht] at e;cases e;refine Ak (jlr (v:=.map (some m2)) b0 rfl jev) ?_;refine @VP _ _ _ 122 3 m2 o2 (prs j T) j[i] (I 0) false (Li.fz b1) HX X0 b7 ?_;rw[n6];exact g5 v' _ c9 λx=>k4 _ () rfl
  .refine @VP _ _ _ 122 3 m2 o2 (prs j T) j[i] (I 0) false (Li.fz b1) HX X0 b7 ?_;rw[n6];refine Ak (jlr (v:=Pt hb) a3 rfl jev) (Ak (jlr (v:=.map (some mb)) g1 rfl jev) ?_);refine @QM _ _ _ mb o l j[i] false (Li.fz g2) m1 (λe=>by rw[ht] at e;cases e) (λt' v' e c9=>?_);rw[ht] at e;cases e;exact g5 v' _ c9 λx=>k4 _ () rfl
 rintro e R3 _ N he;subst N;refine z_V ?_;obtain⟨a9,f5⟩:∃a9:List Value,a9 = [S0 bm s.AQ.length mc,I s.Ac,.bool s.stop,.bool s.full,.bool s.As,I s.want,S0 O s.AB.length hc,.slice oa s.old.length oc,.slice pa s.AI.length pc,I s.BF,I s.BL]:=⟨_,rfl⟩;rw[<- f5] at i8;subst i8;subst hE;refine Al [(D,C 50 (W :: S0 Q s.AA.length tc :: a9)),(Q,C AS (Af eRg s.AA ++ tsp)),(sb,so)] (G:=(bw,C Ad (s'.AC.map I ++ wsp)) :: (gb,C 50 (cl z50)) :: (bm,C Az (s.AQ.map Value.bool ++ msp)) :: (O,C 117 (rows.flatten ++ hsp)) :: (Ar ++ F)) ?_;obtain⟨E2,l6⟩:∃E2:Chs,E2 = (bw,C Ad (s'.AC.map I ++ wsp)) :: (gb,C 50 (cl z50)) :: (bm,C Az (s.AQ.map Value.bool ++ msp)) :: (O,C 117 (rows.flatten ++ hsp)) :: (Ar ++ F):=⟨_,rfl⟩;rw[<- l6];obtain⟨TN,b9⟩:∃TN,TN = RB s.AI s.AA y:=⟨_,rfl⟩;have m8:TN.length = s.AA.length:=by rw[b9,NH]
 have q5:TN.take 1 ++ s.AA.drop 1 = s.AA:=by
  rw[b9];cases hc:s.AA with
  | nil=>rw[hc] at t0;simp at t0
  | cons x t=>
   unfold RB;rw[dl,List.range_succ_eq_map,eX];rfl
 refine jci (λ_:Unit=>[Pt gb,.func (.func 117) #[] #[Pt kb,Pt cb],Pt D]) (λ_=>(D,C 50 (W :: S0 Q s.AA.length tc :: a9)) :: (Q,C AS (Af eRg (TN) ++ tsp)) :: (sb,so) :: E2) (λR4 _=>R4 = R3) (λK1 k1=>?_) ?_
 .refine jiI k1 λK2 k2=>?_
  refine jli (λi:Nat=>s.AA.length - i) (λi=>[Pt gb,.map (some sb),S0 tb y.length y.length,.func (.func 117) #[] #[Pt kb,Pt cb],Pt D,I i]) (λi=>(D,C 50 (W :: S0 Q s.AA.length tc :: a9)) :: (Q,C AS (Af eRg (TN.take i ++ s.AA.drop i) ++ tsp)) :: (sb,so) :: E2) (λR4 i=>R4 = R3/\1<=i/\i<=s.AA.length) 1 ⟨rfl,Z,Z⟩ rfl (by show _ = (D,C 50 (W :: S0 Q s.AA.length tc :: a9)) :: (Q,C AS (Af eRg (TN.take 1 ++ s.AA.drop 1) ++ tsp)) :: (sb,so) :: E2;rw[q5];rfl) ?_;rintro K e R4 i ⟨N,r2,hi⟩ he hK;subst N;refine z_V ?_;refine jfo (jl (v:=S0 Q s.AA.length tc) rfl (jln (jlt (jif (λc=>?_) (λc=>?_)))));rotate_left
  .have c:=z_g c;rw[dh Z,dv Z,eh];exact k2 R4 () rfl
  have c:i < s.AA.length:=by have:=z_f c;omega
  have l2:=EA (l':=TN) (l:=s.AA) (k:=i) m8;have F7:∀x,((TN.take i ++ s.AA.drop i).set i x).set i (TN[i]'(Z)) = TN.take (i + 1) ++ s.AA.drop (i + 1):=λx=>by
   rw[List.set_set];exact GS m8 c
  have a8:TN[i]'(Z) = LH s.AI i (y[i]'(Z)):=by
   subst b9;rw[RY];unfold ZQ;rw[if_neg Z,dZ,dY Z];rfl
  refine jci (λ_:Unit=>[Pt gb,.map (some sb),S0 tb y.length y.length,.func (.func 117) #[] #[Pt kb,Pt cb],Pt D,I i]) (λ_=>(D,C 50 (W :: S0 Q s.AA.length tc :: a9)) :: (Q,C AS (Af eRg (TN.take (i + 1) ++ s.AA.drop (i + 1)) ++ tsp)) :: (sb,so) :: E2) (λR5 _=>R5 = R4) (λK3 k3=>?_) ?_;rotate_left
  .rintro e R5 q N he;subst N;refine z_V ?_;exact jad (hK _ (i + 1) Z ⟨rfl,Z,c⟩)
  refine jiI k3 λK4 k4=>?_
  refine jfo (jl (v:=S0 Q s.AA.length tc) rfl (jp (X9 i) (CC c (Ak (jl (v:=S0 Q s.AA.length tc) rfl jev) ?_))));refine HA (t:=TN.take i ++ s.AA.drop i) (x:=Dn i) Z ?_;have e8:(y.map I ++ [])[0 + i * 1]? = some (I (y[i]'(Z))):=by
   rw[eH,fY];exact GE Z
  refine jci (λ_:Unit=>[Pt gb,.map (some sb),S0 tb y.length y.length,.func (.func 117) #[] #[Pt kb,Pt cb],Pt D,I i,.bool (decide (y[i]'(Z) > AK i) || Ah s.AI i)]) (λ_=>(D,C 50 (W :: S0 Q s.AA.length tc :: a9)) :: (Q,C AS (Af eRg ((TN.take i ++ s.AA.drop i).set i (Dn i)) ++ tsp)) :: (sb,so) :: E2) (λR5 _=>R5 = R4) (λK5 k5=>?_) ?_
  .refine CC Z (jlr (v:=I (y[i]'(Z))) b8 e8 (jp (CP i) ?_));refine jci (λu:Value × Value=>[Pt gb,.map (some sb),S0 tb y.length y.length,.func (.func 117) #[] #[Pt kb,Pt cb],Pt D,I i,.pointer (some ⟨tb,0 + i * 1,none⟩),I (y[i]'(Z)),.bool (decide (y[i]'(Z) > AK i)),u.1,u.2]) (λ_=>(D,C 50 (W :: S0 Q s.AA.length tc :: a9)) :: (Q,C AS (Af eRg ((TN.take i ++ s.AA.drop i).set i (Dn i)) ++ tsp)) :: (sb,so) :: E2) (λR5 u=>R5 = R4/\(decide (y[i]'(Z) > AK i) = false->u = (.map (some sb),I i))) (λK6 k6=>?_) ?_
   .refine jgr (F6 (λg=>?_) (λg=>?_))
    .exact k6 R4 (.map (some sb),I i) ⟨rfl,λ_=>rfl⟩
    .exact k6 R4 (U,U) ⟨rfl,λhh=>by rw[hh] at g;cases g⟩
   rintro e R5 ⟨u1,u2⟩ ⟨N,hu⟩ he;subst N;dsimp only at he;refine z_V ?_;refine Ak (jlr (v:=I (y[i]'(Z))) b8 e8 jev) (F6 (λg=>?_) (λg=>?_))
   .have z:=k5 R5 () rfl;cases hu g;rw[g,fH] at z;refine @jlk _ _ _ sb so _ _ (Ah s.AI i) _ j9 Iff.rfl ?_;rw[g];exact ER z
   .have z:=k5 R5 () rfl;rw[g,gB] at z;rw[g];exact EN z
  rintro e R5 _ N he;subst N;refine z_V ?_;refine jif (λg=>?_) (λg=>?_)
  .refine jfo (jl (v:=S0 Q s.AA.length tc) rfl (CC Z (jlr (v:=I (y[i]'(Z))) b8 e8 (CC Z (jlr (v:=I (y[i]'(Z))) b8 e8 ?_)))));refine jbd (cs:=eRg ⟨3,-1,y[i]'(Z),y[i]'(Z),0⟩) rfl rfl (CC c ?_);refine HA (t:=(TN.take i ++ s.AA.drop i).set i (Dn i)) (x:=⟨3,-1,y[i]'(Z),y[i]'(Z),0⟩) (by rw[fB];omega) ?_;have e1:(⟨3,-1,y[i]'(Z),y[i]'(Z),0⟩:Rg) = TN[i]'(Z):=by
    rw[a8];unfold LH;rw[if_pos (by simpa using g)]
   rw[e1,F7];exact k4 _ () rfl
  .have e1:Dn i = TN[i]'(Z):=by
    rw[a8];unfold LH;rw[if_neg (by simpa using g)]
   have e2:=F7 (Dn i);rw[List.set_set,<- e1] at e2;have z:=k4 R5 () rfl;rw[<- e2] at z;exact z
 rintro e R4 _ N he;subst N;refine z_V ?_;subst l6 f5;refine jfo (jl (v:=S0 bm s.AQ.length mc) rfl (YO (cs':=(List.replicate s.AQ.length false).map Value.bool ++ msp) Z V (by unfold lay;simp) ?_));refine jfo (jS [W,S0 Q s.AA.length tc,S0 bm s.AQ.length mc,I 0,.bool s.stop,.bool s.full,.bool s.As,I s.want,S0 O s.AB.length hc,.slice oa s.old.length oc,.slice pa s.AI.length pc,I s.BF,I s.BL] ?_);refine jfo (jS [W,S0 Q s.AA.length tc,S0 bm s.AQ.length mc,I 0,.bool false,.bool s.full,.bool s.As,I s.want,S0 O s.AB.length hc,.slice oa s.old.length oc,.slice pa s.AI.length pc,I s.BF,I s.BL] ?_);refine jfo (jS [W,S0 Q s.AA.length tc,S0 bm s.AQ.length mc,I 0,.bool false,.bool false,.bool s.As,I s.want,S0 O s.AB.length hc,.slice oa s.old.length oc,.slice pa s.AI.length pc,I s.BF,I s.BL] ?_);refine jfo (jS [W,S0 Q s.AA.length tc,S0 bm s.AQ.length mc,I 0,.bool false,.bool false,.bool s.As,I 0,S0 O s.AB.length hc,.slice oa s.old.length oc,.slice pa s.AI.length pc,I s.BF,I s.BL] ?_);refine jfo (jS [W,S0 Q s.AA.length tc,S0 bm s.AQ.length mc,I 0,.bool false,.bool false,.bool s.As,I 0,S0 O s.AB.length hc,SN,.slice pa s.AI.length pc,I s.BF,I s.BL] ?_);refine jfo (jl (v:=I s.BL) rfl (jad (jfo (jS [W,S0 Q s.AA.length tc,S0 bm s.AQ.length mc,I 0,.bool false,.bool false,.bool s.As,I 0,S0 O s.AB.length hc,SN,.slice pa s.AI.length pc,I s.BF,I (s.BL + 1)] ?_))));obtain⟨a1,c4⟩:∃a1:List Value,a1 = [W,S0 Q s.AA.length tc,S0 bm s.AQ.length mc,I 0,.bool false,.bool false,.bool s.As,I 0,S0 O s.AB.length hc,SN,.slice pa s.AI.length pc,I s.BF,I (s.BL + 1)]:=⟨_,rfl⟩;rw[<- c4];have n2:a1[0 + 8]? = some (S0 O s.AB.length hc):=by rw[c4];rfl
 refine Al [(O,C 117 (rows.flatten ++ hsp)),(D,C 50 a1)] (G:=(Q,C AS (Af eRg TN ++ tsp)) :: (sb,so) :: (bw,C Ad (s'.AC.map I ++ wsp)) :: (gb,C 50 (cl z50)) :: (bm,C Az ((List.replicate s.AQ.length false).map Value.bool ++ msp)) :: (Ar ++ F)) ?_;obtain⟨G1,l8⟩:∃G1:Chs,G1 = (Q,C AS (Af eRg TN ++ tsp)) :: (sb,so) :: (bw,C Ad (s'.AC.map I ++ wsp)) :: (gb,C 50 (cl z50)) :: (bm,C Az ((List.replicate s.AQ.length false).map Value.bool ++ msp)) :: F:=⟨_,rfl⟩;refine BC (D':=(O,C 117 (rows.flatten ++ hsp)) :: (D,C 50 a1) :: (Ar ++ G1)) ?_ ?_
 .rw[l8];exact fo _ (fo _ (gA [_,_,_,_,_] Ar F))
 have u4:=g7.len;refine jci (λ_:List (List Value) × Chs=>[Pt gb,Pt D])
  (λq=>(O,C 117 (q.1.flatten ++ hsp)) :: (D,C 50 a1) :: (q.2 ++ G1))
  (λR5 q=>R5 = R4/\Hx s'.AB q.1 q.2) (λK1 k1=>?_) ?_
 .refine jfo (jl (v:=S0 O s.AB.length hc) n2 (jln ?_));refine jiI k1 λK2 k2=>?_
  obtain⟨a5,h6⟩:∃a5 : List Th,a5 = s.AB.map (Ez l j T):=⟨_,rfl⟩;have d3:a5.length = s.AB.length:=by rw[h6,df]
  refine jli (λi:Nat × List (List Value) × Chs=>s.AB.length - i.1) (λi=>[Pt gb,.func (.func 117) #[] #[Pt kb,Pt cb],Pt D,I s.AB.length,I i.1])
   (λi=>(O,C 117 (i.2.1.flatten ++ hsp)) :: (D,C 50 a1) :: (i.2.2 ++ G1))
   (λR5 i=>R5 = R4/\i.1<=s.AB.length/\Hx (a5.take i.1 ++ s.AB.drop i.1) i.2.1 i.2.2) (0,rows,Ar) ⟨rfl,V,g7⟩ τ τ ?_
  rintro K e R5 ⟨i,a0,A⟩ ⟨N,hi,hT⟩ he hK;subst N;dsimp only at hi hT he hK ⊢;refine z_V ?_;refine jlt (jif (λc=>?_) (λc=>?_));rotate_left
  .have c:=z_g c;rw[dh Z,dv Z,eh,h6,<- CR.th] at hT;exact k2 R5 (a0,A) ⟨rfl,hT⟩
  have c:i < s.AB.length:=by have:=z_f c;omega
  have l2:i < (a5.take i ++ s.AB.drop i).length:=by rw[EA d3];exact c
  have q9:(a5.take i ++ s.AB.drop i)[i] = s.AB[i]:=JU d3 c l2;have j2:(a5.take i ++ s.AB.drop i).set i (Ez l j T s.AB[i]) = a5.take (i + 1) ++ s.AB.drop (i + 1):=by
   have e1:Ez l j T s.AB[i] = a5[i]'(Z):=by subst h6;rw[fx]
   rw[e1];exact GS d3 c
  obtain⟨rv,A1,A2,A3,rfl,l5,a8,r6⟩:=hT.split (i:=i) l2;rw[q9] at l5 a8;have o8:=hT.len;rw[EA d3] at o8;have j7:∀r∈a0,r.length = 4:=o8.2;have e9:i < a0.length:=Z
  have o7:a0[i] = [rv,I (s.AB[i]).next,.bool (s.AB[i]).busy,I (s.AB[i]).Aq]:=by
   rw[dY e9] at a8;exact fN a8
  have c0:∀(f:Nat) (x:Value),f < 4->[rv,I (s.AB[i]).next,.bool (s.AB[i]).busy,I (s.AB[i]).Aq][f]? = some x->(a0.flatten ++ hsp)[0 + i * 4 + f]? = some x:=λf x hf hx=>by
   have e1:=GN (sp:=hsp) i e9 j7;rw[o7] at e1;have e2:=congrArg (λz=>z[f]?) e1;simp only[hU hf,fJ] at e2;rw[show 0 + i * 4 + f = i * 4 + f from Z,e2,hx]
  have b3:∀A' : Chs,(A' ++ ((O,C 117 (a0.flatten ++ hsp)) :: (D,C 50 a1) :: (A1 ++ (A3 ++ G1)))).Perm ((O,C 117 (a0.flatten ++ hsp)) :: (D,C 50 a1) :: ((A1 ++ (A' ++ A3)) ++ G1)):=λA'=>by
   refine (gA A' [_,_] _).trans ?_;refine fo _ (fo _ ?_);refine (gA A' A1 _).trans ?_;simp only[dm];exact f9 _
  have u3:=rl _ (dc c);refine jci (λ_:List (List Value) × Chs=>[Pt gb,.func (.func 117) #[] #[Pt kb,Pt cb],Pt D,I s.AB.length,I i]) (λq=>(O,C 117 (q.1.flatten ++ hsp)) :: (D,C 50 a1) :: (q.2 ++ G1))
   (λR6 q=>R6 = R5/\Hx (a5.take (i + 1) ++ s.AB.drop (i + 1)) q.1 q.2) (λK3 k3=>?_) ?_
  rotate_left
  .rintro e R6 q ⟨N,hq⟩ he;subst N;refine z_V ?_;exact jad (hK _ (i + 1,q.1,q.2) (by dsimp only;omega) ⟨rfl,c,hq⟩)
  refine jiI k3 λK4 k4=>?_
  refine jfo (jl (v:=S0 O s.AB.length hc) n2 (CC c ?_));refine jci (λ_:Chs=>[Pt gb,.func (.func 117) #[] #[Pt kb,Pt cb],Pt D,.pointer (some ⟨O,0 + i * 4,none⟩),I s.AB.length,I i]) (λA'=>A' ++ ((O,C 117 (a0.flatten ++ hsp)) :: (D,C 50 a1) :: (A1 ++ (A3 ++ G1)))) (λR6 A'=>R6 = R5/\SO ((s.AB[i]).AD.map (plc l j T)) rv A') (λK5 k5=>?_) ?_
  .refine jnc (jfo (jl (v:=rv) (c0 0 rv Z rfl) (Bl l5.sln ?_)));refine BC (b3 A2).symm ?_;refine jiI k5 λK6 k6=>?_
   refine jli (λk:Nat × Chs=>(s.AB[i]).AD.length - k.1) (λk=>[Pt gb,.func (.func 117) #[] #[Pt kb,Pt cb],Pt D,.pointer (some ⟨O,0 + i * 4,none⟩),I s.AB.length,I i,rv,I (s.AB[i]).AD.length,I k.1]) (λk=>k.2 ++ ((O,C 117 (a0.flatten ++ hsp)) :: (D,C 50 a1) :: (A1 ++ (A3 ++ G1))))
    (λR6 k=>R6 = R5/\k.1<=(s.AB[i]).AD.length/\SO (((s.AB[i]).AD.map (plc l j T)).take k.1 ++ (s.AB[i]).AD.drop k.1) rv k.2) (0,A2) ⟨rfl,V,l5⟩ τ τ ?_
   rintro K e R6 ⟨k,A'⟩ ⟨N,hk,d2⟩ he l9;subst N;dsimp only at hk d2 he l9 ⊢;refine z_V ?_;refine jlt (jif (λc2=>?_) (λc2=>?_));rotate_left
   .have c2:=z_g c2;rw[dh (by rw[df];omega),dv Z,eh] at d2;exact k6 R6 A' ⟨rfl,d2⟩
   have c2:k < (s.AB[i]).AD.length:=by have:=z_f c2;omega
   have j1:((s.AB[i]).AD.map (plc l j T)).length = (s.AB[i]).AD.length:=df _;have t9:=EA (l':=(s.AB[i]).AD.map (plc l j T)) (l:=(s.AB[i]).AD) (k:=k) j1;refine @Vc _ _ _ _ _ A' _ k d2 ⟨f9 _⟩ Z ?_;rw[JU j1 c2];refine jnc (jfo ?_);have m0:∀{k:Value->M},J R6 (A' ++ ((O,C 117 (a0.flatten ++ hsp)) :: (D,C 50 a1) :: (A1 ++ (A3 ++ G1)))) (k rv)->J R6 (A' ++ ((O,C 117 (a0.flatten ++ hsp)) :: (D,C 50 a1) :: (A1 ++ (A3 ++ G1)))) (L1 (.pointer (some ⟨O,0 + i * 4 + 0,none⟩)) k):=λH=>BC (b3 A') (jl (v:=rv) (c0 0 rv Z rfl) (BC (b3 A').symm H))
   refine m0 ?_;refine WW hv hlen b1 b7 (λh0=>by have:=h3 0 h0;omega) b0 a3 (j8 _ (dc c) _ (dc c2)) _ _ ?_;refine dF d2 Z (m0 jev) λA4 p8=>jad (l9 _ (k + 1,A4) (by dsimp only;omega) ⟨rfl,c2,?_⟩)
   have e1:plc l j T (s.AB[i]).AD[k] = ((s.AB[i]).AD.map (plc l j T))[k]'(Z):=by rw[fx]
   rw[e1,GS j1 c2] at p8;exact p8
  rintro e R6 A' ⟨N,p9⟩ he;subst N;refine z_V ?_;refine BC (b3 A') ?_;obtain⟨ra,rc,t5⟩:=p9.sln;have hz:=k4 R6;have a7:∀tr:Int,tr = (if (s.AB[i]).Aq = 1 then 2 else (s.AB[i]).Aq)->J R6 ((O,C 117 ((a0.set i [rv,I (s.AB[i]).next,.bool false,I tr]).flatten ++ hsp)) :: (D,C 50 a1) :: ((A1 ++ (A' ++ A3)) ++ G1)) (K4 [Pt gb,.func (.func 117) #[] #[Pt kb,Pt cb],Pt D,I s.AB.length,I i]):=λtr s5=>by
   have e1:=r6 (Ez l j T s.AB[i]) A' p9;rw[j2] at e1;subst s5;exact k4 R6 (_,_) ⟨rfl,e1⟩
  refine jnc (jfo ?_);refine aG (rows:=a0) (i:=i) (f:=2) j7 e9 Z rfl rfl ?_;rw[o7];have g6 : ∀r∈a0.set i [rv,I (s.AB[i]).next,.bool false,I (s.AB[i]).Aq],r.length = 4:=λr hr=>by
   rcases fg hr with h1 | h1
   .exact j7 r h1
   .rw[h1];rfl
  have f6 : i < (a0.set i [rv,I (s.AB[i]).next,.bool false,I (s.AB[i]).Aq]).length:=by rw[fB];exact e9
  have e5 : ((a0.set i [rv,I (s.AB[i]).next,.bool false,I (s.AB[i]).Aq]).flatten ++ hsp)[0 + i * 4 + 3]? = some (I (s.AB[i]).Aq):=by
   have e1:=GN (sp:=hsp) i f6 g6;rw[List.getElem_set_self] at e1;have e2:=congrArg (λz=>z[3]?) e1;simp only[hU (show 3 < 4 by omega),fJ] at e2;rw[show 0 + i * 4 + 3 = i * 4 + 3 from Z,e2];rfl
  refine jnc (jfo (jl (v:=I (s.AB[i]).Aq) e5 (jeq (jif (λg=>?_) (λg=>?_)))))
  .have g:(s.AB[i]).Aq = 1:=by simpa using g
   refine jnc (jfo (aG (rows:=a0.set i [rv,I (s.AB[i]).next,.bool false,I (s.AB[i]).Aq]) (i:=i) (f:=3) g6 f6 Z rfl rfl ?_));rw[List.getElem_set_self,List.set_set];exact a7 2 (by rw[if_pos g])
  .have g:¬ (s.AB[i]).Aq = 1:=by simpa using g
   exact a7 _ (by rw[if_neg g])
 rintro e R5 ⟨l4,AE⟩ ⟨N,hT⟩ he;subst N;dsimp only at hT ⊢;refine z_V ?_;subst hW c4 l8;refine BC (D':=AE ++ ((O,C 117 (l4.flatten ++ hsp)) :: (D,C 50 [S0 bw s.AC.length cw,S0 Q s.AA.length tc,S0 bm s.AQ.length mc,I 0,.bool false,.bool false,.bool s.As,I 0,S0 O s.AB.length hc,SN,.slice pa s.AI.length pc,I s.BF,I (s.BL + 1)]) :: (Q,C AS (Af eRg TN ++ tsp)) :: (sb,so) :: (bw,C Ad (s'.AC.map I ++ wsp)) :: (gb,C 50 (cl z50)) :: (bm,C Az ((List.replicate s.AQ.length false).map Value.bool ++ msp)) :: F)) (gA [_,_] AE _) ?_;refine cq hT λR6 a2 s3=>?_
 refine jla (l:=[S0 bw s.AC.length cw,S0 Q s.AA.length tc,S0 bm s.AQ.length mc,I 0,.bool false,.bool false,.bool s.As,I 0,S0 O s.AB.length hc,SN,.slice pa s.AI.length pc,I s.BF,I (s.BL + 1)]) (dg rfl) rfl ?_;refine jS [S0 bw s.AC.length cw,S0 Q s.AA.length tc,S0 bm s.AQ.length mc,I 0,.bool false,.bool false,.bool s.As,I 0,S0 O s.AB.length hc,SN,.slice pa s.AI.length pc,I s.BF,I (s.BL + 1)] ?_;refine jla (l:=[S0 bw s.AC.length cw,S0 Q s.AA.length tc,S0 bm s.AQ.length mc,I 0,.bool false,.bool false,.bool s.As,I 0,S0 O s.AB.length hc,SN,.slice pa s.AI.length pc,I s.BF,I (s.BL + 1)]) (dg rfl) rfl ?_;refine BE (b:=O) λR7 q4 h9=>BE (b:=Q) λR8 m6 e4=>BE (b:=bw) λR9 h8 i4=>BE (b:=bm) λRA e3 q7=>?_
 have h9:=(m6.trans (h8.trans e3)) _ _ h9;have e4:=(h8.trans e3) _ _ e4;have i4:=e3 _ _ i4;have h5:=q4.trans (m6.trans (h8.trans e3));have m7:s'.AA.length = s.AA.length:=by rw[CR.tb,NH]
 have t7:s'.AB.length = s.AB.length:=by rw[CR.th,df]
 have m3:s'.AQ = List.replicate s.AQ.length false:=by rw[CR.eq]
 have q1:s'.AQ.length = s.AQ.length:=by rw[m3,dw]
 have q3:s'.AI = s.AI:=by rw[CR.eq]
 have q2:s'.old = []:=by rw[CR.eq]
 refine Ao (A:=[]) (m4.trans (a2.trans h5)) ⟨rfl,?_⟩;refine⟨S0 bw s.AC.length cw,S0 Q s.AA.length tc,S0 bm s.AQ.length mc,S0 O s.AB.length hc,SN,.slice pa s.AI.length pc,⟨?_,?_,?_,?_,?_,?_⟩,?_,?_⟩
 .rw[<- p4];exact MR i4 V Z
 .rw[<- m7,CR.tb,<- b9];exact MR e4 (by rw[DW (w:=5) (λ_=>rfl)]) Z
 .rw[<- q1,m3];exact MR q7 V (by simp;omega)
 .refine⟨l4,s3.mono λ_ _=>DE.le h5,?_⟩;have h4:=hT.len;rw[show s.AB.length = l4.length from Z];exact MR h9 (C4 h4.2) Z
 .rw[q2];exact .inl ⟨rfl,rfl,rfl⟩
 .rw[q3];exact f1.le (a2.trans h5)
 .exact⟨Q,tc,tsp,by rw[m7],by rw[CR.tb,<- b9];exact e4,Z⟩
 .have:eSt s' (S0 bw s.AC.length cw) (S0 Q s.AA.length tc) (S0 bm s.AQ.length mc) (S0 O s.AB.length hc) (SN) (.slice pa s.AI.length pc) = [S0 bw s.AC.length cw,S0 Q s.AA.length tc,S0 bm s.AQ.length mc,I 0,.bool false,.bool false,.bool s.As,I 0,S0 O s.AB.length hc,SN,.slice pa s.AI.length pc,I s.BF,I (s.BL + 1)]:=by
   rw[CR.eq];rfl
  rw[this]
end st
end Go.Lf
end
section
namespace Sm
open Go.Lf
theorem KZ {l:List AO} {AJ to:List Int} (hlen:to.length = AJ.length):∀{xs ys:List Int},DA l AJ to xs = some ys->ys = xs.map (plc l AJ to)
 | [],ys,h=>by cases h;rfl
 | a :: r,ys,h=>by
  unfold DA at h;simp only[di,z_i] at h;obtain⟨u,A,b,hb,zs,D,e⟩:=h;cases e;rw[eX,<- KZ hlen D];congr 1;unfold plc;rw[A];dsimp only;by_cases c:u∈AJ
  .have y:=(DC).1 c;have x:Ba AJ u = (AJ.idxOf u:Nat):=by unfold Ba;rw[if_pos c]
   rw[if_neg Z] at hb;rw[if_pos c];have j:AJ.idxOf u < to.length:=by rw[hlen];exact fC c
   rw[x] at hb;unfold idx at hb;rw[if_pos Z] at hb;simp only[da,dY j,dx] at hb;rw[dZ,dY j,eR,hb]
  .have y:=(DC).2 c;rw[if_pos Z] at hb;cases hb;rw[if_neg c]
theorem En {l:List AO} {AJ to:List Int} (hlen:to.length = AJ.length):∀{x j : List Th},DZ l AJ to x = some j->j = x.map (Ez l AJ to)
 | [],j,h=>by cases h;rfl
 | t :: r,j,h=>by
  unfold DZ at h;simp only[di,z_i] at h;obtain⟨u,y,zs,A,e⟩:=h;cases e;rw[eX,<- En hlen A];unfold Ez;rw[<- KZ hlen y]
theorem J2 {t:AO}:(Dw t).2.length = 2 + t.refs.length + t.nums.length:=by
 unfold Dw;simp only[dl,de,dw];omega
theorem Yr {s s' : Aj} {l:List AO} {b0 AJ to tops:List Int} (hf:HpF s l b0) (O:Od b0 AJ) (b6:s.AQ.length = s.AC.length) (A:DP s s' l AJ to tops):bu s s' l AJ to tops:=by
 obtain⟨G,T,-⟩:=EU hf.ths;have hS:=hf.S;have a6:∀t∈l,16<=t.at_/\t.at_ + (2 + t.refs.length + t.nums.length:Nat)<=s.AC.length:=λt y=>by
  obtain⟨K,Q⟩:=T.all t y;have i:=G.inn K;have j:=(E4 G K).2.2;rw[<- Q] at j;omega
 have a0:∀i (h:i < AJ.length) (h' : i < to.length),(AJ[i],to[i])∈AJ.zip to:=λi h h'=>by
  have b5:i < (AJ.zip to).length:=by rw[gU];omega
  have:=dc b5;rwa [gL] at this
 have R:∀(w:List Int),w.length = s.AC.length->∀b∈(AJ.zip to).map λp=>DI l AJ to p.1 p.2,0<=b.1/\b.1 + b.2.length<=w.length:=λw hw b hb=>by
  obtain⟨p,hp,rfl⟩:=eE.1 hb;obtain⟨K,Q⟩:=A.rn p hp;unfold DI;dsimp only;refine⟨Z,?_⟩;cases y:Av l p.1 with
  | none=>
   have a7:=(fR hp).1;rw[O.m] at a7;obtain⟨t,a9⟩:=hf.M.th _ a7;rw[y] at a9;cases a9
  | some t=>
   have h3:=(Q t y).1;dsimp only;rw[hw];simp only[dl,de,df];omega
 have a3:∀(w:List Int),w.length = s.AC.length->∀t∈l,0<=(Dw t).1/\(Dw t).1 + (Dw t).2.length<=w.length:=λw hw t y=>by
  have h:=a6 t y;rw[J2,hw];show 0<=t.at_/\t.at_ + _<=_;omega
 refine⟨λxs b8=>?_,A.hlen,A.tl.1.trans A.tn,?_,En A.hlen A.th,?_,λi h h'=>?_⟩
 .rw[A.wd];obtain⟨c4,hZ⟩:∃c4:List Int,c4 = List.replicate s.AC.length 0:=⟨_,rfl⟩;have N:c4.length = s.AC.length:=by rw[hZ,dw]
  rw[<- hZ];have b9:∀{b c:Int × List Int},(∀x,¬ (inB b x/\inB c x))->∀x,¬ (inB c x/\inB b x):=λh x hx=>h x ⟨hx.2,hx.1⟩
  have b1:∀t∈l,H6 l t.at_ = Dw t:=λt y=>by
   unfold H6;rw[Dp hS.nd y]
  have D:((xs.filter (Cs s.AI AJ)).map (H6 l)).Perm ((l.filter λt=>Cs s.AI AJ t.at_).map Dw):=by
   refine ((b8.filter _).map _).trans ?_;rw[List.filter_map,gI];refine List.Perm.of_eq (fD λt y=>(b1 t (fI.1 y).1))
  have W:((l.filter λt=>Cs s.AI AJ t.at_).map Dw).Sublist ((l.filter λx=>Ah s.AI (AM x.at_)).map Dw):=by
   refine List.Sublist.map _ ?_;have e:(l.filter λt=>Cs s.AI AJ t.at_) = (l.filter λx=>Ah s.AI (AM x.at_)).filter λt=>!AJ.contains t.at_:=by
    rw[List.filter_filter];congr 1;funext t;unfold Cs;rw[Bool.and_comm]
   rw[e];exact List.filter_sublist
  have b7:((xs.filter (Cs s.AI AJ)).map (H6 l)).Pairwise (λb c=>∀x,¬ (inB b x/\inB c x)):=(D.pairwise_iff b9).2 (A.dd.sublist W);have b2:∀b∈(xs.filter (Cs s.AI AJ)).map (H6 l),∃t∈l,Cs s.AI AJ t.at_ = true/\b = Dw t:=λb hb=>by
   obtain⟨t,y,rfl⟩:=eE.1 (D.mem_iff.1 hb);exact⟨t,(fI.1 y).1,(fI.1 y).2,rfl⟩
  have a4:∀b∈(l.filter λx=>Ah s.AI (AM x.at_)).map Dw,∃t∈l,Ah s.AI (AM t.at_) = true/\b = Dw t:=λb hb=>by
   obtain⟨t,y,rfl⟩:=eE.1 hb;exact⟨t,(fI.1 y).1,(fI.1 y).2,rfl⟩
  have a1:∀b∈(l.filter λx=>Ah s.AI (AM x.at_)).map Dw,0<=b.1/\b.1 + b.2.length<=c4.length:=λb hb=>by
   obtain⟨t,y,_,rfl⟩:=a4 b hb;exact a3 c4 N t y
  have a2:∀b∈(xs.filter (Cs s.AI AJ)).map (H6 l),0<=b.1/\b.1 + b.2.length<=c4.length:=λb hb=>by
   obtain⟨t,y,_,rfl⟩:=b2 b hb;exact a3 c4 N t y
  refine Y1 (by simp only[CB]) λx hx=>?_
  by_cases cL:∃b∈(AJ.zip to).map λp=>DI l AJ to p.1 p.2,inB b x
  .obtain⟨b,hb,H⟩:=cL;rw[Ek (R _ (by rw[CB,N])) A.hd hb H,Ek (R _ (by rw[CB,N])) A.hd hb H]
  have cL:∀b∈(AJ.zip to).map λp=>DI l AJ to p.1 p.2,¬ inB b x:=λb hb h=>cL ⟨b,hb,h⟩
  rw[ED (R _ (by rw[CB,N])) hx cL,ED (R _ (by rw[CB,N])) hx cL];by_cases c2:∃b∈(xs.filter (Cs s.AI AJ)).map (H6 l),inB b x
  .obtain⟨b,hb,H⟩:=c2;rw[Ek a2 b7 hb H,Ek a1 A.dd (W.subset (D.mem_iff.1 hb)) H]
  rw[ED a2 hx λb hb h=>c2 ⟨b,hb,h⟩];refine ED a1 hx λb hb H=>?_
  obtain⟨t,y,hh,rfl⟩:=a4 b hb;have c0:=a6 t y;by_cases ca:t.at_∈AJ
  .obtain⟨i,hi,a5⟩:=eJ ca;have b4 : i < to.length:=by rw[A.hlen];exact hi
   have hz:=a0 i hi b4;have a8:AM t.at_ = t.at_ / 16:=Bc Z;rcases A.rg _ hz with ⟨K,Q⟩ | ⟨K,Q⟩
   .dsimp only at K Q;refine cL _ (eE.2 ⟨_,hz,rfl⟩) ?_;dsimp only;rw[Q,a5];unfold inB DI;dsimp only;rw[Dp hS.nd y];dsimp only;have h3:=H;unfold inB at h3;rw[J2] at h3;simp only[dl,de,df];have h4:(Dw t).1 = t.at_:=rfl;omega
   .dsimp only at K;rw[a5,<- a8,hh] at K;cases K
  .refine c2 ⟨Dw t,D.mem_iff.2 (eE.2 ⟨t,fI.2 ⟨y,?_⟩,rfl⟩),H⟩;unfold Cs;rw[hh];simpa using ca
 .apply fq (by rw[NH,A.tn]);intro i K Q;rw[RY];have b3:rv s'.AA i = s'.AA[i]:=by
   unfold rv gv;simp only[da,dZ,dY K,eR]
  rw[<- b3];unfold ZQ;by_cases c:i = 0
  .subst c;rw[if_pos rfl,G.ok.e];exact A.e0
  .rw[if_neg c,A.tl.2 i Z K];exact A.rw_ i Z (by rw[A.tn] at K;omega)
 .have e:=A.eq;rw[b6];exact e
 .obtain⟨K,Q⟩:=A.rn _ (a0 i h h');exact⟨by dsimp only at K;omega,λt y=>(Q t y).1⟩
end Sm
end
section
namespace Go.Lf
open Go Sm
theorem Wu {n:Nat} {a z:Int} (h:fits n a z = true) (K:2<=z):fits n a 2 = true:=by
 obtain⟨A,D,G,H⟩:=FH h;unfold fits at h ⊢;simp only[z_b,z_d,beq_iff_eq] at h ⊢;obtain⟨⟨⟨⟨⟨p0,p1⟩,p2⟩,x⟩,y⟩,j⟩:=h;refine⟨⟨⟨⟨⟨p0,δ⟩,δ⟩,x⟩,y⟩,?_⟩;unfold AM at j ⊢;rw[if_neg Z,if_neg Z] at j;rw[if_neg Z,if_neg Z];omega
theorem ba {w:List Int} {a:Int} {sh:Shp} (j:fits w.length a 2 = true) (x:AT (w.getD (a.toNat + 1) 0) = (sh,true)) (y:fits w.length a (AH sh) = true) :
  Ap w a = (⟨a,w.getD a.toNat 0,sh,seg w (a + 2) sh.refs,seg w (a + 2 + sh.refs) sh.nums⟩,true):=by
 unfold Ap;rw[if_pos j,x];dsimp only;rw[y];rfl
theorem aB {w:List Int} {a:Int} (h:(Ap w a).2 = true):∃sh,AT (w.getD (a.toNat + 1) 0) = (sh,true)/\fits w.length a 2 = true/\fits w.length a (AH sh) = true:=by
 unfold Ap at h;split at h
 .rename_i h0;dsimp only at h;split at h
  .rename_i j;simp only[z_b] at j;exact⟨(AT (w.getD (a.toNat + 1) 0)).1,Prod.ext rfl j.1,h0,j.2⟩
  .cases h
 .cases h
end Go.Lf
end
section
namespace Sm
open Go.Lf
theorem WA {w xs:List Int} {a n:Int} (h0:0<=a) (A:(xs.length:Int) = n) (hb:a + n<=w.length) (h:∀j:Nat,j < xs.length->wv w (a + j) = xs.getD j 0):seg w a n = xs:=by
 unfold seg;apply fq
 .rw[dp,fA];omega
 .intro j y x;have:=h j x;unfold wv gv at this;rw[show (a + (j:Int)).toNat = a.toNat + j from Z,dZ,dZ,dY Z,dY x] at this;rw[gP,gG];exact this
theorem aN {α:Type} {d:α} {xs ys:List α} {i:Nat} (h:i < xs.length):(xs ++ ys).getD i d = xs.getD i d:=by
 rw[dZ,dZ,fS h]
theorem bL {α:Type} {d:α} {xs ys:List α} {i:Nat} (h:xs.length<=i):(xs ++ ys).getD i d = ys.getD (i - xs.length) d:=by
 rw[dZ,dZ,gE h]
theorem GU {s j : Aj} {l:List AO} {AJ to tops:List Int} (x:DP s j l AJ to tops):j.AC.length = s.AC.length:=by
 rw[x.wd,CB,CB,dw]
theorem LW {s H : Aj} {l:List AO} {W AJ to tops:List Int} (hf:HpF s l W) (O:Od W AJ) (N:DP s H l AJ to tops) {p:Int × Int} (hp:p∈AJ.zip to) :
  ∃t,Av l p.1 = some t/\Ap s.AC p.1 = (t,true)/\Ap H.AC p.2 = (⟨p.2,p.2,t.sh,t.refs.map (plc l AJ to),t.nums⟩,true):=by
 have a5:=(O.m _).1 (fR hp).1;obtain⟨t,ht,D⟩:=Jg hf a5;obtain⟨a6,A⟩:=BA ht;obtain⟨G,T,-⟩:=EU hf.ths;have Q:bgs l p.1:=⟨t,a6,A⟩;have i:=G.inn Q;have hl:=GU N;obtain⟨r1,r2⟩:=N.rn p hp;obtain⟨r2,r3⟩:=r2 t ht;obtain⟨e1,e2,e3⟩:=L3 (by rw[A];exact D);rw[A] at e1 e2 e3;obtain⟨n1,n2,n3⟩:=E4 G Q;rw[<- e3] at n1 n2 n3;have a0:t.sh = shp s.AC p.1:=congrArg AO.sh e3;have K:=Gm s.AC p.1;rw[<- a0] at K n1 n2;obtain⟨sh,a1,a2,a3⟩:=aB (by rw[D]);have ⟨z1,z2⟩:=Er K;have a4:∀b∈(AJ.zip to).map λp=>DI l AJ to p.1 p.2,0<=b.1/\b.1 + b.2.length<=s.AC.length:=λb hb=>by
  obtain⟨q,hq,rfl⟩:=eE.1 hb;obtain⟨h1,h2⟩:=N.rn q hq;obtain⟨t',R,_⟩:=Jg hf ((O.m _).1 (fR hq).1);have h3:=(h2 t' R).1;unfold DI;rw[R];simp only[dl,de,df];omega
 have x:∀k:Nat,k < 2 + t.refs.length + t.nums.length->wv H.AC (p.2 + k) = (p.2 :: AZ t.sh :: (t.refs.map (plc l AJ to) ++ t.nums)).getD k 0:=λk hk=>by
  have hb:DI l AJ to p.1 p.2 = (p.2,p.2 :: AZ t.sh :: (t.refs.map (plc l AJ to) ++ t.nums)):=by unfold DI;rw[ht]
  have hm:DI l AJ to p.1 p.2∈(AJ.zip to).map λp=>DI l AJ to p.1 p.2:=eE.2 ⟨p,hp,rfl⟩
  rw[hb] at hm;rw[N.wd,Ek (λb hb=>by rw[CB,dw];exact a4 b hb) N.hd hm (by unfold inB;simp only[dl,de,df];omega)];simp only;rw[show (p.2 + (k:Int) - p.2).toNat = k from Z]
 have c0:=x 0 Z;have c1:=x 1 Z;simp only[Int.natCast_zero,Int.add_zero,List.getD_cons_zero] at c0;simp only[i5,List.getD_cons_zero] at c1;have w0:H.AC.getD p.2.toNat 0 = p.2:=c0;have w1:H.AC.getD (p.2.toNat + 1) 0 = AZ t.sh:=by
  rw[<- c1];unfold wv gv;rw[show (p.2 + ((1:Nat):Int)).toNat = p.2.toNat + 1 from Z]
 have wok:BM H.AC.length = true:=by
  rw[hl];unfold fits at a2;simp only[z_b] at a2;exact a2.1.1.1.1.1
 have a7:AH t.sh = 2 + t.refs.length + t.nums.length:=by
  rw[e1,<- n3];omega
 have y:fits H.AC.length p.2 (AH t.sh) = true:=by
  unfold fits AM;rw[wok,if_neg Z,if_neg Z];simp only[f7,z_b,z_d,beq_iff_eq];omega
 refine⟨t,ht,D,?_⟩;rw[ba (Wu y Z) (by rw[w1,Eb K]) y,w0,WA (xs:=t.refs.map (plc l AJ to)) Z (by rw[df];exact n1) Z (λj hj=>?_),WA Z n2 Z (λj hj=>?_)]
 .rw[show p.2 + 2 + t.sh.refs + (j:Int) = p.2 + ((2 + t.refs.length + j:Nat):Int) from Z,x _ Z,show 2 + t.refs.length + j = (t.refs.length + j) + 1 + 1 from Z,i5,i5,bL (by rw[df];omega),df,show t.refs.length + j - t.refs.length = j from Z]
 .rw[df] at hj;rw[show p.2 + 2 + (j:Int) = p.2 + ((2 + j:Nat):Int) from Z,x _ Z,show 2 + j = j + 1 + 1 from Z,i5,i5,aN (by rw[df];exact hj)]
theorem HpF.pin {s:Aj} {l:List AO} {j:List Int} (G:HpF s l j) {a:Int} (h:a∈s.AI):a∈j:=by
 obtain⟨x,D,y⟩:=G.closed.1 a (eu _ h);have H:=G.head;unfold C8 at H;simp only[z_b] at H;have:=eG.1 H.2 a h;unfold E8 at this;cases A:Av l a with
 | none=>rw[A] at this;cases this
 | some t=>
  rw[A] at this;obtain⟨N,Q⟩:=BA A;have K:=G.S.at16 t N;unfold now at D;rw[if_neg Z,A] at D;simp only[gC,dx] at D;have O:t.moved = a:=(by simpa using this:t.moved = a/\_).1;rcases y with y | y
  .omega
  .rwa [<- D,O] at y
end Sm
end
section
namespace Go.Lf
open Go Sm
theorem jbz {R:RM} {D:Chs} {v:Value} {l:List Bool} {i:Nat} {k:Value->M} (h:Bls R v l) (A:i < l.length) (H:J R D (k (.bool l[i]))):J R D (IA 1 v (I (i:Int)) λx=>L1 x k):=by
 rcases h with ⟨_,j,_⟩ | ⟨b,o,y,t,K,rfl,j,N,G,O⟩
 .omega
 .refine jia Z Z (jlr j ?_ H);rw[da,fY];have e:=congrArg (·[i]?) G;simp only[ff,fJ] at e;rw[if_pos Z] at e;rw[e,eU,dY A];rfl
structure StZ (s:Sm.Aj):Prop where
 w:s.AC.length < 1000000
 t:s.AA.length < 1000000
 m:s.AQ.length < 1000000
 o:s.old.length < 1000000
 p:s.AI.length < 1000000
 n:s.AB.length < 1000000
 r:∀t∈s.AB,t.AD.length < 1000000
section
variable {R:RM} {D:Chs} {s:Sm.Aj} {wv tv mv thv ov pv wv' tv' mv' thv' ov' pv' : Value}
set_option maxHeartbeats 1000000 in
set_option maxRecDepth 8000 in
theorem Ve (h:StC R s wv tv mv thv ov pv) (N : StC R s wv' tv' mv' thv' ov' pv') (z:StZ s) :
  Ro Kb [.agg (eSt s wv tv mv thv ov pv).toArray,.agg (eSt s wv' tv' mv' thv' ov' pv').toArray] (.bool true) R D:=by
 refine RU λF=>?_
 refine z_2 ?_;obtain⟨zw,zt,zm,zo,zp,zn,zr⟩:=z;refine ja λA=>ja λG=>(jor [Pt A,Pt G] false (λH j=>?_) (λe c u O he=>?_))
 .refine jfo (jl rfl (jfo (jl rfl (jro (FU h.w N.w zw zw) ?_))));rw[beq_self_eq_true];refine jff (jfo (jl rfl (Bl h.t.sl (jfo (jl rfl (Bl N.t.sl (jne ?_)))))));rw[bne_self_eq_false];exact j _ _ _ Bn rfl
 refine z_V ?_;refine jor [Pt A,Pt G] false (λH j=>?_) (λe c u T he=>?_)
 .rw[O];refine jff (jfo (jl rfl (Bl h.m.sl (jfo (jl rfl (Bl N.m.sl (jne ?_)))))));rw[bne_self_eq_false];exact j _ _ _ Bn rfl
 refine z_V ?_;refine jor [Pt A,Pt G] false (λH j=>?_) (λe c u W he=>?_)
 .rw[T];refine jff (jfo (jl rfl (jfo (jl rfl (jne ?_)))));rw[bne_self_eq_false];exact j _ _ _ Bn rfl
 refine z_V ?_;refine jor [Pt A,Pt G] false (λH j=>?_) (λe c u a2 he=>?_)
 .rw[W];refine jff (jfo (jl rfl (jfo (jl rfl (@jxb _ _ _ _ _ _ _ ?_)))));rw[bne_self_eq_false];exact j _ _ _ Bn rfl
 refine z_V ?_;refine jor [Pt A,Pt G] false (λH j=>?_) (λe c u a3 he=>?_)
 .rw[a2];refine jff (jfo (jl rfl (jfo (jl rfl (@jxb _ _ _ _ _ _ _ ?_)))));rw[bne_self_eq_false];exact j _ _ _ Bn rfl
 refine z_V ?_;refine jor [Pt A,Pt G] false (λH j=>?_) (λe c u a4 he=>?_)
 .rw[a3];refine jff (jfo (jl rfl (jfo (jl rfl (@jxb _ _ _ _ _ _ _ ?_)))));rw[bne_self_eq_false];exact j _ _ _ Bn rfl
 refine z_V ?_;refine jor [Pt A,Pt G] false (λH j=>?_) (λe c u a5 he=>?_)
 .rw[a4];refine jff (jfo (jl rfl (jfo (jl rfl (jne ?_)))));rw[bne_self_eq_false];exact j _ _ _ Bn rfl
 refine z_V ?_;refine jor [Pt A,Pt G] false (λH j=>?_) (λe c u a6 he=>?_)
 .rw[a5];refine jff (jfo (jl rfl (jfo (jl rfl (jne ?_)))));rw[bne_self_eq_false];exact j _ _ _ Bn rfl
 refine z_V ?_;refine jor [Pt A,Pt G] false (λH j=>?_) (λe c u a7 he=>?_)
 .rw[a6];refine jff (jfo (jl rfl (jfo (jl rfl (jne ?_)))));rw[bne_self_eq_false];exact j _ _ _ Bn rfl
 refine z_V ?_;refine jor [Pt A,Pt G] false (λH j=>?_) (λe c u a8 he=>?_)
 .rw[a7];refine jff (jfo (jl rfl (jfo (jl rfl (jro (FU h.o N.o zo zo) ?_)))));rw[beq_self_eq_true];exact j _ _ _ Bn rfl
 refine z_V ?_;refine jor [Pt A,Pt G] false (λH j=>?_) (λe c u a9 he=>?_)
 .rw[a8];refine jff (jfo (jl rfl (jfo (jl rfl (jro (FU h.p N.p zp zp) ?_)))));rw[beq_self_eq_true];exact j _ _ _ Bn rfl
 refine z_V ?_;refine jor [Pt A,Pt G] false (λH j=>?_) (λe c u b0 he=>?_)
 .rw[a9];refine jff (jfo (jl rfl (Bl h.th.sl (jfo (jl rfl (Bl N.th.sl (jne ?_)))))));rw[bne_self_eq_false];exact j _ _ _ Bn rfl
 refine z_V ?_;rw[b0];refine CK (Bk [Pt A,Pt G] (λK1 h1=>?_) (λe he=>?_))
 .refine Bk [Pt A,Pt G] (λK2 h2=>?_) (λe he=>?_);rotate_left
  .refine z_V ?_;exact h1
  refine Nw [Pt A,Pt G] s.AA.length (λ_=>True) trivial λi K e hi _ hK he=>?_
  refine z_V ?_;refine jfo (jl rfl (Bl h.t.sl (jlt (jif (λc=>?_) (λc=>h2)))));have c:i < s.AA.length:=by have:=z_f c;omega
  refine jfo (jl rfl (jrg h.t c λx o ty cs hb O y=>Da hb O y (jfo (jl rfl (jrg N.t c λx o ty cs hb O y=>Da hb O y (@an _ _ _ _ _ _ _ ?_))))));rw[beq_self_eq_true];exact CK (jad (hK c trivial))
 refine z_V ?_;refine Bk [Pt A,Pt G] (λK1 h1=>?_) (λe he=>?_)
 .refine Bk [Pt A,Pt G] (λK2 h2=>?_) (λe he=>?_);rotate_left
  .refine z_V ?_;exact h1
  refine Nw [Pt A,Pt G] s.AQ.length (λ_=>True) trivial λi K e hi _ hK he=>?_
  refine z_V ?_;refine jfo (jl rfl (Bl h.m.sl (jlt (jif (λc=>?_) (λc=>h2)))));have c:i < s.AQ.length:=by have:=z_f c;omega
  refine jfo (jl rfl (jbz h.m c (jfo (jl rfl (jbz N.m c (@jxb _ _ _ _ _ _ _ ?_))))));rw[bne_self_eq_false];exact CK (jad (hK c trivial))
 refine z_V ?_;refine Nw [Pt A,Pt G] s.AB.length (λ_=>True) trivial λi K e hi _ hK he=>?_
 refine z_V ?_;refine jfo (jl rfl (Bl h.th.sl (jlt (jif (λc=>?_) (λc=>BT (BT (B9 rfl)))))));have c:i < s.AB.length:=by have:=z_f c;omega
 have zr:=zr _ (dc c);refine jfo (jl rfl (jtr h.th c λx o ty cs rv a0 hb O y=>Da hb O y ?_));obtain⟨ra,rc,rfl⟩:=a0.sl;refine ja λb3=>js rfl rfl (dg rfl) rfl (jfo (jl rfl (jtr N.th c λx o ty cs rv Q hb O y=>Da hb O y ?_)))
 obtain⟨b5,b6,rfl⟩:=Q.sl;refine ja λb4=>js rfl rfl (dg rfl) rfl (jor [Pt A,Pt G,I i,Pt b3,Pt b4] false (λH j=>?_) (λe c2 u a1 he=>?_))
 .refine jfo (jl rfl (jfo (jl rfl (jro (FU a0 Q zr zr) ?_))));rw[beq_self_eq_true];refine jff (jfo (jl rfl (jfo (jl rfl (jne ?_)))));rw[bne_self_eq_false];exact j _ _ _ Bn rfl
 refine z_V ?_;refine jor [Pt A,Pt G,I i,Pt b3,Pt b4] false (λH j=>?_) (λe c2 u T he=>?_)
 .rw[a1];refine jff (jfo (jl rfl (jfo (jl rfl (@jxb _ _ _ _ _ _ _ ?_)))));rw[bne_self_eq_false];exact j _ _ _ Bn rfl
 refine z_V ?_;refine jor [Pt A,Pt G,I i] false (λH j=>?_) (λe c2 u W he=>?_)
 .rw[T];refine jff (jfo (jl rfl (jfo (jl rfl (jne ?_)))));rw[bne_self_eq_false];exact j _ _ _ Bn rfl
 refine z_V ?_;rw[W];exact CK (jad (BT (BT (hK c trivial))))
end
section st
variable {R:RM} {s:Sm.Aj} {wv tv mv thv ov pv:Value}
set_option maxRecDepth 4000 in
theorem Lb (h:SF R s wv tv mv thv ov pv):Fn P N6 [.agg (eSt s wv tv mv thv ov pv).toArray] R [] (λv R' A=>A = []/\QFd (fdO s) v R'):=by
 refine Sx λF=>?_
 refine z_1 ?_;refine ja λsb=>ja λgb=>jla (by exact z_n 13) rfl ?_
 have fu:=h.b.fu;have ml:=h.b.ml;refine jc (Va h) ?_;rintro x R1 _ K ⟨rfl,hq⟩;have h:=h.le K;unfold fdO;cases hc:EM s with
 | none=>
  rw[hc] at hq;obtain rfl:x = _:=hq;refine jxr (λw=>U0 w _ _) (DJ (jbd rfl rfl (js rfl rfl (dg rfl) rfl (jla (dg rfl) rfl ?_))));exact Ao K ⟨rfl,rfl⟩
 | some q=>
  obtain⟨l,met⟩:=q;rw[hc] at hq;obtain⟨hb,mb,v,rfl,hv⟩:=hq;have hh:Bw s = some (l,met):=by
   unfold EM at hc;split at hc
   .cases hc
   .exact hc
  have D:=D0 hh;obtain⟨a5,a7⟩:=Hw h D.ths;have a6:=D.M.len;obtain⟨s',to,a4,F0,F1⟩:=LQ D Z;have CR:=Yr D (Jm D.M.nd) ml F1;obtain⟨G,T,-⟩:=EU D.ths;obtain⟨a2,a3⟩:=D.closed;obtain⟨sp,sm⟩:=B8 D.M.nd;have wl:=h.b.wl;have t1:=h.b.t1;refine jxr (λw=>UK w _ _ hb) (CK (jc (MG hv D.M.nd Z) ?_));rintro sv R2 A2 _ ⟨a0,so⟩;subst a0;refine E0 so λR3 N hi=>?_
  have W:=DU met [];have W:(AN met).length = met.length:=by simpa [AN] using W
  have Q:∀t∈l,16<=t.at_/\t.at_ + (2 + t.refs.length + t.nums.length:Nat)<=s.AC.length:=λt H=>by
   obtain⟨h1,h2⟩:=T.all t H;have i:=G.inn h1;have j:=(E4 G h1).2.2;rw[<- h2] at j;omega
  refine jc (Ri (h.le N) (hv.le N) hi Z (λa O=>D.M.th a ((sm a).1 O)) (sp.imp λh=>Z) (λa O=>?_) (λt _=>Fg t.sh) D.S.nd (λt H=>by have:=Q t H;omega)
   (λa O t H x hx=>by obtain⟨u,hu,_⟩:=a3 a ((sm a).1 O) t H x hx;exact⟨u,hu⟩)
   (λt H x hx=>by obtain⟨u,hu,_⟩:=a2 x (eT _ (gW.2 ⟨t,H,hx⟩));exact⟨u,hu⟩)
   (by rw[F1.ld];exact⟨s',rfl,CR⟩)) ?_
  .obtain⟨t,H⟩:=D.M.th a ((sm a).1 O);obtain⟨h1,h2⟩:=BA H;have:=Q t h1;omega
  rintro v R4 A4 a1 ⟨rfl,wv',tv',mv',thv',ov',pv',y,hz,rfl⟩;refine jex rfl (jex rfl ?_);obtain⟨wa,wc,rfl⟩:=y.w.sl;obtain⟨ta,tc,rfl⟩:=y.t.sl;obtain⟨ma,mc,rfl⟩:=y.m.sl;obtain⟨a8,a9,rfl⟩:=y.th.sl;obtain⟨oa,oc,rfl⟩:=y.o.sl;obtain⟨pa,pc,rfl⟩:=y.p.sl;refine js rfl rfl (dg rfl) rfl (jla (dg rfl) rfl (Ao (K.trans (N.trans a1)) ⟨rfl,?_⟩));show QFd (FF s) _ _;rw[F0];exact⟨_,_,_,_,_,_,y,hz,rfl⟩
end st
theorem Pf {R:RM} {v:Value} (hc:Cod R v):Fn P Hi [v] R [] (λx G A=>A = []/\DSF x G):=by
 refine NK λF=>?_
 refine z_1 ?_;obtain⟨n,K⟩:=hc;refine ja λb=>?_
 refine jc (A:=[]) (Wc K) ?_;rintro _ Q _ _ ⟨H,N,O,rfl,rfl,hb⟩;subst H;refine jc (A:=[(N,rdO O 0)]) (SJ hb δ) ?_;rintro x T A j hd;refine az hd λW y D=>?_
 exact aU D (Ao (A:=[]) (j.trans y) ⟨rfl,D⟩)
def st0:Sm.Aj:=⟨[],[],[],0,false,false,false,0,[],[],[],0,0⟩
theorem aj {R:RM} {s x : Sm.Aj} {wv H mv y G pv:Value} {l:List AO} {AJ to tops:List Int} (h:SF R s wv H mv y G pv) (j:DP s x l AJ to tops):StZ x:=by
 have wl:=h.b.wl;have t1:=h.b.t1;have n1:=h.b.n1;have pl:=h.b.pl;have e:=j.eq;have K:=GU j;have th:x.AB = s.AB.map (Ez l AJ to):=En j.hlen j.th;refine⟨Z,by have:=j.tn;omega,by rw[e];simp;omega,by rw[e];simp,by rw[e];show s.AI.length < _;omega,by rw[th];simp;omega,λt A=>?_⟩;rw[th] at A;obtain⟨u,D,rfl⟩:=eE.1 A;have:=h.b.rl u D;unfold Ez;simp only[df];omega
theorem QFd.u {r:Option Sm.Aj} {v:Value} {R:RM} (h:QFd r v R):∃G j y x A D,StC R (r.getD st0) G j y x A D/\(r.isSome = true->RgZ R j (r.getD st0).AA)/\v = .tuple #[.agg (eSt (r.getD st0) G j y x A D).toArray,.bool r.isSome]:=by
 cases r with
 | none=>
  obtain rfl:v = _:=h;exact⟨SN,SN,SN,SN,SN,SN,⟨.inl ⟨rfl,rfl,rfl⟩,.inl ⟨rfl,rfl,rfl⟩,.inl ⟨rfl,rfl,rfl⟩,⟨[],Rw.nil,.inl ⟨rfl,rfl,rfl⟩⟩,.inl ⟨rfl,rfl,rfl⟩,.inl ⟨rfl,rfl,rfl⟩⟩,(λh=>by cases h),rfl⟩
 | some s=>
  obtain⟨wv,tv,mv,thv,ov,pv,h,H,rfl⟩:=h;exact⟨wv,tv,mv,thv,ov,pv,h,λ_=>H,rfl⟩
theorem jsS {R:RM} {D:Chs} {b:Nat} {s:Sm.Aj} {wv y mv j x pv:Value} {m:M} (h:StC R s wv y mv j x pv) (H:J R ((b,C 50 (eSt s wv y mv j x pv)) :: D) m):J R ((b,C 50 (cl z50)) :: D) (ST 13 (Pt b) (.agg (eSt s wv y mv j x pv).toArray) m):=by
 obtain⟨T,wc,rfl⟩:=h.w.sl;obtain⟨Q,tc,rfl⟩:=h.t.sl;obtain⟨G,mc,rfl⟩:=h.m.sl;obtain⟨A,hc,rfl⟩:=h.th.sl;obtain⟨K,N,rfl⟩:=h.o.sl;obtain⟨O,pc,rfl⟩:=h.p.sl;exact js rfl rfl (by exact z_n 13) rfl H
theorem Ug {s D : Sm.Aj} (h:fdO s = some D) (fu:0<=s.BL/\s.BL<=100000):∃l met A x,Bw s = some (l,met)/\HpF s l met/\DP s D l (AN met) A x:=by
 unfold fdO at h;cases j:EM s with
 | none=>rw[j] at h;cases h
 | some q=>
  obtain⟨l,met⟩:=q;rw[j] at h;have y:Bw s = some (l,met):=by
   unfold EM at j;split at j
   .cases j
   .exact j
  obtain⟨K,A,x,G,H⟩:=LQ (D0 y) Z;rw[G] at h;cases h;exact⟨l,met,A,x,y,D0 y,H⟩
section
variable {R:RM} {D:Chs} {w:List Int} {wv:Value} {t:AO} {a:Int} {k:Value->Value->M}
theorem jta (W:Aw R wv w) (hl:w.length < 1000000) (h0:-1000000<=a/\a<=1000000) (T:inR (w.getD (a.toNat + 1) 0)) (O:Ap w a = (t,true)) (H:∀K b rv nv,R.le K->Aw K nv t.nums->J K ((b,C 70 (eTh t rv nv)) :: D) (k (Pt b) (.bool true))) :
  J R D (CA P Fw [wv,I a] λx=>EX 0 x λy=>EX 1 x λz=>AL 70 z70 λp=>ST 6 p y (k p z)):=by
 refine jc (A:=[]) (Ex a W Z T) ?_;rintro _ Q _ N ⟨rfl,x,⟨rv,nv,hx,G,j⟩,rfl⟩;subst hx;rw[O] at G j ⊢;obtain⟨ra,rc,rfl⟩:=G.sl;obtain⟨na,nc,rfl⟩:=j.sl;refine jex rfl (jex rfl (ja λb=>jS (eTh t (.slice ra t.refs.length rc) (.slice na t.nums.length nc)) ?_));exact H Q b _ _ N j
theorem jtb {b:Nat} {k:Value->M} (W:Aw R wv w) (hl:w.length < 1000000) (h0:-1000000<=a/\a<=1000000) (T:inR (w.getD (a.toNat + 1) 0)) (O:Ap w a = (t,true)) (H:∀K rv nv,R.le K->Aw K nv t.nums->J K ((b,C 70 (eTh t rv nv)) :: D) (k (.bool true))) :
  J R ((b,C 70 (cl z70)) :: D) (CA P Fw [wv,I a] λx=>EX 0 x λy=>EX 1 x λz=>ST 6 (Pt b) y (k z)):=by
 refine jc (A:=[]) (Ex a W Z T) ?_;rintro _ Q _ N ⟨rfl,x,⟨rv,nv,hx,G,j⟩,rfl⟩;subst hx;rw[O] at G j ⊢;obtain⟨ra,rc,rfl⟩:=G.sl;obtain⟨na,nc,rfl⟩:=j.sl;refine jex rfl (jex rfl (jS (eTh t (.slice ra t.refs.length rc) (.slice na t.nums.length nc)) ?_));exact H Q _ _ N j
end
theorem U3 {w:List Int} (h:∀x∈w,Rn x) (i:Nat):inR (w.getD i 0):=by
 rw[dZ];cases j:w[i]? with
 | none=>exact⟨δ,δ⟩
 | some x=>exact h x (List.mem_of_getElem? j)
theorem full_rn {s s' : Sm.Aj} {l:List AO} {Q AJ to tops:List Int} (hf:HpF s l Q) (O:Od Q AJ) (K:DP s s' l AJ to tops) (hw:∀x∈s.AC,Rn x) (hl:s.AC.length<=192):∀x∈s'.AC,Rn x:=by
 have hc:∀(N:List (Int × List Int)) (w:List Int),(∀x∈w,Rn x)->(∀b∈N,∀x∈b.2,Rn x)->∀x∈Bp w N,Rn x:=by
  intro N;induction N with
  | nil=>intro w h _ x j;exact h x j
  | cons b N ih=>
   intro w h hb;refine ih _ ?_ λb' W=>hb b' (eD _ W)
   have hs:∀(c w:List Int) (a:Int),(∀x∈w,Rn x)->(∀x∈c,Rn x)->∀x∈CE w a c,Rn x:=by
    intro c;induction c with
    | nil=>intro w a h _ x j;exact h x j
    | cons v c a2=>
     intro w a h hv;refine a2 _ _ (λx j=>?_) λx j=>hv x (eD _ j)
     unfold AU at j;rcases fg j with j | rfl
     .exact h x j
     .exact hv _ V
   exact hs _ _ _ h (hb b V)
 have H:∀(a n:Int) (x:Int),x∈seg s.AC a n->Rn x:=λa n x j=>hw x (gH (ec j))
 have nums:∀t∈l,∀x∈t.nums,Rn x:=λt D x j=>by
  obtain⟨G,T,-⟩:=EU hf.ths;have R:=(T.all t D).2;rw[R] at j;exact H _ _ x j
 have z:Rn 0:=⟨δ,δ⟩;have A:∀x:Int,0<=x->x<=1000000->Rn x:=λx h0 R=>⟨Z,Z⟩
 obtain⟨G,T,-⟩:=EU hf.ths;rw[K.wd];refine hc _ _ (hc _ _ (λx j=>by rw[(fE.1 j).2];exact z) λb hb x j=>?_) λb hb x j=>?_
 .obtain⟨t,D,rfl⟩:=eE.1 hb;have D:=(fI.1 D).1;have i:=G.inn (T.all t D).1;unfold Dw at j;simp only[du,eI,fE] at j;rcases j with rfl | rfl | ⟨_,rfl⟩ | j
  .exact A _ Z Z
  .exact Rn.shape
  .exact z
  .exact nums t D x j
 .obtain⟨p,hp,rfl⟩:=eE.1 hb;obtain⟨R,h2⟩:=K.rn p hp;unfold DI at j;cases D:Av l p.1 with
  | none=>rw[D] at j;cases j
  | some t=>
   rw[D] at j;have h3:=(h2 t D).1;simp only[du,eI,eE] at j;rcases j with rfl | rfl | ⟨y,_,rfl⟩ | j
   .exact A _ Z Z
   .exact Rn.shape
   .unfold plc;split
    .split
     .rename_i u _ hu;have hi:AJ.idxOf u < to.length:=by rw[K.hlen];exact fC hu
      rw[dZ,dY hi,eR];have a0:AJ.idxOf u < (AJ.zip to).length:=by rw[gU,K.hlen] at *;omega
      have hz:=dc a0;rw[gL] at hz;obtain⟨g1,g2⟩:=K.rn _ hz;obtain⟨t',a1,_⟩:=Jg hf ((O.m _).1 (fR hz).1);have:=(g2 t' a1).1;dsimp only at this g1;exact A _ Z Z
     .exact z
    .exact z
   .exact nums t (BA D).1 x j
end Go.Lf
end
section
namespace Sm
open Go.Lf
section
variable {s s' : Aj} {l:List AO} {met AJ to tops:List Int}
theorem Yp (W:HpF s l met) (O:Od met AJ) (H:DP s s' l AJ to tops) {t:AO} (A:t∈l) (hh:Ah s.AI (AM t.at_) = true) (hd:t.at_ ∉ to):wv s'.AC t.at_ = t.at_/\wv s'.AC (t.at_ + 1) = AZ t.sh:=by
 obtain⟨G,T,-⟩:=EU W.ths;obtain⟨f,B',G2,k5,k6,k7⟩:=H.gs;obtain⟨D,x2⟩:=T.all t A;have i:=G.inn D;have K:=(E4 G D).2.2;rw[<- x2] at K;have N:B' t.at_:=(k5 t.at_ ⟨⟨t,A,rfl⟩,by rw[<- Bc Z];exact hh⟩).1;have a2:AH (f t.at_) = sz s.AC t.at_:=by rw[(k5 t.at_ ⟨⟨t,A,rfl⟩,by rw[<- Bc Z];exact hh⟩).2];rfl
 have Q:∀t∈l,0<=(Dw t).1/\(Dw t).1 + (Dw t).2.length<=s.AC.length:=λt A=>by
  obtain⟨D,x2⟩:=T.all t A;have i:=G.inn D;have K:=(E4 G D).2.2;rw[<- x2] at K;rw[J2];show 0<=t.at_/\t.at_ + _<=_;omega
 have R:∀b∈(AJ.zip to).map λp=>DI l AJ to p.1 p.2,0<=b.1/\b.1 + b.2.length<=s.AC.length:=λb hb=>by
  obtain⟨q,hq,rfl⟩:=eE.1 hb;obtain⟨K,N⟩:=H.rn q hq;obtain⟨t',j,_⟩:=Jg W ((O.m _).1 (fR hq).1);have h3:=(N t' j).1;unfold DI;rw[j];simp only[dl,de,df];omega
 have out:∀x,t.at_<=x->x < t.at_ + sz s.AC t.at_->∀b∈(AJ.zip to).map λp=>DI l AJ to p.1 p.2,¬ inB b x:=λx g0 g1 b hb hx=>by
  obtain⟨p,hp,rfl⟩:=eE.1 hb;obtain⟨q1,q2,_⟩:=k7 p hp;have a1:=(O.m _).1 (fR hp).1;obtain⟨t',j,a3⟩:=Jg W a1;obtain⟨m1,m2⟩:=BA j;obtain⟨y1,y2⟩:=T.all t' m1;have h3:=(E4 G y1).2.2;rw[<- y2,m2] at h3;have hz:AH (f p.2) = sz s.AC p.1:=by rw[q2];rfl
  unfold inB DI at hx;rw[j] at hx;simp only[dl,de,df] at hx;have a0:p.2≠t.at_:=λe=>hd (e▸(fR hp).2)
  rcases Int.lt_or_gt_of_ne a0 with c | c
  .have:=G2.dj _ _ q1 N c;omega
  .have:=G2.dj _ _ N q1 c;omega
 have y:∀k:Nat,k < 2->wv s'.AC (t.at_ + k) = (Dw t).2.getD k 0:=λk hk=>by
  have hm:Dw t∈(l.filter λx=>Ah s.AI (AM x.at_)).map Dw:=eE.2 ⟨t,fI.2 ⟨A,hh⟩,rfl⟩;rw[H.wd,ED (λb hb=>by rw[CB,dw];exact R b hb) Z (out _ Z Z),Ek (λb hb=>by
   rw[dw]
   obtain⟨u,hu,rfl⟩:=eE.1 hb
   exact Q u (fI.1 hu).1) H.dd hm (by
   unfold inB
   rw[J2]
   show t.at_<=_/\_ < t.at_ + _
   omega)]
  rw[show (t.at_ + (k:Int) - (Dw t).1).toNat = k from by show (t.at_ + (k:Int) - t.at_).toNat = k;omega]
 have c0:=y 0 Z;have c1:=y 1 Z;exact⟨by simpa [Dw] using c0,by simpa [Dw] using c1⟩
def bgF (s:Aj) (l:List AO) (to:List Int) (b:Int):Prop:=b∈to\/(bgs l b/\Ah s.AI (b / 16) = true)
theorem V2 (Q:HpF s l met) (O:Od met AJ) (D:DP s s' l AJ to tops):∃f:Int->Shp,Ij f s'.AA (bgF s l to)/\∀b,bgF s l to b->wv s'.AC b = b/\AT (wv s'.AC (b + 1)) = (f b,true):=by
 obtain⟨G,T,-⟩:=EU Q.ths;obtain⟨f,B',G2,k5,k6,k7⟩:=D.gs;have A:∀b∈to,∃a,(a,b)∈AJ.zip to:=λb hb=>Gg D.hlen.symm hb
 have eB:∀b,B' b↔bgF s l to b:=λb=>⟨λh=>(k6 b h).elim .inr λh=>.inl h.1,λh=>h.elim (λh=>by
  obtain⟨a,H⟩:=A b h
  exact (k7 _ H).1) λh=>(k5 b h).1⟩
 have N:B' = bgF s l to:=funext λb=>propext (eB b)
 rw[<- N];refine⟨f,G2,λb hb=>?_⟩;have i2:=G2.inn hb;by_cases j:b∈to
 .obtain⟨a,H⟩:=A b j;obtain⟨t,h1,h2,h3⟩:=LW Q O D H;dsimp only at h1 h2 h3;obtain⟨q1,q2,_⟩:=k7 _ H;dsimp only at q2;obtain⟨e1,e2,y⟩:=L3 (x:=⟨b,b,t.sh,t.refs.map (plc l AJ to),t.nums⟩) h3;have e4:=congrArg AO.moved y;have e5:=congrArg AO.sh y;dsimp only[thg] at e4 e5;obtain⟨m1,m2⟩:=BA h1;have e6:=(L3 (x:=t) (by rw[m2];exact h2)).2.2;have K:=congrArg AO.sh e6;dsimp only[thg] at K;rw[m2] at K;refine⟨e4.symm,Prod.ext ?_ e2⟩;show (AT (wv s'.AC (b + 1))).1 = f b;rw[q2,<- K];exact e5.symm
 .rcases k6 b hb with ⟨⟨t,W,rfl⟩,hh⟩ | ⟨h,_⟩
  .have R : Ah s.AI (AM t.at_) = true:=by rw[Bc Z];exact hh
   obtain⟨d1,d2⟩:=Yp Q O D W R j;have k:=(k5 t.at_ ⟨⟨t,W,rfl⟩,hh⟩).2;have y:=congrArg AO.sh (T.all t W).2;dsimp only[thg] at y;rw[d2,k,<- y];refine⟨d1,Eb ?_⟩;rw[y];exact Gm s.AC t.at_
  .exact absurd h j
theorem MA (H:HpF s l met) (O:Od met AJ) (y:DP s s' l AJ to tops):Geo s'.AC s'.AA (bgF s l to)/\∀b,bgF s l to b->wv s'.AC b = b:=by
 obtain⟨G,T,-⟩:=EU H.ths;obtain⟨f,x,D⟩:=V2 H O y;have A:∀b,bgF s l to b->sz s'.AC b = AH (f b):=λb hb=>by
  unfold sz shp;rw[(D b hb).2]
 refine⟨⟨?_,x.ok,λa j=>?_,λa j=>?_,x.bs,λa b j hb h=>?_⟩,λb hb=>(D b hb).1⟩
 .rw[GU y,y.tn];exact G.len
 .obtain⟨K,N,_⟩:=x.at_ a j;rw[A a j];exact⟨K,N,by rw[(D a j).2]⟩
 .rw[A a j];exact x.nx a j
 .rw[A a j];exact x.dj a b j hb h
end
section
variable {s s' : Aj} {l l' : List AO} {met to tops:List Int}
def mvT (AJ to:List Int) (a:Int):Int:=to.getD (AJ.idxOf a) 0
theorem LO {AJ to:List Int} (hl:to.length = AJ.length) {a:Int} (h:a∈AJ):(a,mvT AJ to a)∈AJ.zip to:=by
 have x:=fC h;have j : AJ.idxOf a < to.length:=Z
 have y:AJ.idxOf a < (AJ.zip to).length:=by rw[gU];omega
 have:=dc y;rw[gL,gl x] at this;unfold mvT;rw[dZ,dY j];exact this
theorem Ia {l:List AO} {AJ to:List Int} (h0:0 ∉ AJ) {x u:Int} (h:now l x = some u) (j:u = 0\/u∈AJ):plc l AJ to x = if u = 0 then 0 else mvT AJ to u:=by
 unfold plc;rw[h];dsimp only;rcases j with rfl | j
 .rw[if_neg h0,if_pos rfl]
 .rw[if_pos j,if_neg (λe:u = 0=>h0 (by rw[e] at j;exact j))];rfl
structure HR (l l' : List AO) (AJ to:List Int):Prop where
 z:0 ∉ AJ
 zt:0 ∉ to
 len:to.length = AJ.length
 inj:∀a∈AJ,∀b∈AJ,mvT AJ to a = mvT AJ to b->a = b
 th:∀a∈AJ,∃t,Av l a = some t/\Av l' (mvT AJ to a) = some ⟨mvT AJ to a,mvT AJ to a,t.sh,t.refs.map (plc l AJ to),t.nums⟩
variable {AJ:List Int}
theorem FI (hl:to.length = AJ.length) {a:Int} (h:a∈AJ):mvT AJ to a∈to:=(fR (LO hl h)).2
theorem HR.now (Q:HR l l' AJ to) {u:Int} (y:u = 0\/u∈AJ):Sm.now l' (if u = 0 then 0 else mvT AJ to u) = some (if u = 0 then 0 else mvT AJ to u):=by
 by_cases c:u = 0
 .rw[if_pos c];rfl
 .rw[if_neg c];have j:=y.resolve_left c;obtain⟨t,_,x⟩:=Q.th u j;unfold Sm.now;rw[if_neg (λe:mvT AJ to u = 0=>Q.zt (by have:=FI Q.len j;rw[e] at this;exact this)),x];rfl
theorem HR.put (Q:HR l l' AJ to) {acc:List Int} (j:∀a∈acc,a∈AJ) {u:Int} (D:u = 0\/u∈AJ):Bq (acc.map (mvT AJ to)) (if u = 0 then 0 else mvT AJ to u) = (Bq acc u).map (mvT AJ to)/\∀a∈Bq acc u,a∈AJ:=by
 by_cases c:u = 0
 .rw[if_pos c,c];unfold Bq;rw[if_pos (.inl rfl),if_pos (.inl rfl)];exact⟨rfl,j⟩
 .rw[if_neg c];have A:=D.resolve_left c;have h0:mvT AJ to u≠0:=λe=>Q.zt (by have:=FI Q.len A;rw[e] at this;exact this)
  by_cases d:u∈acc
  .have x:Bq acc u = acc:=by unfold Bq;rw[if_pos (.inr d)]
   have y:Bq (acc.map (mvT AJ to)) (mvT AJ to u) = acc.map (mvT AJ to):=by unfold Bq;rw[if_pos (.inr (fU d))]
   rw[x,y];exact⟨rfl,j⟩
  .have x:Bq acc u = acc ++ [u]:=by unfold Bq;rw[if_neg (λe=>e.elim c d)]
   have y:Bq (acc.map (mvT AJ to)) (mvT AJ to u) = acc.map (mvT AJ to) ++ [mvT AJ to u]:=by
    unfold Bq;rw[if_neg];rintro (e | e)
    .exact h0 e
    .obtain⟨b,hb,e⟩:=eE.1 e;have:=Q.inj b (j b hb) u A e;exact d (by rw[<- this];exact hb)
   rw[x,y];refine⟨by rw[eS];rfl,λa h=>?_⟩;rcases eI.1 h with h | h
   .exact j a h
   .rw[dz.1 h];exact A
theorem HR.all (Q:HR l l' AJ to):∀{xs acc r:List Int},(∀a∈acc,a∈AJ)->(∀x∈xs,∃u,Sm.now l x = some u/\(u = 0\/u∈AJ))->Au l xs acc = some r->Au l' (xs.map (plc l AJ to)) (acc.map (mvT AJ to)) = some (r.map (mvT AJ to))/\∀a∈r,a∈AJ
 | [],acc,r,ha,_,h=>by cases h;exact⟨rfl,ha⟩
 | x :: xs,acc,r,ha,hx,h=>by
  obtain⟨u,A,j⟩:=hx x V;rw[Bo,A,z_o] at h;obtain⟨p1,p2⟩:=Q.put ha j;rw[eX,Bo,Ia Q.z A j,Q.now j,z_o,p1];exact Q.all (xs:=xs) p2 (λy D=>hx y (eD _ D)) h
theorem HR.loop (Q:HR l l' AJ to) (hc:∀b∈AJ,∀t,Av l b = some t->∀a∈t.refs,∃u,Sm.now l a = some u/\(u = 0\/u∈AJ)):∀{n D i:Nat} {out r x : List Int},(∀a∈out,a∈AJ)->BJ l n i out = some r->BJ l' D i (out.map (mvT AJ to)) = some x->x = r.map (mvT AJ to)
 | 0,_,_,_,_,_,_,h,_=>by cases h
 | _ + 1,0,_,_,_,_,_,_,h=>by cases h
 | n + 1,D + 1,i,out,r,x,ha,h,h'=>by
  by_cases c:i < out.length
  .have A:=ha _ (dc c);obtain⟨t,y,G⟩:=Q.th _ A;rw[C9 c y] at h;rw[C9 (by rw[df];exact c) (by rw[fx];exact G)] at h';cases j:Au l t.refs out with
   | none=>rw[j] at h;cases h
   | some o=>
    obtain⟨p1,p2⟩:=Q.all ha (hc _ A t y) j;rw[j,z_o] at h;dsimp only at h';rw[p1,z_o] at h';exact Q.loop hc p2 h h'
  .rw[CL Z] at h;rw[CL (by rw[df];omega)] at h';cases h;cases h';rfl
end
section
variable {s s' : Aj} {l l' : List AO} {met AJ to tops:List Int}
theorem Oa (j:HpF s l met) (O:Od met AJ):0 ∉ AJ:=λh=>by
 obtain⟨t,y⟩:=j.M.th 0 ((O.m 0).1 h);obtain⟨x,A⟩:=BA y;have:=j.S.at16 t x;omega
theorem cz (j:DP s s' l AJ to tops) {b:Int} (h:b∈to):16<=b:=by
 obtain⟨a,x⟩:=Gg j.hlen.symm h;exact (j.rn _ x).1
theorem VY (D:HpF s l met) (O:Od met AJ) (x:DP s s' l AJ to tops) (W : Thn s'.AC (bgF s l to) l'):HR l l' AJ to:=by
 obtain⟨T,a0⟩:=MA D O x;refine⟨Oa D O,λh=>?_,x.hlen,λa K b hb e=>?_,λa K=>?_⟩
 .have:=cz x h;omega
 .have y:=fC K;have A:=fC hb;have H:=x.hd;rw[gS] at H;have hl:=x.hlen;have G:∀i j (y:i < AJ.length) (A:j < AJ.length),to.getD i 0 = to.getD j 0->i < j->False:=λi j y A e Q=>by
   have g:=H i j (by rw[df,gU];omega) (by rw[df,gU];omega) Q;rw[fx,fx,gL,gL] at g;dsimp only at g;obtain⟨ti,h2,_⟩:=Jg D ((O.m _).1 (dc y));obtain⟨tj,N,_⟩:=Jg D ((O.m _).1 (dc A));rw[dZ,dZ,dY Z,dY Z,eR,eR] at e;refine g (to[i]'(Z)) ⟨?_,?_⟩
   .unfold inB DI;rw[h2];simp only[dl];omega
   .unfold inB DI;rw[N,e];simp only[dl];omega
  unfold mvT at e;rcases Nat.lt_trichotomy (AJ.idxOf a) (AJ.idxOf b) with c | c | c
  .exact (G _ _ y A e c).elim
  .have g1:=gl y;have g2:=gl A;rw[<- g1,<- g2];exact getElem_congr_idx c
  .exact (G _ _ A y e.symm c).elim
 .have hz:=LO x.hlen K;obtain⟨t,H,_,N⟩:=LW D O x hz;refine⟨t,H,?_⟩;have hb:bgF s l to (mvT AJ to a):=.inl (FI x.hlen K);have R:=T.thing hb;rw[N] at R;rw[W.find hb];exact congrArg some (congrArg Prod.fst R).symm
theorem Og (j:HpF s l met) (O:Od met AJ) (D:DP s s' l AJ to tops) {a:Int} (h:a∈s.AI):mvT AJ to a = a/\plc l AJ to a = a:=by
 have y:=j.pin h;have G:=(O.m a).2 y;have Q:=LO D.hlen G;obtain⟨t,A,_⟩:=Jg j y;obtain⟨R,T⟩:=BA A;have K:=j.S.at16 t R;have e:mvT AJ to a = a:=by
  rcases D.rg _ Q with ⟨_,H⟩ | ⟨x,_⟩
  .exact H
  .dsimp only at x;have:Ah s.AI (a / 16) = true:=by
    unfold Ah;rw[List.any_eq_true];exact⟨a,h,by rw[Bc Z];simp⟩
   rw[this] at x;cases x
 have N:now l a = some a:=by
  unfold now;rw[if_neg Z,A];rw[gC,j.nw a y t A]
 refine⟨e,?_⟩;rw[Ia (Oa j O) N (.inr G),if_neg Z,e]
theorem Wo (A:HpF s l met) (O:Od met AJ) (y:DP s s' l AJ to tops) {x u:Int} (h:now l x = some u) (D:u = 0\/u∈met) (h0:plc l AJ to x≠0):plc l AJ to x∈to:=by
 have j : u = 0\/u∈AJ:=D.imp id (O.m u).2;rw[Ia (Oa A O) h j] at h0 ⊢;by_cases c:u = 0
 .rw[if_pos c] at h0;exact absurd rfl h0
 .rw[if_neg c];exact FI y.hlen (j.resolve_left c)
theorem VV (H:HpF s l met) (O:Od met AJ) (A:DP s s' l AJ to tops):∃l',Bw s' = some (l',met.map (mvT AJ to))/\Thn s'.AC (bgF s l to) l'/\HR l l' AJ to:=by
 obtain⟨G',R⟩:=MA H O A;obtain⟨l',e1,T'⟩:=O4 G';have Q:=VY H O A T';obtain⟨a4,a5⟩:=H.closed;have hlen:=G'.len;have n0:=G'.ok.n0;have K:s'.AB = s.AB.map (Ez l AJ to):=En A.hlen A.th;have G:s'.AI = s.AI:=by rw[A.eq]
 have D:∀u,u∈AJ↔u∈met:=O.m;have b0:EO s' = true:=by
  unfold EO;have hm:s'.AQ.length = s'.AC.length:=by rw[A.eq];simp[GU A]
  rw[G'.wok,Bj.2 G'.ok,hm];simp;omega
 have b7:Ei s' = some l':=by unfold Ei;rw[if_pos b0];exact e1
 have a1:∀a,Do s' a = false:=λa=>by
  unfold Do;by_cases c:0<=AM a/\AM a < s'.AA.length
  .have:(rv s'.AA (AM a)).kind≠4:=by
    by_cases c0:AM a = 0
    .rw[c0,A.e0];decide
    .rw[A.rw_ (AM a) Z (by rw[<- A.tn];exact c.2)];unfold LH;split
     .show (3:Int)≠4;decide
     .show (1:Int)≠4;decide
   simp[this]
  .simp only[not_and] at c;by_cases c0:0<=AM a
   .have:=c c0;simp[this]
   .simp[c0]
 have a0:s'.AI.all (E8 s' l') = true:=by
  rw[eG,G];intro a y;have hz:=FI A.hlen ((D a).2 (H.pin y));rw[(Og H O A y).1] at hz;unfold E8;rw[T'.find (.inl hz),a1];have:=R a (.inl hz);simp[thg,this]
 have hh:=H.head;unfold C8 at hh;simp only[z_b,z_d] at hh;obtain⟨⟨⟨⟨⟨⟨⟨_,_⟩,_⟩,g4⟩,g5⟩,g6⟩,g7⟩,_⟩:=hh;have b3:C8 s' l' = true:=by
  unfold C8;rw[a0];have ph:s'.Ac = 0:=by rw[A.eq]
  have a9:CU s' l' = true:=by
   unfold CU;rw[eG];intro t ht;obtain⟨b1,b2⟩:=T'.all t ht;unfold CN;have:t.moved = t.at_:=by rw[b2];exact R _ b1
   simp[this]
  have Bv:s'.AB.all Ft = true:=by
   rw[K,List.all_map,eG];intro t ht;have:=eG.1 g7 t ht;unfold Ft at this ⊢;simp only[z_b,z_d] at this;simp only[Function.comp,Ez,df,z_b,z_d];obtain⟨⟨i1,i2⟩,i3⟩:=this;by_cases c:t.Aq = 1
   .simp[c,i1]
   .simp[c,i1,i2,i3]
  rw[a9,Bv,ph,G];simp only[K,df,z_b,z_d,Bool.and_true,f7];exact⟨⟨⟨⟨δ,δ⟩,g4⟩,g5⟩,g6⟩
 have b5:∀a,a∈to->∃t,∃b∈met,Av l b = some t/\thg s'.AC a = ⟨a,a,t.sh,t.refs.map (plc l AJ to),t.nums⟩:=λa y=>by
  obtain⟨b,hb⟩:=Gg A.hlen.symm y;obtain⟨t,h1,_,h3⟩:=LW H O A hb;have h4:=G'.thing (.inl y:bgF s l to a);rw[h3] at h4;exact⟨t,b,(D b).1 (fR hb).1,h1,(congrArg Prod.fst h4).symm⟩
 obtain⟨out,o1,_⟩:=MT (L:=(·∈to)) T' (λa y=>.inl y) (λa y=>(G'.inn y).1) (λa y=>by
   have:=R a (.inl y)
   rw[this]
   exact⟨y,this⟩) (λa j y j0 j1 T=>by
   obtain⟨t,b,hb,h1,h2⟩:=b5 a y
   have i:=G'.inn (.inl y:bgF s l to a)
   have h3:=congrArg AO.refs h2
   dsimp only[thg] at h3
   have ok:=Er (Gm s'.AC a)
   have es:AH (shp s'.AC a) = sz s'.AC a:=rfl
   have hm:=Yx (w:=s'.AC) (a:=a + 2) (n:=(shp s'.AC a).refs) Z j0 j1 Z
   rw[h3] at hm
   obtain⟨x,hx,e⟩:=eE.1 hm
   obtain⟨u,hu,a2⟩:=a5 b hb t h1 x hx
   rw[<- e] at T ⊢
   exact Wo H O A hu a2 T) (λt ht a y T=>by
   rw[K] at ht
   obtain⟨t0,b6,rfl⟩:=eE.1 ht
   obtain⟨x,hx,rfl⟩:=eE.1 (show a∈t0.AD.map (plc l AJ to) from y)
   obtain⟨u,hu,a2⟩:=a4 x (eT _ (gW.2 ⟨t0,b6,hx⟩))
   exact Wo H O A hu a2 T) (λa y=>by
   rw[G] at y
   have hz:=FI A.hlen ((D a).2 (H.pin y))
   rw[(Og H O A y).1] at hz
   exact⟨hz,R a (.inl hz)⟩)
 have W:Cq s' = (Cq s).map (plc l AJ to):=by
  unfold Cq;rw[K,G,eS,List.flatMap_map,List.map_flatMap];congr 1
  conv=>lhs;rw[<- List.map_id s.AI]
  exact fD λa y=>((Og H O A y).2).symm
 have N:=H.re;have b4:s.AI.all (E8 s l) = true:=by
  have hh:=H.head;unfold C8 at hh;simp only[z_b] at hh;exact hh.2
 rw[DY b4] at N;have a3:=o1;rw[DY a0,W] at a3;have a6:∀x∈Cq s,∃u,now l x = some u/\(u = 0\/u∈AJ):=λx hx=>by
  obtain⟨u,hu,h2⟩:=a4 x hx;exact⟨u,hu,h2.imp id (D u).2⟩
 have a7:∀b∈AJ,∀t,Av l b = some t->∀a∈t.refs,∃u,now l a = some u/\(u = 0\/u∈AJ):=λb hb t ht a y=>by
  obtain⟨u,hu,h2⟩:=a5 b ((D b).1 hb) t ht a y;exact⟨u,hu,h2.imp id (D u).2⟩
 have a8:out = met.map (mvT AJ to):=by
  cases hn:Au l (Cq s) [] with
  | none=>rw[hn] at N;cases N
  | some o=>
   rw[hn,z_o] at N;obtain⟨p1,p2⟩:=Q.all (acc:=[]) (λa y=>by cases y) a6 hn;rw[List.map_nil] at p1;rw[p1,z_o] at a3;exact Q.loop a7 p2 N a3
 refine⟨l',?_,T',Q⟩;unfold Bw;rw[b7];dsimp only;rw[if_pos b3,o1,a8];rfl
end
end Sm
end
section
namespace Sm
def DN (n:Nat) (low:Int) (l:List Int):Bool:=!l.any λx=>decide (x < low) || decide (x>=n)
def Nc (n:Nat) (x:List Int × List Int):Bool:=decide (x.1.length<=4) && decide (x.2.length<=4) && DN n (-1) x.1
def gOk (g:PG):Bool:=decide (g.nodes.length<=200) && decide (1<=g.AD.length) && decide (g.AD.length<=3) && decide (g.pinned.length<=8) && DN g.nodes.length 0 g.pinned && (g.nodes.all (Nc g.nodes.length)) && g.AD.all λr=>decide (r.length<=8) && DN g.nodes.length (-1) r
def HM (p:Int->Bool):Nat->List Int->Int
 | _,[]=>-1
 | i,x :: r=>if p x = true then i else HM p (i + 1) r
theorem Kq {p:Int->Bool} {i:Nat} {x:Int} {r:List Int}:HM p i (x :: r) = if p x = true then (i:Int) else HM p (i + 1) r:=rfl
theorem Mi {p:Int->Bool}:∀(l:List Int) (i:Nat),decide (HM p i l>=0) = l.any p
 | [],i=>by simp[HM]
 | x :: l,i=>by
  rw[Kq];cases h:p x with
  | true=>simp[h]
  | false=>simp only[List.any_cons,h,fH];exact Mi l (i + 1)
structure GZ (g:PG):Prop where
 n:g.nodes.length < 1000000
 r:g.AD.length < 1000000
 p:g.pinned.length < 1000000
 nr:∀x∈g.nodes,x.1.length < 1000000/\x.2.length < 1000000
 rr:∀x∈g.AD,x.length < 1000000
end Sm
namespace Go.Lf
open Go Sm
section
variable {R:RM} {D:Chs} {k:Value->M}
theorem jnd {v:Value} {rows:List (List Value)} {l:List (List Int × List Int)} {i:Nat} (y:Rw (NdC R) rows l) (N:Fz R v 2 rows.length rows.flatten) (G:i < l.length)
  (H:∀b o A j rv nv,Aw R rv (l[i]).1->Aw R nv (l[i]).2->R b = some (C A j)->o + 2<=j.length->(j.drop o).take 2 = [rv,nv]->J R D (k (.pointer (some ⟨b,o,none⟩)))):J R D (IA 2 v (I (i:Int)) k):=by
 have x : i < rows.length:=by rw[y.1];exact G
 obtain⟨b,o,K,A,j,rfl,hb,hl,hc⟩:=Jx N (y.all λ_ _=>NdC.len) x;obtain⟨rv,nv,e,r1,O⟩:=y.2 i x G;refine jia Z Z ?_;rw[da];exact H b (o + i * 2) A j rv nv r1 O hb hl (by rw[hc,e])
theorem jrw {v:Value} {rows:List (List Value)} {l:List (List Int)} {i:Nat} (A:Rw (RwC R) rows l) (O:Fz R v 1 rows.length rows.flatten) (G:i < l.length)
  (H:∀rv,Aw R rv l[i]->J R D (k rv)):J R D (IA 1 v (I (i:Int)) λx=>L1 x k):=by
 have j : i < rows.length:=by rw[A.1];exact G
 obtain⟨b,o,K,Q,N,rfl,hb,hl,hc⟩:=Jx O (A.all λ_ _=>RwC.len) j;obtain⟨rv,e,r1⟩:=A.2 i j G;refine jia Z Z ?_;rw[da];have y:(N.drop (o + i * 1)).take 1 = [rv]:=by rw[hc,e]
 exact jlr hb (Bt y (f:=0) rfl) (H rv r1)
theorem XM {x j:Int} {G H N y:Nat} {a:Option Addr} {rv pv:Value} (K:R G = some (C 40 [.slice a N y,rv,pv])) (O:R H = some (C 3 [I j])):Ro Fx [I x,Pt H,Pt G] (.bool (decide (x < j) || decide (x>=N))) R D:=by
 refine JM λF=>?_
 refine z_3 ?_;refine jor [] (decide (x < j) || decide (x>=N)) (λT A=>?_) (λe c u Q he=>?_)
 .refine jlr (v:=I j) O rfl (jlt (F6 (λg=>?_) (λg=>?_)))
  .rw[g];exact jfo (jlr (v:=.slice a N y) K rfl (jln (jge (A _ _ _ Bn (by rw[g,fH])))))
  .rw[g];exact A _ _ _ DQ (by rw[g,gB])
 refine z_V ?_;rw[Q];exact B9 rfl
theorem WX {v y:Value} {l:List Int} {p:Int->Bool} (h:Aw R v l) (hl:l.length < 1000000) (N:∀(x:Int) (A : Chs) (G : Value->M),J R A (G (.bool (p x)))->J R A (CV P y [I x] G)):Ro EW [v,y] (I (HM p 0 l)) R D:=by
 refine Gl λF=>?_
 refine z_2 ?_;refine Bl h.sl ?_;refine Nw [v,y,I l.length] l.length (λi=>HM p 0 l = HM p i (l.drop i)) (by rw[fk]) λi K e O j H he=>?_
 refine z_V ?_;refine jlt (jif (λc=>?_) (λc=>?_));rotate_left
 .have c:=z_g c;refine B9 ?_;rw[j,dv Z];rfl
 have c:i < l.length:=by have:=z_f c;omega
 refine C5 h Z Z (N _ _ _ ?_);simp only[da];rw[dq c,Kq] at j;refine jif (λg=>?_) (λg=>?_)
 .rw[if_pos g] at j;exact B9 (by rw[j])
 .rw[if_neg (by rw[g];decide)] at j;exact jad (H c j)
theorem Zq {v y:Value} {l:List Int} {p:Int->Bool} (h:Aw R v l) (hl:l.length < 1000000) (G:∀(x:Int) (j : Chs) (A : Value->M),J R j (A (.bool (p x)))->J R j (CV P y [I x] A)):Ro E7 [v,y] (.bool (l.any p)) R D:=by
 refine Fl λF=>?_
 refine z_2 ?_;refine jro (WX h hl G) (jge ?_);rw[Mi];exact B9 rfl
theorem P8 {a:Option Addr} {N G:Nat} {rv pv lv:Value} {l:List Int} {j:Int} (fr:flat rv = true) (fp:flat pv = true) (h:Aw R lv l) (hl:l.length < 1000000):Ro Gx [.agg #[.slice a N G,rv,pv],lv,I j] (.bool (DN N j l)) R D:=by
 refine LD λF=>?_
 refine z_3 ?_;refine ja λW=>ja λb2=>BE (b:=W) λR1 K O=>BE (b:=b2) λT y Q=>?_
 have O:T W = some (C 40 [.slice a N G,rv,pv]):=y _ _ O;have Q:T b2 = some (C 3 [I j]):=Q;refine jro (Zq (p:=λx=>decide (x < j) || decide (x>=N)) (h.le (K.trans y)) hl λx D' k' H=>H8 (by kernel_rfl) (jro (XM O Q) H)) ?_;exact Ao (A:=D) (K.trans y) ⟨rfl,rfl⟩
end
section
variable {R:RM} {v:Value} {g:PG}
set_option maxHeartbeats 1000000 in
set_option maxRecDepth 8000 in
theorem He (h:GrF R v g) (z:GZ g):Ro KY [v] (.bool (gOk g)) R []:=by
 obtain⟨r1,r2,nv,rv,pv,rfl,h1,h2,h3,h4,h5⟩:=h;obtain⟨zn,zr,zp,b3,b4⟩:=z;obtain⟨Q,T,rfl⟩:=h2.sl;obtain⟨W,rc,rfl⟩:=h4.sl;obtain⟨pa,pc,rfl⟩:=h5.sl;have e1:=h1.1;have e2:=h3.1;refine Qg λF=>?_
 refine z_1 ?_;refine ja λb=>BE (b:=b) λR0 D hb=>?_
 have hb:R0 b = some (C 40 [.slice Q r1.length T,.slice W r2.length rc,.slice pa g.pinned.length pc]):=hb;have h1:=h1.mono λ_ _=>NdC.le D
 have h2:=h2.le D;have h3:=h3.mono λ_ _=>RwC.le D
 have h4:=h4.le D;have h5:=h5.le D;rw[e1,e2] at hb;have h2:Fz R0 (.slice Q g.nodes.length T) 2 r1.length r1.flatten:=by rw[<- e1];exact h2
 have h4:Fz R0 (.slice W g.AD.length rc) 1 r2.length r2.flatten:=by rw[<- e2];exact h4
 obtain⟨N,a1⟩:∃N,N = decide ((g.nodes.length:Int) > 200):=⟨_,rfl⟩;obtain⟨O,a2⟩:∃O,O = decide ((g.AD.length:Int) < 1):=⟨_,rfl⟩;obtain⟨A3,a3⟩:∃A3,A3 = decide ((g.AD.length:Int) > 3):=⟨_,rfl⟩;obtain⟨A4,a4⟩:∃A4,A4 = decide ((g.pinned.length:Int) > 8):=⟨_,rfl⟩;have b1:gOk g = (!(N || O || A3 || A4 || !DN g.nodes.length 0 g.pinned) && (g.nodes.all (Nc g.nodes.length)) && g.AD.all λr=>decide (r.length<=8) && DN g.nodes.length (-1) r):=by
  unfold gOk;have q1:decide (g.nodes.length<=200) = !N:=by rw[a1,<- decide_not];exact decide_eq_decide.2 Z
  have q2:decide (1<=g.AD.length) = !O:=by rw[a2,<- decide_not];exact decide_eq_decide.2 Z
  have q3:decide (g.AD.length<=3) = !A3:=by rw[a3,<- decide_not];exact decide_eq_decide.2 Z
  have q4:decide (g.pinned.length<=8) = !A4:=by rw[a4,<- decide_not];exact decide_eq_decide.2 Z
  rw[q1,q2,q3,q4];cases N<;>cases O<;>cases A3<;>cases A4<;>cases DN g.nodes.length 0 g.pinned<;>rfl
 rw[b1];refine jor [Pt b] (N || O) (λK' j=>?_) (λe c u ho he=>?_)
 .refine jfo (jlr (v:=.slice Q g.nodes.length T) hb rfl (jln (jgr ?_)));rw[<- a1];refine F6 (λq=>?_) (λq=>?_)
  .rw[q];refine jfo (jlr (v:=.slice W g.AD.length rc) hb rfl (jln (jlt ?_)));rw[<- a2];exact j _ _ _ Bn (by rw[q,fH])
  .rw[q];exact j _ _ _ DQ (by rw[q,gB])
 refine z_V ?_;refine jor [Pt b] (N || O || A3) (λK' j=>?_) (λe c u a0 he=>?_)
 .rw[ho];refine F6 (λq=>?_) (λq=>?_)
  .rw[q];refine jfo (jlr (v:=.slice W g.AD.length rc) hb rfl (jln (jgr ?_)));rw[<- a3];exact j _ _ _ Bn (by rw[q,fH])
  .rw[q];exact j _ _ _ DQ (by rw[q,gB])
 refine z_V ?_;refine jor [Pt b] (N || O || A3 || A4) (λK' j=>?_) (λe c u a8 he=>?_)
 .rw[a0];refine F6 (λq=>?_) (λq=>?_)
  .rw[q];refine jfo (jlr (v:=.slice pa g.pinned.length pc) hb rfl (jln (jgr ?_)));rw[<- a4];exact j _ _ _ Bn (by rw[q,fH])
  .rw[q];exact j _ _ _ DQ (by rw[q,gB])
 refine z_V ?_;refine jor [Pt b] (N || O || A3 || A4 || !DN g.nodes.length 0 g.pinned) (λK' j=>?_) (λe c u a9 he=>?_)
 .rw[a8];refine F6 (λq=>?_) (λq=>?_)
  .rw[q];refine Da (l:=[.slice Q g.nodes.length T,.slice W g.AD.length rc,.slice pa g.pinned.length pc]) hb (by exact z_n 3) rfl (jfo (jlr (v:=.slice pa g.pinned.length pc) hb rfl ?_));exact jro (P8 rfl rfl h5 zp) (j _ _ _ Bn (by rw[q,fH]))
  .rw[q];exact j _ _ _ DQ (by rw[q,gB])
 refine z_V ?_;rw[a9];generalize (N || O || A3 || A4 || !DN g.nodes.length 0 g.pinned) = B;refine jif (λq=>?_) (λq=>?_)
 .rw[q];exact Ao (A:=[]) D ⟨rfl,rfl⟩
 rw[q];refine PQ [Pt b] (g.nodes.all (Nc g.nodes.length) = true) (λK1 k1=>?_) (λe hp he=>?_)
 .refine jfo (jlr (v:=.slice Q g.nodes.length T) hb rfl (jln ?_));refine PQ [Pt b] (g.nodes.all (Nc g.nodes.length) = true) (λK2 k2=>?_) (λe hp he=>?_);rotate_left
  .refine z_V ?_;exact k1 hp
  refine Nw [Pt b,.slice Q g.nodes.length T,I g.nodes.length] g.nodes.length (λi=>(g.nodes.take i).all (Nc g.nodes.length) = true) rfl λi K e hi y hK he=>?_
  refine z_V ?_;refine jlt (jif (λc=>?_) (λc=>?_));rotate_left
  .have c:=z_g c;rw[dh Z] at y;exact k2 y
  have c:i < g.nodes.length:=by have:=z_f c;omega
  obtain⟨b5,b6⟩:=b3 _ (dc c);have a7:Nc g.nodes.length g.nodes[i] = false->g.nodes.all (Nc g.nodes.length) = false:=λh=>by
   rw[List.all_eq_false];exact⟨_,dc c,by rw[h];decide⟩
  refine jnd h1 h2 c λx o ty cs xv yv hx hy b0 ho a6=>Da b0 ho a6 ?_
  obtain⟨xa,xc,rfl⟩:=hx.sl;obtain⟨ya,yc,rfl⟩:=hy.sl;refine ja λb2=>jS ([.slice xa g.nodes[i].1.length xc,.slice ya g.nodes[i].2.length yc]) ?_
  obtain⟨G,H⟩:∃G,G = decide ((g.nodes[i].1.length:Int) > 4):=⟨_,rfl⟩;obtain⟨B2,a5⟩:∃B2,B2 = decide ((g.nodes[i].2.length:Int) > 4):=⟨_,rfl⟩;have kn:Nc g.nodes.length g.nodes[i] = !(G || B2 || !DN g.nodes.length (-1) g.nodes[i].1):=by
   unfold Nc;have q1:decide (g.nodes[i].1.length<=4) = !G:=by rw[H,<- decide_not];exact decide_eq_decide.2 Z
   have q2:decide (g.nodes[i].2.length<=4) = !B2:=by rw[a5,<- decide_not];exact decide_eq_decide.2 Z
   rw[q1,q2];cases G<;>cases B2<;>cases DN g.nodes.length (-1) g.nodes[i].1<;>rfl
  refine jor [Pt b,Pt b2,.slice Q g.nodes.length T,I g.nodes.length,I i] (G || B2) (λK' j=>?_) (λe c4 u ho he=>?_)
  .refine jfo (jl (v:=.slice xa g.nodes[i].1.length xc) rfl (jln (jgr ?_)));rw[<- H];refine F6 (λq=>?_) (λq=>?_)
   .rw[q];refine jfo (jl (v:=.slice ya g.nodes[i].2.length yc) rfl (jln (jgr ?_)));rw[<- a5];exact j _ _ _ Bn (by rw[q,fH])
   .rw[q];exact j _ _ _ DQ (by rw[q,gB])
  refine z_V ?_;refine jor [Pt b,.slice Q g.nodes.length T,I g.nodes.length,I i] (G || B2 || !DN g.nodes.length (-1) g.nodes[i].1) (λK' j=>?_) (λe c3 u a0 he=>?_)
  .rw[ho];refine F6 (λq=>?_) (λq=>?_)
   .rw[q];refine Da (l:=[.slice Q g.nodes.length T,.slice W g.AD.length rc,.slice pa g.pinned.length pc]) hb (by exact z_n 3) rfl (jfo (jl (v:=.slice xa g.nodes[i].1.length xc) rfl ?_));exact jro (P8 rfl rfl hx b5) (j _ _ _ Bn (by rw[q,fH]))
   .rw[q];exact j _ _ _ DQ (by rw[q,gB])
  refine z_V ?_;rw[a0];refine jif (λq=>?_) (λq=>?_)
  .rw[q] at kn;rw[a7 kn];exact Ao (A:=[]) D ⟨rfl,rfl⟩
  .rw[q] at kn;refine jad (BT (hK c ?_));rw[db c,gx,y];simp only[List.all_cons,List.all_nil,Bool.and_true,f7];exact kn
 refine z_V ?_;rw[hp];refine jfo (jlr (v:=.slice W g.AD.length rc) hb rfl (jln ?_));refine Nw [Pt b,.slice W g.AD.length rc,I g.AD.length] g.AD.length (λi=>((g.AD.take i).all λr=>decide (r.length<=8) && DN g.nodes.length (-1) r) = true) rfl λi K e hi y hK he=>?_
 refine z_V ?_;refine jlt (jif (λc=>?_) (λc=>?_));rotate_left
 .have c:=z_g c;rw[dh Z] at y;rw[y];exact Ao (A:=[]) D ⟨rfl,rfl⟩
 have c:i < g.AD.length:=by have:=z_f c;omega
 have zx:=b4 _ (dc c);refine jrw h3 h4 c λxv hx=>?_
 obtain⟨xa,xc,rfl⟩:=hx.sl;obtain⟨G,H⟩:∃G,G = decide ((g.AD[i].length:Int) > 8):=⟨_,rfl⟩;have kn:(decide (g.AD[i].length<=8) && DN g.nodes.length (-1) g.AD[i]) = !(G || !DN g.nodes.length (-1) g.AD[i]):=by
  have q1:decide (g.AD[i].length<=8) = !G:=by rw[H,<- decide_not];exact decide_eq_decide.2 Z
  rw[q1];cases G<;>cases DN g.nodes.length (-1) g.AD[i]<;>rfl
 refine jor [Pt b,.slice W g.AD.length rc,I g.AD.length,I i] (G || !DN g.nodes.length (-1) g.AD[i]) (λK' j=>?_) (λe c3 u ho he=>?_)
 .refine jln (jgr ?_);rw[<- H];refine F6 (λq=>?_) (λq=>?_)
  .rw[q];refine Da (l:=[.slice Q g.nodes.length T,.slice W g.AD.length rc,.slice pa g.pinned.length pc]) hb (by exact z_n 3) rfl ?_;exact jro (P8 rfl rfl hx zx) (j _ _ _ Bn (by rw[q,fH]))
  .rw[q];exact j _ _ _ DQ (by rw[q,gB])
 refine z_V ?_;rw[ho];refine jif (λq=>?_) (λq=>?_)
 .rw[q] at kn;have:(g.AD.all λr=>decide (r.length<=8) && DN g.nodes.length (-1) r) = false:=by
   rw[List.all_eq_false];exact⟨_,dc c,by rw[kn];decide⟩
  rw[this];exact Ao (A:=[]) D ⟨rfl,rfl⟩
 .rw[q] at kn;refine jad (hK c ?_);rw[db c,gx,y];simp only[List.all_cons,List.all_nil,Bool.and_true,f7];exact kn
end
end Go.Lf
end
