/- A part of the proof of the given row. Conditions: none. -/
import Derived.Test.YthfhnheigfoioaaGreatGK
set_option linter.unusedVariables false
set_option linter.unusedSimpArgs false
set_option maxRecDepth 100000
section
namespace Sm
open Go.Lf
theorem Mu {AJ tops:List Int} {n:Int} {f r:Nat} (h:r < tops.length/\(Aj AJ r = true\/AK r + 16 < tops.getD r 0 + n)):nxt AJ tops n (f + 1) r = nxt AJ tops n f (r + 1):=by
 conv=>lhs;unfold nxt
 rw[if_pos h]
theorem NB {AJ tops:List Int} {n:Int} {f r:Nat} (h:¬ (r < tops.length/\(Aj AJ r = true\/AK r + 16 < tops.getD r 0 + n))):nxt AJ tops n f r = r:=by
 cases f with
 | zero=>rfl
 | succ f=>unfold nxt;rw[if_neg h]
theorem W0 {AJ tops:List Int} {n:Int}:∀{f r:Nat},r<=tops.length->nxt AJ tops n f r<=tops.length/\r<=nxt AJ tops n f r
 | 0,r,h=>⟨h,z_n _⟩
 | f + 1,r,h=>by
  by_cases c:r < tops.length/\(Aj AJ r = true\/AK r + 16 < tops.getD r 0 + n)
  .rw[Mu c];have:=W0 (AJ:=AJ) (n:=n) (f:=f) (r:=r + 1) (tops:=tops) Z;omega
  .rw[NB c];exact⟨h,z_n _⟩
theorem MK {AJ:List Int} {l:List AQ} {a:Int} {j tops:List Int} {r:Nat}:Ca AJ l (a :: j) tops r = if Aj AJ (AN a) = true then (Ca AJ l j tops r).map λq=>(a :: q.1,q.2) else
  if nxt AJ tops (CW l a) (tops.length + 1) r = tops.length then none else
  (Ca AJ l j (tops.set (nxt AJ tops (CW l a) (tops.length + 1) r) (tops.getD (nxt AJ tops (CW l a) (tops.length + 1) r) 0 + CW l a)) (nxt AJ tops (CW l a) (tops.length + 1) r)).map λq=>(tops.getD (nxt AJ tops (CW l a) (tops.length + 1) r) 0 :: q.1,q.2):=rfl
end Sm
namespace Go.Lf
open Go Sm
theorem HS:P.underlying 122 = some (.map 3 3):=by kernel_rfl
theorem Wq (w:World):(zeroValue 3).run P w = .ok (I 0) w:=by kernel_rfl
theorem ZT (w:World):(Instr.makeMap 122 none).run P w = .ok (.map (some w.heap.size)) (w.alloc (.map #[] 0)):=rfl
theorem SQ {l:List (Int × Value)} {x:Int} {v:Value} (h:∀p∈l,p.1≠x):up l x v = l ++ [(x,v)]:=by
 unfold up;rw[PV.2 h];rfl
def prs (xs ys:List Int):List (Int × Value):=(xs.zip ys).map λp=>(p.1,I p.2)
theorem UI {xs ys:List Int} {p:Int × Value} (h:p∈prs xs ys):p.1∈xs:=by
 obtain⟨q,j,rfl⟩:=dc.1 h;exact (fB j).1
theorem Uf {xs ys:List Int} {x y:Int} (h:xs.length = ys.length):prs (xs ++ [x]) (ys ++ [y]) = prs xs ys ++ [(x,I y)]:=by
 unfold prs;rw[List.zip_append h,dz];rfl
def bX (r:Option (List Int × List Int)) (order:List Int) (sb:Nat) (so:Obj) (v:Value) (A:Chs):Prop:=match r with
 | none=>v = .tuple #[.map none,SN,.bool false]/\A = [(sb,so)]
 | some (to,tops)=>to.length = order.length/\∃mb o tb,v = .tuple #[.map (some mb),S0 tb tops.length tops.length,.bool true]/\Mg o (prs order to)/\A = [(tb,C Ab (tops.map I ++ [])),(mb,o),(sb,so)]
section st
variable {R:RM} {s:Sm.Ah} {wv tv mv thv ov pv:Value} {l:List AQ} {met:List Int}
set_option maxHeartbeats 2000000 in
set_option maxRecDepth 8000 in
theorem Xk {hb mb N:Nat} {T:Obj} {v rv:Value} {D:List Int} (h:SF R s wv tv mv thv ov pv) (hv:HpV R s wv tv mv thv ov pv l met hb mb v) (c4:Ay R rv D) (f1:D.length<=192) (e5:∀a∈D,∃t,Ax l a = some t) (hnd:D.Nodup) (b1:MpI T (λr=>Aj s.AJ r = true)) (d2:∀a∈D,0<=a/\a < 1000000) (e6:∀t∈l,0<=AF t.sh/\AF t.sh<=10) :
  Fn P I4 [Pt hb,rv,.map (some N)] R [(N,T)] (λv R' A=>R' = R/\bX (Ca s.AJ l D (Bl s) 1) D N T v A):=by
 refine Nq λF=>?_
 refine z_3 ?_;obtain⟨o,g1,g2,g3,-⟩:=hv;obtain⟨c9,tc,sp,rfl,d4,f2⟩:=h.z;have t0:=h.b.t0;have t1:=h.b.t1;have tp:=h.b.tp;obtain⟨ra,rc,e3⟩:=c4.sl;refine WU ZT λO o0 e1=>jnc (jfo (jfo (jlr (v:=S0 c9 s.AA.length tc) g1 rfl (jln (jms Z Z Z λtb=>?_)))))
 have e0:(List.replicate (s.AA.length:Int).toNat (cl z3)).flatten = (List.replicate s.AA.length (0:Int)).map I ++ []:=by
  rw[dG,eD,List.map_replicate];show (List.replicate s.AA.length [I 0]).flatten = _;rw[<- List.map_replicate (f:=λx=>[x])];simp
 rw[e0];have a5:(Bl s).length = s.AA.length:=by unfold Bl;simp
 have b3:∀(i:Nat) (hi:i < (Bl s).length),(Bl s)[i] = if Aj s.AJ i = true then (Sm.rv s.AA i).top else AK i:=λi hi=>by
  have e:(Bl s)[i]? = some (if Aj s.AJ i = true then (Sm.rv s.AA i).top else AK i):=by
   unfold Bl;rw[eH,gI Z];rfl
  rw[dH hi] at e;exact ei e
 have d3:∀x∈Bl s,-1000<=x/\x<=1000:=λx hx=>by
  obtain⟨i,hi,rfl⟩:=dm hx;rw[b3 i hi];split
  .have e:Sm.rv s.AA i = s.AA[i]'(Z):=by
    unfold Sm.rv gv;rw[dG,dI,dH Z];rfl
   rw[e];have:=tp _ (dL (l:=s.AA) (n:=i) Z);omega
  .unfold AK;split<;>omega
 refine jci (λ_:Unit=>[Pt hb,rv,.map (some N),.map (some O),S0 tb s.AA.length s.AA.length]) (λ_=>(tb,C Ab ((Bl s).map I ++ [])) :: (O,o0) :: ([(N,T)] ++ F)) (λR' _=>R' = R) (λK1 k1=>?_) ?_
 .refine jln ?_;refine jiI k1 λK2 k2=>?_
  refine jli (λi:Nat=>s.AA.length - i) (λi=>[Pt hb,rv,.map (some N),.map (some O),S0 tb s.AA.length s.AA.length,I s.AA.length,I i])
   (λi=>(tb,C Ab (((Bl s).take i ++ List.replicate (s.AA.length - i) 0).map I ++ [])) :: (O,o0) :: ([(N,T)] ++ F)) (λR' i=>R' = R/\i<=s.AA.length) 0 ⟨rfl,Z⟩ τ τ ?_
  rintro K e R' i ⟨hR,hi⟩ he hK;subst hR;refine z_V ?_;refine jlt (jif (λc=>?_) (λc=>?_));rotate_left
  .have c:=z_g c;rw[dO Z,show s.AA.length - i = 0 from Z,List.replicate_zero,eD (Bl s)];exact k2 R' () rfl
  have c:i < s.AA.length:=by have:=z_f c;omega
  have hlen:((Bl s).take i ++ List.replicate (s.AA.length - i) 0).length = s.AA.length:=by simp[a5];omega
  have Em:∀(y:Int) (w:List Int),w = (Bl s).take i ++ y :: List.replicate (s.AA.length - (i + 1)) 0->∀z,w.set i z = (Bl s).take i ++ z :: List.replicate (s.AA.length - (i + 1)) 0:=λy w hw z=>by
   rw[hw,fH _ _ (by simp[a5];omega)];simp[a5,show min i s.AA.length = i from Z]
  have b9:(Bl s).take i ++ List.replicate (s.AA.length - i) 0 = (Bl s).take i ++ 0 :: List.replicate (s.AA.length - (i + 1)) 0:=by
   rw[show s.AA.length - i = (s.AA.length - (i + 1)) + 1 from Z];rfl
  have a2:(Bl s).take (i + 1) ++ List.replicate (s.AA.length - (i + 1)) 0 = (Bl s).take i ++ (Bl s)[i] :: List.replicate (s.AA.length - (i + 1)) 0:=by
   rw[dJ Z,dS];rfl
  have b5:=b3 i Z;refine jci (λ_:Unit=>[Pt hb,rv,.map (some N),.map (some O),S0 tb s.AA.length s.AA.length,I s.AA.length,I i])
   (λ_=>(tb,C Ab (((Bl s).take (i + 1) ++ List.replicate (s.AA.length - (i + 1)) 0).map I ++ [])) :: (O,o0) :: ([(N,T)] ++ F)) (λH _=>H = R') (λK3 k3=>?_) ?_
  rotate_left
  .rintro e H _ hp he;subst hp;refine z_V ?_;exact jad (hK H (i + 1) Z ⟨rfl,Z⟩)
  refine jiI k3 λK4 k4=>?_
  refine jp (CZ i) (C0 c (jsi Z ?_));rw[Em 0 _ b9];refine @jlk _ _ _ N T _ _ (Aj s.AJ i) _ b1 Iff.rfl (jif (λhh=>?_) (λhh=>?_))
  .have a8:(Ad eRg s.AA ++ sp)[0 + i * 5 + 2]? = some (I (s.AA[i]).top):=by rw[da];exact C6 (f:=2) c rfl
   refine jnc (jfo (jfo (jlr (v:=S0 c9 s.AA.length tc) g1 rfl (C0 c (jfo (jlr (v:=I (s.AA[i]).top) d4 a8 (C0 c (jsi (by simp[a5];omega) ?_))))))));rw[Em _ _ rfl];rw[a2,b5,if_pos hh] at k4;have e:Sm.rv s.AA i = s.AA[i]:=by
    unfold Sm.rv gv;rw[dG,dI,dH Z];rfl
   rw[e] at k4;exact k4 R' () rfl
  .rw[a2,b5,if_neg (by rw[hh];decide)] at k4;exact k4 R' () rfl
 rintro e R' _ hR he;subst hR;refine z_V ?_;refine jci (λ_:List Int × List Int × Obj=>[.map (some O),S0 tb s.AA.length s.AA.length]) (λq=>(tb,C Ab (q.2.1.map I ++ [])) :: (O,q.2.2) :: ([(N,T)] ++ F)) (λH q=>H = R'/\q.2.1.length = s.AA.length/\q.1.length = D.length/\Ca s.AJ l D (Bl s) 1 = some (q.1,q.2.1)/\Mg q.2.2 (prs D q.1)) (λK1 k1=>?_) ?_;rotate_left
 .rintro e H ⟨to,tops,o2⟩ ⟨hR,hl,c7,G,Q⟩ he;subst hR;dsimp only at hl c7 G Q ⊢;refine z_V ?_;refine Ao (A:=[(tb,C Ab (tops.map I ++ [])),(O,o2),(N,T)]) (RM.le.refl _) ⟨rfl,?_⟩;rw[G];exact⟨c7,O,o2,tb,by rw[hl],Q,rfl⟩
 refine Bf ⟨ra,rc,e3⟩ ?_;refine jiI k1 λK2 k2=>?_
 refine jli (λi:Nat × Nat × List Int × Obj × List Int=>D.length - i.1) (λi=>[Pt hb,.map (some N),.map (some O),S0 tb s.AA.length s.AA.length,I i.2.1,rv,I D.length,I i.1])
  (λi=>(tb,C Ab (i.2.2.1.map I ++ [])) :: (O,i.2.2.2.1) :: ([(N,T)] ++ F))
  (λH i=>H = R'/\i.1<=D.length/\1<=i.2.1/\i.2.1<=s.AA.length/\i.2.2.1.length = s.AA.length/\(∀x∈i.2.2.1,-1000<=x/\x<=1000 + 10 * (i.1:Int))/\i.2.2.2.2.length = i.1/\Mg i.2.2.2.1 (prs (D.take i.1) i.2.2.2.2)/\(Ca s.AJ l (D.drop i.1) i.2.2.1 i.2.1).map (λq=>(i.2.2.2.2 ++ q.1,q.2)) = Ca s.AJ l D (Bl s) 1)
  (0,1,Bl s,o0,[]) ⟨rfl,V,V,by dsimp only;omega,a5,λx hx=>by have:=d3 x hx;dsimp only;omega,rfl,e1,by dsimp only;rw[fG];cases Ca s.AJ l D (Bl s) 1<;>rfl⟩ τ τ ?_
 rintro K e H ⟨k,r,tops,o2,to⟩ ⟨hR,hk,b7,b0,a6,a3,a4,Q,G⟩ he hK;subst hR;dsimp only at hk b7 b0 a6 a3 a4 Q G he hK ⊢;refine z_V ?_;refine jlt (jif (λc=>?_) (λc=>?_));rotate_left
 .have c:=z_g c;rw[dT Z] at G;rw[dO Z] at Q;exact k2 H (to,tops,o2) ⟨rfl,a6,by dsimp only;omega,by rw[<- G];simp[Ca],Q⟩
 have c:k < D.length:=by have:=z_f c;omega
 have b4:=dL c;obtain⟨t,ht⟩:=e5 _ b4;have f3:=e6 t (BF ht).1;have a7:=d2 _ b4;have e4:CW l D[k] = AF t.sh:=by unfold CW;rw[ht]
 rw[dQ c,MK] at G;have b6:∀p∈prs (D.take k) to,p.1≠D[k]:=λp hp e=>by
  have h1:=UI hp;rw[e] at h1;obtain⟨j,hj,e2⟩:=dm h1;rw[dU] at hj;rw[fy] at e2;have:=(List.getElem_inj hnd).1 e2;omega
 have c6:∀y:Int,prs (D.take (k + 1)) (to ++ [y]) = prs (D.take k) to ++ [(D[k],I y)]:=λy=>by
  rw[dJ c,Uf (by rw[dU];omega)]
 refine jci (λq:Nat × List Int × Obj × List Int=>[Pt hb,.map (some N),.map (some O),S0 tb s.AA.length s.AA.length,I q.1,rv,I D.length,I k])
  (λq=>(tb,C Ab (q.2.1.map I ++ [])) :: (O,q.2.2.1) :: ([(N,T)] ++ F))
  (λW q=>W = H/\1<=q.1/\q.1<=s.AA.length/\q.2.1.length = s.AA.length/\(∀x∈q.2.1,-1000<=x/\x<=1000 + 10 * ((k + 1:Nat):Int))/\q.2.2.2.length = k + 1/\Mg q.2.2.1 (prs (D.take (k + 1)) q.2.2.2)/\(Ca s.AJ l (D.drop (k + 1)) q.2.1 q.1).map (λz=>(q.2.2.2 ++ z.1,z.2)) = Ca s.AJ l D (Bl s) 1) (λK3 k3=>?_) ?_
 rotate_left
 .rintro e W ⟨r2,b2,o3,e7⟩ ⟨hR,q1,q2,q3,q4,q5,q6,q7⟩ he;subst hR;dsimp only at q1 q2 q3 q4 q5 q6 q7 he ⊢;refine z_V ?_;exact jad (hK W (k + 1,r2,b2,o3,e7) (by dsimp only;omega) ⟨rfl,by dsimp only;omega,q1,q2,q3,q4,q5,q6,q7⟩)
 refine jiI k3 λK4 k4=>?_
 clear k3 hK k2 k1;refine Bk c4 Z Z ?_;simp only[dG];refine jp (FK a7.1 a7.2) ?_;refine @jlk _ _ _ N T _ _ (Aj s.AJ (AN D[k])) _ b1 Iff.rfl (jif (λhh=>?_) (λhh=>?_))
 .rw[if_pos hh] at G;refine @YR _ _ _ 122 3 O o2 _ (prs (D.take k) to) _ _ _ HS Q λo3 a1=>?_
  rw[SQ b6] at a1;refine Er tb (k4 H (r,tops,o3,to ++ [D[k]]) ⟨rfl,b7,b0,a6,λx hx=>by have:=a3 x hx;omega,by simp[a4],by show Mg _ _;rw[c6];exact a1,?_⟩);dsimp only;rw[<- G,Option.map_map];congr 1;funext z;simp
 rw[if_neg (by rw[hh];decide),e4] at G;refine jnc (jfo (jlr (v:=.map (some mb)) g1 rfl ?_));refine @Ot _ _ _ mb o l D[k] false (Li.fz g2) g3 (λe=>by rw[ht] at e;cases e) (λt' v' e c8=>?_);rw[ht] at e;cases e;refine Dm c8 ?_;clear c8;have a0:∀{i:Nat} (hi:i < s.AA.length),(tops.map I ++ [])[0 + i * 1]? = some (I (tops[i]'(Z))):=λ{i} hi=>by
  rw[da,fN];exact GA Z
 have a9:∀{i:Nat} (hi:i < s.AA.length),tops.getD i 0 = tops[i]'(Z):=λ{i} hi=>by
  rw[dI,dH Z];rfl
 obtain⟨rN,b8⟩:∃rN,rN = nxt s.AJ tops (AF t.sh) (tops.length + 1) r:=⟨_,rfl⟩;have c0:=W0 (AJ:=s.AJ) (tops:=tops) (n:=AF t.sh) (f:=tops.length + 1) (r:=r) Z;rw[<- b8] at G c0;have d1:∀i:Nat,0<=AK i/\AK i<=176:=λi=>by unfold AK;split<;>omega
 refine jci (λ_:Unit=>[Pt hb,.map (some N),.map (some O),S0 tb s.AA.length s.AA.length,I rN,I D[k],I (AF t.sh),rv,I D.length,I k]) (λ_=>(tb,C Ab (tops.map I ++ [])) :: (O,o2) :: ([(N,T)] ++ F)) (λW _=>W = H) (λK5 k5=>?_) ?_
 .refine jiI k5 λK6 k6=>?_
  refine jli (λi:Nat=>s.AA.length - i) (λi=>[Pt hb,.map (some N),.map (some O),S0 tb s.AA.length s.AA.length,I i,I D[k],I (AF t.sh),rv,I D.length,I k]) (λ_=>(tb,C Ab (tops.map I ++ [])) :: (O,o2) :: ([(N,T)] ++ F)) (λW i=>W = H/\i<=s.AA.length/\∃f,nxt s.AJ tops (AF t.sh) f i = rN/\tops.length - i < f) r ⟨rfl,b0,tops.length + 1,b8.symm,Z⟩ τ τ ?_;rintro K e W i ⟨hR,hi,f,hf,f0⟩ he hK;subst hR;refine z_V ?_;refine Ce (Ce (jln (jlt ?_)));have bi:=d1 i;by_cases ca:i < s.AA.length
  .rw[decide_eq_true Z];have e9:=a3 _ (dL (l:=tops) (n:=i) Z);refine jtt (C5 λe he=>?_);refine z_V ?_;refine jtt (@jlk _ _ _ N T _ _ (Aj s.AJ i) _ b1 Iff.rfl (Ce (jtt ?_)));obtain⟨f,rfl⟩:∃f',f = f' + 1:=⟨f - 1,Z⟩;cases hs:Aj s.AJ i with
   | false=>
    refine jff (C0 ca (jl (v:=I (tops[i]'(Z))) (a0 ca) (jad (C5 λe he=>?_))));refine z_V ?_;refine jff (jp (CZ i) (Ce (jff (jad (jgr (C5 λe he=>?_))))));refine z_V ?_;refine Ce (jtt (F5 (C5 λe he=>?_)));refine z_V ?_;refine EP (Ak (jff (jl (v:=I (tops[i]'(Z))) (a0 ca) jev)) (C5 λe he=>?_));refine z_V ?_;refine jif (λg=>?_) (λg=>?_)
    .have g:=z_f g;rw[Mu ⟨Z,.inr (by rw[a9 ca];omega)⟩] at hf;exact jad (hK W (i + 1) Z ⟨rfl,Z,f,hf,Z⟩)
    .have g:=z_g g;have c5:¬ (i < tops.length/\(Aj s.AJ i = true\/AK i + 16 < tops.getD i 0 + AF t.sh)):=by
      rw[hs,a9 ca];rintro⟨_,g2 | g2⟩
      .cases g2
      .omega
     rw[NB c5] at hf;subst hf;exact k6 W () rfl
   | true=>
    refine jtf (C5 λe he=>?_);refine z_V ?_;refine jtf (Ce (jtf (C5 λe he=>?_)));refine z_V ?_;refine Ce (jtt (EP (C5 λe he=>?_)));refine z_V ?_;refine EP (Ak (jtf jev) (C5 λe he=>?_));refine z_V ?_;rw[Mu ⟨Z,.inl hs⟩] at hf;exact DG (jad (hK W (i + 1) Z ⟨rfl,Z,f,hf,Z⟩))
  .rw[decide_eq_false Z];refine jft (C5 λe he=>?_);refine z_V ?_;refine jft (Ce (jft (C5 λe he=>?_)));refine z_V ?_;refine jgu (Ce (jgu (C5 λe he=>?_)));refine z_V ?_;refine Ce (jft (C5 λe he=>?_));refine z_V ?_;refine F5 (Ak (jgu jev) (C5 λe he=>?_));refine z_V ?_;rw[NB (by rintro⟨g2,_⟩;omega)] at hf;subst hf;exact CQ (k6 W () rfl)
 rintro e W _ hR he;subst hR;refine z_V ?_;refine jln (jeq (jif (λg=>?_) (λg=>?_)))
 .have g:(rN:Int) = s.AA.length:=by simpa using g
  rw[if_pos Z] at G;refine Ao (A:=[(N,T)]) (RM.le.refl _) ⟨rfl,?_⟩;rw[<- G];exact⟨rfl,rfl⟩
 have g:¬ (rN:Int) = s.AA.length:=by simpa using g
 rw[if_neg Z] at G;have hN:rN < s.AA.length:=Z
 rw[a9 hN] at G;have e8:=a3 _ (dL (l:=tops) (n:=rN) Z);refine C0 hN (jl (v:=I (tops[rN]'(Z))) (a0 hN) ?_);refine @YR _ _ _ 122 3 O o2 _ (prs (D.take k) to) _ _ _ HS Q λo3 a1=>?_
 rw[SQ b6] at a1;refine Er tb (C0 hN (jl (v:=I (tops[rN]'(Z))) (a0 hN) (jad (C0 hN (jsi Z ?_)))));refine k4 W (rN,tops.set rN (tops[rN]'(Z) + AF t.sh),o3,to ++ [tops[rN]'(Z)]) ⟨rfl,Z,Z,by simpa using a6,λx hx=>?_,by simp[a4],by show Mg _ _;rw[c6];exact a1,?_⟩
 .rcases fO hx with h2 | h2
  .have:=a3 x h2;omega
  .subst h2;omega
 dsimp only;rw[<- G,Option.map_map];congr 1;funext z;simp
end st
end Go.Lf
end
section
namespace Go.Lf
open Go Sm
section rules
variable {R:RM} {D:Chs} {k:Value->M}
theorem Y4 {v z:Value} {t w n y:Nat} {j:List Value} (h:Fz R v w n j) (hw:j.length = n * w) (hz:(cl z).length = w) (hb:y≠0) (W:y * (2 * n + 200)<=2 ^ 48) (H:∀b c sp,n<=c->sp.length = (c - n) * w->J R ((b,C t (j ++ sp)) :: D) (k (S0 b n c))) :
  J R D (BS t 0 (ZR 0 z) [] λx=>AP t w y (cl z) x v k):=by
 obtain⟨a,O,rfl,T⟩:=Fz.reads h;refine jbs (cs:=[]) rfl rfl λK=>(Wl (new:=j) ?_ hb W (λ_=>rfl) (λh0=>?_) (λN c hc=>B8 (fF _ _ _) (BV ?_)))
 .intro Q G;exact T Q (St.drop (A:=[(K,C t [])]) (by simpa using G))
 .subst h0;have:j = []:=dy.1 Z;subst this;exact H K 0 [] V V
 .exact H N c _ hc (by rw[Br (w:=w) (by intro x hx;rw[(eR.1 hx).2];exact hz)];simp)
theorem WB {q:Nat} {v:Value} {w n:Nat} {j:List Value} {x y:Operand} (e0:∀w:World,(do eqGuard .eql q x y (SN) (SN);binOp .eql q (SN) (SN):Sem Value).run P w = .ok (.bool true) w) (K:∀(a:Addr) (n c:Nat) (w:World),(do eqGuard .eql q x y (.slice (some a) n c) (SN);binOp .eql q (.slice (some a) n c) (SN):Sem Value).run P w = .ok (.bool false) w) (h:Fz R v w n j) (A:v = SN->n = 0->j = []->J R D (k (.bool true))) (G:J R D (k (.bool false))):J R D (X P (do eqGuard .eql q x y v (SN);binOp .eql q v (SN)) k):=by
 rcases h with ⟨rfl,N,O⟩ | ⟨b,o,H,t,Q,rfl,_⟩
 .exact @jxr R D k _ _ e0 (A rfl N O)
 .exact @jxr R D k _ _ (K _ _ _) G
end rules
def OwW (t w n:Nat) (cells:List Value) (v:Value) (A:Chs):Prop:=(n = 0/\v = SN/\A = [])\/∃b c sp,n<=c/\sp.length = (c - n) * w/\v = S0 b n c/\A = [(b,C t (cells ++ sp))]
section st
variable {R:RM}
theorem S7 {v:Value} {n:Nat} {j:List Value} (h:Fz R v 5 n j) (H:j.length = n * 5) (K:n < 1000000):Fn P Ff [v] R [] (λx y A=>y = R/\OwW AO 5 n j x A):=by
 refine Ih λF=>?_
 refine z_1 ?_;refine @WB _ _ _ _ _ _ _ _ _ _ (λw=>by kernel_rfl) (λa n c w=>by kernel_rfl) h (λ_ h0 _=>DG (Ao (RM.le.refl R) ⟨rfl,.inl ⟨h0,rfl,rfl⟩⟩)) (CQ (Y4 h H rfl δ Z λb c sp D G=>Ao (RM.le.refl R) ⟨rfl,.inr ⟨b,c,sp,D,G,rfl,rfl⟩⟩))
theorem VF {v:Value} {n:Nat} {j:List Value} (h:Fz R v 1 n j) (H:j.length = n * 1) (K:n < 1000000):Fn P Fc [v] R [] (λx y A=>y = R/\OwW Az 1 n j x A):=by
 refine Im λF=>?_
 refine z_1 ?_;refine @WB _ _ _ _ _ _ _ _ _ _ (λw=>by kernel_rfl) (λa n c w=>by kernel_rfl) h (λ_ h0 _=>DG (Ao (RM.le.refl R) ⟨rfl,.inl ⟨h0,rfl,rfl⟩⟩)) (CQ (Y4 h H rfl δ Z λb c sp D G=>Ao (RM.le.refl R) ⟨rfl,.inr ⟨b,c,sp,D,G,rfl,rfl⟩⟩))
theorem T8 {v:Value} {n:Nat} {j:List Value} (h:Fz R v 4 n j) (H:j.length = n * 4) (K:n < 1000000):Fn P FV [v] R [] (λx y A=>y = R/\OwW Q5 4 n j x A):=by
 refine Ig λF=>?_
 refine z_1 ?_;refine @WB _ _ _ _ _ _ _ _ _ _ (λw=>by kernel_rfl) (λa n c w=>by kernel_rfl) h (λ_ h0 _=>DG (Ao (RM.le.refl R) ⟨rfl,.inl ⟨h0,rfl,rfl⟩⟩)) (CQ (Y4 h H rfl δ Z λb c sp D G=>Ao (RM.le.refl R) ⟨rfl,.inr ⟨b,c,sp,D,G,rfl,rfl⟩⟩))
end st
section rules
variable {R:RM} {D:Chs}
theorem Zt {t w b i f:Nat} {rows:List (List Value)} {sp:List Value} {v:Value} {D' : Chs} {m:M} (j:∀r∈rows,r.length = w) (y:i < rows.length) (A:f < w) (G:flat v = true) (x:cl v = [v]) [a:At D b (C t (rows.flatten ++ sp))] [u:Up D b (C t (rows.flatten ++ sp)) (C t ((rows.set i ((rows[i]).set f v)).flatten ++ sp)) D'] (H:J R D' m) :
  J R D (ST 1 (.pointer (some ⟨b,0 + i * w + f,none⟩)) v m):=by
 have hl:i * w + w<=(rows.flatten ++ sp).length:=by
  rw[dK,Br j,<- gj];exact gX (ff w Z) (Nat.le_add_right _ _)
 refine js (cs':=(rows.set i ((rows[i]).set f v)).flatten ++ sp) (by rw[x];rfl) (by rw[x];simp[Bz,G]) Z ?_ H;rw[x,da,aZ hl A,Fe i y j];exact Is (by rw[eG];exact j _ (dL y)) i y j
end rules
def Hq:List Th->List (List Value)->Chs->Prop
 | [],rows,A=>rows = []/\A = []
 | t :: ts,rows,A=>∃rv rest A1 A2,rows = [rv,I t.next,.bool t.busy,I t.Am] :: rest/\SO t.AD rv A1/\Hq ts rest A2/\A = A1 ++ A2
theorem Hq.app:∀{y:List Th} {rows:List (List Value)} {A:Chs},Hq y rows A->∀{t:Th} {rv:Value} {j:Chs},SO t.AD rv j->Hq (y ++ [t]) (rows ++ [[rv,I t.next,.bool t.busy,I t.Am]]) (A ++ j)
 | [],rows,A,h,t,rv,j,so=>by
  obtain⟨rfl,rfl⟩:=h;exact⟨rv,[],j,[],rfl,so,⟨rfl,rfl⟩,V⟩
 | u :: y,rows,A,h,t,rv,j,so=>by
  obtain⟨x,D,G,H,rfl,K,N,rfl⟩:=h;exact⟨x,_,G,H ++ j,rfl,K,N.app so,by rw[dS]⟩
theorem Hq.len:∀{x:List Th} {rows:List (List Value)} {A:Chs},Hq x rows A->rows.length = x.length/\∀r∈rows,r.length = 4
 | [],rows,A,h=>by obtain⟨rfl,_⟩:=h;exact⟨rfl,λr j=>by cases j⟩
 | t :: x,rows,A,h=>by
  obtain⟨K,y,N,O,rfl,Q,H,rfl⟩:=h;obtain⟨D,G⟩:=H.len;exact⟨by simp[D],λr j=>by
   rcases dX.1 j with rfl | j
   .rfl
   .exact G r j⟩
def cA (R:RM) (s:Sm.Ah) (v:Value) (A:Chs):Prop:=∃bw cw wsp bt tc tsp bm mc msp bh hc hsp rows Ar ov pv,s.AC.length<=cw/\wsp.length = cw - s.AC.length/\s.AA.length<=tc/\s.AM.length<=mc/\msp.length = mc - s.AM.length/\s.AB.length<=hc/\Hq s.AB rows Ar/\Ay R ov s.old/\Ay R pv s.AJ/\
 v = .agg (eSt s (S0 bw s.AC.length cw) (S0 bt s.AA.length tc) (S0 bm s.AM.length mc) (S0 bh s.AB.length hc) ov pv).toArray/\
 A = (bw,C Ab (s.AC.map I ++ wsp)) :: (bt,C AO (Ad eRg s.AA ++ tsp)) :: (bm,C Az (s.AM.map Value.bool ++ msp)) :: (bh,C Q5 (rows.flatten ++ hsp)) :: Ar
section st
variable {R:RM} {s:Sm.Ah} {wv tv mv thv ov pv:Value}
set_option maxHeartbeats 1000000 in
set_option maxRecDepth 8000 in
theorem WF (h:SF R s wv tv mv thv ov pv):Fn P HN [.agg (eSt s wv tv mv thv ov pv).toArray] R [] (λv Q A=>cA Q s v A):=by
 refine Mj λF=>?_
 refine z_1 ?_;have t0:=h.b.t0;have t1:=h.b.t1;have wl:=h.b.wl;have ml:=h.b.ml;have n0:=h.b.n0;have n1:=h.b.n1;have rl:=h.b.rl;have ol:=h.b.ol;have pl:=h.b.pl;refine ja λsb=>ja λgb=>jfo (jl rfl (jc (Dq h.c.w Z) ?_))
 rintro _ R1 _ _ ⟨j,_,own⟩;subst j;obtain⟨H,cw,wsp,b1,b0,rfl,rfl⟩:=own Z;refine jfo (js rfl rfl (dM rfl) rfl (jfo (jl rfl (jc (S7 h.c.t (by rw[DX (w:=5) (λ_=>rfl)]) Z) ?_))));rintro _ R2 _ _ ⟨j,own⟩;subst j;obtain⟨e,_⟩ | ⟨bt,tc,tsp,htc,htsp,rfl,rfl⟩:=own
 .omega
 refine jfo (js rfl rfl (dM rfl) rfl (jfo (jl rfl (jc (VF h.c.m V Z) ?_))));rintro _ R3 _ _ ⟨j,own⟩;subst j;obtain⟨e,_⟩ | ⟨bm,mc,msp,hmc,hmsp,rfl,rfl⟩:=own
 .omega
 refine jfo (js rfl rfl (dM rfl) rfl (jfo (jl rfl ?_)));obtain⟨rows,a1,hfz⟩:=h.c.th;have a9:=a1.1;have a8:∀r∈rows,r.length = 4:=a1.all λ_ _=>Cd.len
 refine jc (T8 hfz (Br a8) Z) ?_;rintro _ R4 _ _ ⟨j,own⟩;subst j;obtain⟨e,_⟩ | ⟨bh,hc,hsp,hhc,hhsp,rfl,rfl⟩:=own
 .omega
 rw[a9] at hhc;rw[a9];refine jfo (jS (eSt s (S0 H s.AC.length cw) (S0 bt s.AA.length tc) (S0 bm s.AM.length mc) (S0 bh s.AB.length hc) ov pv) ?_);generalize hW:S0 H s.AC.length cw = W;generalize hT:S0 bt s.AA.length tc = T;generalize hM:S0 bm s.AM.length mc = M0;refine Al [(bh,C 117 (rows.flatten ++ hsp)),(sb,C 50 (eSt s W T M0 (S0 bh s.AB.length hc) ov pv)),(gb,C 50 (cl z50)),(H,C Ab (s.AC.map I ++ wsp)),(bt,C AO (Ad eRg s.AA ++ tsp)),(bm,C Az (s.AM.map Value.bool ++ msp))] (G:=[] ++ F) ?_;refine jci (λ_:List (List Value) × Chs=>[Pt sb,Pt gb])
  (λq=>(bh,C 117 (q.1.flatten ++ hsp)) :: (sb,C 50 (eSt s W T M0 (S0 bh s.AB.length hc) ov pv)) :: (gb,C 50 (cl z50)) :: (H,C Ab (s.AC.map I ++ wsp)) :: (bt,C AO (Ad eRg s.AA ++ tsp)) :: (bm,C Az (s.AM.map Value.bool ++ msp)) :: (q.2 ++ ([] ++ F)))
  (λQ q=>Q = R4/\Hq s.AB q.1 q.2) (λK1 k1=>?_) ?_
 .refine jfo (jl rfl (jln ?_));refine jiI k1 λK2 k2=>?_
  refine jli (λi:Nat × List (List Value) × Chs=>s.AB.length - i.1) (λi=>[Pt sb,Pt gb,I s.AB.length,I i.1])
   (λi=>(bh,C 117 ((i.2.1 ++ rows.drop i.1).flatten ++ hsp)) :: (sb,C 50 (eSt s W T M0 (S0 bh s.AB.length hc) ov pv)) :: (gb,C 50 (cl z50)) :: (H,C Ab (s.AC.map I ++ wsp)) :: (bt,C AO (Ad eRg s.AA ++ tsp)) :: (bm,C Az (s.AM.map Value.bool ++ msp)) :: (i.2.2 ++ ([] ++ F)))
   (λQ i=>Q = R4/\i.1<=s.AB.length/\Hq (s.AB.take i.1) i.2.1 i.2.2) (0,[],[]) ⟨rfl,V,rfl,rfl⟩ τ τ ?_
  rintro K e Q ⟨i,D,O⟩ ⟨j,hi,x⟩ he hK;subst j;dsimp only at hi x he hK ⊢;refine z_V ?_;refine jlt (jif (λc=>?_) (λc=>?_));rotate_left
  .have c:=z_g c;rw[dO Z] at x;rw[dT Z,eD];exact k2 Q (D,O) ⟨rfl,x⟩
  have c:i < s.AB.length:=by have:=z_f c;omega
  obtain⟨l1,l4⟩:=x.len;rw[dU] at l1;obtain⟨rv,a2,b3⟩:=a1.2 i Z c;have b2:rows.drop i = rows[i]'(Z) :: rows.drop (i + 1):=dQ Z;have Bp:∀r∈D ++ rows.drop i,r.length = 4:=λr hr=>by
   rcases dg.1 hr with h1 | h1
   .exact l4 r h1
   .exact a8 r (fS h1)
  have N:i < (D ++ rows.drop i).length:=by rw[dK,eO];omega
  have a5:(D ++ rows.drop i)[i]'N = [rv,I (s.AB[i]).next,.bool (s.AB[i]).busy,I (s.AB[i]).Am]:=by
   rw[fD Z,<- a2,fT];congr 1;omega
  have a0:((D ++ rows.drop i).flatten ++ hsp)[0 + i * 4 + 0]? = some rv:=by
   have e1:=Fe (sp:=hsp) i N Bp;rw[a5] at e1;have e2:=congrArg (λz=>z[0]?) e1;simp only[List.getElem?_take_of_lt (show 0 < 4 by omega),ec] at e2;rw[show 0 + i * 4 + 0 = i * 4 + 0 from Z];exact e2
  have Em:∀y:Value,(D ++ rows.drop i).set i (((D ++ rows.drop i)[i]'N).set 0 y) = (D ++ [[y,I (s.AB[i]).next,.bool (s.AB[i]).busy,I (s.AB[i]).Am]]) ++ rows.drop (i + 1):=λy=>by
   rw[a5,fH _ _ Z,b2,show i - D.length = 0 from Z,dS];rfl
  have b6:=rl _ (dL c);refine jfo (jl rfl (jfo (jl rfl (C0 c (jfo (jl a0 (jc (Dq b3 Z) ?_)))))));rintro yv R5 A5 _ ⟨j,so,_⟩;subst j;obtain⟨ya,yc,hy⟩:=so.frz;refine C0 c (jfo (Ak (jl rfl jev) (Zt Bp N Z (by rw[hy];rfl) (by rw[hy]) (jad ?_))));rw[Em];refine B8 (D':=(bh,C 117 (((D ++ [[yv,I (s.AB[i]).next,.bool (s.AB[i]).busy,I (s.AB[i]).Am]]) ++ rows.drop (i + 1)).flatten ++ hsp)) :: (sb,C 50 (eSt s W T M0 (S0 bh s.AB.length hc) ov pv)) :: (gb,C 50 (cl z50)) :: (H,C Ab (s.AC.map I ++ wsp)) :: (bt,C AO (Ad eRg s.AA ++ tsp)) :: (bm,C Az (s.AM.map Value.bool ++ msp)) :: ((O ++ A5) ++ ([] ++ F))) ?_ (hK R5 (i + 1,_,O ++ A5) (by dsimp only;omega) ⟨rfl,c,?_⟩)
  .refine (eu (l₁:=A5)).trans ?_;simp only[zc];refine fR _ (fR _ (fR _ (fR _ (fR _ (fR _ ?_)))));simp only[zl,dS];exact List.Perm.append_left O eu
  .dsimp only;rw[dJ c];exact x.app so
 rintro e Q ⟨D,O⟩ ⟨j,x⟩ he;subst j;dsimp only at x ⊢;refine z_V ?_;refine jfo (jl rfl (jc (Dq h.c.o Z) ?_));rintro o2 R5 A5 _ ⟨j,b4,_⟩;subst j;refine Dv b4 λR6 a3 a6=>?_
 obtain⟨oa,oc,rfl⟩:=a6.sl;refine jfo (js rfl rfl (dM rfl) rfl (jfo (jl rfl (jc (Dq (h.c.p.le a3) Z) ?_))));rintro p2 R7 A7 _ ⟨j,b5,_⟩;subst j;refine Dv b5 λR8 a4 a7=>?_
 obtain⟨pa,pc,rfl⟩:=a7.sl;subst hW hT hM;refine jfo (js rfl rfl (dM rfl) rfl (jla (dM rfl) rfl (js rfl rfl (dM rfl) rfl (jla (dM rfl) rfl (Al [(H,C Ab (s.AC.map I ++ wsp)),(bt,C AO (Ad eRg s.AA ++ tsp)),(bm,C Az (s.AM.map Value.bool ++ msp)),(bh,C 117 (D.flatten ++ hsp))] (G:=O ++ ([] ++ F)) (Ao (A:=(H,C Ab (s.AC.map I ++ wsp)) :: (bt,C AO (Ad eRg s.AA ++ tsp)) :: (bm,C Az (s.AM.map Value.bool ++ msp)) :: (bh,C 117 (D.flatten ++ hsp)) :: O) (a3.trans a4) (⟨H,cw,wsp,bt,tc,tsp,bm,mc,msp,bh,hc,hsp,D,O,_,_,b1,b0,htc,hmc,by simpa using hmsp,hhc,x,a6.le a4,a7,rfl,rfl⟩)))))))
end st
end Go.Lf
end
section
namespace Sm
open Go.Lf
theorem RA:∀{c w:List Int} {a:Nat},a + c.length<=w.length->CE w a c = w.take a ++ c ++ w.drop (a + c.length)
 | [],w,a,_=>by simp[CE]
 | v :: c,w,a,h=>by
  simp only[dR] at h;unfold CE;rw[show (a:Int) + 1 = ((a + 1:Nat):Int) from rfl,RA (by simp[AT];omega)];unfold AT;simp only[dG];have j:(w.take a ++ [v]).length = a + 1:=by rw[dK,dU];simp;omega
  rw[List.set_eq_take_append_cons_drop,if_pos Z,show w.take a ++ v :: w.drop (a + 1) = (w.take a ++ [v]) ++ w.drop (a + 1) from V,List.take_left' j,List.drop_append,j,dT Z,gT,zl];simp only[dS,zc,zl,dR];rw[show a + 1 + (a + 1 + c.length - (a + 1)) = a + (c.length + 1) from Z]
theorem Vm {c w:List Int} {a v:Int}:CE w a (c ++ [v]) = AT (CE w a c) (a + c.length) v:=by
 rw[Hg];rfl
end Sm
namespace Go.Lf
open Go Sm
theorem P3 {u:Int}:∀{xs ys:List Int},ys.length = xs.length->lk (prs xs ys) u = if u∈xs then some (I (ys.getD (xs.idxOf u) 0)) else none
 | [],[],_=>rfl
 | x :: xs,y :: ys,h=>by
  have A:=P3 (u:=u) (by simpa using h);by_cases c:x = u
  .subst c;rw[if_pos V];simp[prs,lk]
  .have e:lk (prs (x :: xs) (y :: ys)) u = lk (prs xs ys) u:=by
    unfold prs lk;rw[g9,eN,gH (by simpa using c)]
   rw[e,A];have j : ¬ u = x:=λh=>c h.symm
   by_cases d:u∈xs
   .rw[if_pos d,if_pos (dh _ d),List.idxOf_cons,beq_eq_false_iff_ne.2 c];rfl
   .rw[if_neg d,if_neg (by simp[j,d])]
section rules
variable {R:RM} {D:Chs} {k:Value->M}
theorem Z6 (a:Addr) (n c:Nat) (w:World):(Builtin.copy_ #[30,30] 3 #[.slice (some a) n c,SN]).run P w = (do storeCells a (#[]:Array Value).toList;pure (goInt (Nat.min 0 n)):Sem Value).run P w:=by
 kernel_rfl
theorem cm {b o len j n:Nat} {lo:Int} (h0:0<=lo) (A:lo<=len) (G:len<=j) (H:∀x,(lo < j->x = o + lo.toNat * n)->(x = o\/x = o + lo.toNat * n)->J R D (k (.slice (some ⟨b,x,none⟩) (len - lo.toNat) (j - lo.toNat)))) :
  J R D (SL n (.slice (some ⟨b,o,none⟩) len j) (some (I lo)) none k):=λh y=>by
 refine⟨⟨h0,Z,Z⟩,?_⟩;split
 .exact H o (λc=>Z) (.inl rfl) h y
 .exact H _ (λ_=>rfl) (.inr rfl) h y
theorem dC {b o n c lo:Nat} {sv:Value} {l j:List Int} {sp:List Value} {D' : Chs} (hl:Ay R sv l) (hn:l.length<=n) (ho:l.length≠0->o = lo) (a2:o<=j.length) (Q:lo + l.length<=j.length) [a:At D b (C Ab (j.map I ++ sp))] [u:Up D b (C Ab (j.map I ++ sp)) (C Ab ((CE j lo l).map I ++ sp)) D'] (H:J R D' (k (I l.length))) :
  J R D (X P (Builtin.copy_ #[30,30] 3 #[.slice (some ⟨b,o,none⟩) n c,sv]) k):=by
 have N:Nat.min l.length n = l.length:=Nat.min_eq_left hn;obtain⟨xa,a0,e,hr⟩:=Ay.reads hl;rcases hl with ⟨rfl,h3,h4⟩ | ⟨b2,o2,T,t2,a1,rfl,h3,h4,h5,h6⟩
 .have e0:l = []:=dy.1 h3;subst e0;have hk:∀h,St h R D->∀w:World,w.heap = h->∃v A,(Builtin.copy_ #[30,30] 3 #[.slice (some ⟨b,o,none⟩) n c,SN]).run P w = .ok v A/\BH w A/\k v A.heap:=by
   intro h hs w Q;subst Q;obtain⟨W,w1,w2,w3⟩:=GC [] o (hs.at_ b _ a.m).1 (by rw[f9,dK,dN];omega) rfl;obtain⟨A,K,O,e2⟩:=Eo (P:=P) b [] o 0 w W w1;refine⟨I (Nat.min 0 n:Nat),A,?_,O,?_⟩
   .rw[Z6];simp only[dq,K,dY];rfl
   rw[e2,show Nat.min 0 n = 0 from Nat.min_eq_left (Nat.zero_le _)];refine H W (hs.turn (o':=C Ab ((CE j lo []).map I ++ sp)) ?_ w3);rw[w2];unfold lay CE;simp
  exact @jX _ _ _ _ hk
 .cases e;refine @cI R D k b o n c Ab _ _ _ (l.map I) (j.map I ++ sp) ((CE j lo l).map I ++ sp) D' (by rw[N];exact hr) (by rw[dN,N]) (by unfold Bz;rw[df];intro x hx;obtain⟨y,_,rfl⟩:=dc.1 hx;rfl) a ?_ ?_ u (by rw[N];exact H)
  .rw[dN,dK,dN];by_cases G:l.length = 0
   .omega
   .have:=ho G;omega
  .by_cases G:l.length = 0
   .have e0:l = []:=dy.1 G;subst e0;unfold lay CE;simp
   .have K:=ho G;subst K;rw[RA Q,show o = 0 + o * 1 from Z,YI rfl Z];simp
end rules
section st
variable {R:RM} {s:Sm.Ah} {wv tv mv thv ov pv:Value} {l:List AQ} {met:List Int}
def RFn (R:RM) (f:Value) (g:Int->Int) (x:Int):Prop:=∀(D:Chs) (k:Value->M),J R D (k (I (g x)))->J R D (CV P f [I x] k)
theorem am (x:Int):RFn R (.func (.func 122) #[] #[]) (λ_=>0) x:=λD k H=>by
 refine H4 (by kernel_rfl) ?_;refine jro (v:=I 0) (D:=D) ?_ H;refine Io λF=>?_
 refine z_1 ?_;exact BB rfl
theorem WQ {hb mb tb K y:Nat} {v:Value} {o:Obj} {j to:List Int} {x:Int} (Q:HpV R s wv tv mv thv ov pv l met hb mb v) (hlen:to.length = j.length) (O:R tb = some o) (N:Mg o (prs j to)) (h0:0 ∉ j) (A:R K = some (C 122 [.map (some tb)])) (hc:R y = some (C 98 [Pt hb])) (T:∃u,now l x = some u) :
  RFn R (.func (.func 117) #[] #[Pt K,Pt y]) (plc l j to) x:=λD k H=>by
 refine H4 (by kernel_rfl) (jro (Ic λF=>?_) H);refine z_3 ?_;obtain⟨u,G⟩:=T;refine jeq (jif (λh=>?_) (λh=>?_))
 .have e:x = 0:=by simpa using h
  subst e;have:now l 0 = some 0:=rfl;refine BB ?_;unfold plc;rw[this];dsimp only;rw[if_neg h0]
 refine jlr A rfl (jlr hc rfl (jrp (Uc Q G) (Ak (jlr A rfl jev) (@VM _ _ _ 122 3 tb o (prs j to) u (I 0) false (Li.fz O) HS Wq N (BB ?_)))));rw[P3 hlen];unfold plc;rw[G];show (if u∈j then some (I (to.getD (j.idxOf u) 0)) else none).getD (I 0) = I (if u∈j then to.getD (j.idxOf u) 0 else 0);split<;>rfl
set_option maxHeartbeats 1000000 in
set_option maxRecDepth 4000 in
theorem ZW {D bw n cw d:Nat} {cs sp:List Value} {j:List Int} {t:AQ} {rv nv f:Value} {g:Int->Int} (hr:Ay R rv t.refs) (hn:Ay R nv t.nums) (a1:j.length = n) (N:n<=cw) (hd:d + (2 + t.refs.length + t.nums.length)<=n) (a0:n < 1000000) (hf:∀x∈t.refs,RFn R f g x) :
  Fn P FU [.agg (eTh t rv nv).toArray,I d,f,Pt D] R [(D,C 50 (S0 bw n cw :: cs)),(bw,C Ab (j.map I ++ sp))] (λ_ y A=>y = R/\A = [(D,C 50 (S0 bw n cw :: cs)),(bw,C Ab ((CE j d (d :: AY t.sh :: (t.refs.map g ++ t.nums))).map I ++ sp))]):=by
 refine IN λF=>?_
 refine z_4 ?_;obtain⟨ra,rc,rfl⟩:=hr.sl;obtain⟨na,nc,rfl⟩:=hn.sl;refine ja λtb=>(jfo (jl rfl (jfo (jl rfl (jad (jfo (jla (dM rfl) rfl ?_)))))))
 refine jp (Nf t.sh) ?_;rw[show (d:Int) + 1 = ((d + 1:Nat):Int) from rfl];refine C0 Z (Ak (jl rfl jev) (Ak (jl rfl jev) (jsi Z (C0 Z (Ak (jl rfl jev) (jsi (by simp;omega) ?_))))));have T:(j.set d (d:Int)).set (d + 1) (AY t.sh) = CE j d [(d:Int),AY t.sh]:=by
  show _ = AT (AT j d d) (d + 1) (AY t.sh);unfold AT;rw[show (d:Int) + 1 = ((d + 1:Nat):Int) from rfl];simp only[dG]
 rw[T];refine jk3 (F:=F) tb D bw ?_;generalize hW:S0 bw n cw = W;refine jci (λ_:Unit=>[I d,Pt D,Pt tb])
  (λ_=>(tb,C 70 (eTh t (.slice ra t.refs.length rc) (.slice na t.nums.length nc))) :: (D,C 50 (W :: cs)) :: (bw,C Ab ((CE j d ([(d:Int),AY t.sh] ++ t.refs.map g)).map I ++ sp)) :: F) (λy _=>y = R) (λK1 k1=>?_) ?_
 .refine jfo (jl rfl (jln ?_));refine jiI k1 λK2 k2=>?_
  refine jli (λi:Nat=>t.refs.length - i) (λi=>[I d,f,Pt D,Pt tb,.slice ra t.refs.length rc,I t.refs.length,I i])
   (λi=>(tb,C 70 (eTh t (.slice ra t.refs.length rc) (.slice na t.nums.length nc))) :: (D,C 50 (W :: cs)) :: (bw,C Ab ((CE j d ([(d:Int),AY t.sh] ++ (t.refs.take i).map g)).map I ++ sp)) :: F) (λy i=>y = R/\i<=t.refs.length) 0 ⟨rfl,Z⟩ rfl V ?_
  rintro K e y i ⟨H,hi⟩ he hK;subst H;refine z_V ?_;refine jlt (jif (λc=>?_) (λc=>?_));rotate_left
  .have c:=z_g c;rw[dO Z];exact k2 y () rfl
  have c:i < t.refs.length:=by have:=z_f c;omega
  refine Bk hr Z Z ?_;simp only[dG];refine jfo (jl rfl (jad (jad (hf _ (dL c) _ _ ?_))));subst hW;rw[show (d:Int) + 2 + i = ((d + 2 + i:Nat):Int) from Z];refine C0 Z (Ak (jl rfl jev) (jsi (by rw[EC];omega) (jad ?_)));have e2:(CE j d ([(d:Int),AY t.sh] ++ (t.refs.take i).map g)).set (d + 2 + i) (g t.refs[i]) = CE j d ([(d:Int),AY t.sh] ++ (t.refs.take (i + 1)).map g):=by
   rw[dJ c,dz,<- dS];show _ = CE j d (_ ++ [g t.refs[i]]);rw[Vm];unfold AT;congr 1;simp only[dK,dR,f9,dN,dU];omega
  rw[e2];exact hK y (i + 1) Z ⟨rfl,c⟩
 rintro e y _ H he;subst H;refine z_V ?_;subst hW;refine jfo (jl rfl (jad (jfo (jl rfl (jln (jad ?_))))));rw[show (d:Int) + 2 + t.refs.length = ((d + 2 + t.refs.length:Nat):Int) from Z];refine cm Z Z N λo' G O=>?_
 simp only[dG,fN,da] at G O ⊢;refine jfo (jl rfl ?_);have Q:t.nums.length≠0->o' = d + 2 + t.refs.length:=λh0=>G Z
 refine dC hn Z Q (by rw[EC];omega) (by rw[EC];omega) ?_;have e3:CE (CE j d ([(d:Int),AY t.sh] ++ t.refs.map g)) ((d + 2 + t.refs.length:Nat):Int) t.nums = CE j d ((d:Int) :: AY t.sh :: (t.refs.map g ++ t.nums)):=by
  rw[show (d:Int) :: AY t.sh :: (t.refs.map g ++ t.nums) = ([(d:Int),AY t.sh] ++ t.refs.map g) ++ t.nums from V,Hg (d:=t.nums)];congr 1;simp only[dK,dR,f9,dN];omega
 rw[e3];exact Ao (RM.le.refl _) ⟨rfl,rfl⟩
end st
end Go.Lf
end
section
namespace Sm
open Go.Lf
def Cw (AJ order:List Int) (a:Int):Bool:=Aj AJ (AN a) && !order.contains a
def Gz (l:List AQ) (a:Int):Int × List Int:=match Ax l a with | some t=>Du t | none=>(a,[])
def ZC (AJ:List Int) (t:List Rg) (tops:List Int) (r:Nat):Rg:=if r = 0 then rv t 0 else IZ AJ r (tops.getD r 0)
def RE (AJ:List Int) (t:List Rg) (tops:List Int):List Rg:=(List.range t.length).map (ZC AJ t tops)
def Cr (l:List AQ) (order to:List Int) (t:Th):Th:=⟨t.AD.map (plc l order to),t.next,false,if t.Am = 1 then 2 else t.Am⟩
structure bT (s s' : Ah) (l:List AQ) (order to tops:List Int):Prop where
 wd:∀xs:List Int,xs.Perm (l.map AQ.at_)->s'.AC = Bo (Bo (List.replicate s.AC.length 0) ((xs.filter (Cw s.AJ order)).map (Gz l))) ((order.zip to).map λp=>DK l order to p.1 p.2)
 hlen:to.length = order.length
 tl:tops.length = s.AA.length
 tb:s'.AA = RE s.AJ s.AA tops
 th:s'.AB = s.AB.map (Cr l order to)
 eq:s' = ⟨s'.AC,s'.AA,List.replicate s.AM.length false,0,false,false,s.Ap,0,s'.AB,[],s.AJ,s.BE,s.BK + 1⟩
 rn:∀i (h:i < order.length) (h' : i < to.length),0<=to[i]/\∀t,Ax l order[i] = some t->to[i] + (2 + t.refs.length + t.nums.length:Nat)<=s.AC.length
theorem Kj {w:List Int} {j:List (Int × List Int)} {b:Int × List Int}:Bo w (j ++ [b]) = CE (Bo w j) b.1 b.2:=by
 unfold Bo;rw[gY];rfl
theorem N8 {AJ:List Int} {t:List Rg} {tops:List Int}:(RE AJ t tops).length = t.length:=by simp[RE]
theorem RY {AJ:List Int} {t:List Rg} {tops:List Int} {r:Nat} (h:r < (RE AJ t tops).length):(RE AJ t tops)[r] = ZC AJ t tops r:=by simp[RE]
end Sm
namespace Go.Lf
open Go Sm
section rules
variable {R:RM} {D:Chs} {k:Value->M}
theorem X6 (a:Addr) (n c:Nat) (w:World):(Builtin.clear_ #[47] 0 #[.slice (some a) (n + 1) c]).run P w = (do storeCells a (Builtin.zeroCells #[.bool false] (n + 1)).toList;pure (.tuple #[]):Sem Value).run P w:=by
 kernel_rfl
theorem Qn (n:Nat):(Builtin.zeroCells #[.bool false] n).toList = List.replicate n (.bool false):=by
 unfold Builtin.zeroCells;rw[gf];apply fY
 .simp
 .intro i j x;simp[Nat.mod_one]
theorem YB {b o n c t:Nat} {cs cs' : List Value} {D' : Chs} (hn:0 < n) [a:At D b (C t cs)] (Q:o + n<=cs.length) (hc:lay cs o (List.replicate n (.bool false)) = cs') [u:Up D b (C t cs) (C t cs') D'] (H:J R D' (k (.tuple #[]))) :
  J R D (X P (Builtin.clear_ #[47] 0 #[.slice (some ⟨b,o,none⟩) n c]) k):=by
 have O:∀h,St h R D->∀w:World,w.heap = h->∃v j,(Builtin.clear_ #[47] 0 #[.slice (some ⟨b,o,none⟩) n c]).run P w = .ok v j/\BH w j/\k v j.heap:=by
  intro h G w T;subst T;obtain⟨n,rfl⟩:∃m,n = m + 1:=⟨n - 1,Z⟩;obtain⟨A,w1,w2,w3⟩:=GC (List.replicate (n + 1) (.bool false)) o (G.at_ b _ a.m).1 (by rw[dV];exact Q) (by unfold Bz;rw[df];intro x W;rw[(eR.1 W).2];rfl);obtain⟨j,K,y,N⟩:=Eo (P:=P) b (List.replicate (n + 1) (.bool false)) o 0 w A w1;refine⟨.tuple #[],j,?_,y,?_⟩
  .rw[X6,Qn];simp only[dq,K,dY];rfl
  .rw[N];exact H A (G.turn (by rw[w2,hc]) w3)
 exact @jX _ _ _ _ O
theorem cO {E:Chs} {m:M}:∀{D:List Th} {rows:List (List Value)} {A:Chs} {R:RM},Hq D rows A->(∀x,R.le x->Rw (Cd x) rows D->J x E m)->J R (A ++ E) m
 | [],rows,A,R,h,H=>by
  obtain⟨rfl,rfl⟩:=h;exact H R (RM.le.refl _) Rw.nil
 | t :: D,rows,A,R,h,H=>by
  obtain⟨rv,K,A1,A2,rfl,W,Q,rfl⟩:=h;rw[dS];refine Dv W λR1 y T=>cO Q λN j G=>H N (y.trans j) ⟨by simp[G.1],λi h O=>?_⟩
  cases i with
  | zero=>exact⟨rv,rfl,T.le j⟩
  | succ i=>exact G.2 i (by simpa using h) (by simpa using O)
theorem ce {A E:Chs} {l:List Int} {v:Value} {x:Int} {i:Nat} {a m:M} (G:SO l v A) (j:i < l.length) (D:J R (A ++ E) a) (H:∀y,SO (l.set i x) v y->J R (y ++ E) m):J R (A ++ E) (IA 1 v (I (i:Int)) λq=>AND a (ST 1 q (I x) m)):=by
 rcases G with ⟨rfl,_,_⟩ | ⟨b,c,sp,hc,hsp,rfl,rfl⟩
 .exact absurd j V
 .refine C0 j (Ak D (jsi j (H _ (.inr ⟨b,c,sp,by simpa using hc,by simpa using hsp,by rw[eG],rfl⟩))))
theorem Hq.split:∀{x:List Th} {rows:List (List Value)} {A:Chs} {i:Nat},Hq x rows A->(h:i < x.length)->∃rv H D K,A = H ++ (D ++ K)/\SO (x[i]).AD rv D/\rows[i]? = some [rv,I (x[i]).next,.bool (x[i]).busy,I (x[i]).Am]/\∀(t' : Th) (j : Chs),SO t'.AD rv j->Hq (x.set i t') (rows.set i [rv,I t'.next,.bool t'.busy,I t'.Am]) (H ++ (j ++ K))
 | [],rows,A,i,h,hi=>absurd hi V
 | t :: x,rows,A,0,h,hi=>by
  obtain⟨rv,y,H,D,rfl,Q,N,rfl⟩:=h;exact⟨rv,[],H,D,rfl,Q,rfl,λt' j G=>⟨rv,y,j,D,rfl,G,N,rfl⟩⟩
 | t :: x,rows,A,i + 1,h,hi=>by
  obtain⟨rv,y,T,B2,rfl,Q,N,rfl⟩:=h;obtain⟨O,H,D,K,rfl,R,hr,W⟩:=N.split (by simpa using hi);exact⟨O,T ++ H,D,K,V,R,hr,λt' j G=>⟨rv,_,T,_,rfl,Q,W t' j G,V⟩⟩
end rules
end Go.Lf
end
section
namespace Go.Lf
open Go Sm
section st
variable {R:RM} {s:Sm.Ah} {wv tv mv thv ov pv:Value} {l:List AQ} {met:List Int}
set_option maxHeartbeats 4000000 in
set_option maxRecDepth 8000 in
theorem Kz {hb mb:Nat} {v a4:Value} {j:List Int} {r:Option Sm.Ah} (h:SF R s wv tv mv thv ov pv) (hv:HpV R s wv tv mv thv ov pv l met hb mb v) (b2:Ay R a4 j) (r3:j.length<=192) (o6:∀a∈j,∃t,Ax l a = some t) (hnd:j.Nodup) (g8:∀a∈j,0 < a/\a < 1000000) (s2:∀t∈l,0<=AF t.sh/\AF t.sh<=10) (q2:(l.map AQ.at_).Nodup)
  (q7:∀t∈l,0<=t.at_/\t.at_ + (2 + t.refs.length + t.nums.length:Nat)<=s.AC.length) (n9:∀a∈j,∀t,Ax l a = some t->∀x∈t.refs,∃u,now l x = some u) (j4:∀t∈s.AB,∀x∈t.AD,∃u,now l x = some u)
  (e6:match Ca s.AJ l j (Bl s) 1 with | none=>r = none | some (T,y)=>∃s',r = some s'/\bT s s' l j T y) :
  Fn P GJ [Pt hb,a4] R [] (λv R' A=>A = []/\QFd r v R'):=by
 refine Jk λF=>?_
 refine z_2 ?_;have t0:=h.b.t0;have t1:=h.b.t1;have wl:=h.b.wl;have ml:=h.b.ml;have n0:=h.b.n0;have n1:=h.b.n1;have rl:=h.b.rl;have fu:=h.b.fu;refine ja λcb=>B9 (b:=cb) λR0 b6 a3=>ja λgb=>?_
 have a3:R0 cb = some (C 98 [Pt hb]):=a3;have h:=h.le b6;have hv:=hv.le b6;have b2:=b2.le b6;refine jlr (v:=Pt hb) a3 rfl ?_;refine jc (A:=[]) (V7 h hv) ?_;rintro _ R1 _ _ ⟨N,sb,so,rfl,j5,rfl⟩;subst N;refine jlr (v:=Pt hb) a3 rfl ?_;refine jc (A:=[(sb,so)]) (Xk h hv b2 r3 o6 hnd j5 (λa ha=>by have:=g8 a ha;omega) s2) ?_;rintro x R2 A2 _ ⟨N,hq⟩;subst N;cases n3:Ca s.AJ l j (Bl s) 1 with
 | none=>
  rw[n3] at hq e6;obtain⟨rfl,rfl⟩:=hq;obtain rfl:r = none:=e6;refine jex rfl (jex rfl (jex rfl (ja λkb=>jS [.map none] (DG ?_))));refine jbd (cs:=cl z50) rfl rfl (jS (cl z50) (jla (l:=cl z50) (dM rfl) rfl ?_));exact Ao (A:=[]) b6 ⟨rfl,rfl⟩
 | some q=>
 obtain⟨T,y⟩:=q;rw[n3] at hq e6;obtain⟨s',rfl,CR⟩:=e6;obtain⟨hlen,m2,o2,tb,rfl,b7,rfl⟩:=hq;have u0:=CR.tl;refine jex rfl (jex rfl (jex rfl (ja λkb=>jS [.map (some m2)] (CQ ?_))));refine B9 (b:=kb) λR3 m0 b0=>B9 (b:=m2) λR4 h6 b1=>B9 (b:=tb) λR5 d4 b8=>?_
 have b0:=(h6.trans d4) _ _ b0;have b1:=d4 _ _ b1;have a6:=m0.trans (h6.trans d4);have a3:=a6 _ _ a3;have h:=h.le a6;have hv:=hv.le a6;have b2:=b2.le a6;have f4:=b6.trans a6;clear b6 m0 h6 d4 a6;have s3:=hv;obtain⟨o,g1,g2,g3,g4⟩:=s3;refine jlr (v:=Pt hb) a3 rfl (jnc (jfo (DR (l:=eSt s wv tv mv thv ov pv) g1 (dM rfl) rfl ?_)));refine jc (A:=[]) (WF h) ?_;rintro _ R6 _ a2 ⟨bw,cw,wsp,Q,tc,tsp,bm,mc,msp,O,hc,hsp,rows,Ar,u3,u5,m7,t2,t9,t6,s8,t4,g6,r4,f1,rfl,rfl⟩;have b0:=a2 _ _ b0;have b1:=a2 _ _ b1;have b8:=a2 _ _ b8;have a3:=a2 _ _ a3;have h:=h.le a2;have hv:=hv.le a2;have b2:=b2.le a2;have g1:=a2 _ _ g1;have g2:=a2 _ _ g2;have g3:=g3.le a2;have l9:=f4.trans a2;clear f4 a2;obtain⟨oa,oc,rfl⟩:=r4.sl;obtain⟨pa,pc,rfl⟩:=f1.sl;refine ja λD=>jS (eSt s (S0 bw s.AC.length cw) (S0 Q s.AA.length tc) (S0 bm s.AM.length mc) (S0 O s.AB.length hc) (.slice oa s.old.length oc) (.slice pa s.AJ.length pc)) ?_
 refine jfo (jl (v:=S0 bw s.AC.length cw) rfl (aR (cs':=(List.replicate s.AC.length (0:Int)).map I ++ wsp) Z V (by unfold lay;simp) ?_));obtain⟨cs,i4⟩:∃cs:List Value,cs = [S0 Q s.AA.length tc,S0 bm s.AM.length mc,I s.Ae,.bool s.stop,.bool s.full,.bool s.Ap,I s.want,S0 O s.AB.length hc,.slice oa s.old.length oc,.slice pa s.AJ.length pc,I s.BE,I s.BK]:=⟨_,rfl⟩;obtain⟨E,hE⟩:∃E:Chs,E = (gb,C 50 (cl z50)) :: (Q,C AO (Ad eRg s.AA ++ tsp)) :: (bm,C Az (s.AM.map Value.bool ++ msp)) :: (O,C 117 (rows.flatten ++ hsp)) :: (Ar ++ F):=⟨_,rfl⟩;obtain⟨u6,hZ⟩:∃u6:List Int,u6 = List.replicate s.AC.length 0:=⟨_,rfl⟩;have m5:u6.length = s.AC.length:=by rw[hZ,dV]
 obtain⟨W,hW⟩:∃W:Value,W = S0 bw s.AC.length cw:=⟨_,rfl⟩;refine B8 (D':=(D,C 50 (W :: cs)) :: (bw,C Ab (u6.map I ++ wsp)) :: (sb,so) :: E) ?_ ?_
 .subst i4 hE hZ hW;refine fR _ (fR _ ?_);exact (dw (l₁:=_ :: _ :: _ :: Ar)).trans (fR _ (dw (l₁:=_ :: _ :: _ :: Ar)))
 obtain⟨ps,f0,j0,j1⟩:=g3;have s7:∀p∈ps,∃t∈l,p.1 = t.at_/\ThV R6 p.2 t:=λp hp=>T5 (o:=o) j0 j1 hp
 have o9:ps.map Prod.fst = l.map AQ.at_:=by
  apply fY (by simpa using j0);intro i h1 h2;rw[fQ,fQ];exact (j1 i (by simpa using h1) (by simpa using h2)).1
 have j6:∀(xs:List Int) (a:Int) (t:AQ),Ax l a = some t->Cw s.AJ j a = true->Bo u6 (((xs ++ [a]).filter (Cw s.AJ j)).map (Gz l)) = CE (Bo u6 ((xs.filter (Cw s.AJ j)).map (Gz l))) a (a :: AY t.sh :: (t.refs.map (λ_=>0) ++ t.nums)):=λxs a t ht hd=>by
  have ha:=(BF ht).2;rw[List.filter_append,List.filter_cons_of_pos hd,List.filter_nil,dz,eN,List.map_nil,Kj];unfold Gz;rw[ht];unfold Du;dsimp only;rw[ha,List.map_const']
 have c8:∀(xs:List Int) (a:Int),Cw s.AJ j a = false->(xs ++ [a]).filter (Cw s.AJ j) = xs.filter (Cw s.AJ j):=λxs a hd=>by
  rw[List.filter_append,List.filter_cons_of_neg (by rw[hd];decide),List.filter_nil,eD]
 have e7:∀a:Int,(lk (prs j T) a).isSome = j.contains a:=λa=>by
  rw[P3 hlen];by_cases c:a∈j
  .rw[if_pos c];simpa using c
  .rw[if_neg c];simpa using c
 refine jci (λ_:List Int=>[a4,Pt cb,Pt gb,.map (some sb),Pt kb,S0 tb y.length y.length,.func (.func 117) #[] #[Pt kb,Pt cb],Pt D,.func (.func 119) #[] #[Pt D]])
  (λxs=>(D,C 50 (W :: cs)) :: (bw,C Ab ((Bo u6 ((xs.filter (Cw s.AJ j)).map (Gz l))).map I ++ wsp)) :: (sb,so) :: E)
  (λR' xs=>R' = R6/\xs.Perm (l.map AQ.at_)) (λK1 k1=>?_) ?_
 .refine jlr (v:=Pt hb) a3 rfl (jnc (jfo (jlr (v:=.map (some mb)) g1 rfl ?_)));refine @bB _ _ _ 101 70 mb o ps (Li.fz g2) MA f0 λib it q8=>?_
  refine jiI k1 λK2 k2=>?_
  refine jli (λi:List (Int × Value) × List (Int × Value) × Obj × Option (Int × Value)=>i.1.length) (λ_=>[a4,Pt cb,Pt gb,.map (some sb),Pt kb,S0 tb y.length y.length,.func (.func 117) #[] #[Pt kb,Pt cb],Pt D,.func (.func 119) #[] #[Pt D],Pt ib])
   (λi=>(ib,i.2.2.1) :: (D,C 50 (W :: cs)) :: (bw,C Ab ((Bo u6 (((i.2.1.map Prod.fst).filter (Cw s.AJ j)).map (Gz l))).map I ++ wsp)) :: (sb,so) :: E)
   (λR' i=>R' = R6/\ps.Perm (i.2.1 ++ i.1)/\ItG mb o i.2.2.1 i.1 i.2.2.2) (ps,[],it,none) ⟨rfl,eK _,q8⟩ rfl rfl ?_
  rintro K e R' ⟨p3,b5,s4,p6⟩ ⟨N,c6,f8⟩ he hK;subst N;dsimp only at c6 f8 he hK ⊢;refine z_V ?_;refine @aS _ _ _ mb ib o s4 _ ps p3 p6 _ (Li.fz g2) f0 f8 (λh0=>?_) (λp b4 d1 j2 f7=>?_)
  .subst h0;refine jex rfl (CQ (BV (k2 _ (b5.map Prod.fst) ⟨rfl,?_⟩)));rw[<- o9];rw[eD] at c6;exact (c6.symm.map Prod.fst)
  have f1:p∈ps:=c6.mem_iff.2 (dg.2 (.inr (j2.mem_iff.2 (.head _))));obtain⟨t,ht,n6,rv,nv,n7,c7,c5⟩:=s7 p f1;have q9 : b4.length < p3.length:=by rw[j2.length_eq,dR];omega
  have n5 : ps.Perm ((b5 ++ [p]) ++ b4):=c6.trans (by
   rw[dS]
   exact List.Perm.append_left b5 j2)
  obtain⟨u4,f3⟩:=p;dsimp only at n6 n7;subst n6;obtain⟨m8,q6⟩:=q7 t ht;obtain⟨d,hd⟩:=Int.eq_ofNat_of_zero_le m8;have r7:=DM q2 ht;refine jex rfl (DG ?_);obtain⟨xs,f2⟩:∃xs:List Int,xs = b5.map Prod.fst:=⟨_,rfl⟩;have o8:(b5 ++ [((t.at_,f3):Int × Value)]).map Prod.fst = xs ++ [t.at_]:=by rw[dz,<- f2];rfl
  rw[<- f2];refine jci (λ_:Unit=>[a4,Pt cb,Pt gb,.map (some sb),Pt kb,S0 tb y.length y.length,.func (.func 117) #[] #[Pt kb,Pt cb],Pt D,.func (.func 119) #[] #[Pt D],Pt ib])
   (λ_=>(ib,d1) :: (D,C 50 (W :: cs)) :: (bw,C Ab ((Bo u6 (((xs ++ [t.at_]).filter (Cw s.AJ j)).map (Gz l))).map I ++ wsp)) :: (sb,so) :: E)
   (λR3 _=>R3 = R') (λK3 k3=>?_) ?_
  rotate_left
  .rintro e R3 _ N he;subst N;refine z_V ?_;refine hK _ (b4,b5 ++ [(t.at_,f3)],d1,some (t.at_,f3)) (by dsimp only;omega) ⟨rfl,n5,f7⟩ |> λz=>?_
   dsimp only at z;rw[o8] at z;exact z
  refine @aC _ _ _ mb ib o d1 ps b4 (t.at_,f3) _ (Li.fz g2) f0 f7 ?_;obtain⟨ra,rc,rfl⟩:=c7.sl;obtain⟨na,nc,rfl⟩:=c5.sl;refine jex rfl (jex rfl (ja λtk=>?_));subst n7;refine jS (eTh t (.slice ra t.refs.length rc) (.slice na t.nums.length nc)) ?_;refine jlr (v:=.map (some m2)) b0 rfl ?_;refine @VM _ _ _ 122 3 m2 o2 (prs j T) t.at_ (I 0) true (Li.fz b1) HS Wq b7 ?_;rw[if_pos rfl,e7];refine jex rfl (jex rfl ?_);refine jci (λu:Value=>[a4,Pt cb,Pt gb,.map (some sb),Pt kb,S0 tb y.length y.length,.func (.func 117) #[] #[Pt kb,Pt cb],Pt D,.func (.func 119) #[] #[Pt D],I t.at_,Pt tk,Pt ib,.bool (!j.contains t.at_),u])
   (λ_=>(tk,C 70 (eTh t (.slice ra t.refs.length rc) (.slice na t.nums.length nc))) :: (ib,d1) :: (D,C 50 (W :: cs)) :: (bw,C Ab ((Bo u6 ((xs.filter (Cw s.AJ j)).map (Gz l))).map I ++ wsp)) :: (sb,so) :: E)
   (λR3 u=>R3 = R'/\(j.contains t.at_ = false->u = .bool (Aj s.AJ (AN t.at_)))) (λK4 k4=>?_) ?_
  .refine Dl (λg=>?_) (λg=>?_)
   .refine jp (FK m8 Z) ?_;refine @jlk _ _ _ sb so _ _ (Aj s.AJ (AN t.at_)) _ j5 Iff.rfl ?_;exact k4 _ _ ⟨rfl,λ_=>rfl⟩
   .exact k4 _ _ ⟨rfl,λhh=>by rw[hh] at g;cases g⟩
  rintro e R3 u ⟨N,hu⟩ he;subst N;refine z_V ?_;cases i9:j.contains t.at_ with
  | true=>
   have i5:Cw s.AJ j t.at_ = false:=by unfold Cw;rw[i9];simp
   refine F5 (CQ (BV ?_));have z:=k3 R3 () rfl;rw[c8 _ _ i5] at z;exact z
  | false=>
   rw[hu i9];refine EP (jif (λg=>?_) (λg=>?_));rotate_left
   .have i5:Cw s.AJ j t.at_ = false:=by unfold Cw;rw[g];rfl
    have z:=k3 R3 () rfl;rw[c8 _ _ i5] at z;exact BV z
   have q4:Cw s.AJ j t.at_ = true:=by unfold Cw;rw[g,i9];rfl
   refine jla (l:=eTh t (.slice ra t.refs.length rc) (.slice na t.nums.length nc)) (dM rfl) rfl ?_;refine H4 (by kernel_rfl) ?_;have z:=k3 R3 () rfl;rw[j6 xs t.at_ t r7 q4] at z;rw[hd] at z ⊢;subst hW;refine jc (A:=[(D,C 50 (S0 bw s.AC.length cw :: cs)),(bw,C Ab ((Bo u6 ((xs.filter (Cw s.AJ j)).map (Gz l))).map I ++ wsp))]) (ZW (g:=λ_=>0) (d:=d) c7 c5 (by rw[CB,m5]) m7 Z Z λx _=>am x) ?_;rintro _ R4 A4 _ ⟨N,rfl⟩;subst N;refine Al [(ib,d1),(D,C 50 (S0 bw s.AC.length cw :: cs)),(bw,C Ab ((CE (Bo u6 ((xs.filter (Cw s.AJ j)).map (Gz l))) d (d :: AY t.sh :: (t.refs.map (λ_=>0) ++ t.nums))).map I ++ wsp)),(sb,so)] (G:=E) ?_;exact z
 rintro e R' xs ⟨N,f2⟩ he;subst N;refine z_V ?_;obtain⟨w1,j8⟩:∃w1:List Int,w1 = Bo u6 ((xs.filter (Cw s.AJ j)).map (Gz l)):=⟨_,rfl⟩;have g7:w1.length = s.AC.length:=by rw[j8,CB,m5]
 have a7:=CR.wd xs f2;rw[<- hZ,<- j8] at a7;rw[<- j8];have o7 : s'.AC.length = s.AC.length:=by rw[a7,CB,g7]
 obtain⟨s5,s6,o5⟩:=Ay.sl b2;refine jci (λ_:Unit=>[Pt gb,.map (some sb),S0 tb y.length y.length,.func (.func 117) #[] #[Pt kb,Pt cb],Pt D])
  (λ_=>(D,C 50 (W :: cs)) :: (bw,C Ab (s'.AC.map I ++ wsp)) :: (sb,so) :: E)
  (λR3 _=>R3 = R') (λK1 k1=>?_) ?_
 .refine Bf ⟨s5,s6,o5⟩ ?_;refine jiI k1 λK2 k2=>?_
  refine jli (λi:Nat=>j.length - i) (λi=>[Pt cb,Pt gb,.map (some sb),Pt kb,S0 tb y.length y.length,.func (.func 117) #[] #[Pt kb,Pt cb],Pt D,.func (.func 119) #[] #[Pt D],a4,I j.length,I i])
   (λi=>(D,C 50 (W :: cs)) :: (bw,C Ab ((Bo w1 (((j.zip T).take i).map λp=>DK l j T p.1 p.2)).map I ++ wsp)) :: (sb,so) :: E)
   (λR3 i=>R3 = R'/\i<=j.length) 0 ⟨rfl,Z⟩ rfl τ ?_
  rintro K e R3 i ⟨N,hi⟩ he hK;subst N;refine z_V ?_;refine jlt (jif (λc=>?_) (λc=>?_));rotate_left
  .have c:=z_g c;rw[dO (by rw[gK,hlen];omega),<- a7];exact k2 R3 () rfl
  have c:i < j.length:=by have:=z_f c;omega
  refine jci (λ_:Unit=>[Pt cb,Pt gb,.map (some sb),Pt kb,S0 tb y.length y.length,.func (.func 117) #[] #[Pt kb,Pt cb],Pt D,.func (.func 119) #[] #[Pt D],a4,I j.length,I i])
   (λ_=>(D,C 50 (W :: cs)) :: (bw,C Ab ((Bo w1 (((j.zip T).take (i + 1)).map λp=>DK l j T p.1 p.2)).map I ++ wsp)) :: (sb,so) :: E)
   (λR4 _=>R4 = R3) (λK3 k3=>?_) ?_
  rotate_left
  .rintro e R4 q N he;subst N;refine z_V ?_;exact jad (hK _ (i + 1) Z ⟨rfl,c⟩)
  refine jiI k3 λK4 k4=>?_
  have m9:=dL c;obtain⟨t,ht⟩:=o6 _ m9;obtain⟨r5,n8⟩:=CR.rn i c Z;have n8:=n8 t ht;obtain⟨d,hd⟩:=Int.eq_ofNat_of_zero_le r5;have n2:lk (prs j T) j[i] = some (I (T[i]'(Z))):=by
   refine Oy b7.nd (p:=(j[i],I (T[i]'(Z)))) ?_;unfold prs;have hz:(j[i],T[i]'(Z))∈j.zip T:=by
    have i6:i < (j.zip T).length:=by rw[gK,hlen];omega
    have:=dL i6;rwa [gN] at this
   exact dc.2 ⟨_,hz,rfl⟩
  have g0:∀(v' : Value) (k:Value->M),ThV R3 v' t->(∀x,J R3 ((D,C 50 (W :: cs)) :: (bw,C Ab ((Bo w1 (((j.zip T).take (i + 1)).map λp=>DK l j T p.1 p.2)).map I ++ wsp)) :: (sb,so) :: E) (k x))->J R3 ((D,C 50 (W :: cs)) :: (bw,C Ab ((Bo w1 (((j.zip T).take i).map λp=>DK l j T p.1 p.2)).map I ++ wsp)) :: (sb,so) :: E) (CV P (.func (.func 119) #[] #[Pt D]) [v',I (T[i]'(Z)),.func (.func 117) #[] #[Pt kb,Pt cb]] k):=λv' k c9 H=>by
   obtain⟨rv,nv,rfl,c7,c5⟩:=c9;obtain⟨ra,rc,rfl⟩:=c7.sl;obtain⟨na,nc,rfl⟩:=c5.sl;refine H4 (by kernel_rfl) ?_;have i6:i < (j.zip T).length:=by rw[gK,hlen];omega
   have n4:Bo w1 (((j.zip T).take (i + 1)).map λp=>DK l j T p.1 p.2) = CE (Bo w1 (((j.zip T).take i).map λp=>DK l j T p.1 p.2)) d (d :: AY t.sh :: (t.refs.map (plc l j T) ++ t.nums)):=by
    rw[dJ i6,dz,eN,List.map_nil,Kj,gN];unfold DK;dsimp only;rw[ht,hd]
   rw[n4] at H;rw[hd];subst hW;refine jc (A:=[(D,C 50 (S0 bw s.AC.length cw :: cs)),(bw,C Ab ((Bo w1 (((j.zip T).take i).map λp=>DK l j T p.1 p.2)).map I ++ wsp))]) (ZW (g:=plc l j T) (d:=d) c7 c5 (by rw[CB,g7]) m7 Z Z λx hx=>WQ hv hlen b1 b7 (λh0=>by have:=g8 0 h0;omega) b0 a3 (n9 _ m9 t ht x hx)) ?_;rintro x R4 A4 _ ⟨N,rfl⟩;subst N;exact H x
  have l6:MpT R3 o l:=⟨ps,f0,j0,j1⟩;refine Bk b2 Z Z ?_;simp only[dG];refine jlr (v:=Pt hb) a3 rfl (jnc (jfo (jlr (v:=.map (some mb)) g1 rfl (jlr (v:=.map (some m2)) b0 rfl ?_))));refine FG ?_ (E8 ?_)
  .refine @Ot _ _ _ mb o l j[i] false (Li.fz g2) l6 (λe=>by rw[ht] at e;cases e) (λt' v' e c9=>?_);rw[ht] at e;cases e;refine Ak (jlr (v:=.map (some m2)) b0 rfl jev) ?_;refine @VM _ _ _ 122 3 m2 o2 (prs j T) j[i] (I 0) false (Li.fz b1) HS Wq b7 ?_;rw[n2];exact g0 v' _ c9 λx=>k4 _ () rfl
  .refine @VM _ _ _ 122 3 m2 o2 (prs j T) j[i] (I 0) false (Li.fz b1) HS Wq b7 ?_;rw[n2];refine Ak (jlr (v:=Pt hb) a3 rfl jev) (Ak (jlr (v:=.map (some mb)) g1 rfl jev) ?_);refine @Ot _ _ _ mb o l j[i] false (Li.fz g2) l6 (λe=>by rw[ht] at e;cases e) (λt' v' e c9=>?_);rw[ht] at e;cases e;exact g0 v' _ c9 λx=>k4 _ () rfl
 rintro e R3 _ N he;subst N;refine z_V ?_;obtain⟨a9,f5⟩:∃a9:List Value,a9 = [S0 bm s.AM.length mc,I s.Ae,.bool s.stop,.bool s.full,.bool s.Ap,I s.want,S0 O s.AB.length hc,.slice oa s.old.length oc,.slice pa s.AJ.length pc,I s.BE,I s.BK]:=⟨_,rfl⟩;rw[<- f5] at i4;subst i4;subst hE;refine Al [(D,C 50 (W :: S0 Q s.AA.length tc :: a9)),(Q,C AO (Ad eRg s.AA ++ tsp)),(sb,so)] (G:=(bw,C Ab (s'.AC.map I ++ wsp)) :: (gb,C 50 (cl z50)) :: (bm,C Az (s.AM.map Value.bool ++ msp)) :: (O,C 117 (rows.flatten ++ hsp)) :: (Ar ++ F)) ?_;obtain⟨E2,l2⟩:∃E2:Chs,E2 = (bw,C Ab (s'.AC.map I ++ wsp)) :: (gb,C 50 (cl z50)) :: (bm,C Az (s.AM.map Value.bool ++ msp)) :: (O,C 117 (rows.flatten ++ hsp)) :: (Ar ++ F):=⟨_,rfl⟩;rw[<- l2];obtain⟨TN,b9⟩:∃TN,TN = RE s.AJ s.AA y:=⟨_,rfl⟩;have m4:TN.length = s.AA.length:=by rw[b9,N8]
 have q1:TN.take 1 ++ s.AA.drop 1 = s.AA:=by
  rw[b9];cases hc:s.AA with
  | nil=>rw[hc] at t0;simp at t0
  | cons x t=>
   unfold RE;rw[dR,List.range_succ_eq_map,eN];rfl
 refine jci (λ_:Unit=>[Pt gb,.func (.func 117) #[] #[Pt kb,Pt cb],Pt D]) (λ_=>(D,C 50 (W :: S0 Q s.AA.length tc :: a9)) :: (Q,C AO (Ad eRg (TN) ++ tsp)) :: (sb,so) :: E2) (λR4 _=>R4 = R3) (λK1 k1=>?_) ?_
 .refine jiI k1 λK2 k2=>?_
  refine jli (λi:Nat=>s.AA.length - i) (λi=>[Pt gb,.map (some sb),S0 tb y.length y.length,.func (.func 117) #[] #[Pt kb,Pt cb],Pt D,I i]) (λi=>(D,C 50 (W :: S0 Q s.AA.length tc :: a9)) :: (Q,C AO (Ad eRg (TN.take i ++ s.AA.drop i) ++ tsp)) :: (sb,so) :: E2) (λR4 i=>R4 = R3/\1<=i/\i<=s.AA.length) 1 ⟨rfl,Z,Z⟩ rfl (by show _ = (D,C 50 (W :: S0 Q s.AA.length tc :: a9)) :: (Q,C AO (Ad eRg (TN.take 1 ++ s.AA.drop 1) ++ tsp)) :: (sb,so) :: E2;rw[q1];rfl) ?_;rintro K e R4 i ⟨N,q6,hi⟩ he hK;subst N;refine z_V ?_;refine jfo (jl (v:=S0 Q s.AA.length tc) rfl (jln (jlt (jif (λc=>?_) (λc=>?_)))));rotate_left
  .have c:=z_g c;rw[dO Z,dT Z,eD];exact k2 R4 () rfl
  have c:i < s.AA.length:=by have:=z_f c;omega
  have j7:=EB (l':=TN) (l:=s.AA) (k:=i) m4;have Em:∀x,((TN.take i ++ s.AA.drop i).set i x).set i (TN[i]'(Z)) = TN.take (i + 1) ++ s.AA.drop (i + 1):=λx=>by
   rw[List.set_set];exact GM m4 c
  have a8:TN[i]'(Z) = IZ s.AJ i (y[i]'(Z)):=by
   subst b9;rw[RY];unfold ZC;rw[if_neg Z,dI,dH Z];rfl
  refine jci (λ_:Unit=>[Pt gb,.map (some sb),S0 tb y.length y.length,.func (.func 117) #[] #[Pt kb,Pt cb],Pt D,I i]) (λ_=>(D,C 50 (W :: S0 Q s.AA.length tc :: a9)) :: (Q,C AO (Ad eRg (TN.take (i + 1) ++ s.AA.drop (i + 1)) ++ tsp)) :: (sb,so) :: E2) (λR5 _=>R5 = R4) (λK3 k3=>?_) ?_;rotate_left
  .rintro e R5 q N he;subst N;refine z_V ?_;exact jad (hK _ (i + 1) Z ⟨rfl,Z,c⟩)
  refine jiI k3 λK4 k4=>?_
  refine jfo (jl (v:=S0 Q s.AA.length tc) rfl (jp (Wz i) (C0 c (Ak (jl (v:=S0 Q s.AA.length tc) rfl jev) ?_))));refine Gl (t:=TN.take i ++ s.AA.drop i) (x:=Dp i) Z ?_;have e8:(y.map I ++ [])[0 + i * 1]? = some (I (y[i]'(Z))):=by
   rw[da,fN];exact GA Z
  refine jci (λ_:Unit=>[Pt gb,.map (some sb),S0 tb y.length y.length,.func (.func 117) #[] #[Pt kb,Pt cb],Pt D,I i,.bool (decide (y[i]'(Z) > AK i) || Aj s.AJ i)]) (λ_=>(D,C 50 (W :: S0 Q s.AA.length tc :: a9)) :: (Q,C AO (Ad eRg ((TN.take i ++ s.AA.drop i).set i (Dp i)) ++ tsp)) :: (sb,so) :: E2) (λR5 _=>R5 = R4) (λK5 k5=>?_) ?_
  .refine C0 Z (jlr (v:=I (y[i]'(Z))) b8 e8 (jp (CZ i) ?_));refine jci (λu:Value × Value=>[Pt gb,.map (some sb),S0 tb y.length y.length,.func (.func 117) #[] #[Pt kb,Pt cb],Pt D,I i,.pointer (some ⟨tb,0 + i * 1,none⟩),I (y[i]'(Z)),.bool (decide (y[i]'(Z) > AK i)),u.1,u.2]) (λ_=>(D,C 50 (W :: S0 Q s.AA.length tc :: a9)) :: (Q,C AO (Ad eRg ((TN.take i ++ s.AA.drop i).set i (Dp i)) ++ tsp)) :: (sb,so) :: E2) (λR5 u=>R5 = R4/\(decide (y[i]'(Z) > AK i) = false->u = (.map (some sb),I i))) (λK6 k6=>?_) ?_
   .refine jgr (FB (λg=>?_) (λg=>?_))
    .exact k6 R4 (.map (some sb),I i) ⟨rfl,λ_=>rfl⟩
    .exact k6 R4 (U,U) ⟨rfl,λhh=>by rw[hh] at g;cases g⟩
   rintro e R5 ⟨u1,u2⟩ ⟨N,hu⟩ he;subst N;dsimp only at he;refine z_V ?_;refine Ak (jlr (v:=I (y[i]'(Z))) b8 e8 jev) (FB (λg=>?_) (λg=>?_))
   .have z:=k5 R5 () rfl;cases hu g;rw[g,eU] at z;refine @jlk _ _ _ sb so _ _ (Aj s.AJ i) _ j5 Iff.rfl ?_;rw[g];exact F5 z
   .have z:=k5 R5 () rfl;rw[g,fW] at z;rw[g];exact EP z
  rintro e R5 _ N he;subst N;refine z_V ?_;refine jif (λg=>?_) (λg=>?_)
  .refine jfo (jl (v:=S0 Q s.AA.length tc) rfl (C0 Z (jlr (v:=I (y[i]'(Z))) b8 e8 (C0 Z (jlr (v:=I (y[i]'(Z))) b8 e8 ?_)))));refine jbd (cs:=eRg ⟨3,-1,y[i]'(Z),y[i]'(Z),0⟩) rfl rfl (C0 c ?_);refine Gl (t:=(TN.take i ++ s.AA.drop i).set i (Dp i)) (x:=⟨3,-1,y[i]'(Z),y[i]'(Z),0⟩) (by rw[eG];omega) ?_;have e1:(⟨3,-1,y[i]'(Z),y[i]'(Z),0⟩:Rg) = TN[i]'(Z):=by
    rw[a8];unfold IZ;rw[if_pos (by simpa using g)]
   rw[e1,Em];exact k4 _ () rfl
  .have e1:Dp i = TN[i]'(Z):=by
    rw[a8];unfold IZ;rw[if_neg (by simpa using g)]
   have e2:=Em (Dp i);rw[List.set_set,<- e1] at e2;have z:=k4 R5 () rfl;rw[<- e2] at z;exact z
 rintro e R4 _ N he;subst N;refine z_V ?_;subst l2 f5;refine jfo (jl (v:=S0 bm s.AM.length mc) rfl (YB (cs':=(List.replicate s.AM.length false).map Value.bool ++ msp) Z V (by unfold lay;simp) ?_));refine jfo (jS [W,S0 Q s.AA.length tc,S0 bm s.AM.length mc,I 0,.bool s.stop,.bool s.full,.bool s.Ap,I s.want,S0 O s.AB.length hc,.slice oa s.old.length oc,.slice pa s.AJ.length pc,I s.BE,I s.BK] ?_);refine jfo (jS [W,S0 Q s.AA.length tc,S0 bm s.AM.length mc,I 0,.bool false,.bool s.full,.bool s.Ap,I s.want,S0 O s.AB.length hc,.slice oa s.old.length oc,.slice pa s.AJ.length pc,I s.BE,I s.BK] ?_);refine jfo (jS [W,S0 Q s.AA.length tc,S0 bm s.AM.length mc,I 0,.bool false,.bool false,.bool s.Ap,I s.want,S0 O s.AB.length hc,.slice oa s.old.length oc,.slice pa s.AJ.length pc,I s.BE,I s.BK] ?_);refine jfo (jS [W,S0 Q s.AA.length tc,S0 bm s.AM.length mc,I 0,.bool false,.bool false,.bool s.Ap,I 0,S0 O s.AB.length hc,.slice oa s.old.length oc,.slice pa s.AJ.length pc,I s.BE,I s.BK] ?_);refine jfo (jS [W,S0 Q s.AA.length tc,S0 bm s.AM.length mc,I 0,.bool false,.bool false,.bool s.Ap,I 0,S0 O s.AB.length hc,SN,.slice pa s.AJ.length pc,I s.BE,I s.BK] ?_);refine jfo (jl (v:=I s.BK) rfl (jad (jfo (jS [W,S0 Q s.AA.length tc,S0 bm s.AM.length mc,I 0,.bool false,.bool false,.bool s.Ap,I 0,S0 O s.AB.length hc,SN,.slice pa s.AJ.length pc,I s.BE,I (s.BK + 1)] ?_))));obtain⟨a1,c4⟩:∃a1:List Value,a1 = [W,S0 Q s.AA.length tc,S0 bm s.AM.length mc,I 0,.bool false,.bool false,.bool s.Ap,I 0,S0 O s.AB.length hc,SN,.slice pa s.AJ.length pc,I s.BE,I (s.BK + 1)]:=⟨_,rfl⟩;rw[<- c4];have m6:a1[0 + 8]? = some (S0 O s.AB.length hc):=by rw[c4];rfl
 refine Al [(O,C 117 (rows.flatten ++ hsp)),(D,C 50 a1)] (G:=(Q,C AO (Ad eRg TN ++ tsp)) :: (sb,so) :: (bw,C Ab (s'.AC.map I ++ wsp)) :: (gb,C 50 (cl z50)) :: (bm,C Az ((List.replicate s.AM.length false).map Value.bool ++ msp)) :: (Ar ++ F)) ?_;obtain⟨G1,l3⟩:∃G1:Chs,G1 = (Q,C AO (Ad eRg TN ++ tsp)) :: (sb,so) :: (bw,C Ab (s'.AC.map I ++ wsp)) :: (gb,C 50 (cl z50)) :: (bm,C Az ((List.replicate s.AM.length false).map Value.bool ++ msp)) :: F:=⟨_,rfl⟩;refine B8 (D':=(O,C 117 (rows.flatten ++ hsp)) :: (D,C 50 a1) :: (Ar ++ G1)) ?_ ?_
 .rw[l3];exact fR _ (fR _ (fV [_,_,_,_,_] Ar F))
 have t8:=g6.len;refine jci (λ_:List (List Value) × Chs=>[Pt gb,Pt D])
  (λq=>(O,C 117 (q.1.flatten ++ hsp)) :: (D,C 50 a1) :: (q.2 ++ G1))
  (λR5 q=>R5 = R4/\Hq s'.AB q.1 q.2) (λK1 k1=>?_) ?_
 .refine jfo (jl (v:=S0 O s.AB.length hc) m6 (jln ?_));refine jiI k1 λK2 k2=>?_
  obtain⟨a5,h5⟩:∃a5 : List Th,a5 = s.AB.map (Cr l j T):=⟨_,rfl⟩;have d3:a5.length = s.AB.length:=by rw[h5,dN]
  refine jli (λi:Nat × List (List Value) × Chs=>s.AB.length - i.1) (λi=>[Pt gb,.func (.func 117) #[] #[Pt kb,Pt cb],Pt D,I s.AB.length,I i.1])
   (λi=>(O,C 117 (i.2.1.flatten ++ hsp)) :: (D,C 50 a1) :: (i.2.2 ++ G1))
   (λR5 i=>R5 = R4/\i.1<=s.AB.length/\Hq (a5.take i.1 ++ s.AB.drop i.1) i.2.1 i.2.2) (0,rows,Ar) ⟨rfl,V,g6⟩ τ τ ?_
  rintro K e R5 ⟨i,a0,A⟩ ⟨N,hi,hT⟩ he hK;subst N;dsimp only at hi hT he hK ⊢;refine z_V ?_;refine jlt (jif (λc=>?_) (λc=>?_));rotate_left
  .have c:=z_g c;rw[dO Z,dT Z,eD,h5,<- CR.th] at hT;exact k2 R5 (a0,A) ⟨rfl,hT⟩
  have c:i < s.AB.length:=by have:=z_f c;omega
  have j7:i < (a5.take i ++ s.AB.drop i).length:=by rw[EB d3];exact c
  have q5:(a5.take i ++ s.AB.drop i)[i] = s.AB[i]:=JR d3 c j7;have i8:(a5.take i ++ s.AB.drop i).set i (Cr l j T s.AB[i]) = a5.take (i + 1) ++ s.AB.drop (i + 1):=by
   have e1:Cr l j T s.AB[i] = a5[i]'(Z):=by subst h5;rw[fQ]
   rw[e1];exact GM d3 c
  obtain⟨rv,A1,A2,A3,rfl,k7,a8,r2⟩:=hT.split (i:=i) j7;rw[q5] at k7 a8;have o4:=hT.len;rw[EB d3] at o4;have j3:∀r∈a0,r.length = 4:=o4.2;have e9:i < a0.length:=Z
  have o3:a0[i] = [rv,I (s.AB[i]).next,.bool (s.AB[i]).busy,I (s.AB[i]).Am]:=by
   rw[dH e9] at a8;exact ei a8
  have c0:∀(f:Nat) (x:Value),f < 4->[rv,I (s.AB[i]).next,.bool (s.AB[i]).busy,I (s.AB[i]).Am][f]? = some x->(a0.flatten ++ hsp)[0 + i * 4 + f]? = some x:=λf x hf hx=>by
   have e1:=Fe (sp:=hsp) i e9 j3;rw[o3] at e1;have e2:=congrArg (λz=>z[f]?) e1;simp only[List.getElem?_take_of_lt hf,ec] at e2;rw[show 0 + i * 4 + f = i * 4 + f from Z,e2,hx]
  have b3:∀A' : Chs,(A' ++ ((O,C 117 (a0.flatten ++ hsp)) :: (D,C 50 a1) :: (A1 ++ (A3 ++ G1)))).Perm ((O,C 117 (a0.flatten ++ hsp)) :: (D,C 50 a1) :: ((A1 ++ (A' ++ A3)) ++ G1)):=λA'=>by
   refine (fV A' [_,_] _).trans ?_;refine fR _ (fR _ ?_);refine (fV A' A1 _).trans ?_;simp only[dS];exact eK _
  have t7:=rl _ (dL c);refine jci (λ_:List (List Value) × Chs=>[Pt gb,.func (.func 117) #[] #[Pt kb,Pt cb],Pt D,I s.AB.length,I i]) (λq=>(O,C 117 (q.1.flatten ++ hsp)) :: (D,C 50 a1) :: (q.2 ++ G1))
   (λR6 q=>R6 = R5/\Hq (a5.take (i + 1) ++ s.AB.drop (i + 1)) q.1 q.2) (λK3 k3=>?_) ?_
  rotate_left
  .rintro e R6 q ⟨N,hq⟩ he;subst N;refine z_V ?_;exact jad (hK _ (i + 1,q.1,q.2) (by dsimp only;omega) ⟨rfl,c,hq⟩)
  refine jiI k3 λK4 k4=>?_
  refine jfo (jl (v:=S0 O s.AB.length hc) m6 (C0 c ?_));refine jci (λ_:Chs=>[Pt gb,.func (.func 117) #[] #[Pt kb,Pt cb],Pt D,.pointer (some ⟨O,0 + i * 4,none⟩),I s.AB.length,I i]) (λA'=>A' ++ ((O,C 117 (a0.flatten ++ hsp)) :: (D,C 50 a1) :: (A1 ++ (A3 ++ G1)))) (λR6 A'=>R6 = R5/\SO ((s.AB[i]).AD.map (plc l j T)) rv A') (λK5 k5=>?_) ?_
  .refine jnc (jfo (jl (v:=rv) (c0 0 rv Z rfl) (Bf k7.sln ?_)));refine B8 (b3 A2).symm ?_;refine jiI k5 λK6 k6=>?_
   refine jli (λk:Nat × Chs=>(s.AB[i]).AD.length - k.1) (λk=>[Pt gb,.func (.func 117) #[] #[Pt kb,Pt cb],Pt D,.pointer (some ⟨O,0 + i * 4,none⟩),I s.AB.length,I i,rv,I (s.AB[i]).AD.length,I k.1]) (λk=>k.2 ++ ((O,C 117 (a0.flatten ++ hsp)) :: (D,C 50 a1) :: (A1 ++ (A3 ++ G1))))
    (λR6 k=>R6 = R5/\k.1<=(s.AB[i]).AD.length/\SO (((s.AB[i]).AD.map (plc l j T)).take k.1 ++ (s.AB[i]).AD.drop k.1) rv k.2) (0,A2) ⟨rfl,V,k7⟩ τ τ ?_
   rintro K e R6 ⟨k,A'⟩ ⟨N,hk,d2⟩ he l4;subst N;dsimp only at hk d2 he l4 ⊢;refine z_V ?_;refine jlt (jif (λc2=>?_) (λc2=>?_));rotate_left
   .have c2:=z_g c2;rw[dO (by rw[dN];omega),dT Z,eD] at d2;exact k6 R6 A' ⟨rfl,d2⟩
   have c2:k < (s.AB[i]).AD.length:=by have:=z_f c2;omega
   have i7:((s.AB[i]).AD.map (plc l j T)).length = (s.AB[i]).AD.length:=dN _;have t5:=EB (l':=(s.AB[i]).AD.map (plc l j T)) (l:=(s.AB[i]).AD) (k:=k) i7;refine @VX _ _ _ _ _ A' _ k d2 ⟨eK _⟩ Z ?_;rw[JR i7 c2];refine jnc (jfo ?_);have l5:∀{k:Value->M},J R6 (A' ++ ((O,C 117 (a0.flatten ++ hsp)) :: (D,C 50 a1) :: (A1 ++ (A3 ++ G1)))) (k rv)->J R6 (A' ++ ((O,C 117 (a0.flatten ++ hsp)) :: (D,C 50 a1) :: (A1 ++ (A3 ++ G1)))) (L1 (.pointer (some ⟨O,0 + i * 4 + 0,none⟩)) k):=λH=>B8 (b3 A') (jl (v:=rv) (c0 0 rv Z rfl) (B8 (b3 A').symm H))
   refine l5 ?_;refine WQ hv hlen b1 b7 (λh0=>by have:=g8 0 h0;omega) b0 a3 (j4 _ (dL c) _ (dL c2)) _ _ ?_;refine ce d2 Z (l5 jev) λA4 p4=>jad (l4 _ (k + 1,A4) (by dsimp only;omega) ⟨rfl,c2,?_⟩)
   have e1:plc l j T (s.AB[i]).AD[k] = ((s.AB[i]).AD.map (plc l j T))[k]'(Z):=by rw[fQ]
   rw[e1,GM i7 c2] at p4;exact p4
  rintro e R6 A' ⟨N,p5⟩ he;subst N;refine z_V ?_;refine B8 (b3 A') ?_;obtain⟨ra,rc,s9⟩:=p5.sln;have hz:=k4 R6;have a7:∀tr:Int,tr = (if (s.AB[i]).Am = 1 then 2 else (s.AB[i]).Am)->J R6 ((O,C 117 ((a0.set i [rv,I (s.AB[i]).next,.bool false,I tr]).flatten ++ hsp)) :: (D,C 50 a1) :: ((A1 ++ (A' ++ A3)) ++ G1)) (K4 [Pt gb,.func (.func 117) #[] #[Pt kb,Pt cb],Pt D,I s.AB.length,I i]):=λtr r9=>by
   have e1:=r2 (Cr l j T s.AB[i]) A' p5;rw[i8] at e1;subst r9;exact k4 R6 (_,_) ⟨rfl,e1⟩
  refine jnc (jfo ?_);refine Zt (rows:=a0) (i:=i) (f:=2) j3 e9 Z rfl rfl ?_;rw[o3];have g5 : ∀r∈a0.set i [rv,I (s.AB[i]).next,.bool false,I (s.AB[i]).Am],r.length = 4:=λr hr=>by
   rcases fO hr with h1 | h1
   .exact j3 r h1
   .rw[h1];rfl
  have f6 : i < (a0.set i [rv,I (s.AB[i]).next,.bool false,I (s.AB[i]).Am]).length:=by rw[eG];exact e9
  have e5 : ((a0.set i [rv,I (s.AB[i]).next,.bool false,I (s.AB[i]).Am]).flatten ++ hsp)[0 + i * 4 + 3]? = some (I (s.AB[i]).Am):=by
   have e1:=Fe (sp:=hsp) i f6 g5;rw[List.getElem_set_self] at e1;have e2:=congrArg (λz=>z[3]?) e1;simp only[List.getElem?_take_of_lt (show 3 < 4 by omega),ec] at e2;rw[show 0 + i * 4 + 3 = i * 4 + 3 from Z,e2];rfl
  refine jnc (jfo (jl (v:=I (s.AB[i]).Am) e5 (jeq (jif (λg=>?_) (λg=>?_)))))
  .have g:(s.AB[i]).Am = 1:=by simpa using g
   refine jnc (jfo (Zt (rows:=a0.set i [rv,I (s.AB[i]).next,.bool false,I (s.AB[i]).Am]) (i:=i) (f:=3) g5 f6 Z rfl rfl ?_));rw[List.getElem_set_self,List.set_set];exact a7 2 (by rw[if_pos g])
  .have g:¬ (s.AB[i]).Am = 1:=by simpa using g
   exact a7 _ (by rw[if_neg g])
 rintro e R5 ⟨j9,AE⟩ ⟨N,hT⟩ he;subst N;dsimp only at hT ⊢;refine z_V ?_;subst hW c4 l3;refine B8 (D':=AE ++ ((O,C 117 (j9.flatten ++ hsp)) :: (D,C 50 [S0 bw s.AC.length cw,S0 Q s.AA.length tc,S0 bm s.AM.length mc,I 0,.bool false,.bool false,.bool s.Ap,I 0,S0 O s.AB.length hc,SN,.slice pa s.AJ.length pc,I s.BE,I (s.BK + 1)]) :: (Q,C AO (Ad eRg TN ++ tsp)) :: (sb,so) :: (bw,C Ab (s'.AC.map I ++ wsp)) :: (gb,C 50 (cl z50)) :: (bm,C Az ((List.replicate s.AM.length false).map Value.bool ++ msp)) :: F)) (fV [_,_] AE _) ?_;refine cO hT λR6 a2 r6=>?_
 refine jla (l:=[S0 bw s.AC.length cw,S0 Q s.AA.length tc,S0 bm s.AM.length mc,I 0,.bool false,.bool false,.bool s.Ap,I 0,S0 O s.AB.length hc,SN,.slice pa s.AJ.length pc,I s.BE,I (s.BK + 1)]) (dM rfl) rfl ?_;refine jS [S0 bw s.AC.length cw,S0 Q s.AA.length tc,S0 bm s.AM.length mc,I 0,.bool false,.bool false,.bool s.Ap,I 0,S0 O s.AB.length hc,SN,.slice pa s.AJ.length pc,I s.BE,I (s.BK + 1)] ?_;refine jla (l:=[S0 bw s.AC.length cw,S0 Q s.AA.length tc,S0 bm s.AM.length mc,I 0,.bool false,.bool false,.bool s.Ap,I 0,S0 O s.AB.length hc,SN,.slice pa s.AJ.length pc,I s.BE,I (s.BK + 1)]) (dM rfl) rfl ?_;refine B9 (b:=O) λR7 q0 h8=>B9 (b:=Q) λR8 m1 e4=>B9 (b:=bw) λR9 h7 h9=>B9 (b:=bm) λRA e3 q3=>?_
 have h8:=(m1.trans (h7.trans e3)) _ _ h8;have e4:=(h7.trans e3) _ _ e4;have h9:=e3 _ _ h9;have h3:=q0.trans (m1.trans (h7.trans e3));have m3:s'.AA.length = s.AA.length:=by rw[CR.tb,N8]
 have t3:s'.AB.length = s.AB.length:=by rw[CR.th,dN]
 have l8:s'.AM = List.replicate s.AM.length false:=by rw[CR.eq]
 have p7:s'.AM.length = s.AM.length:=by rw[l8,dV]
 have p9:s'.AJ = s.AJ:=by rw[CR.eq]
 have p8:s'.old = []:=by rw[CR.eq]
 refine Ao (A:=[]) (l9.trans (a2.trans h3)) ⟨rfl,?_⟩;refine⟨S0 bw s.AC.length cw,S0 Q s.AA.length tc,S0 bm s.AM.length mc,S0 O s.AB.length hc,SN,.slice pa s.AJ.length pc,⟨?_,?_,?_,?_,?_,?_⟩,?_,?_⟩
 .rw[<- o7];exact MN h9 V Z
 .rw[<- m3,CR.tb,<- b9];exact MN e4 (by rw[DX (w:=5) (λ_=>rfl)]) Z
 .rw[<- p7,l8];exact MN q3 V (by simp;omega)
 .refine⟨j9,r6.mono λ_ _=>Cd.le h3,?_⟩;have h4:=hT.len;rw[show s.AB.length = j9.length from Z];exact MN h8 (Br h4.2) Z
 .rw[p8];exact .inl ⟨rfl,rfl,rfl⟩
 .rw[p9];exact f1.le (a2.trans h3)
 .exact⟨Q,tc,tsp,by rw[m3],by rw[CR.tb,<- b9];exact e4,Z⟩
 .have:eSt s' (S0 bw s.AC.length cw) (S0 Q s.AA.length tc) (S0 bm s.AM.length mc) (S0 O s.AB.length hc) (SN) (.slice pa s.AJ.length pc) = [S0 bw s.AC.length cw,S0 Q s.AA.length tc,S0 bm s.AM.length mc,I 0,.bool false,.bool false,.bool s.Ap,I 0,S0 O s.AB.length hc,SN,.slice pa s.AJ.length pc,I s.BE,I (s.BK + 1)]:=by
   rw[CR.eq];rfl
  rw[this]
end st
end Go.Lf
end
section
namespace Sm
open Go.Lf
theorem KX {l:List AQ} {AI to:List Int} (hlen:to.length = AI.length):∀{xs ys:List Int},DD l AI to xs = some ys->ys = xs.map (plc l AI to)
 | [],ys,h=>by cases h;rfl
 | a :: r,ys,h=>by
  unfold DD at h;simp only[dP,z_i] at h;obtain⟨u,A,b,hb,zs,D,e⟩:=h;cases e;rw[eN,<- KX hlen D];congr 1;unfold plc;rw[A];dsimp only;by_cases c:u∈AI
  .have y:=(DF).1 c;have x:BP AI u = (AI.idxOf u:Nat):=by unfold BP;rw[if_pos c]
   rw[if_neg Z] at hb;rw[if_pos c];have j:AI.idxOf u < to.length:=by rw[hlen];exact eQ c
   rw[x] at hb;unfold idx at hb;rw[if_pos Z] at hb;simp only[dG,dH j,dW] at hb;rw[dI,dH j,eI,hb]
  .have y:=(DF).2 c;rw[if_pos Z] at hb;cases hb;rw[if_neg c]
theorem EO {l:List AQ} {AI to:List Int} (hlen:to.length = AI.length):∀{x j : List Th},Da l AI to x = some j->j = x.map (Cr l AI to)
 | [],j,h=>by cases h;rfl
 | t :: r,j,h=>by
  unfold Da at h;simp only[dP,z_i] at h;obtain⟨u,y,zs,A,e⟩:=h;cases e;rw[eN,<- EO hlen A];unfold Cr;rw[<- KX hlen y]
theorem Iz {t:AQ}:(Du t).2.length = 2 + t.refs.length + t.nums.length:=by
 unfold Du;simp only[dR,dK,dV];omega
theorem UM {s s' : Ah} {l:List AQ} {b0 AI to tops:List Int} (hf:HpF s l b0) (O:Od b0 AI) (b6:s.AM.length = s.AC.length) (A:DT s s' l AI to tops):bT s s' l AI to tops:=by
 obtain⟨G,T,-⟩:=EW hf.ths;have hS:=hf.S;have a6:∀t∈l,16<=t.at_/\t.at_ + (2 + t.refs.length + t.nums.length:Nat)<=s.AC.length:=λt y=>by
  obtain⟨K,Q⟩:=T.all t y;have i:=G.inn K;have j:=(E0 G K).2.2;rw[<- Q] at j;omega
 have a0:∀i (h:i < AI.length) (h' : i < to.length),(AI[i],to[i])∈AI.zip to:=λi h h'=>by
  have b5:i < (AI.zip to).length:=by rw[gK];omega
  have:=dL b5;rwa [gN] at this
 have R:∀(w:List Int),w.length = s.AC.length->∀b∈(AI.zip to).map λp=>DK l AI to p.1 p.2,0<=b.1/\b.1 + b.2.length<=w.length:=λw hw b hb=>by
  obtain⟨p,hp,rfl⟩:=dc.1 hb;obtain⟨K,Q⟩:=A.rn p hp;unfold DK;dsimp only;refine⟨Z,?_⟩;cases y:Ax l p.1 with
  | none=>
   have a7:=(fB hp).1;rw[O.m] at a7;obtain⟨t,a9⟩:=hf.M.th _ a7;rw[y] at a9;cases a9
  | some t=>
   have h3:=(Q t y).1;dsimp only;rw[hw];simp only[dR,dK,dN];omega
 have a3:∀(w:List Int),w.length = s.AC.length->∀t∈l,0<=(Du t).1/\(Du t).1 + (Du t).2.length<=w.length:=λw hw t y=>by
  have h:=a6 t y;rw[Iz,hw];show 0<=t.at_/\t.at_ + _<=_;omega
 refine⟨λxs b8=>?_,A.hlen,A.tl.1.trans A.tn,?_,EO A.hlen A.th,?_,λi h h'=>?_⟩
 .rw[A.wd];obtain⟨c4,hZ⟩:∃c4:List Int,c4 = List.replicate s.AC.length 0:=⟨_,rfl⟩;have N:c4.length = s.AC.length:=by rw[hZ,dV]
  rw[<- hZ];have b9:∀{b c:Int × List Int},(∀x,¬ (inB b x/\inB c x))->∀x,¬ (inB c x/\inB b x):=λh x hx=>h x ⟨hx.2,hx.1⟩
  have b1:∀t∈l,Gz l t.at_ = Du t:=λt y=>by
   unfold Gz;rw[DM hS.nd y]
  have D:((xs.filter (Cw s.AJ AI)).map (Gz l)).Perm ((l.filter λt=>Cw s.AJ AI t.at_).map Du):=by
   refine ((b8.filter _).map _).trans ?_;rw[List.filter_map,fq];refine List.Perm.of_eq (eh λt y=>(b1 t (eV.1 y).1))
  have W:((l.filter λt=>Cw s.AJ AI t.at_).map Du).Sublist ((l.filter λx=>Aj s.AJ (AN x.at_)).map Du):=by
   refine List.Sublist.map _ ?_;have e:(l.filter λt=>Cw s.AJ AI t.at_) = (l.filter λx=>Aj s.AJ (AN x.at_)).filter λt=>!AI.contains t.at_:=by
    rw[List.filter_filter];congr 1;funext t;unfold Cw;rw[Bool.and_comm]
   rw[e];exact List.filter_sublist
  have b7:((xs.filter (Cw s.AJ AI)).map (Gz l)).Pairwise (λb c=>∀x,¬ (inB b x/\inB c x)):=(D.pairwise_iff b9).2 (A.dd.sublist W);have b2:∀b∈(xs.filter (Cw s.AJ AI)).map (Gz l),∃t∈l,Cw s.AJ AI t.at_ = true/\b = Du t:=λb hb=>by
   obtain⟨t,y,rfl⟩:=dc.1 (D.mem_iff.1 hb);exact⟨t,(eV.1 y).1,(eV.1 y).2,rfl⟩
  have a4:∀b∈(l.filter λx=>Aj s.AJ (AN x.at_)).map Du,∃t∈l,Aj s.AJ (AN t.at_) = true/\b = Du t:=λb hb=>by
   obtain⟨t,y,rfl⟩:=dc.1 hb;exact⟨t,(eV.1 y).1,(eV.1 y).2,rfl⟩
  have a1:∀b∈(l.filter λx=>Aj s.AJ (AN x.at_)).map Du,0<=b.1/\b.1 + b.2.length<=c4.length:=λb hb=>by
   obtain⟨t,y,_,rfl⟩:=a4 b hb;exact a3 c4 N t y
  have a2:∀b∈(xs.filter (Cw s.AJ AI)).map (Gz l),0<=b.1/\b.1 + b.2.length<=c4.length:=λb hb=>by
   obtain⟨t,y,_,rfl⟩:=b2 b hb;exact a3 c4 N t y
  refine Xl (by simp only[CB]) λx hx=>?_
  by_cases cL:∃b∈(AI.zip to).map λp=>DK l AI to p.1 p.2,inB b x
  .obtain⟨b,hb,H⟩:=cL;rw[Ep (R _ (by rw[CB,N])) A.hd hb H,Ep (R _ (by rw[CB,N])) A.hd hb H]
  have cL:∀b∈(AI.zip to).map λp=>DK l AI to p.1 p.2,¬ inB b x:=λb hb h=>cL ⟨b,hb,h⟩
  rw[EF (R _ (by rw[CB,N])) hx cL,EF (R _ (by rw[CB,N])) hx cL];by_cases c2:∃b∈(xs.filter (Cw s.AJ AI)).map (Gz l),inB b x
  .obtain⟨b,hb,H⟩:=c2;rw[Ep a2 b7 hb H,Ep a1 A.dd (W.subset (D.mem_iff.1 hb)) H]
  rw[EF a2 hx λb hb h=>c2 ⟨b,hb,h⟩];refine EF a1 hx λb hb H=>?_
  obtain⟨t,y,hh,rfl⟩:=a4 b hb;have c0:=a6 t y;by_cases ca:t.at_∈AI
  .obtain⟨i,hi,a5⟩:=dm ca;have b4 : i < to.length:=by rw[A.hlen];exact hi
   have hz:=a0 i hi b4;have a8:AN t.at_ = t.at_ / 16:=Be Z;rcases A.rg _ hz with ⟨K,Q⟩ | ⟨K,Q⟩
   .dsimp only at K Q;refine cL _ (dc.2 ⟨_,hz,rfl⟩) ?_;dsimp only;rw[Q,a5];unfold inB DK;dsimp only;rw[DM hS.nd y];dsimp only;have h3:=H;unfold inB at h3;rw[Iz] at h3;simp only[dR,dK,dN];have h4:(Du t).1 = t.at_:=rfl;omega
   .dsimp only at K;rw[a5,<- a8,hh] at K;cases K
  .refine c2 ⟨Du t,D.mem_iff.2 (dc.2 ⟨t,eV.2 ⟨y,?_⟩,rfl⟩),H⟩;unfold Cw;rw[hh];simpa using ca
 .apply fY (by rw[N8,A.tn]);intro i K Q;rw[RY];have b3:rv s'.AA i = s'.AA[i]:=by
   unfold rv gv;simp only[dG,dI,dH K,eI]
  rw[<- b3];unfold ZC;by_cases c:i = 0
  .subst c;rw[if_pos rfl,G.ok.e];exact A.e0
  .rw[if_neg c,A.tl.2 i Z K];exact A.rw_ i Z (by rw[A.tn] at K;omega)
 .have e:=A.eq;rw[b6];exact e
 .obtain⟨K,Q⟩:=A.rn _ (a0 i h h');exact⟨by dsimp only at K;omega,λt y=>(Q t y).1⟩
end Sm
end
section
namespace Go.Lf
open Go Sm
theorem Wj {n:Nat} {a z:Int} (h:fits n a z = true) (K:2<=z):fits n a 2 = true:=by
 obtain⟨A,D,G,H⟩:=FM h;unfold fits at h ⊢;simp only[z_b,z_d,beq_iff_eq] at h ⊢;obtain⟨⟨⟨⟨⟨p0,p1⟩,p2⟩,x⟩,y⟩,j⟩:=h;refine⟨⟨⟨⟨⟨p0,δ⟩,δ⟩,x⟩,y⟩,?_⟩;unfold AN at j ⊢;rw[if_neg Z,if_neg Z] at j;rw[if_neg Z,if_neg Z];omega
theorem bM {w:List Int} {a:Int} {sh:Shp} (j:fits w.length a 2 = true) (x:AS (w.getD (a.toNat + 1) 0) = (sh,true)) (y:fits w.length a (AF sh) = true) :
  As w a = (⟨a,w.getD a.toNat 0,sh,seg w (a + 2) sh.refs,seg w (a + 2 + sh.refs) sh.nums⟩,true):=by
 unfold As;rw[if_pos j,x];dsimp only;rw[y];rfl
theorem Zo {w:List Int} {a:Int} (h:(As w a).2 = true):∃sh,AS (w.getD (a.toNat + 1) 0) = (sh,true)/\fits w.length a 2 = true/\fits w.length a (AF sh) = true:=by
 unfold As at h;split at h
 .rename_i h0;dsimp only at h;split at h
  .rename_i j;simp only[z_b] at j;exact⟨(AS (w.getD (a.toNat + 1) 0)).1,Prod.ext rfl j.1,h0,j.2⟩
  .cases h
 .cases h
end Go.Lf
end
section
namespace Sm
open Go.Lf
theorem W3 {w xs:List Int} {a n:Int} (h0:0<=a) (A:(xs.length:Int) = n) (hb:a + n<=w.length) (h:∀j:Nat,j < xs.length->wv w (a + j) = xs.getD j 0):seg w a n = xs:=by
 unfold seg;apply fY
 .rw[dU,eO];omega
 .intro j y x;have:=h j x;unfold wv gv at this;rw[show (a + (j:Int)).toNat = a.toNat + j from Z,dI,dI,dH Z,dH x] at this;rw[fy,fT];exact this
theorem aA {α:Type} {d:α} {xs ys:List α} {i:Nat} (h:i < xs.length):(xs ++ ys).getD i d = xs.getD i d:=by
 rw[dI,dI,fC h]
theorem aw {α:Type} {d:α} {xs ys:List α} {i:Nat} (h:xs.length<=i):(xs ++ ys).getD i d = ys.getD (i - xs.length) d:=by
 rw[dI,dI,fZ h]
theorem GN {s j : Ah} {l:List AQ} {AI to tops:List Int} (x:DT s j l AI to tops):j.AC.length = s.AC.length:=by
 rw[x.wd,CB,CB,dV]
theorem PQ {s H : Ah} {l:List AQ} {W AI to tops:List Int} (hf:HpF s l W) (O:Od W AI) (N:DT s H l AI to tops) {p:Int × Int} (hp:p∈AI.zip to) :
  ∃t,Ax l p.1 = some t/\As s.AC p.1 = (t,true)/\As H.AC p.2 = (⟨p.2,p.2,t.sh,t.refs.map (plc l AI to),t.nums⟩,true):=by
 have a5:=(O.m _).1 (fB hp).1;obtain⟨t,ht,D⟩:=L7 hf a5;obtain⟨a6,A⟩:=BF ht;obtain⟨G,T,-⟩:=EW hf.ths;have Q:bgs l p.1:=⟨t,a6,A⟩;have i:=G.inn Q;have hl:=GN N;obtain⟨r1,r2⟩:=N.rn p hp;obtain⟨r2,r3⟩:=r2 t ht;obtain⟨e1,e2,e3⟩:=Kx (by rw[A];exact D);rw[A] at e1 e2 e3;obtain⟨n1,n2,n3⟩:=E0 G Q;rw[<- e3] at n1 n2 n3;have a0:t.sh = shp s.AC p.1:=congrArg AQ.sh e3;have K:=Ge s.AC p.1;rw[<- a0] at K n1 n2;obtain⟨sh,a1,a2,a3⟩:=Zo (by rw[D]);have ⟨z1,z2⟩:=Ew K;have a4:∀b∈(AI.zip to).map λp=>DK l AI to p.1 p.2,0<=b.1/\b.1 + b.2.length<=s.AC.length:=λb hb=>by
  obtain⟨q,hq,rfl⟩:=dc.1 hb;obtain⟨h1,h2⟩:=N.rn q hq;obtain⟨t',R,_⟩:=L7 hf ((O.m _).1 (fB hq).1);have h3:=(h2 t' R).1;unfold DK;rw[R];simp only[dR,dK,dN];omega
 have x:∀k:Nat,k < 2 + t.refs.length + t.nums.length->wv H.AC (p.2 + k) = (p.2 :: AY t.sh :: (t.refs.map (plc l AI to) ++ t.nums)).getD k 0:=λk hk=>by
  have hb:DK l AI to p.1 p.2 = (p.2,p.2 :: AY t.sh :: (t.refs.map (plc l AI to) ++ t.nums)):=by unfold DK;rw[ht]
  have hm:DK l AI to p.1 p.2∈(AI.zip to).map λp=>DK l AI to p.1 p.2:=dc.2 ⟨p,hp,rfl⟩
  rw[hb] at hm;rw[N.wd,Ep (λb hb=>by rw[CB,dV];exact a4 b hb) N.hd hm (by unfold inB;simp only[dR,dK,dN];omega)];simp only;rw[show (p.2 + (k:Int) - p.2).toNat = k from Z]
 have c0:=x 0 Z;have c1:=x 1 Z;simp only[Int.natCast_zero,Int.add_zero,List.getD_cons_zero] at c0;simp only[ge,List.getD_cons_zero] at c1;have w0:H.AC.getD p.2.toNat 0 = p.2:=c0;have w1:H.AC.getD (p.2.toNat + 1) 0 = AY t.sh:=by
  rw[<- c1];unfold wv gv;rw[show (p.2 + ((1:Nat):Int)).toNat = p.2.toNat + 1 from Z]
 have wok:BM H.AC.length = true:=by
  rw[hl];unfold fits at a2;simp only[z_b] at a2;exact a2.1.1.1.1.1
 have a7:AF t.sh = 2 + t.refs.length + t.nums.length:=by
  rw[e1,<- n3];omega
 have y:fits H.AC.length p.2 (AF t.sh) = true:=by
  unfold fits AN;rw[wok,if_neg Z,if_neg Z];simp only[eP,z_b,z_d,beq_iff_eq];omega
 refine⟨t,ht,D,?_⟩;rw[bM (Wj y Z) (by rw[w1,Eb K]) y,w0,W3 (xs:=t.refs.map (plc l AI to)) Z (by rw[dN];exact n1) Z (λj hj=>?_),W3 Z n2 Z (λj hj=>?_)]
 .rw[show p.2 + 2 + t.sh.refs + (j:Int) = p.2 + ((2 + t.refs.length + j:Nat):Int) from Z,x _ Z,show 2 + t.refs.length + j = (t.refs.length + j) + 1 + 1 from Z,ge,ge,aw (by rw[dN];omega),dN,show t.refs.length + j - t.refs.length = j from Z]
 .rw[dN] at hj;rw[show p.2 + 2 + (j:Int) = p.2 + ((2 + j:Nat):Int) from Z,x _ Z,show 2 + j = j + 1 + 1 from Z,ge,ge,aA (by rw[dN];exact hj)]
theorem HpF.pin {s:Ah} {l:List AQ} {j:List Int} (G:HpF s l j) {a:Int} (h:a∈s.AJ):a∈j:=by
 obtain⟨x,D,y⟩:=G.closed.1 a (eM _ h);have H:=G.head;unfold C8 at H;simp only[z_b] at H;have:=df.1 H.2 a h;unfold E6 at this;cases A:Ax l a with
 | none=>rw[A] at this;cases this
 | some t=>
  rw[A] at this;obtain⟨N,Q⟩:=BF A;have K:=G.S.at16 t N;unfold now at D;rw[if_neg Z,A] at D;simp only[fg,dW] at D;have O:t.moved = a:=(by simpa using this:t.moved = a/\_).1;rcases y with y | y
  .omega
  .rwa [<- D,O] at y
end Sm
end
section
namespace Go.Lf
open Go Sm
theorem jbz {R:RM} {D:Chs} {v:Value} {l:List Bool} {i:Nat} {k:Value->M} (h:Bls R v l) (A:i < l.length) (H:J R D (k (.bool l[i]))):J R D (IA 1 v (I (i:Int)) λx=>L1 x k):=by
 rcases h with ⟨_,j,_⟩ | ⟨b,o,y,t,K,rfl,j,N,G,O⟩
 .omega
 .refine jia Z Z (jlr j ?_ H);rw[dG,fN];have e:=congrArg (·[i]?) G;simp only[fM,ec] at e;rw[if_pos Z] at e;rw[e,eH,dH A];rfl
structure StZ (s:Sm.Ah):Prop where
 w:s.AC.length < 1000000
 t:s.AA.length < 1000000
 m:s.AM.length < 1000000
 o:s.old.length < 1000000
 p:s.AJ.length < 1000000
 n:s.AB.length < 1000000
 r:∀t∈s.AB,t.AD.length < 1000000
section
variable {R:RM} {D:Chs} {s:Sm.Ah} {wv tv mv thv ov pv wv' tv' mv' thv' ov' pv' : Value}
set_option maxHeartbeats 1000000 in
set_option maxRecDepth 8000 in
theorem VY (h:StC R s wv tv mv thv ov pv) (N : StC R s wv' tv' mv' thv' ov' pv') (z:StZ s) :
  Ro KZ [.agg (eSt s wv tv mv thv ov pv).toArray,.agg (eSt s wv' tv' mv' thv' ov' pv').toArray] (.bool true) R D:=by
 refine RU λF=>?_
 refine z_2 ?_;obtain⟨zw,zt,zm,zo,zp,zn,zr⟩:=z;refine ja λA=>ja λG=>(jor [Pt A,Pt G] false (λH j=>?_) (λe c u O he=>?_))
 .refine jfo (jl rfl (jfo (jl rfl (jro (Iy h.w N.w zw zw) ?_))));rw[beq_self_eq_true];refine jff (jfo (jl rfl (Bf h.t.sl (jfo (jl rfl (Bf N.t.sl (jne ?_)))))));rw[bne_self_eq_false];exact j _ _ _ CH rfl
 refine z_V ?_;refine jor [Pt A,Pt G] false (λH j=>?_) (λe c u T he=>?_)
 .rw[O];refine jff (jfo (jl rfl (Bf h.m.sl (jfo (jl rfl (Bf N.m.sl (jne ?_)))))));rw[bne_self_eq_false];exact j _ _ _ CH rfl
 refine z_V ?_;refine jor [Pt A,Pt G] false (λH j=>?_) (λe c u W he=>?_)
 .rw[T];refine jff (jfo (jl rfl (jfo (jl rfl (jne ?_)))));rw[bne_self_eq_false];exact j _ _ _ CH rfl
 refine z_V ?_;refine jor [Pt A,Pt G] false (λH j=>?_) (λe c u a2 he=>?_)
 .rw[W];refine jff (jfo (jl rfl (jfo (jl rfl (@jxb _ _ _ _ _ _ _ ?_)))));rw[bne_self_eq_false];exact j _ _ _ CH rfl
 refine z_V ?_;refine jor [Pt A,Pt G] false (λH j=>?_) (λe c u a3 he=>?_)
 .rw[a2];refine jff (jfo (jl rfl (jfo (jl rfl (@jxb _ _ _ _ _ _ _ ?_)))));rw[bne_self_eq_false];exact j _ _ _ CH rfl
 refine z_V ?_;refine jor [Pt A,Pt G] false (λH j=>?_) (λe c u a4 he=>?_)
 .rw[a3];refine jff (jfo (jl rfl (jfo (jl rfl (@jxb _ _ _ _ _ _ _ ?_)))));rw[bne_self_eq_false];exact j _ _ _ CH rfl
 refine z_V ?_;refine jor [Pt A,Pt G] false (λH j=>?_) (λe c u a5 he=>?_)
 .rw[a4];refine jff (jfo (jl rfl (jfo (jl rfl (jne ?_)))));rw[bne_self_eq_false];exact j _ _ _ CH rfl
 refine z_V ?_;refine jor [Pt A,Pt G] false (λH j=>?_) (λe c u a6 he=>?_)
 .rw[a5];refine jff (jfo (jl rfl (jfo (jl rfl (jne ?_)))));rw[bne_self_eq_false];exact j _ _ _ CH rfl
 refine z_V ?_;refine jor [Pt A,Pt G] false (λH j=>?_) (λe c u a7 he=>?_)
 .rw[a6];refine jff (jfo (jl rfl (jfo (jl rfl (jne ?_)))));rw[bne_self_eq_false];exact j _ _ _ CH rfl
 refine z_V ?_;refine jor [Pt A,Pt G] false (λH j=>?_) (λe c u a8 he=>?_)
 .rw[a7];refine jff (jfo (jl rfl (jfo (jl rfl (jro (Iy h.o N.o zo zo) ?_)))));rw[beq_self_eq_true];exact j _ _ _ CH rfl
 refine z_V ?_;refine jor [Pt A,Pt G] false (λH j=>?_) (λe c u a9 he=>?_)
 .rw[a8];refine jff (jfo (jl rfl (jfo (jl rfl (jro (Iy h.p N.p zp zp) ?_)))));rw[beq_self_eq_true];exact j _ _ _ CH rfl
 refine z_V ?_;refine jor [Pt A,Pt G] false (λH j=>?_) (λe c u b0 he=>?_)
 .rw[a9];refine jff (jfo (jl rfl (Bf h.th.sl (jfo (jl rfl (Bf N.th.sl (jne ?_)))))));rw[bne_self_eq_false];exact j _ _ _ CH rfl
 refine z_V ?_;rw[b0];refine CQ (Bv [Pt A,Pt G] (λK1 h1=>?_) (λe he=>?_))
 .refine Bv [Pt A,Pt G] (λK2 h2=>?_) (λe he=>?_);rotate_left
  .refine z_V ?_;exact h1
  refine Nm [Pt A,Pt G] s.AA.length (λ_=>True) trivial λi K e hi _ hK he=>?_
  refine z_V ?_;refine jfo (jl rfl (Bf h.t.sl (jlt (jif (λc=>?_) (λc=>h2)))));have c:i < s.AA.length:=by have:=z_f c;omega
  refine jfo (jl rfl (jrg h.t c λx o ty cs hb O y=>DR hb O y (jfo (jl rfl (jrg N.t c λx o ty cs hb O y=>DR hb O y (@aX _ _ _ _ _ _ _ ?_))))));rw[beq_self_eq_true];exact CQ (jad (hK c trivial))
 refine z_V ?_;refine Bv [Pt A,Pt G] (λK1 h1=>?_) (λe he=>?_)
 .refine Bv [Pt A,Pt G] (λK2 h2=>?_) (λe he=>?_);rotate_left
  .refine z_V ?_;exact h1
  refine Nm [Pt A,Pt G] s.AM.length (λ_=>True) trivial λi K e hi _ hK he=>?_
  refine z_V ?_;refine jfo (jl rfl (Bf h.m.sl (jlt (jif (λc=>?_) (λc=>h2)))));have c:i < s.AM.length:=by have:=z_f c;omega
  refine jfo (jl rfl (jbz h.m c (jfo (jl rfl (jbz N.m c (@jxb _ _ _ _ _ _ _ ?_))))));rw[bne_self_eq_false];exact CQ (jad (hK c trivial))
 refine z_V ?_;refine Nm [Pt A,Pt G] s.AB.length (λ_=>True) trivial λi K e hi _ hK he=>?_
 refine z_V ?_;refine jfo (jl rfl (Bf h.th.sl (jlt (jif (λc=>?_) (λc=>BV (BV (BB rfl)))))));have c:i < s.AB.length:=by have:=z_f c;omega
 have zr:=zr _ (dL c);refine jfo (jl rfl (jtr h.th c λx o ty cs rv a0 hb O y=>DR hb O y ?_));obtain⟨ra,rc,rfl⟩:=a0.sl;refine ja λb3=>js rfl rfl (dM rfl) rfl (jfo (jl rfl (jtr N.th c λx o ty cs rv Q hb O y=>DR hb O y ?_)))
 obtain⟨b5,b6,rfl⟩:=Q.sl;refine ja λb4=>js rfl rfl (dM rfl) rfl (jor [Pt A,Pt G,I i,Pt b3,Pt b4] false (λH j=>?_) (λe c2 u a1 he=>?_))
 .refine jfo (jl rfl (jfo (jl rfl (jro (Iy a0 Q zr zr) ?_))));rw[beq_self_eq_true];refine jff (jfo (jl rfl (jfo (jl rfl (jne ?_)))));rw[bne_self_eq_false];exact j _ _ _ CH rfl
 refine z_V ?_;refine jor [Pt A,Pt G,I i,Pt b3,Pt b4] false (λH j=>?_) (λe c2 u T he=>?_)
 .rw[a1];refine jff (jfo (jl rfl (jfo (jl rfl (@jxb _ _ _ _ _ _ _ ?_)))));rw[bne_self_eq_false];exact j _ _ _ CH rfl
 refine z_V ?_;refine jor [Pt A,Pt G,I i] false (λH j=>?_) (λe c2 u W he=>?_)
 .rw[T];refine jff (jfo (jl rfl (jfo (jl rfl (jne ?_)))));rw[bne_self_eq_false];exact j _ _ _ CH rfl
 refine z_V ?_;rw[W];exact CQ (jad (BV (BV (hK c trivial))))
end
section st
variable {R:RM} {s:Sm.Ah} {wv tv mv thv ov pv:Value}
set_option maxRecDepth 4000 in
theorem S5 (h:SF R s wv tv mv thv ov pv):Fn P Mw [.agg (eSt s wv tv mv thv ov pv).toArray] R [] (λv R' A=>A = []/\QFd (fdO s) v R'):=by
 refine Sx λF=>?_
 refine z_1 ?_;refine ja λsb=>ja λgb=>jla (by exact z_n 13) rfl ?_
 have fu:=h.b.fu;have ml:=h.b.ml;refine jc (OG h) ?_;rintro x R1 _ K ⟨rfl,hq⟩;have h:=h.le K;unfold fdO;cases hc:Dj s with
 | none=>
  rw[hc] at hq;obtain rfl:x = _:=hq;refine jxr (λw=>Pw w _ _) (DG (jbd rfl rfl (js rfl rfl (dM rfl) rfl (jla (dM rfl) rfl ?_))));exact Ao K ⟨rfl,rfl⟩
 | some q=>
  obtain⟨l,met⟩:=q;rw[hc] at hq;obtain⟨hb,mb,v,rfl,hv⟩:=hq;have hh:CD s = some (l,met):=by
   unfold Dj at hc;split at hc
   .cases hc
   .exact hc
  have D:=Cq hh;obtain⟨a5,a7⟩:=Ho h D.ths;have a6:=D.M.len;obtain⟨s',to,a4,F0,F1⟩:=Ob D Z;have CR:=UM D (Jg D.M.nd) ml F1;obtain⟨G,T,-⟩:=EW D.ths;obtain⟨a2,a3⟩:=D.closed;obtain⟨sp,sm⟩:=Bt D.M.nd;have wl:=h.b.wl;have t1:=h.b.t1;refine jxr (λw=>QW w _ _ hb) (CQ (jc (QU hv D.M.nd Z) ?_));rintro sv R2 A2 _ ⟨a0,so⟩;subst a0;refine Dv so λR3 N hi=>?_
  have W:=En met [];have W:(Aa met).length = met.length:=by simpa [Aa] using W
  have Q:∀t∈l,16<=t.at_/\t.at_ + (2 + t.refs.length + t.nums.length:Nat)<=s.AC.length:=λt H=>by
   obtain⟨h1,h2⟩:=T.all t H;have i:=G.inn h1;have j:=(E0 G h1).2.2;rw[<- h2] at j;omega
  refine jc (Kz (h.le N) (hv.le N) hi Z (λa O=>D.M.th a ((sm a).1 O)) (sp.imp λh=>Z) (λa O=>?_) (λt _=>EE t.sh) D.S.nd (λt H=>by have:=Q t H;omega)
   (λa O t H x hx=>by obtain⟨u,hu,_⟩:=a3 a ((sm a).1 O) t H x hx;exact⟨u,hu⟩)
   (λt H x hx=>by obtain⟨u,hu,_⟩:=a2 x (dx _ (fi.2 ⟨t,H,hx⟩));exact⟨u,hu⟩)
   (by rw[F1.ld];exact⟨s',rfl,CR⟩)) ?_
  .obtain⟨t,H⟩:=D.M.th a ((sm a).1 O);obtain⟨h1,h2⟩:=BF H;have:=Q t h1;omega
  rintro v R4 A4 a1 ⟨rfl,wv',tv',mv',thv',ov',pv',y,hz,rfl⟩;refine jex rfl (jex rfl ?_);obtain⟨wa,wc,rfl⟩:=y.w.sl;obtain⟨ta,tc,rfl⟩:=y.t.sl;obtain⟨ma,mc,rfl⟩:=y.m.sl;obtain⟨a8,a9,rfl⟩:=y.th.sl;obtain⟨oa,oc,rfl⟩:=y.o.sl;obtain⟨pa,pc,rfl⟩:=y.p.sl;refine js rfl rfl (dM rfl) rfl (jla (dM rfl) rfl (Ao (K.trans (N.trans a1)) ⟨rfl,?_⟩));show QFd (Fi s) _ _;rw[F0];exact⟨_,_,_,_,_,_,y,hz,rfl⟩
end st
def st0:Sm.Ah:=⟨[],[],[],0,false,false,false,0,[],[],[],0,0⟩
theorem aU {R:RM} {s x : Sm.Ah} {wv H mv y G pv:Value} {l:List AQ} {AI to tops:List Int} (h:SF R s wv H mv y G pv) (j:DT s x l AI to tops):StZ x:=by
 have wl:=h.b.wl;have t1:=h.b.t1;have n1:=h.b.n1;have pl:=h.b.pl;have e:=j.eq;have K:=GN j;have th:x.AB = s.AB.map (Cr l AI to):=EO j.hlen j.th;refine⟨Z,by have:=j.tn;omega,by rw[e];simp;omega,by rw[e];simp,by rw[e];show s.AJ.length < _;omega,by rw[th];simp;omega,λt A=>?_⟩;rw[th] at A;obtain⟨u,D,rfl⟩:=dc.1 A;have:=h.b.rl u D;unfold Cr;simp only[dN];omega
theorem QFd.u {r:Option Sm.Ah} {v:Value} {R:RM} (h:QFd r v R):∃G j y x A D,StC R (r.getD st0) G j y x A D/\(r.isSome = true->RgZ R j (r.getD st0).AA)/\v = .tuple #[.agg (eSt (r.getD st0) G j y x A D).toArray,.bool r.isSome]:=by
 cases r with
 | none=>
  obtain rfl:v = _:=h;exact⟨SN,SN,SN,SN,SN,SN,⟨.inl ⟨rfl,rfl,rfl⟩,.inl ⟨rfl,rfl,rfl⟩,.inl ⟨rfl,rfl,rfl⟩,⟨[],Rw.nil,.inl ⟨rfl,rfl,rfl⟩⟩,.inl ⟨rfl,rfl,rfl⟩,.inl ⟨rfl,rfl,rfl⟩⟩,(λh=>by cases h),rfl⟩
 | some s=>
  obtain⟨wv,tv,mv,thv,ov,pv,h,H,rfl⟩:=h;exact⟨wv,tv,mv,thv,ov,pv,h,λ_=>H,rfl⟩
theorem jsS {R:RM} {D:Chs} {b:Nat} {s:Sm.Ah} {wv y mv j x pv:Value} {m:M} (h:StC R s wv y mv j x pv) (H:J R ((b,C 50 (eSt s wv y mv j x pv)) :: D) m):J R ((b,C 50 (cl z50)) :: D) (ST 13 (Pt b) (.agg (eSt s wv y mv j x pv).toArray) m):=by
 obtain⟨T,wc,rfl⟩:=h.w.sl;obtain⟨Q,tc,rfl⟩:=h.t.sl;obtain⟨G,mc,rfl⟩:=h.m.sl;obtain⟨A,hc,rfl⟩:=h.th.sl;obtain⟨K,N,rfl⟩:=h.o.sl;obtain⟨O,pc,rfl⟩:=h.p.sl;exact js rfl rfl (by exact z_n 13) rfl H
section
variable {R:RM} {D:Chs} {w:List Int} {wv:Value} {t:AQ} {a:Int} {k:Value->Value->M}
end
theorem full_rn {s s' : Sm.Ah} {l:List AQ} {Q AI to tops:List Int} (hf:HpF s l Q) (O:Od Q AI) (K:DT s s' l AI to tops) (hw:∀x∈s.AC,Rn x) (hl:s.AC.length<=192):∀x∈s'.AC,Rn x:=by
 have hc:∀(N:List (Int × List Int)) (w:List Int),(∀x∈w,Rn x)->(∀b∈N,∀x∈b.2,Rn x)->∀x∈Bo w N,Rn x:=by
  intro N;induction N with
  | nil=>intro w h _ x j;exact h x j
  | cons b N ih=>
   intro w h hb;refine ih _ ?_ λb' W=>hb b' (dh _ W)
   have hs:∀(c w:List Int) (a:Int),(∀x∈w,Rn x)->(∀x∈c,Rn x)->∀x∈CE w a c,Rn x:=by
    intro c;induction c with
    | nil=>intro w a h _ x j;exact h x j
    | cons v c a2=>
     intro w a h hv;refine a2 _ _ (λx j=>?_) λx j=>hv x (dh _ j)
     unfold AT at j;rcases fO j with j | rfl
     .exact h x j
     .exact hv _ V
   exact hs _ _ _ h (hb b V)
 have H:∀(a n:Int) (x:Int),x∈seg s.AC a n->Rn x:=λa n x j=>hw x (fS (eJ j))
 have nums:∀t∈l,∀x∈t.nums,Rn x:=λt D x j=>by
  obtain⟨G,T,-⟩:=EW hf.ths;have R:=(T.all t D).2;rw[R] at j;exact H _ _ x j
 have z:Rn 0:=⟨δ,δ⟩;have A:∀x:Int,0<=x->x<=1000000->Rn x:=λx h0 R=>⟨Z,Z⟩
 obtain⟨G,T,-⟩:=EW hf.ths;rw[K.wd];refine hc _ _ (hc _ _ (λx j=>by rw[(eR.1 j).2];exact z) λb hb x j=>?_) λb hb x j=>?_
 .obtain⟨t,D,rfl⟩:=dc.1 hb;have D:=(eV.1 D).1;have i:=G.inn (T.all t D).1;unfold Du at j;simp only[dX,dg,eR] at j;rcases j with rfl | rfl | ⟨_,rfl⟩ | j
  .exact A _ Z Z
  .exact Rn.shape
  .exact z
  .exact nums t D x j
 .obtain⟨p,hp,rfl⟩:=dc.1 hb;obtain⟨R,h2⟩:=K.rn p hp;unfold DK at j;cases D:Ax l p.1 with
  | none=>rw[D] at j;cases j
  | some t=>
   rw[D] at j;have h3:=(h2 t D).1;simp only[dX,dg,dc] at j;rcases j with rfl | rfl | ⟨y,_,rfl⟩ | j
   .exact A _ Z Z
   .exact Rn.shape
   .unfold plc;split
    .split
     .rename_i u _ hu;have hi:AI.idxOf u < to.length:=by rw[K.hlen];exact eQ hu
      rw[dI,dH hi,eI];have a0:AI.idxOf u < (AI.zip to).length:=by rw[gK,K.hlen] at *;omega
      have hz:=dL a0;rw[gN] at hz;obtain⟨g1,g2⟩:=K.rn _ hz;obtain⟨t',a1,_⟩:=L7 hf ((O.m _).1 (fB hz).1);have:=(g2 t' a1).1;dsimp only at this g1;exact A _ Z Z
     .exact z
    .exact z
   .exact nums t (BF D).1 x j
end Go.Lf
end
section
namespace Sm
open Go.Lf
section
variable {s s' : Ah} {l:List AQ} {met AI to tops:List Int}
theorem Yc (W:HpF s l met) (O:Od met AI) (H:DT s s' l AI to tops) {t:AQ} (A:t∈l) (hh:Aj s.AJ (AN t.at_) = true) (hd:t.at_ ∉ to):wv s'.AC t.at_ = t.at_/\wv s'.AC (t.at_ + 1) = AY t.sh:=by
 obtain⟨G,T,-⟩:=EW W.ths;obtain⟨f,B',G2,k5,k6,k7⟩:=H.gs;obtain⟨D,x2⟩:=T.all t A;have i:=G.inn D;have K:=(E0 G D).2.2;rw[<- x2] at K;have N:B' t.at_:=(k5 t.at_ ⟨⟨t,A,rfl⟩,by rw[<- Be Z];exact hh⟩).1;have a2:AF (f t.at_) = sz s.AC t.at_:=by rw[(k5 t.at_ ⟨⟨t,A,rfl⟩,by rw[<- Be Z];exact hh⟩).2];rfl
 have Q:∀t∈l,0<=(Du t).1/\(Du t).1 + (Du t).2.length<=s.AC.length:=λt A=>by
  obtain⟨D,x2⟩:=T.all t A;have i:=G.inn D;have K:=(E0 G D).2.2;rw[<- x2] at K;rw[Iz];show 0<=t.at_/\t.at_ + _<=_;omega
 have R:∀b∈(AI.zip to).map λp=>DK l AI to p.1 p.2,0<=b.1/\b.1 + b.2.length<=s.AC.length:=λb hb=>by
  obtain⟨q,hq,rfl⟩:=dc.1 hb;obtain⟨K,N⟩:=H.rn q hq;obtain⟨t',j,_⟩:=L7 W ((O.m _).1 (fB hq).1);have h3:=(N t' j).1;unfold DK;rw[j];simp only[dR,dK,dN];omega
 have out:∀x,t.at_<=x->x < t.at_ + sz s.AC t.at_->∀b∈(AI.zip to).map λp=>DK l AI to p.1 p.2,¬ inB b x:=λx g0 g1 b hb hx=>by
  obtain⟨p,hp,rfl⟩:=dc.1 hb;obtain⟨q1,q2,_⟩:=k7 p hp;have a1:=(O.m _).1 (fB hp).1;obtain⟨t',j,a3⟩:=L7 W a1;obtain⟨m1,m2⟩:=BF j;obtain⟨y1,y2⟩:=T.all t' m1;have h3:=(E0 G y1).2.2;rw[<- y2,m2] at h3;have hz:AF (f p.2) = sz s.AC p.1:=by rw[q2];rfl
  unfold inB DK at hx;rw[j] at hx;simp only[dR,dK,dN] at hx;have a0:p.2≠t.at_:=λe=>hd (e▸(fB hp).2)
  rcases Int.lt_or_gt_of_ne a0 with c | c
  .have:=G2.dj _ _ q1 N c;omega
  .have:=G2.dj _ _ N q1 c;omega
 have y:∀k:Nat,k < 2->wv s'.AC (t.at_ + k) = (Du t).2.getD k 0:=λk hk=>by
  have hm:Du t∈(l.filter λx=>Aj s.AJ (AN x.at_)).map Du:=dc.2 ⟨t,eV.2 ⟨A,hh⟩,rfl⟩;rw[H.wd,EF (λb hb=>by rw[CB,dV];exact R b hb) Z (out _ Z Z),Ep (λb hb=>by
   rw[dV]
   obtain⟨u,hu,rfl⟩:=dc.1 hb
   exact Q u (eV.1 hu).1) H.dd hm (by
   unfold inB
   rw[Iz]
   show t.at_<=_/\_ < t.at_ + _
   omega)]
  rw[show (t.at_ + (k:Int) - (Du t).1).toNat = k from by show (t.at_ + (k:Int) - t.at_).toNat = k;omega]
 have c0:=y 0 Z;have c1:=y 1 Z;exact⟨by simpa [Du] using c0,by simpa [Du] using c1⟩
def bgF (s:Ah) (l:List AQ) (to:List Int) (b:Int):Prop:=b∈to\/(bgs l b/\Aj s.AJ (b / 16) = true)
theorem Uz (Q:HpF s l met) (O:Od met AI) (D:DT s s' l AI to tops):∃f:Int->Shp,If f s'.AA (bgF s l to)/\∀b,bgF s l to b->wv s'.AC b = b/\AS (wv s'.AC (b + 1)) = (f b,true):=by
 obtain⟨G,T,-⟩:=EW Q.ths;obtain⟨f,B',G2,k5,k6,k7⟩:=D.gs;have A:∀b∈to,∃a,(a,b)∈AI.zip to:=λb hb=>GY D.hlen.symm hb
 have eB:∀b,B' b↔bgF s l to b:=λb=>⟨λh=>(k6 b h).elim .inr λh=>.inl h.1,λh=>h.elim (λh=>by
  obtain⟨a,H⟩:=A b h
  exact (k7 _ H).1) λh=>(k5 b h).1⟩
 have N:B' = bgF s l to:=funext λb=>propext (eB b)
 rw[<- N];refine⟨f,G2,λb hb=>?_⟩;have i2:=G2.inn hb;by_cases j:b∈to
 .obtain⟨a,H⟩:=A b j;obtain⟨t,h1,h2,h3⟩:=PQ Q O D H;dsimp only at h1 h2 h3;obtain⟨q1,q2,_⟩:=k7 _ H;dsimp only at q2;obtain⟨e1,e2,y⟩:=Kx (x:=⟨b,b,t.sh,t.refs.map (plc l AI to),t.nums⟩) h3;have e4:=congrArg AQ.moved y;have e5:=congrArg AQ.sh y;dsimp only[thg] at e4 e5;obtain⟨m1,m2⟩:=BF h1;have e6:=(Kx (x:=t) (by rw[m2];exact h2)).2.2;have K:=congrArg AQ.sh e6;dsimp only[thg] at K;rw[m2] at K;refine⟨e4.symm,Prod.ext ?_ e2⟩;show (AS (wv s'.AC (b + 1))).1 = f b;rw[q2,<- K];exact e5.symm
 .rcases k6 b hb with ⟨⟨t,W,rfl⟩,hh⟩ | ⟨h,_⟩
  .have R : Aj s.AJ (AN t.at_) = true:=by rw[Be Z];exact hh
   obtain⟨d1,d2⟩:=Yc Q O D W R j;have k:=(k5 t.at_ ⟨⟨t,W,rfl⟩,hh⟩).2;have y:=congrArg AQ.sh (T.all t W).2;dsimp only[thg] at y;rw[d2,k,<- y];refine⟨d1,Eb ?_⟩;rw[y];exact Ge s.AC t.at_
  .exact absurd h j
theorem M5 (H:HpF s l met) (O:Od met AI) (y:DT s s' l AI to tops):Geo s'.AC s'.AA (bgF s l to)/\∀b,bgF s l to b->wv s'.AC b = b:=by
 obtain⟨G,T,-⟩:=EW H.ths;obtain⟨f,x,D⟩:=Uz H O y;have A:∀b,bgF s l to b->sz s'.AC b = AF (f b):=λb hb=>by
  unfold sz shp;rw[(D b hb).2]
 refine⟨⟨?_,x.ok,λa j=>?_,λa j=>?_,x.bs,λa b j hb h=>?_⟩,λb hb=>(D b hb).1⟩
 .rw[GN y,y.tn];exact G.len
 .obtain⟨K,N,_⟩:=x.at_ a j;rw[A a j];exact⟨K,N,by rw[(D a j).2]⟩
 .rw[A a j];exact x.nx a j
 .rw[A a j];exact x.dj a b j hb h
end
section
variable {s s' : Ah} {l l' : List AQ} {met to tops:List Int}
def mvT (AI to:List Int) (a:Int):Int:=to.getD (AI.idxOf a) 0
theorem OQ {AI to:List Int} (hl:to.length = AI.length) {a:Int} (h:a∈AI):(a,mvT AI to a)∈AI.zip to:=by
 have x:=eQ h;have j : AI.idxOf a < to.length:=Z
 have y:AI.idxOf a < (AI.zip to).length:=by rw[gK];omega
 have:=dL y;rw[gN,gU x] at this;unfold mvT;rw[dI,dH j];exact this
theorem P7 {l:List AQ} {AI to:List Int} (h0:0 ∉ AI) {x u:Int} (h:now l x = some u) (j:u = 0\/u∈AI):plc l AI to x = if u = 0 then 0 else mvT AI to u:=by
 unfold plc;rw[h];dsimp only;rcases j with rfl | j
 .rw[if_neg h0,if_pos rfl]
 .rw[if_pos j,if_neg (λe:u = 0=>h0 (by rw[e] at j;exact j))];rfl
structure Hr (l l' : List AQ) (AI to:List Int):Prop where
 z:0 ∉ AI
 zt:0 ∉ to
 len:to.length = AI.length
 inj:∀a∈AI,∀b∈AI,mvT AI to a = mvT AI to b->a = b
 th:∀a∈AI,∃t,Ax l a = some t/\Ax l' (mvT AI to a) = some ⟨mvT AI to a,mvT AI to a,t.sh,t.refs.map (plc l AI to),t.nums⟩
variable {AI:List Int}
theorem GX (hl:to.length = AI.length) {a:Int} (h:a∈AI):mvT AI to a∈to:=(fB (OQ hl h)).2
theorem Hr.now (Q:Hr l l' AI to) {u:Int} (y:u = 0\/u∈AI):Sm.now l' (if u = 0 then 0 else mvT AI to u) = some (if u = 0 then 0 else mvT AI to u):=by
 by_cases c:u = 0
 .rw[if_pos c];rfl
 .rw[if_neg c];have j:=y.resolve_left c;obtain⟨t,_,x⟩:=Q.th u j;unfold Sm.now;rw[if_neg (λe:mvT AI to u = 0=>Q.zt (by have:=GX Q.len j;rw[e] at this;exact this)),x];rfl
theorem Hr.put (Q:Hr l l' AI to) {acc:List Int} (j:∀a∈acc,a∈AI) {u:Int} (D:u = 0\/u∈AI):Bu (acc.map (mvT AI to)) (if u = 0 then 0 else mvT AI to u) = (Bu acc u).map (mvT AI to)/\∀a∈Bu acc u,a∈AI:=by
 by_cases c:u = 0
 .rw[if_pos c,c];unfold Bu;rw[if_pos (.inl rfl),if_pos (.inl rfl)];exact⟨rfl,j⟩
 .rw[if_neg c];have A:=D.resolve_left c;have h0:mvT AI to u≠0:=λe=>Q.zt (by have:=GX Q.len A;rw[e] at this;exact this)
  by_cases d:u∈acc
  .have x:Bu acc u = acc:=by unfold Bu;rw[if_pos (.inr d)]
   have y:Bu (acc.map (mvT AI to)) (mvT AI to u) = acc.map (mvT AI to):=by unfold Bu;rw[if_pos (.inr (fI d))]
   rw[x,y];exact⟨rfl,j⟩
  .have x:Bu acc u = acc ++ [u]:=by unfold Bu;rw[if_neg (λe=>e.elim c d)]
   have y:Bu (acc.map (mvT AI to)) (mvT AI to u) = acc.map (mvT AI to) ++ [mvT AI to u]:=by
    unfold Bu;rw[if_neg];rintro (e | e)
    .exact h0 e
    .obtain⟨b,hb,e⟩:=dc.1 e;have:=Q.inj b (j b hb) u A e;exact d (by rw[<- this];exact hb)
   rw[x,y];refine⟨by rw[dz];rfl,λa h=>?_⟩;rcases dg.1 h with h | h
   .exact j a h
   .rw[dZ.1 h];exact A
theorem Hr.all (Q:Hr l l' AI to):∀{xs acc r:List Int},(∀a∈acc,a∈AI)->(∀x∈xs,∃u,Sm.now l x = some u/\(u = 0\/u∈AI))->Aq l xs acc = some r->Aq l' (xs.map (plc l AI to)) (acc.map (mvT AI to)) = some (r.map (mvT AI to))/\∀a∈r,a∈AI
 | [],acc,r,ha,_,h=>by cases h;exact⟨rfl,ha⟩
 | x :: xs,acc,r,ha,hx,h=>by
  obtain⟨u,A,j⟩:=hx x V;rw[Bn,A,z_o] at h;obtain⟨p1,p2⟩:=Q.put ha j;rw[eN,Bn,P7 Q.z A j,Q.now j,z_o,p1];exact Q.all (xs:=xs) p2 (λy D=>hx y (dh _ D)) h
theorem Hr.loop (Q:Hr l l' AI to) (hc:∀b∈AI,∀t,Ax l b = some t->∀a∈t.refs,∃u,Sm.now l a = some u/\(u = 0\/u∈AI)):∀{n D i:Nat} {out r x : List Int},(∀a∈out,a∈AI)->BI l n i out = some r->BI l' D i (out.map (mvT AI to)) = some x->x = r.map (mvT AI to)
 | 0,_,_,_,_,_,_,h,_=>by cases h
 | _ + 1,0,_,_,_,_,_,_,h=>by cases h
 | n + 1,D + 1,i,out,r,x,ha,h,h'=>by
  by_cases c:i < out.length
  .have A:=ha _ (dL c);obtain⟨t,y,G⟩:=Q.th _ A;rw[C9 c y] at h;rw[C9 (by rw[dN];exact c) (by rw[fQ];exact G)] at h';cases j:Aq l t.refs out with
   | none=>rw[j] at h;cases h
   | some o=>
    obtain⟨p1,p2⟩:=Q.all ha (hc _ A t y) j;rw[j,z_o] at h;dsimp only at h';rw[p1,z_o] at h';exact Q.loop hc p2 h h'
  .rw[CJ Z] at h;rw[CJ (by rw[dN];omega)] at h';cases h;cases h';rfl
end
section
variable {s s' : Ah} {l l' : List AQ} {met AI to tops:List Int}
theorem OR (j:HpF s l met) (O:Od met AI):0 ∉ AI:=λh=>by
 obtain⟨t,y⟩:=j.M.th 0 ((O.m 0).1 h);obtain⟨x,A⟩:=BF y;have:=j.S.at16 t x;omega
theorem cQ (j:DT s s' l AI to tops) {b:Int} (h:b∈to):16<=b:=by
 obtain⟨a,x⟩:=GY j.hlen.symm h;exact (j.rn _ x).1
theorem VU (D:HpF s l met) (O:Od met AI) (x:DT s s' l AI to tops) (W : Thn s'.AC (bgF s l to) l'):Hr l l' AI to:=by
 obtain⟨T,a0⟩:=M5 D O x;refine⟨OR D O,λh=>?_,x.hlen,λa K b hb e=>?_,λa K=>?_⟩
 .have:=cQ x h;omega
 .have y:=eQ K;have A:=eQ hb;have H:=x.hd;rw[gB] at H;have hl:=x.hlen;have G:∀i j (y:i < AI.length) (A:j < AI.length),to.getD i 0 = to.getD j 0->i < j->False:=λi j y A e Q=>by
   have g:=H i j (by rw[dN,gK];omega) (by rw[dN,gK];omega) Q;rw[fQ,fQ,gN,gN] at g;dsimp only at g;obtain⟨ti,h2,_⟩:=L7 D ((O.m _).1 (dL y));obtain⟨tj,N,_⟩:=L7 D ((O.m _).1 (dL A));rw[dI,dI,dH Z,dH Z,eI,eI] at e;refine g (to[i]'(Z)) ⟨?_,?_⟩
   .unfold inB DK;rw[h2];simp only[dR];omega
   .unfold inB DK;rw[N,e];simp only[dR];omega
  unfold mvT at e;rcases Nat.lt_trichotomy (AI.idxOf a) (AI.idxOf b) with c | c | c
  .exact (G _ _ y A e c).elim
  .have g1:=gU y;have g2:=gU A;rw[<- g1,<- g2];exact getElem_congr_idx c
  .exact (G _ _ A y e.symm c).elim
 .have hz:=OQ x.hlen K;obtain⟨t,H,_,N⟩:=PQ D O x hz;refine⟨t,H,?_⟩;have hb:bgF s l to (mvT AI to a):=.inl (GX x.hlen K);have R:=T.thing hb;rw[N] at R;rw[W.find hb];exact congrArg some (congrArg Prod.fst R).symm
theorem OW (j:HpF s l met) (O:Od met AI) (D:DT s s' l AI to tops) {a:Int} (h:a∈s.AJ):mvT AI to a = a/\plc l AI to a = a:=by
 have y:=j.pin h;have G:=(O.m a).2 y;have Q:=OQ D.hlen G;obtain⟨t,A,_⟩:=L7 j y;obtain⟨R,T⟩:=BF A;have K:=j.S.at16 t R;have e:mvT AI to a = a:=by
  rcases D.rg _ Q with ⟨_,H⟩ | ⟨x,_⟩
  .exact H
  .dsimp only at x;have:Aj s.AJ (a / 16) = true:=by
    unfold Aj;rw[List.any_eq_true];exact⟨a,h,by rw[Be Z];simp⟩
   rw[this] at x;cases x
 have N:now l a = some a:=by
  unfold now;rw[if_neg Z,A];rw[fg,j.nw a y t A]
 refine⟨e,?_⟩;rw[P7 (OR j O) N (.inr G),if_neg Z,e]
theorem Wf (A:HpF s l met) (O:Od met AI) (y:DT s s' l AI to tops) {x u:Int} (h:now l x = some u) (D:u = 0\/u∈met) (h0:plc l AI to x≠0):plc l AI to x∈to:=by
 have j : u = 0\/u∈AI:=D.imp id (O.m u).2;rw[P7 (OR A O) h j] at h0 ⊢;by_cases c:u = 0
 .rw[if_pos c] at h0;exact absurd rfl h0
 .rw[if_neg c];exact GX y.hlen (j.resolve_left c)
theorem Jx (H:HpF s l met) (O:Od met AI) (A:DT s s' l AI to tops):∃l',CD s' = some (l',met.map (mvT AI to))/\Thn s'.AC (bgF s l to) l'/\Hr l l' AI to:=by
 obtain⟨G',R⟩:=M5 H O A;obtain⟨l',e1,T'⟩:=Nu G';have Q:=VU H O A T';obtain⟨a4,a5⟩:=H.closed;have hlen:=G'.len;have n0:=G'.ok.n0;have K:s'.AB = s.AB.map (Cr l AI to):=EO A.hlen A.th;have G:s'.AJ = s.AJ:=by rw[A.eq]
 have D:∀u,u∈AI↔u∈met:=O.m;have b0:EQ s' = true:=by
  unfold EQ;have hm:s'.AM.length = s'.AC.length:=by rw[A.eq];simp[GN A]
  rw[G'.wok,Bj.2 G'.ok,hm];simp;omega
 have b7:Ey s' = some l':=by unfold Ey;rw[if_pos b0];exact e1
 have a1:∀a,Dk s' a = false:=λa=>by
  unfold Dk;by_cases c:0<=AN a/\AN a < s'.AA.length
  .have:(rv s'.AA (AN a)).kind≠4:=by
    by_cases c0:AN a = 0
    .rw[c0,A.e0];decide
    .rw[A.rw_ (AN a) Z (by rw[<- A.tn];exact c.2)];unfold IZ;split
     .show (3:Int)≠4;decide
     .show (1:Int)≠4;decide
   simp[this]
  .simp only[not_and] at c;by_cases c0:0<=AN a
   .have:=c c0;simp[this]
   .simp[c0]
 have a0:s'.AJ.all (E6 s' l') = true:=by
  rw[df,G];intro a y;have hz:=GX A.hlen ((D a).2 (H.pin y));rw[(OW H O A y).1] at hz;unfold E6;rw[T'.find (.inl hz),a1];have:=R a (.inl hz);simp[thg,this]
 have hh:=H.head;unfold C8 at hh;simp only[z_b,z_d] at hh;obtain⟨⟨⟨⟨⟨⟨⟨_,_⟩,_⟩,g4⟩,g5⟩,g6⟩,g7⟩,_⟩:=hh;have b3:C8 s' l' = true:=by
  unfold C8;rw[a0];have ph:s'.Ae = 0:=by rw[A.eq]
  have a9:CP s' l' = true:=by
   unfold CP;rw[df];intro t ht;obtain⟨b1,b2⟩:=T'.all t ht;unfold CL;have:t.moved = t.at_:=by rw[b2];exact R _ b1
   simp[this]
  have Bp:s'.AB.all Fs = true:=by
   rw[K,List.all_map,df];intro t ht;have:=df.1 g7 t ht;unfold Fs at this ⊢;simp only[z_b,z_d] at this;simp only[Function.comp,Cr,dN,z_b,z_d];obtain⟨⟨i1,i2⟩,i3⟩:=this;by_cases c:t.Am = 1
   .simp[c,i1]
   .simp[c,i1,i2,i3]
  rw[a9,Bp,ph,G];simp only[K,dN,z_b,z_d,Bool.and_true,eP];exact⟨⟨⟨⟨δ,δ⟩,g4⟩,g5⟩,g6⟩
 have b5:∀a,a∈to->∃t,∃b∈met,Ax l b = some t/\thg s'.AC a = ⟨a,a,t.sh,t.refs.map (plc l AI to),t.nums⟩:=λa y=>by
  obtain⟨b,hb⟩:=GY A.hlen.symm y;obtain⟨t,h1,_,h3⟩:=PQ H O A hb;have h4:=G'.thing (.inl y:bgF s l to a);rw[h3] at h4;exact⟨t,b,(D b).1 (fB hb).1,h1,(congrArg Prod.fst h4).symm⟩
 obtain⟨out,o1,_⟩:=MO (L:=(·∈to)) T' (λa y=>.inl y) (λa y=>(G'.inn y).1) (λa y=>by
   have:=R a (.inl y)
   rw[this]
   exact⟨y,this⟩) (λa j y j0 j1 T=>by
   obtain⟨t,b,hb,h1,h2⟩:=b5 a y
   have i:=G'.inn (.inl y:bgF s l to a)
   have h3:=congrArg AQ.refs h2
   dsimp only[thg] at h3
   have ok:=Ew (Ge s'.AC a)
   have es:AF (shp s'.AC a) = sz s'.AC a:=rfl
   have hm:=Yk (w:=s'.AC) (a:=a + 2) (n:=(shp s'.AC a).refs) Z j0 j1 Z
   rw[h3] at hm
   obtain⟨x,hx,e⟩:=dc.1 hm
   obtain⟨u,hu,a2⟩:=a5 b hb t h1 x hx
   rw[<- e] at T ⊢
   exact Wf H O A hu a2 T) (λt ht a y T=>by
   rw[K] at ht
   obtain⟨t0,b6,rfl⟩:=dc.1 ht
   obtain⟨x,hx,rfl⟩:=dc.1 (show a∈t0.AD.map (plc l AI to) from y)
   obtain⟨u,hu,a2⟩:=a4 x (dx _ (fi.2 ⟨t0,b6,hx⟩))
   exact Wf H O A hu a2 T) (λa y=>by
   rw[G] at y
   have hz:=GX A.hlen ((D a).2 (H.pin y))
   rw[(OW H O A y).1] at hz
   exact⟨hz,R a (.inl hz)⟩)
 have W:Ct s' = (Ct s).map (plc l AI to):=by
  unfold Ct;rw[K,G,dz,List.flatMap_map,List.map_flatMap];congr 1
  conv=>lhs;rw[<- List.map_id s.AJ]
  exact eh λa y=>((OW H O A y).2).symm
 have N:=H.re;have b4:s.AJ.all (E6 s l) = true:=by
  have hh:=H.head;unfold C8 at hh;simp only[z_b] at hh;exact hh.2
 rw[DZ b4] at N;have a3:=o1;rw[DZ a0,W] at a3;have a6:∀x∈Ct s,∃u,now l x = some u/\(u = 0\/u∈AI):=λx hx=>by
  obtain⟨u,hu,h2⟩:=a4 x hx;exact⟨u,hu,h2.imp id (D u).2⟩
 have a7:∀b∈AI,∀t,Ax l b = some t->∀a∈t.refs,∃u,now l a = some u/\(u = 0\/u∈AI):=λb hb t ht a y=>by
  obtain⟨u,hu,h2⟩:=a5 b ((D b).1 hb) t ht a y;exact⟨u,hu,h2.imp id (D u).2⟩
 have a8:out = met.map (mvT AI to):=by
  cases hn:Aq l (Ct s) [] with
  | none=>rw[hn] at N;cases N
  | some o=>
   rw[hn,z_o] at N;obtain⟨p1,p2⟩:=Q.all (acc:=[]) (λa y=>by cases y) a6 hn;rw[List.map_nil] at p1;rw[p1,z_o] at a3;exact Q.loop a7 p2 N a3
 refine⟨l',?_,T',Q⟩;unfold CD;rw[b7];dsimp only;rw[if_pos b3,o1,a8];rfl
end
end Sm
end
section
namespace Sm
def DP (n:Nat) (low:Int) (l:List Int):Bool:=!l.any λx=>decide (x < low) || decide (x>=n)
def NS (n:Nat) (x:List Int × List Int):Bool:=decide (x.1.length<=4) && decide (x.2.length<=4) && DP n (-1) x.1
def gOk (g:PG):Bool:=decide (g.nodes.length<=200) && decide (1<=g.AD.length) && decide (g.AD.length<=3) && decide (g.pinned.length<=8) && DP g.nodes.length 0 g.pinned && (g.nodes.all (NS g.nodes.length)) && g.AD.all λr=>decide (r.length<=8) && DP g.nodes.length (-1) r
def HJ (p:Int->Bool):Nat->List Int->Int
 | _,[]=>-1
 | i,x :: r=>if p x = true then i else HJ p (i + 1) r
theorem Kl {p:Int->Bool} {i:Nat} {x:Int} {r:List Int}:HJ p i (x :: r) = if p x = true then (i:Int) else HJ p (i + 1) r:=rfl
theorem Mc {p:Int->Bool}:∀(l:List Int) (i:Nat),decide (HJ p i l>=0) = l.any p
 | [],i=>by simp[HJ]
 | x :: l,i=>by
  rw[Kl];cases h:p x with
  | true=>simp[h]
  | false=>simp only[List.any_cons,h,eU];exact Mc l (i + 1)
structure GZ (g:PG):Prop where
 n:g.nodes.length < 1000000
 r:g.AD.length < 1000000
 p:g.pinned.length < 1000000
 nr:∀x∈g.nodes,x.1.length < 1000000/\x.2.length < 1000000
 rr:∀x∈g.AD,x.length < 1000000
end Sm
namespace Go.Lf
open Go Sm
section
variable {R:RM} {D:Chs} {k:Value->M}
theorem jnd {v:Value} {rows:List (List Value)} {l:List (List Int × List Int)} {i:Nat} (y:Rw (NdC R) rows l) (N:Fz R v 2 rows.length rows.flatten) (G:i < l.length)
  (H:∀b o A j rv nv,Ay R rv (l[i]).1->Ay R nv (l[i]).2->R b = some (C A j)->o + 2<=j.length->(j.drop o).take 2 = [rv,nv]->J R D (k (.pointer (some ⟨b,o,none⟩)))):J R D (IA 2 v (I (i:Int)) k):=by
 have x : i < rows.length:=by rw[y.1];exact G
 obtain⟨b,o,K,A,j,rfl,hb,hl,hc⟩:=Js N (y.all λ_ _=>NdC.len) x;obtain⟨rv,nv,e,r1,O⟩:=y.2 i x G;refine jia Z Z ?_;rw[dG];exact H b (o + i * 2) A j rv nv r1 O hb hl (by rw[hc,e])
theorem jrw {v:Value} {rows:List (List Value)} {l:List (List Int)} {i:Nat} (A:Rw (RwC R) rows l) (O:Fz R v 1 rows.length rows.flatten) (G:i < l.length)
  (H:∀rv,Ay R rv l[i]->J R D (k rv)):J R D (IA 1 v (I (i:Int)) λx=>L1 x k):=by
 have j : i < rows.length:=by rw[A.1];exact G
 obtain⟨b,o,K,Q,N,rfl,hb,hl,hc⟩:=Js O (A.all λ_ _=>RwC.len) j;obtain⟨rv,e,r1⟩:=A.2 i j G;refine jia Z Z ?_;rw[dG];have y:(N.drop (o + i * 1)).take 1 = [rv]:=by rw[hc,e]
 exact jlr hb (Bm y (f:=0) rfl) (H rv r1)
theorem XB {x j:Int} {G H N y:Nat} {a:Option Addr} {rv pv:Value} (K:R G = some (C 40 [.slice a N y,rv,pv])) (O:R H = some (C 3 [I j])):Ro Fv [I x,Pt H,Pt G] (.bool (decide (x < j) || decide (x>=N))) R D:=by
 refine JJ λF=>?_
 refine z_3 ?_;refine jor [] (decide (x < j) || decide (x>=N)) (λT A=>?_) (λe c u Q he=>?_)
 .refine jlr (v:=I j) O rfl (jlt (FB (λg=>?_) (λg=>?_)))
  .rw[g];exact jfo (jlr (v:=.slice a N y) K rfl (jln (jge (A _ _ _ CH (by rw[g,eU])))))
  .rw[g];exact A _ _ _ DN (by rw[g,fW])
 refine z_V ?_;rw[Q];exact BB rfl
theorem WR {v y:Value} {l:List Int} {p:Int->Bool} (h:Ay R v l) (hl:l.length < 1000000) (N:∀(x:Int) (A : Chs) (G : Value->M),J R A (G (.bool (p x)))->J R A (CV P y [I x] G)):Ro EY [v,y] (I (HJ p 0 l)) R D:=by
 refine Gd λF=>?_
 refine z_2 ?_;refine Bf h.sl ?_;refine Nm [v,y,I l.length] l.length (λi=>HJ p 0 l = HJ p i (l.drop i)) (by rw[fG]) λi K e O j H he=>?_
 refine z_V ?_;refine jlt (jif (λc=>?_) (λc=>?_));rotate_left
 .have c:=z_g c;refine BB ?_;rw[j,dT Z];rfl
 have c:i < l.length:=by have:=z_f c;omega
 refine Bk h Z Z (N _ _ _ ?_);simp only[dG];rw[dQ c,Kl] at j;refine jif (λg=>?_) (λg=>?_)
 .rw[if_pos g] at j;exact BB (by rw[j])
 .rw[if_neg (by rw[g];decide)] at j;exact jad (H c j)
theorem Zd {v y:Value} {l:List Int} {p:Int->Bool} (h:Ay R v l) (hl:l.length < 1000000) (G:∀(x:Int) (j : Chs) (A : Value->M),J R j (A (.bool (p x)))->J R j (CV P y [I x] A)):Ro E5 [v,y] (.bool (l.any p)) R D:=by
 refine Fl λF=>?_
 refine z_2 ?_;refine jro (WR h hl G) (jge ?_);rw[Mc];exact BB rfl
theorem Oz {a:Option Addr} {N G:Nat} {rv pv lv:Value} {l:List Int} {j:Int} (fr:flat rv = true) (fp:flat pv = true) (h:Ay R lv l) (hl:l.length < 1000000):Ro Gr [.agg #[.slice a N G,rv,pv],lv,I j] (.bool (DP N j l)) R D:=by
 refine LB λF=>?_
 refine z_3 ?_;refine ja λW=>ja λb2=>B9 (b:=W) λR1 K O=>B9 (b:=b2) λT y Q=>?_
 have O:T W = some (C 40 [.slice a N G,rv,pv]):=y _ _ O;have Q:T b2 = some (C 3 [I j]):=Q;refine jro (Zd (p:=λx=>decide (x < j) || decide (x>=N)) (h.le (K.trans y)) hl λx D' k' H=>H4 (by kernel_rfl) (jro (XB O Q) H)) ?_;exact Ao (A:=D) (K.trans y) ⟨rfl,rfl⟩
end
section
variable {R:RM} {v:Value} {g:PG}
set_option maxHeartbeats 1000000 in
set_option maxRecDepth 8000 in
theorem HY (h:GrF R v g) (z:GZ g):Ro KV [v] (.bool (gOk g)) R []:=by
 obtain⟨r1,r2,nv,rv,pv,rfl,h1,h2,h3,h4,h5⟩:=h;obtain⟨zn,zr,zp,b3,b4⟩:=z;obtain⟨Q,T,rfl⟩:=h2.sl;obtain⟨W,rc,rfl⟩:=h4.sl;obtain⟨pa,pc,rfl⟩:=h5.sl;have e1:=h1.1;have e2:=h3.1;refine Qh λF=>?_
 refine z_1 ?_;refine ja λb=>B9 (b:=b) λR0 D hb=>?_
 have hb:R0 b = some (C 40 [.slice Q r1.length T,.slice W r2.length rc,.slice pa g.pinned.length pc]):=hb;have h1:=h1.mono λ_ _=>NdC.le D
 have h2:=h2.le D;have h3:=h3.mono λ_ _=>RwC.le D
 have h4:=h4.le D;have h5:=h5.le D;rw[e1,e2] at hb;have h2:Fz R0 (.slice Q g.nodes.length T) 2 r1.length r1.flatten:=by rw[<- e1];exact h2
 have h4:Fz R0 (.slice W g.AD.length rc) 1 r2.length r2.flatten:=by rw[<- e2];exact h4
 obtain⟨N,a1⟩:∃N,N = decide ((g.nodes.length:Int) > 200):=⟨_,rfl⟩;obtain⟨O,a2⟩:∃O,O = decide ((g.AD.length:Int) < 1):=⟨_,rfl⟩;obtain⟨A3,a3⟩:∃A3,A3 = decide ((g.AD.length:Int) > 3):=⟨_,rfl⟩;obtain⟨A4,a4⟩:∃A4,A4 = decide ((g.pinned.length:Int) > 8):=⟨_,rfl⟩;have b1:gOk g = (!(N || O || A3 || A4 || !DP g.nodes.length 0 g.pinned) && (g.nodes.all (NS g.nodes.length)) && g.AD.all λr=>decide (r.length<=8) && DP g.nodes.length (-1) r):=by
  unfold gOk;have q1:decide (g.nodes.length<=200) = !N:=by rw[a1,<- decide_not];exact decide_eq_decide.2 Z
  have q2:decide (1<=g.AD.length) = !O:=by rw[a2,<- decide_not];exact decide_eq_decide.2 Z
  have q3:decide (g.AD.length<=3) = !A3:=by rw[a3,<- decide_not];exact decide_eq_decide.2 Z
  have q4:decide (g.pinned.length<=8) = !A4:=by rw[a4,<- decide_not];exact decide_eq_decide.2 Z
  rw[q1,q2,q3,q4];cases N<;>cases O<;>cases A3<;>cases A4<;>cases DP g.nodes.length 0 g.pinned<;>rfl
 rw[b1];refine jor [Pt b] (N || O) (λK' j=>?_) (λe c u ho he=>?_)
 .refine jfo (jlr (v:=.slice Q g.nodes.length T) hb rfl (jln (jgr ?_)));rw[<- a1];refine FB (λq=>?_) (λq=>?_)
  .rw[q];refine jfo (jlr (v:=.slice W g.AD.length rc) hb rfl (jln (jlt ?_)));rw[<- a2];exact j _ _ _ CH (by rw[q,eU])
  .rw[q];exact j _ _ _ DN (by rw[q,fW])
 refine z_V ?_;refine jor [Pt b] (N || O || A3) (λK' j=>?_) (λe c u a0 he=>?_)
 .rw[ho];refine FB (λq=>?_) (λq=>?_)
  .rw[q];refine jfo (jlr (v:=.slice W g.AD.length rc) hb rfl (jln (jgr ?_)));rw[<- a3];exact j _ _ _ CH (by rw[q,eU])
  .rw[q];exact j _ _ _ DN (by rw[q,fW])
 refine z_V ?_;refine jor [Pt b] (N || O || A3 || A4) (λK' j=>?_) (λe c u a8 he=>?_)
 .rw[a0];refine FB (λq=>?_) (λq=>?_)
  .rw[q];refine jfo (jlr (v:=.slice pa g.pinned.length pc) hb rfl (jln (jgr ?_)));rw[<- a4];exact j _ _ _ CH (by rw[q,eU])
  .rw[q];exact j _ _ _ DN (by rw[q,fW])
 refine z_V ?_;refine jor [Pt b] (N || O || A3 || A4 || !DP g.nodes.length 0 g.pinned) (λK' j=>?_) (λe c u a9 he=>?_)
 .rw[a8];refine FB (λq=>?_) (λq=>?_)
  .rw[q];refine DR (l:=[.slice Q g.nodes.length T,.slice W g.AD.length rc,.slice pa g.pinned.length pc]) hb (by exact z_n 3) rfl (jfo (jlr (v:=.slice pa g.pinned.length pc) hb rfl ?_));exact jro (Oz rfl rfl h5 zp) (j _ _ _ CH (by rw[q,eU]))
  .rw[q];exact j _ _ _ DN (by rw[q,fW])
 refine z_V ?_;rw[a9];generalize (N || O || A3 || A4 || !DP g.nodes.length 0 g.pinned) = B;refine jif (λq=>?_) (λq=>?_)
 .rw[q];exact Ao (A:=[]) D ⟨rfl,rfl⟩
 rw[q];refine PH [Pt b] (g.nodes.all (NS g.nodes.length) = true) (λK1 k1=>?_) (λe hp he=>?_)
 .refine jfo (jlr (v:=.slice Q g.nodes.length T) hb rfl (jln ?_));refine PH [Pt b] (g.nodes.all (NS g.nodes.length) = true) (λK2 k2=>?_) (λe hp he=>?_);rotate_left
  .refine z_V ?_;exact k1 hp
  refine Nm [Pt b,.slice Q g.nodes.length T,I g.nodes.length] g.nodes.length (λi=>(g.nodes.take i).all (NS g.nodes.length) = true) rfl λi K e hi y hK he=>?_
  refine z_V ?_;refine jlt (jif (λc=>?_) (λc=>?_));rotate_left
  .have c:=z_g c;rw[dO Z] at y;exact k2 y
  have c:i < g.nodes.length:=by have:=z_f c;omega
  obtain⟨b5,b6⟩:=b3 _ (dL c);have a7:NS g.nodes.length g.nodes[i] = false->g.nodes.all (NS g.nodes.length) = false:=λh=>by
   rw[List.all_eq_false];exact⟨_,dL c,by rw[h];decide⟩
  refine jnd h1 h2 c λx o ty cs xv yv hx hy b0 ho a6=>DR b0 ho a6 ?_
  obtain⟨xa,xc,rfl⟩:=hx.sl;obtain⟨ya,yc,rfl⟩:=hy.sl;refine ja λb2=>jS ([.slice xa g.nodes[i].1.length xc,.slice ya g.nodes[i].2.length yc]) ?_
  obtain⟨G,H⟩:∃G,G = decide ((g.nodes[i].1.length:Int) > 4):=⟨_,rfl⟩;obtain⟨B2,a5⟩:∃B2,B2 = decide ((g.nodes[i].2.length:Int) > 4):=⟨_,rfl⟩;have kn:NS g.nodes.length g.nodes[i] = !(G || B2 || !DP g.nodes.length (-1) g.nodes[i].1):=by
   unfold NS;have q1:decide (g.nodes[i].1.length<=4) = !G:=by rw[H,<- decide_not];exact decide_eq_decide.2 Z
   have q2:decide (g.nodes[i].2.length<=4) = !B2:=by rw[a5,<- decide_not];exact decide_eq_decide.2 Z
   rw[q1,q2];cases G<;>cases B2<;>cases DP g.nodes.length (-1) g.nodes[i].1<;>rfl
  refine jor [Pt b,Pt b2,.slice Q g.nodes.length T,I g.nodes.length,I i] (G || B2) (λK' j=>?_) (λe c4 u ho he=>?_)
  .refine jfo (jl (v:=.slice xa g.nodes[i].1.length xc) rfl (jln (jgr ?_)));rw[<- H];refine FB (λq=>?_) (λq=>?_)
   .rw[q];refine jfo (jl (v:=.slice ya g.nodes[i].2.length yc) rfl (jln (jgr ?_)));rw[<- a5];exact j _ _ _ CH (by rw[q,eU])
   .rw[q];exact j _ _ _ DN (by rw[q,fW])
  refine z_V ?_;refine jor [Pt b,.slice Q g.nodes.length T,I g.nodes.length,I i] (G || B2 || !DP g.nodes.length (-1) g.nodes[i].1) (λK' j=>?_) (λe c3 u a0 he=>?_)
  .rw[ho];refine FB (λq=>?_) (λq=>?_)
   .rw[q];refine DR (l:=[.slice Q g.nodes.length T,.slice W g.AD.length rc,.slice pa g.pinned.length pc]) hb (by exact z_n 3) rfl (jfo (jl (v:=.slice xa g.nodes[i].1.length xc) rfl ?_));exact jro (Oz rfl rfl hx b5) (j _ _ _ CH (by rw[q,eU]))
   .rw[q];exact j _ _ _ DN (by rw[q,fW])
  refine z_V ?_;rw[a0];refine jif (λq=>?_) (λq=>?_)
  .rw[q] at kn;rw[a7 kn];exact Ao (A:=[]) D ⟨rfl,rfl⟩
  .rw[q] at kn;refine jad (BV (hK c ?_));rw[dJ c,gW,y];simp only[List.all_cons,List.all_nil,Bool.and_true,eP];exact kn
 refine z_V ?_;rw[hp];refine jfo (jlr (v:=.slice W g.AD.length rc) hb rfl (jln ?_));refine Nm [Pt b,.slice W g.AD.length rc,I g.AD.length] g.AD.length (λi=>((g.AD.take i).all λr=>decide (r.length<=8) && DP g.nodes.length (-1) r) = true) rfl λi K e hi y hK he=>?_
 refine z_V ?_;refine jlt (jif (λc=>?_) (λc=>?_));rotate_left
 .have c:=z_g c;rw[dO Z] at y;rw[y];exact Ao (A:=[]) D ⟨rfl,rfl⟩
 have c:i < g.AD.length:=by have:=z_f c;omega
 have zx:=b4 _ (dL c);refine jrw h3 h4 c λxv hx=>?_
 obtain⟨xa,xc,rfl⟩:=hx.sl;obtain⟨G,H⟩:∃G,G = decide ((g.AD[i].length:Int) > 8):=⟨_,rfl⟩;have kn:(decide (g.AD[i].length<=8) && DP g.nodes.length (-1) g.AD[i]) = !(G || !DP g.nodes.length (-1) g.AD[i]):=by
  have q1:decide (g.AD[i].length<=8) = !G:=by rw[H,<- decide_not];exact decide_eq_decide.2 Z
  rw[q1];cases G<;>cases DP g.nodes.length (-1) g.AD[i]<;>rfl
 refine jor [Pt b,.slice W g.AD.length rc,I g.AD.length,I i] (G || !DP g.nodes.length (-1) g.AD[i]) (λK' j=>?_) (λe c3 u ho he=>?_)
 .refine jln (jgr ?_);rw[<- H];refine FB (λq=>?_) (λq=>?_)
  .rw[q];refine DR (l:=[.slice Q g.nodes.length T,.slice W g.AD.length rc,.slice pa g.pinned.length pc]) hb (by exact z_n 3) rfl ?_;exact jro (Oz rfl rfl hx zx) (j _ _ _ CH (by rw[q,eU]))
  .rw[q];exact j _ _ _ DN (by rw[q,fW])
 refine z_V ?_;rw[ho];refine jif (λq=>?_) (λq=>?_)
 .rw[q] at kn;have:(g.AD.all λr=>decide (r.length<=8) && DP g.nodes.length (-1) r) = false:=by
   rw[List.all_eq_false];exact⟨_,dL c,by rw[kn];decide⟩
  rw[this];exact Ao (A:=[]) D ⟨rfl,rfl⟩
 .rw[q] at kn;refine jad (hK c ?_);rw[dJ c,gW,y];simp only[List.all_cons,List.all_nil,Bool.and_true,eP];exact kn
end
end Go.Lf
end
section
namespace Sm
def EI (acc:List Int) (n:Int):List Int:=if 0<=n/\n ∉ acc then acc ++ [n] else acc
def CI (acc l:List Int):List Int:=l.foldl EI acc
def Fa (g:PG) (n:Int):List Int:=(g.nodes.getD n.toNat ([],[])).1
def H9 (g:PG):Nat->Nat->List Int->List Int
 | 0,_,out=>out
 | f + 1,k,out=>match out[k]? with
  | none=>out
  | some n=>H9 g f (k + 1) (CI out (Fa g n))
def Y0 (g:PG):List Int:=CI (g.AD.foldl CI []) g.pinned
def K0 (g:PG):List Int:=H9 g (g.nodes.length + 1) 0 (Y0 g)
structure MOk (N:Nat) (acc:List Int):Prop where
 nd:acc.Nodup
 rg:∀x∈acc,0<=x/\x < N
theorem MOk.len {N:Nat} {acc:List Int} (h:MOk N acc):acc.length<=N:=by
 have:acc.length<=((List.range N).map λ(i:Nat)=>(i:Int)).length:=Et h.nd λx j=>by
  obtain⟨y,A⟩:=h.rg x j;exact dc.2 ⟨x.toNat,fK.2 Z,Z⟩
 simpa using this
theorem MOk.step {N:Nat} {acc:List Int} (h:MOk N acc) {n:Int} (A:n < N):MOk N (EI acc n):=by
 unfold EI;split
 .rename_i c;refine⟨?_,λx j=>?_⟩
  .rw[List.nodup_append];exact⟨h.nd,V,λa y b hb e=>c.2 (by rw[dZ.1 hb] at e;rw[<- e];exact y)⟩
  .rcases dg.1 j with j | j
   .exact h.rg x j
   .rw[dZ.1 j];exact⟨c.1,A⟩
 .exact h
theorem MOk.meet {N:Nat}:∀{l acc:List Int},MOk N acc->(∀x∈l,x < N)->MOk N (CI acc l)
 | [],acc,h,_=>h
 | n :: l,acc,h,hl=>MOk.meet (acc:=EI acc n) (h.step (hl n V)) λx j=>hl x (dh _ j)
theorem TC {acc l:List Int} {i:Nat} (h:i < l.length):CI acc (l.take (i + 1)) = EI (CI acc (l.take i)) l[i]:=by
 unfold CI;rw[dJ h,gY];rfl
theorem SR {n:Nat} {j:Int} {l:List Int}:DP n j l = true↔∀x∈l,j<=x/\x < n:=by
 unfold DP;rw[dp,List.any_eq_false];simp only[du,z_d,not_or,Int.not_lt];exact⟨λh x y=>by have:=h x y;omega,λh x y=>by have:=h x y;omega⟩
structure GOk (g:PG):Prop where
 n:g.nodes.length<=200
 r0:1<=g.AD.length
 r1:g.AD.length<=3
 p:g.pinned.length<=8
 pr:∀x∈g.pinned,0<=x/\x < g.nodes.length
 nd:∀x∈g.nodes,x.1.length<=4/\x.2.length<=4/\∀y∈x.1,-1<=y/\y < g.nodes.length
 rr:∀x∈g.AD,x.length<=8/\∀y∈x,-1<=y/\y < g.nodes.length
theorem On {g:PG}:gOk g = true↔GOk g:=by
 unfold gOk NS;simp only[z_b,z_d,df,SR];constructor
 .rintro⟨⟨⟨⟨⟨⟨A,D⟩,G⟩,H⟩,K⟩,j⟩,N⟩;exact⟨A,D,G,H,K,λx y=>⟨(j x y).1.1,(j x y).1.2,(j x y).2⟩,N⟩
 .rintro⟨A,D,G,H,K,j,N⟩;exact⟨⟨⟨⟨⟨⟨A,D⟩,G⟩,H⟩,K⟩,λx y=>⟨⟨(j x y).1,(j x y).2.1⟩,(j x y).2.2⟩⟩,N⟩
theorem Qu {g:PG} (h:GOk g) (n:Int):(∀y∈Fa g n,-1<=y/\y < g.nodes.length)/\(Fa g n).length<=4:=by
 unfold Fa;rw[dI];cases j:g.nodes[n.toNat]? with
 | none=>exact⟨λy A=>by simp at A,V⟩
 | some x=>exact⟨(h.nd x (List.mem_of_getElem? j)).2.2,(h.nd x (List.mem_of_getElem? j)).1⟩
theorem Iw {g:PG} (h:GOk g):∀{rs:List (List Int)} {acc:List Int},(∀x∈rs,x∈g.AD)->MOk g.nodes.length acc->MOk g.nodes.length (rs.foldl CI acc)
 | [],acc,_,m=>m
 | r :: rs,acc,hr,m=>Iw h (rs:=rs) (acc:=CI acc r) (λx j=>hr x (dh _ j)) (m.meet λx j=>((h.rr r (hr r V)).2 x j).2)
theorem MOk.nil {N:Nat}:MOk N []:=⟨List.nodup_nil,λx j=>by cases j⟩
theorem UQ {g:PG} (h:GOk g):MOk g.nodes.length (Y0 g):=(Iw h (λ_ j=>j) MOk.nil).meet λx j=>(h.pr x j).2
theorem Qw {g:PG} (h:GOk g):∀{f k:Nat} {out:List Int},MOk g.nodes.length out->MOk g.nodes.length (H9 g f k out)
 | 0,_,_,m=>m
 | f + 1,k,out,m=>by
  unfold H9;split
  .exact m
  .exact Qw h (m.meet λx j=>((Qu h _).1 x j).2)
theorem UN {g:PG} (h:GOk g):MOk g.nodes.length (K0 g):=Qw h (UQ h)
theorem Lo {g:PG} {f k:Nat} {out:List Int} (h:k < out.length):H9 g (f + 1) k out = H9 g f (k + 1) (CI out (Fa g out[k])):=by
 conv=>lhs;unfold H9
 rw[dH h]
theorem OL {g:PG} {f k:Nat} {out:List Int} (h:out.length<=k):H9 g f k out = out:=by
 cases f with
 | zero=>rfl
 | succ f=>unfold H9;rw[eT h]
end Sm
namespace Go.Lf
open Go Sm
section
variable {R:RM}
def MtD (N sb ob mb:Nat) (acc:List Int) (ov:Value) (A:Chs):Chs:=(sb,C 47 [S0 mb N N]) :: (ob,C 30 [ov]) :: (mb,C Az ((mkB N acc).map Value.bool)) :: A
set_option maxHeartbeats 1000000 in
set_option maxRecDepth 8000 in
theorem SB {N H D mb:Nat} {lv O:Value} {l acc:List Int} {A0:Chs} (h:Ay R lv l) (hl:l.length < 1000000) (hx:∀x∈l,x < N) (hN:N<=200) (m:MOk N acc) (W:SO acc O A0) :
  Fn P FC [lv,Pt H,Pt D] R (MtD N H D mb acc O A0) (λv T A=>v = .tuple #[]/\T = R/\∃ov' A',SO (CI acc l) ov' A'/\A = MtD N H D mb (CI acc l) ov' A'):=by
 refine LK λF=>?_
 refine z_3 ?_;refine Bf h.sl ?_;refine jli (λi:Nat × Value × Chs=>l.length - i.1) (λi=>[Pt H,Pt D,lv,I l.length,I i.1]) (λi=>MtD N H D mb (CI acc (l.take i.1)) i.2.1 (i.2.2 ++ F))
  (λT i=>T = R/\i.1<=l.length/\SO (CI acc (l.take i.1)) i.2.1 i.2.2) (0,O,A0) ⟨rfl,V,by simpa [CI] using W⟩ rfl (by simp[CI,MtD]) ?_
 rintro K e T ⟨i,O,A⟩ ⟨hR,hi,W⟩ he hK;subst hR;dsimp only at hi W he ⊢;refine z_V ?_;refine jlt (jif (λc=>?_) (λc=>?_));rotate_left
 .have c:=z_g c;rw[dO Z] at W ⊢;unfold MtD;refine Ao (A:=MtD N H D mb (CI acc l) O A) (RM.le.refl _) ⟨rfl,rfl,O,A,W,rfl⟩ (s:=⟨?_⟩) (G:=F);exact eK _
 have c:i < l.length:=by have:=z_f c;omega
 have a8:=hx _ (dL c);have mi:MOk N (CI acc (l.take i)):=m.meet λx a7=>hx x (eJ a7)
 have a4:=mi.len;have y:=TC (acc:=acc) c;obtain⟨j,a6⟩:∃j,j = CI acc (l.take i):=⟨_,rfl⟩;rw[<- a6] at W mi a4 y ⊢;refine jci (λ_:Value × Chs=>[Pt H,Pt D,lv,I l.length,I i]) (λq=>MtD N H D mb (EI j l[i]) q.1 (q.2 ++ F)) (λR1 q=>R1 = T/\SO (EI j l[i]) q.1 q.2) (λK1 k1=>?_) ?_;rotate_left
 .rintro e R1 ⟨a2,A1⟩ ⟨a1,a3⟩ he;subst a1;refine z_V ?_;refine jad ?_;have:=hK R1 (i + 1,a2,A1) (by dsimp only;omega) ⟨rfl,c,by dsimp only;rw[y];exact a3⟩;dsimp only at this;rw[y] at this;exact this
 refine jci (λ_:Value × Chs=>[Pt H,Pt D,lv,I l.length,I i]) (λq=>MtD N H D mb (EI j l[i]) q.1 (q.2 ++ F)) (λR1 q=>R1 = T/\SO (EI j l[i]) q.1 q.2) (λK2 k2=>?_) ?_;rotate_left
 .rintro e R1 ⟨a2,A1⟩ ⟨a1,a3⟩ he;subst a1;refine z_V ?_;exact k1 R1 (a2,A1) ⟨rfl,a3⟩
 refine Bk h Z Z ?_;simp only[dG];unfold MtD at k2 ⊢;refine jan [Pt H,Pt D,I l[i],lv,I l.length,I i] (decide (0<=l[i]) && !decide (l[i]∈j)) (λK' a0=>?_) (λe c1 u ho he=>?_)
 .refine jge (Dl (λq=>?_) (λq=>?_))
  .rw[q];have q0:0<=l[i]:=by simpa using q
   obtain⟨k,hk⟩:∃k:Nat,l[i] = k:=⟨l[i].toNat,Z⟩;refine jl (v:=S0 mb N N) rfl ?_;rw[hk];have Q:k < N:=Z
   refine C0 Q (jl (v:=.bool (decide ((k:Int)∈j))) ?_ ?_)
   .rw[fN,da,eH,dH (by rw[Oe];exact Q)];simp[mkB]
   .rw[hk] at a0;exact a0 _ _ _ Bh V
  .rw[q];exact a0 _ _ _ By (by
    have:¬ (0<=l[i]):=by simpa using q
    rw[decide_eq_false this];rfl)
 refine z_V ?_;rw[ho];refine jif (λq=>?_) (λq=>?_)
 .have q:0<=l[i]/\l[i] ∉ j:=by simpa using q
  have es:EI j l[i] = j ++ [l[i]]:=by unfold EI;rw[if_pos q]
  rw[es] at k2;obtain⟨k,hk⟩:∃k:Nat,l[i] = k:=⟨l[i].toNat,Z⟩;have Q:k < N:=Z
  refine jl (v:=S0 mb N N) rfl ?_;rw[hk] at k2 ⊢;refine cV Q ?_;refine jl (v:=O) rfl (jbs (cs:=[I k]) rfl rfl λbb=>?_);refine Gw (A:=A) (E:=(H,C 47 [S0 mb N N]) :: (D,C 30 [O]) :: (mb,C Az ((mkB N (j ++ [(k:Int)])).map Value.bool)) :: F) (s:=⟨?_⟩) W Z λv' A' a5=>?_
  .refine List.Perm.trans ?_ (eu);exact ((eu (l₁:=A) (l₂:=F)).cons _).cons _ |>.cons _
  obtain⟨va,vc,rfl⟩:=a5.sln;refine B8 (D':=(D,C 30 [O]) :: (A' ++ ((H,C 47 [S0 mb N N]) :: (mb,C Az ((mkB N (j ++ [(k:Int)])).map Value.bool)) :: F))) ?_ ?_
  .exact ((fF _ _ _).append_left A').trans dw
  refine jS ([.slice va (j ++ [(k:Int)]).length vc]) ?_;refine B8 ?_ (k2 T (_,A') ⟨rfl,a5⟩);dsimp only;refine List.Perm.trans ?_ (fF _ _ _);refine fR _ ?_;exact dw.trans ((dw).cons _)
 .have q:¬ (0<=l[i]/\l[i] ∉ j):=by simpa using q
  have es:EI j l[i] = j:=by unfold EI;rw[if_neg q]
  rw[es] at k2;exact k2 T (O,A) ⟨rfl,W⟩
end
end Go.Lf
end
