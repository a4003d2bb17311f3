/- A part of the proof of the given row. Conditions: none. -/
import Derived.Test.YthfhnheigfoioaaGreatGL
set_option linter.unusedVariables false
set_option linter.unusedSimpArgs false
set_option maxRecDepth 100000
section
namespace Go.Lf
open Go Sm
instance MtD.sp (N sb ob mb:Nat) (acc:List Int) (ov:Value) (A F:Chs):Sp (MtD N sb ob mb acc ov (A ++ F)) (MtD N sb ob mb acc ov A) F:=⟨eK _⟩
section
variable {R:RM} {v:Value} {g:PG}
set_option maxHeartbeats 1000000 in
set_option maxRecDepth 8000 in
theorem Z5 (h:GrF R v g) (ok:GOk g):Fn P I8 [v] R [] (λv T A=>SO (K0 g) v A):=by
 obtain⟨r1,r2,nv,rv,pv,rfl,h1,h2,h3,h4,h5⟩:=h;obtain⟨na,nc,rfl⟩:=h2.sl;obtain⟨ra,rc,rfl⟩:=h4.sl;obtain⟨pa,pc,rfl⟩:=h5.sl;have e1:=h1.1;have e2:=h3.1;have n2:=ok.n;have zr:=ok.r1;have zp:=ok.p;refine NR λF=>?_
 refine z_1 ?_;refine ja λb=>B9 (b:=b) λR0 G hb=>ja λH=>?_
 have hb:R0 b = some (C 40 [.slice na r1.length nc,.slice ra r2.length rc,.slice pa g.pinned.length pc]):=hb;have h1:=h1.mono λ_ _=>NdC.le G
 have h2:=h2.le G;have h3:=h3.mono λ_ _=>RwC.le G
 have h4:=h4.le G;have h5:=h5.le G;rw[e1,e2] at hb;have h2:Fz R0 (.slice na g.nodes.length nc) 2 r1.length r1.flatten:=by rw[<- e1];exact h2
 have h4:Fz R0 (.slice ra g.AD.length rc) 1 r2.length r2.flatten:=by rw[<- e2];exact h4
 refine jfo (jlr (v:=.slice na g.nodes.length nc) hb rfl (jln ?_));refine jms Z Z Z λmb=>ja λW=>?_
 have e0:(List.replicate (g.nodes.length:Int).toNat (cl z4)).flatten = (mkB g.nodes.length []).map Value.bool:=by
  rw[Yj,dG];show (List.replicate g.nodes.length [Value.bool false]).flatten = _;simp
 rw[e0,dG];refine jS [S0 mb g.nodes.length g.nodes.length] ?_;obtain⟨N,Q⟩:∃N,N = g.nodes.length:=⟨_,rfl⟩;rw[<- Q] at n2 hb h2 ⊢;obtain⟨FN,y⟩:∃FN:Value,FN = .func (.func FC) #[] #[Pt W,Pt H]:=⟨_,rfl⟩;refine jci (λ_:Value × Chs=>[Pt b,Pt H,FN]) (λq=>MtD N W H mb (g.AD.foldl CI []) q.1 (q.2 ++ F)) (λR1 q=>R1 = R0/\SO (g.AD.foldl CI []) q.1 q.2) (λK1 k1=>?_) ?_
 .refine jfo (jlr (v:=.slice ra g.AD.length rc) hb rfl (jln ?_));refine jiI k1 λK2 k2=>?_
  refine B8 (D':=MtD N W H mb [] (SN) ([] ++ F)) ?_ ?_
  .unfold MtD;exact (fF _ _ _).cons _
  refine jli (λi:Nat × Value × Chs=>g.AD.length - i.1) (λi=>[Pt b,Pt H,FN,.slice ra g.AD.length rc,I g.AD.length,I i.1]) (λi=>MtD N W H mb ((g.AD.take i.1).foldl CI []) i.2.1 (i.2.2 ++ F))
   (λT i=>T = R0/\i.1<=g.AD.length/\SO ((g.AD.take i.1).foldl CI []) i.2.1 i.2.2) (0,SN,[]) ⟨rfl,V,.inl ⟨rfl,rfl,rfl⟩⟩ (by rw[y];rfl) rfl ?_
  rintro K e T ⟨i,ov,A⟩ ⟨hR,hi,j⟩ he hK;subst hR;dsimp only at hi j he ⊢;refine z_V ?_;refine jlt (jif (λc=>?_) (λc=>?_));rotate_left
  .have c:=z_g c;rw[dO Z] at j ⊢;exact k2 T (ov,A) ⟨rfl,j⟩
  have c:i < g.AD.length:=by have:=z_f c;omega
  have hr:=ok.rr _ (dL c);have m:=Iw ok (rs:=g.AD.take i) (acc:=[]) (λx D=>eJ D) MOk.nil;have et:(g.AD.take (i + 1)).foldl CI [] = CI ((g.AD.take i).foldl CI []) g.AD[i]:=by
   rw[dJ c,gY];rfl
  refine jrw h3 h4 c λxv D=>?_
  rw[y];refine H4 (by kernel_rfl) ?_;refine jc (SB (mb:=mb) D Z (λx D=>by rw[Q];exact (hr.2 x D).2) n2 (by rw[Q];exact m) j) ?_;rintro _ R2 A2 _ ⟨rfl,a0,a2,A',a3,rfl⟩;subst a0;refine jad ?_;have:=hK R2 (i + 1,a2,A') (by dsimp only;omega) ⟨rfl,c,by dsimp only;rw[et];exact a3⟩;dsimp only at this;rw[et,y] at this;exact this
 rintro e R1 ⟨ov,A⟩ ⟨hR,j⟩ he;subst hR;dsimp only at j ⊢;refine z_V ?_;have m:=Iw ok (rs:=g.AD) (acc:=[]) (λx D=>D) MOk.nil;refine jfo (jlr (v:=.slice pa g.pinned.length pc) hb rfl ?_);rw[y];refine H4 (by kernel_rfl) ?_;refine jc (SB (mb:=mb) h5 Z (λx D=>by rw[Q];exact (ok.pr x D).2) n2 (by rw[Q];exact m) j) ?_;rintro _ R2 A2 _ ⟨rfl,a0,a2,A',a3,rfl⟩;subst a0;rw[<- y];have m0:=UQ ok;refine jci (λ_:Value × Chs=>[Pt H]) (λq=>MtD N W H mb (K0 g) q.1 (q.2 ++ F)) (λR1 q=>R1 = R2/\SO (K0 g) q.1 q.2) (λK1 k1=>?_) ?_;rotate_left
 .rintro e R1 ⟨ov,A⟩ ⟨hR,j⟩ he;subst hR;dsimp only at j ⊢;refine z_V ?_;unfold MtD;exact jl (v:=ov) rfl (BV (BV (BV (Ao (A:=A) G j))))
 refine jiI k1 λK2 k2=>?_
 refine jli (λi:Nat × List Int × Value × Chs=>N + 1 - i.1) (λi=>[Pt b,Pt H,FN,I i.1]) (λi=>MtD N W H mb i.2.1 i.2.2.1 (i.2.2.2 ++ F))
  (λT i=>T = R2/\i.1<=i.2.1.length/\MOk N i.2.1/\SO i.2.1 i.2.2.1 i.2.2.2/\H9 g (N + 1 - i.1) i.1 i.2.1 = K0 g) (0,Y0 g,a2,A') ⟨rfl,V,by rw[Q];exact m0,a3,by rw[Q];rfl⟩ rfl rfl ?_
 rintro K e T ⟨i,acc,ov,A⟩ ⟨hR,hi,m,j,O⟩ he hK;subst hR;dsimp only at hi j he m O ⊢;refine z_V ?_;have b1:=m.len;obtain⟨oa,oc,rfl⟩:=j.sln;unfold MtD;refine jl (v:=.slice oa acc.length oc) rfl (jln (jlt (jif (λc=>?_) (λc=>?_))));rotate_left
 .have c:=z_g c;rw[OL Z] at O;rw[<- O] at k2;exact k2 T (_,A) ⟨rfl,j⟩
 have c:i < acc.length:=by have:=z_f c;omega
 obtain⟨q,hq⟩:∃q,N + 1 - i = q + 1:=⟨N - i,Z⟩;rw[hq,Lo c] at O;obtain⟨x0,x1⟩:=m.rg _ (dL c);obtain⟨k,hk⟩:∃k:Nat,acc[i] = k:=⟨acc[i].toNat,Z⟩;have a1:k < g.nodes.length:=Z
 refine jfo (jlr (v:=.slice na N nc) hb rfl (jl (v:=.slice oa acc.length oc) rfl ?_));refine VX (A:=A) (E:=(W,C 47 [S0 mb N N]) :: (H,C 30 [.slice oa acc.length oc]) :: (mb,C Az ((mkB N acc).map Value.bool)) :: F) j (s:=⟨by
   refine List.Perm.trans ?_ eu
   exact (eu (l₁:=A) (l₂:=F)).cons _ |>.cons _ |>.cons _⟩) c ?_
 rw[hk];refine jnd h1 h2 a1 λxb o ty cs xv yv D hy a8 ho a4=>jfo (jlr a8 (Bm a4 (f:=0) rfl) ?_)
 have a7:Fa g acc[i] = g.nodes[k].1:=by
  unfold Fa;rw[hk,dG,dI,dH a1];rfl
 have hnd:=ok.nd _ (dL a1);rw[y];refine H4 (by kernel_rfl) ?_;show J _ (MtD N W H mb acc (.slice oa acc.length oc) (A ++ F)) _;refine jc (SB (mb:=mb) D Z (λx D=>by rw[Q];exact (hnd.2.2 x D).2) n2 m j) ?_;rintro _ R3 A3 _ ⟨rfl,a5,a9,A3,b0,rfl⟩;subst a5;refine jad ?_;have a6:i + 1<=(CI acc g.nodes[k].1).length:=by
  have:∀(l acc:List Int),acc.length<=(CI acc l).length:=by
   intro l;induction l with
   | nil=>intro acc;exact z_n _
   | cons x l ih=>
    intro acc;refine gX ?_ (ih (EI acc x));unfold EI;split
    .simp
    .exact z_n _
  exact gX c (this _ _)
 have:=hK R3 (i + 1,CI acc g.nodes[k].1,a9,A3) (by dsimp only;omega) ⟨rfl,a6,m.meet λx D=>by rw[Q];exact (hnd.2.2 x D).2,b0,by
  dsimp only
  rw[<- a7,show N + 1 - (i + 1) = q from Z];exact O⟩
 dsimp only at this;rw[y] at this;exact this
end
end Go.Lf
end
section
namespace Sm
def Gg (n:Nat):List Int:=(List.range n).map λ(i:Nat)=>(i:Int)
theorem Qt {n:Nat}:(Gg n).length = n:=by simp[Gg]
def nmG (order:List Int) (x:Int):Int:=if 0<=x then (if x∈order then (Gg order.length).getD (order.idxOf x) 0 else 0) else x
def Ek (g:PG):PG:=⟨(K0 g).map λn=>((Fa g n).map (nmG (K0 g)),(g.nodes.getD n.toNat ([],[])).2),g.AD.map λr=>r.map (nmG (K0 g)),g.pinned.map (nmG (K0 g))⟩
theorem Yf {f:Int->Int} {xs:List Int} {i:Nat} (h:i<=xs.length):((xs.take i).map f ++ xs.drop i).length = xs.length:=by simp;omega
theorem Z2 {f:Int->Int} {xs:List Int} {i:Nat} (h:i < xs.length) (j:i < ((xs.take i).map f ++ xs.drop i).length):((xs.take i).map f ++ xs.drop i)[i] = xs[i]:=by
 rw[fD (by simp;omega),fT];congr 1;simp;omega
theorem Z4 {f:Int->Int} {xs:List Int} {i:Nat} (h:i < xs.length):((xs.take i).map f ++ xs.drop i).set i (f xs[i]) = (xs.take (i + 1)).map f ++ xs.drop (i + 1):=by
 rw[fH _ _ (by simp;omega),dQ h,dJ h,dz,dS];congr 1;rw[show i - (List.map f (List.take i xs)).length = 0 from by simp;omega];rfl
end Sm
namespace Go.Lf
open Go Sm
section
variable {R:RM}
set_option maxHeartbeats 1000000 in
set_option maxRecDepth 8000 in
theorem Yr {lv:Value} {l j:List Int} {mb:Nat} {o:Obj} (h:Ay R lv l) (hl:l.length < 1000000) (ho:R mb = some o) (hm:Mg o (prs j (Gg j.length))) :
  Fn P Jo [lv,.map (some mb)] R [] (λv x A=>x = R/\SO (l.map (nmG j)) v A):=by
 refine Ui λF=>?_
 refine z_2 ?_;refine jc (A:=[]) (Dq h hl) ?_;rintro cv R1 A1 _ ⟨N,Q,-⟩;subst N;refine jci (λ_:Chs=>[cv]) (λA=>A ++ F) (λx A=>x = R1/\SO (l.map (nmG j)) cv A) (λK1 k1=>?_) ?_;rotate_left
 .rintro e x A ⟨N,D⟩ he;subst N;refine z_V ?_;exact Ao (A:=A) (RM.le.refl _) ⟨rfl,D⟩
 obtain⟨G,H,rfl⟩:=Q.sln;refine jln ?_;refine jiI k1 λK2 k2=>?_
 refine jli (λi:Nat × Chs=>l.length - i.1) (λi=>[.map (some mb),.slice G l.length H,.slice G l.length H,I l.length,I i.1]) (λi=>i.2 ++ F)
  (λx i=>x = R1/\i.1<=l.length/\SO ((l.take i.1).map (nmG j) ++ l.drop i.1) (.slice G l.length H) i.2) (0,A1) ⟨rfl,V,by simpa using Q⟩ rfl rfl ?_
 rintro K e x ⟨i,A⟩ ⟨N,hi,D⟩ he hK;subst N;dsimp only at hi D he ⊢;refine z_V ?_;refine jlt (jif (λc=>?_) (λc=>?_));rotate_left
 .have c:=z_g c;rw[dO Z,dT Z,eD] at D;exact k2 x A ⟨rfl,D⟩
 have c:i < l.length:=by have:=z_f c;omega
 have y:=Yf (f:=nmG j) hi;have hg:=Z2 (f:=nmG j) c (by rw[y];exact c);have T:=Z4 (f:=nmG j) c;refine jci (λ_:Chs=>[.map (some mb),.slice G l.length H,.slice G l.length H,I l.length,I i]) (λA=>A ++ F) (λW A=>W = x/\SO ((l.take (i + 1)).map (nmG j) ++ l.drop (i + 1)) (.slice G l.length H) A) (λK3 k3=>?_) ?_;rotate_left
 .rintro e W A ⟨a0,a1⟩ he;subst a0;refine z_V ?_;exact jad (hK W (i + 1,A) (by dsimp only;omega) ⟨rfl,c,a1⟩)
 refine jiI k3 λK4 k4=>?_
 refine VX D (by rw[y];exact c) ?_;rw[hg];refine jge (jif (λg=>?_) (λg=>?_))
 .have g:0<=l[i]:=by simpa using g
  refine @VM _ _ _ 122 3 mb o (prs j (Gg j.length)) l[i] (I 0) false (Li.fz ho) HS Wq hm ?_;rw[P3 Qt];have en:(if (false:Bool) = true then Value.tuple #[(if l[i]∈j then some (I ((Gg j.length).getD (j.idxOf l[i]) 0)) else none).getD (I 0),.bool (if l[i]∈j then some (I ((Gg j.length).getD (j.idxOf l[i]) 0)) else none).isSome] else (if l[i]∈j then some (I ((Gg j.length).getD (j.idxOf l[i]) 0)) else none).getD (I 0)) = I (nmG j l[i]):=by
   rw[if_neg δ];unfold nmG;rw[if_pos g];split<;>rfl
  rw[en];refine XW D (by rw[y];exact c) λA' O=>?_
  rw[T] at O;exact k4 x A' ⟨rfl,O⟩
 .have g:¬ 0<=l[i]:=by simpa using g
  have en:nmG j l[i] = l[i]:=by unfold nmG;rw[if_neg g]
  rw[en] at T;have e2:((l.take i).map (nmG j) ++ l.drop i).set i l[i] = (l.take i).map (nmG j) ++ l.drop i:=by
   have:=List.set_getElem_self (show i < ((l.take i).map (nmG j) ++ l.drop i).length by rw[y];exact c);rwa [hg] at this
  rw[e2] at T;rw[T] at D;exact k4 x A ⟨rfl,D⟩
end
end Go.Lf
end
section
namespace Go.Lf
open Go Sm
section
variable {R:RM} {v:Value} {g:PG}
set_option maxHeartbeats 2000000 in
set_option maxRecDepth 8000 in
theorem IC (h:GrF R v g) (z:GZ g) (ok:GOk g):Fn P Hu [v] R [] (λx H A=>A = []/\GrF H x (Ek g)):=by
 have b7:=h;obtain⟨r1,r2,nv,rv,pv,rfl,h1,h2,h3,h4,h5⟩:=h;obtain⟨na,nc,rfl⟩:=h2.sl;obtain⟨ra,rc,rfl⟩:=h4.sl;obtain⟨pa,pc,rfl⟩:=h5.sl;have e1:=h1.1;have e2:=h3.1;have i4:=ok.n;have zr:=ok.r1;have zp:=ok.p;refine NU λF=>?_
 refine z_1 ?_;refine ja λb=>B9 (b:=b) λR0 e6 hb=>ja λN=>?_
 have hb:R0 b = some (C 40 [.slice na r1.length nc,.slice ra r2.length rc,.slice pa g.pinned.length pc]):=hb;have b7:=b7.le e6;refine DR (l:=[.slice na r1.length nc,.slice ra r2.length rc,.slice pa g.pinned.length pc]) hb (by exact z_n 3) rfl (jrp (HY b7 z) ?_);rw[On.2 ok];refine CQ (DR (l:=[.slice na r1.length nc,.slice ra r2.length rc,.slice pa g.pinned.length pc]) hb (by exact z_n 3) rfl ?_);refine jc (A:=[]) (Z5 b7 ok) ?_;intro lv R2 A2 e8 so;refine Dv so λR3 e9 hi=>?_
 have b8:=UN ok;have f4:=b8.len;obtain⟨y,a7⟩:∃y,y = K0 g:=⟨_,rfl⟩;rw[<- a7] at hi b8 f4;obtain⟨la,lc,rfl⟩:=hi.sl;have hb:=(e8.trans e9) _ _ hb;have a1:=e6.trans (e8.trans e9);refine WU ZT λmb o0 g4=>?_
 refine jci (λ_:Obj=>[Pt b,Pt N,.slice la y.length lc,.map (some mb)]) (λo=>(mb,o) :: (N,C 40 (cl z40)) :: ([] ++ F)) (λH o=>H = R3/\Mg o (prs y (Gg y.length))) (λK1 k1=>?_) ?_
 .refine jln ?_;refine jiI k1 λK2 k2=>?_
  refine jli (λi:Nat × Obj=>y.length - i.1) (λi=>[Pt b,Pt N,.slice la y.length lc,.map (some mb),.slice la y.length lc,I y.length,I i.1]) (λi=>(mb,i.2) :: (N,C 40 (cl z40)) :: ([] ++ F))
   (λH i=>H = R3/\i.1<=y.length/\Mg i.2 (prs (y.take i.1) (Gg i.1))) (0,o0) ⟨rfl,V,by simpa [prs,Gg] using g4⟩ rfl rfl ?_
  rintro K e H ⟨k,o⟩ ⟨hR,hk,hm⟩ he hK;subst hR;dsimp only at hk hm he ⊢;refine z_V ?_;refine jlt (jif (λc=>?_) (λc=>?_));rotate_left
  .have c:=z_g c;rw[dO Z,show k = y.length from Z] at hm;exact k2 H o ⟨rfl,hm⟩
  have c:k < y.length:=by have:=z_f c;omega
  refine Bk hi Z Z ?_;simp only[dG];refine @YR _ _ _ 122 3 mb o _ (prs (y.take k) (Gg k)) _ _ _ HS hm λo3 d1=>?_
  have g1:∀p∈prs (y.take k) (Gg k),p.1≠y[k]:=λp hp e=>by
   have h1:=UI hp;rw[e] at h1;obtain⟨j,hj,ej⟩:=dm h1;rw[dU] at hj;rw[fy] at ej;have:=(List.getElem_inj b8.nd).1 ej;omega
  rw[SQ g1] at d1;have et:prs (y.take (k + 1)) (Gg (k + 1)) = prs (y.take k) (Gg k) ++ [(y[k],I k)]:=by
   rw[dJ c];have:Gg (k + 1) = Gg k ++ [(k:Int)]:=by unfold Gg;rw[List.range_succ,dz];rfl
   rw[this,Uf (by rw[dU,Qt];omega)]
  rw[<- et] at d1;exact jad (hK H (k + 1,o3) (by dsimp only;omega) ⟨rfl,c,d1⟩)
 rintro e H o ⟨hR,hm⟩ he;subst hR;refine z_V ?_;refine B9 (b:=mb) λR4 a5 f8=>ja λgb=>?_
 have h1:=h1.mono λ_ _=>NdC.le (a1.trans a5)
 have h2:=h2.le (a1.trans a5);have h3:=h3.mono λ_ _=>RwC.le (a1.trans a5)
 have h4:=h4.le (a1.trans a5);have h5:=h5.le (a1.trans a5);have hi:=hi.le a5;have hb:=a5 _ _ hb;have e7:=a1.trans a5;have h9:∀x,nmG y x = nmG (K0 g) x:=λx=>by rw[a7]
 have b0:∀{H : RM} {xv:Value} {l:List Int},R4.le H->Ay H xv l->l.length < 1000000->Fn P Jo [xv,.map (some mb)] H [] (λv f6 A=>f6 = H/\SO (l.map (nmG y)) v A):=λhR hx hl=>Yr hx hl (hR _ _ f8) hm
 refine jci (λ_:Value × Chs × List (List Value)=>[Pt b,Pt N,.map (some mb),Pt gb])
  (λi=>(gb,C 40 [i.1,SN,SN]) :: (i.2.1 ++ ((N,C 40 (cl z40)) :: ([] ++ F))))
  (λH i=>R4.le H/\Rw (NdC H) i.2.2 (Ek g).nodes/\SW 60 2 i.2.2 i.1 i.2.1) (λK1 k1=>?_) ?_
 .refine jln ?_;refine jiI k1 λK2 k2=>?_
  refine jli (λi:Nat × Value × Chs × List (List Value)=>y.length - i.1)
   (λi=>[Pt b,Pt N,.map (some mb),Pt gb,.slice la y.length lc,I y.length,I i.1])
   (λi=>(gb,C 40 [i.2.1,SN,SN]) :: (i.2.2.1 ++ ((N,C 40 (cl z40)) :: ([] ++ F))))
   (λH i=>R4.le H/\i.1<=y.length/\Rw (NdC H) i.2.2.2 ((y.take i.1).map λn=>((Fa g n).map (nmG y),(g.nodes.getD n.toNat ([],[])).2))/\SW 60 2 i.2.2.2 i.2.1 i.2.2.1)
   (0,SN,[],[]) ⟨RM.le.refl _,V,Rw.nil,.inl ⟨rfl,rfl,rfl⟩⟩ rfl rfl ?_
  rintro K e R5 ⟨k,nv,A1,rows⟩ ⟨W,c9,D,so⟩ he hK;dsimp only at c9 D so he hK ⊢;refine z_V ?_;refine jlt (jif (λc=>?_) (λc=>?_));rotate_left
  .have c:=z_g c;rw[dO Z,a7] at D;exact k2 R5 (nv,A1,rows) ⟨W,D,so⟩
  have c:k < y.length:=by have:=z_f c;omega
  obtain⟨x0,x1⟩:=b8.rg _ (dL c);obtain⟨q,hq⟩:∃q:Nat,y[k] = q:=⟨y[k].toNat,Z⟩;have b3:q < g.nodes.length:=Z
  have hnd:=ok.nd _ (dL b3);have g5:Fa g y[k] = g.nodes[q].1:=by
   unfold Fa;rw[hq,dG,dI,dH b3];rfl
  have g2:(g.nodes.getD (y[k]).toNat ([],[])).2 = g.nodes[q].2:=by
   rw[hq,dG,dI,dH b3];rfl
  have c8:=W _ _ hb;have e4:=h1.mono λ_ _=>NdC.le W
  have e5:=h2.le W;refine Bk (hi.le W) Z Z ?_;simp only[dG];rw[hq];refine jfo (jl (v:=nv) rfl (jfo (jlr (v:=.slice na r1.length nc) c8 rfl ?_)));refine jnd e4 e5 b3 λxb o ty cs xv yv hx hy g7 ho f3=>jfo (jlr (v:=xv) g7 (Bm f3 (f:=0) rfl) ?_)
  refine jfo (jlr (v:=.slice na r1.length nc) c8 rfl ?_);refine jnd e4 e5 b3 λi8 o2 i7 h8 i9 f5 i6 g8 c7 i5 b4=>jfo (jlr (v:=f5) c7 (Bm b4 (f:=1) rfl) ?_)
  refine jc (A:=[]) (b0 W hx Z) ?_;rintro sv R6 A6 _ ⟨a0,b6⟩;subst a0;refine Al [(gb,C 40 [nv,SN,SN])] (G:=A6 ++ (A1 ++ ((N,C 40 (cl z40)) :: ([] ++ F)))) ?_;refine Ak (jl (v:=nv) rfl jev) (Ak (jlr (v:=.slice na r1.length nc) c8 rfl jev) (Ak (jlr (v:=f5) c7 (Bm b4 (f:=1) rfl) jev) ?_));refine jc (A:=[]) (Dq g8 Z) ?_;rintro cv R7 A7 _ ⟨a2,h6,-⟩;subst a2;refine B8 (D':=A7 ++ ((gb,C 40 [nv,SN,SN]) :: (A6 ++ (A1 ++ ((N,C 40 (cl z40)) :: ([] ++ F)))))) (eK _) ?_;refine Al A7 (G:=(gb,C 40 [nv,SN,SN]) :: (A6 ++ (A1 ++ ((N,C 40 (cl z40)) :: ([] ++ F))))) (Dv h6 λR8 O f1=>Al A6 (G:=(gb,C 40 [nv,SN,SN]) :: (A1 ++ ((N,C 40 (cl z40)) :: ([] ++ F)))) (Dv b6 λR9 a6 b2=>?_));obtain⟨xa,xc,rfl⟩:=b2.sl;obtain⟨ca,cc,rfl⟩:=f1.sl;refine jbd (cs:=[.slice xa (g.nodes[q].1.map (nmG y)).length xc,.slice ca g.nodes[q].2.length cc]) rfl rfl (Ak (jl (v:=nv) rfl jev) (jbs (cs:=[.slice xa (g.nodes[q].1.map (nmG y)).length xc,.slice ca g.nodes[q].2.length cc]) rfl rfl λbb=>Ak (jl (v:=nv) rfl jev) ?_));have d2:=D.1;rw[dN,dU] at d2;refine Qm [[.slice xa (g.nodes[q].1.map (nmG y)).length xc,.slice ca g.nodes[q].2.length cc]] so rfl (D.all λ_ _=>NdC.len) (by intro r hr;rw[dZ.1 hr];rfl) rfl rfl rfl δ (by simp only[dR,f9];omega) λv' A' b5=>?_
  obtain⟨va,vc,d3⟩:=b5.sl;subst d3;refine jfo (jS ([.slice va (rows ++ [[Value.slice xa (g.nodes[q].1.map (nmG y)).length xc,.slice ca g.nodes[q].2.length cc]]).length vc,SN,SN]) (jad ?_));refine Al [(gb,C 40 [.slice va (rows ++ [[Value.slice xa (g.nodes[q].1.map (nmG y)).length xc,.slice ca g.nodes[q].2.length cc]]).length vc,SN,SN])] (G:=A' ++ ((N,C 40 (cl z40)) :: ([] ++ F))) ?_;refine hK R9 (k + 1,_,A',rows ++ [[Value.slice xa (g.nodes[q].1.map (nmG y)).length xc,.slice ca g.nodes[q].2.length cc]]) (by dsimp only;omega) ⟨W.trans (O.trans a6),c,?_,b5⟩;rw[dJ c,dz];refine (D.mono λ_ _=>NdC.le (O.trans a6)).app (Rw.one ⟨_,_,rfl,?_,?_⟩)
  .dsimp only;rw[g5];exact b2
  .dsimp only;rw[g2];exact f1.le a6
 rintro e R5 ⟨a3,A1,Q⟩ ⟨W,a8,c6⟩ he;dsimp only at a8 c6 ⊢;refine z_V ?_;obtain⟨b9,c0,g3⟩:=c6.sl;refine Al A1 (G:=(gb,C 40 [a3,SN,SN]) :: (N,C 40 (cl z40)) :: ([] ++ F)) ?_;refine jfw c6 (a8.all λ_ _=>NdC.len) λR6 a0 hfz=>?_
 have a8:=a8.mono λ_ _=>NdC.le a0
 have a0:=W.trans a0;clear W c6;refine jci (λ_:Value × Chs × List (List Value)=>[Pt b,Pt N,.map (some mb),Pt gb])
  (λi=>(gb,C 40 [a3,i.1,SN]) :: (i.2.1 ++ ((N,C 40 (cl z40)) :: ([] ++ F))))
  (λH i=>R6.le H/\Rw (RwC H) i.2.2 (g.AD.map λr=>r.map (nmG y))/\SW 30 1 i.2.2 i.1 i.2.1) (λK1 k1=>?_) ?_
 .refine jfo (jlr (v:=.slice ra r2.length rc) (a0 _ _ hb) rfl (jln ?_));refine jiI k1 λK2 k2=>?_
  refine jli (λi:Nat × Value × Chs × List (List Value)=>g.AD.length - i.1)
   (λi=>[Pt b,Pt N,.map (some mb),Pt gb,.slice ra r2.length rc,I r2.length,I i.1])
   (λi=>(gb,C 40 [a3,i.2.1,SN]) :: (i.2.2.1 ++ ((N,C 40 (cl z40)) :: ([] ++ F))))
   (λH i=>R6.le H/\i.1<=g.AD.length/\Rw (RwC H) i.2.2.2 ((g.AD.take i.1).map λr=>r.map (nmG y))/\SW 30 1 i.2.2.2 i.2.1 i.2.2.1)
   (0,SN,[],[]) ⟨RM.le.refl _,V,Rw.nil,.inl ⟨rfl,rfl,rfl⟩⟩ rfl rfl ?_
  rintro K e R7 ⟨k,rv,A2,rows⟩ ⟨a2,c9,D,so⟩ he hK;dsimp only at c9 D so he hK ⊢;refine z_V ?_;refine jlt (jif (λc=>?_) (λc=>?_));rotate_left
  .have c:=z_g c;rw[dO Z] at D;exact k2 R7 (rv,A2,rows) ⟨a2,D,so⟩
  have c:k < g.AD.length:=by have:=z_f c;omega
  have h7:=(ok.rr _ (dL c)).1;have f7:=h3.mono λ_ _=>RwC.le (a0.trans a2)
  refine jrw f7 (h4.le (a0.trans a2)) c λxv hx=>jfo (jl (v:=rv) rfl ?_)
  refine jc (A:=[]) (b0 (a0.trans a2) hx Z) ?_;rintro sv R8 A6 _ ⟨O,b6⟩;subst O;refine Al A6 (G:=(gb,C 40 [a3,rv,SN]) :: (A2 ++ ((N,C 40 (cl z40)) :: ([] ++ F)))) (Dv b6 λR9 a6 b2=>?_);obtain⟨xa,xc,rfl⟩:=b2.sl;refine Ak (jl (v:=rv) rfl jev) (jbs (cs:=[.slice xa (g.AD[k].map (nmG y)).length xc]) rfl rfl λbb=>Ak (jl (v:=rv) rfl jev) ?_);have d2:=D.1;rw[dN,dU] at d2;refine Qm [[.slice xa (g.AD[k].map (nmG y)).length xc]] so rfl (D.all λ_ _=>RwC.len) (by intro r hr;rw[dZ.1 hr];rfl) rfl rfl rfl δ (by simp only[dR,f9];omega) λv' A' b5=>?_
  obtain⟨va,vc,d3⟩:=b5.sl;subst d3;refine jfo (jS ([a3,.slice va (rows ++ [[Value.slice xa (g.AD[k].map (nmG y)).length xc]]).length vc,SN]) (jad ?_));refine Al [(gb,C 40 [a3,.slice va (rows ++ [[Value.slice xa (g.AD[k].map (nmG y)).length xc]]).length vc,SN])] (G:=A' ++ ((N,C 40 (cl z40)) :: ([] ++ F))) ?_;refine hK R9 (k + 1,_,A',rows ++ [[Value.slice xa (g.AD[k].map (nmG y)).length xc]]) (by dsimp only;omega) ⟨a2.trans a6,c,?_,b5⟩;rw[dJ c,dz];exact (D.mono λ_ _=>RwC.le a6).app (Rw.one ⟨_,rfl,b2⟩)
 rintro e R7 ⟨d4,A2,T⟩ ⟨a2,a9,e3⟩ he;dsimp only at a9 e3 ⊢;refine z_V ?_;obtain⟨c4,c5,g6⟩:=e3.sl;refine Al A2 (G:=(gb,C 40 [a3,d4,SN]) :: (N,C 40 (cl z40)) :: ([] ++ F)) ?_;refine jfw e3 (a9.all λ_ _=>RwC.len) λR8 O f0=>?_
 have a9:=a9.mono λ_ _=>RwC.le O
 have O:=a2.trans O;have b1:=a0.trans O;refine jfo (jlr (v:=.slice pa g.pinned.length pc) (b1 _ _ hb) rfl ?_);refine jc (A:=[]) (b0 b1 (h5.le b1) Z) ?_;rintro sv R9 A6 _ ⟨a6,b6⟩;subst a6;refine Al [(gb,C 40 [a3,d4,SN]),(N,C 40 (cl z40))] (G:=A6 ++ ([] ++ F)) ?_;refine Al A6 (G:=[(gb,C 40 [a3,d4,SN]),(N,C 40 (cl z40))] ++ ([] ++ F)) ?_;refine Dv b6 λR10 a4 f2=>?_
 obtain⟨xa,xc,rfl⟩:=f2.sl;subst g3 g6;refine jfo (jS [.slice b9 Q.length c0,.slice c4 T.length c5,.slice xa (g.pinned.map (nmG y)).length xc] ?_);refine jla (l:=[.slice b9 Q.length c0,.slice c4 T.length c5,.slice xa (g.pinned.map (nmG y)).length xc]) (dM rfl) rfl ?_;refine jS [.slice b9 Q.length c0,.slice c4 T.length c5,.slice xa (g.pinned.map (nmG y)).length xc] ?_;refine jla (l:=[.slice b9 Q.length c0,.slice c4 T.length c5,.slice xa (g.pinned.map (nmG y)).length xc]) (dM rfl) rfl ?_;refine Ao (A:=[]) (e7.trans (b1.trans a4)) ⟨rfl,Q,T,_,_,_,rfl,a8.mono λ_ _=>NdC.le (O.trans a4),hfz.le (O.trans a4),?_,f0.le a4,?_⟩
 .unfold Ek;rw[<- a7];exact a9.mono λ_ _=>RwC.le a4
 .unfold Ek;rw[<- a7];exact f2
end
end Go.Lf
end
section
namespace Sm
def KJ (g h:PG):Bool:=(g.nodes == h.nodes) && (g.AD == h.AD) && (g.pinned == h.pinned)
theorem YN {g:PG} (ok:GOk g):GZ (Ek g):=by
 have m:=(UN ok).len;have n:=ok.n;have r:=ok.r1;have p:=ok.p;refine⟨by simp[Ek];omega,by simp[Ek];omega,by simp[Ek];omega,λx j=>?_,λx j=>?_⟩
 .obtain⟨k,A,rfl⟩:=dc.1 j;have D:=(Qu ok k).2;refine⟨by simp;omega,?_⟩;dsimp only;rw[dI];cases j:g.nodes[k.toNat]? with
  | none=>simp
  | some y=>have:=(ok.nd y (List.mem_of_getElem? j)).2.1;simp;omega
 .obtain⟨k,A,rfl⟩:=dc.1 j;have:=(ok.rr k A).1;simp;omega
end Sm
namespace Go.Lf
open Go Sm
section
variable {R:RM} {D:Chs}
theorem Ph {α:Type} {la lb:List α} {i:Nat} (hl:la.length = lb.length) (hc:i < la.length) (he:la.take i = lb.take i) (hd:la[i] = lb[i]'(Z)):la.take (i + 1) = lb.take (i + 1):=by
 rw[dJ hc,dJ (by omega:i < lb.length),he,hd]
theorem Sn {α:Type} [BEq α] [LawfulBEq α] {la lb:List α} (h:(la.length:Int)≠lb.length):(la == lb) = false:=by
 rw[beq_eq_false_iff_ne];intro e;rw[e] at h;exact h rfl
theorem Xa {α:Type} [BEq α] [LawfulBEq α] {la lb:List α} {i:Nat} (j:i < la.length) (x:i < lb.length) (h:la[i]≠lb[i]):(la == lb) = false:=by
 rw[beq_eq_false_iff_ne];intro e;subst e;exact h rfl
theorem T9 {α:Type} [BEq α] [LawfulBEq α] {la lb:List α} (h:la.take la.length = lb.take la.length) (hl:la.length = lb.length):(la == lb) = true:=by
 rw[dO Z,dO Z] at h;rw[h];exact beq_self_eq_true _
theorem LM {y A:Value} {la lb:List Int} (x:Ay R y la) (hb:Ay R A lb) (H:la.length < 1000000):Ro Ee [y,A] (.bool (la == lb)) R D:=by
 refine Mx λF=>?_
 refine z_2 ?_;refine Bf x.sl (Bf hb.sl (jne (jif (λh=>?_) (λh=>?_))))
 .rw[Sn (by simpa using h)];exact BB rfl
 have hl:la.length = lb.length:=by
  have:((la.length:Int) != lb.length) = false:=h;rw[bne_eq_false_iff_eq] at this;omega
 refine Bf x.sl ?_;refine Nm [y,A,I la.length] la.length (λi=>la.take i = lb.take i) V λi K e N j G he=>?_
 refine z_V ?_;refine jlt (jif (λhc=>?_) (λhc=>?_));rotate_left
 .have hc:=z_g hc;rw[show i = la.length from Z] at j;rw[T9 j hl];exact BB rfl
 have hc:i < la.length:=by have:=z_f hc;omega
 refine Bk x Z Z (Bk hb Z Z (jne ?_));simp only[dG];refine jif (λhd=>?_) (λhd=>?_)
 .rw[Xa hc Z (by simpa using hd)];exact BB rfl
 .exact jad (G hc (Ph hl hc j (by simpa using hd)))
theorem Z7 {Q W j G : Option Addr} {T yc A H : Nat} {x y:List Int × List Int} (h1:Ay R (.slice Q x.1.length T) x.1) (h2:Ay R (.slice W x.2.length yc) x.2) (N : Ay R (.slice j y.1.length A) y.1) (O : Ay R (.slice G y.2.length H) y.2) (z1:x.1.length < 1000000) (z2:x.2.length < 1000000) :
  Ro Dt [.agg #[.slice Q x.1.length T,.slice W x.2.length yc],.agg #[.slice j y.1.length A,.slice G y.2.length H]] (.bool (x == y)) R D:=by
 refine Jz λF=>?_
 refine z_2 ?_;refine ja λb1=>ja λb2=>?_
 have ex:(x == y) = ((x.1 == y.1) && (x.2 == y.2)):=rfl;rw[ex];refine jan [] ((x.1 == y.1) && (x.2 == y.2)) (λK' K=>?_) (λe c u ho he=>?_)
 .refine jfo (jl (v:=.slice Q x.1.length T) rfl (jfo (jl (v:=.slice j y.1.length A) rfl (jro (LM h1 N z1) ?_))));refine Dl (λg=>?_) (λg=>?_)
  .rw[g];exact jfo (jl (v:=.slice W x.2.length yc) rfl (jfo (jl (v:=.slice G y.2.length H) rfl (jro (LM h2 O z2) (K _ _ _ Bh (by rw[g,eP]))))))
  .rw[g];exact K _ _ _ By (by rw[g,fA])
 refine z_V ?_;rw[ho];exact BV (BV (BB rfl))
theorem Uk {v1 v2:Value} {r1 r2:List (List Value)} {l1 l2:List (List Int × List Int)} (h1:Rw (NdC R) r1 l1) (g1:Fz R v1 2 r1.length r1.flatten) (h2:Rw (NdC R) r2 l2) (g2:Fz R v2 2 r2.length r2.flatten) (z0:l1.length < 1000000) (z:∀x∈l1,x.1.length < 1000000/\x.2.length < 1000000) :
  Ro Ec [v1,v2,.func (.func Dt) #[] #[]] (.bool (l1 == l2)) R D:=by
 refine GU λF=>?_
 refine z_3 ?_;have e1:=h1.1;have e2:=h2.1;refine Bf g1.sl (Bf g2.sl (jne (jif (λh=>?_) (λh=>?_))))
 .rw[Sn (la:=l1) (lb:=l2) (by rw[<- e1,<- e2];simpa using h)];exact BB rfl
 have hl:l1.length = l2.length:=by
  have:((r1.length:Int) != r2.length) = false:=h;rw[bne_eq_false_iff_eq] at this;omega
 refine Bf g1.sl ?_;refine Nm [v2,.func (.func Dt) #[] #[],v1,I r1.length] l1.length (λi=>l1.take i = l2.take i) V λi K e hi j hK he=>?_
 refine z_V ?_;refine jlt (jif (λhc=>?_) (λhc=>?_));rotate_left
 .have hc:=z_g hc;rw[show i = l1.length from Z] at j;rw[T9 j hl];exact BB rfl
 have hc:i < l1.length:=by have:=z_f hc;omega
 have A:i < l2.length:=Z
 obtain⟨z1,z2⟩:=z _ (dL hc);refine jnd h1 g1 hc λxb o ty cs xv yv hx hy a2 ho G=>DR a2 ho G ?_
 obtain⟨xa,xc,rfl⟩:=hx.sl;obtain⟨ya,yc,rfl⟩:=hy.sl;refine ja λb1=>jS ([.slice xa l1[i].1.length xc,.slice ya l1[i].2.length yc]) ?_
 refine jnd h2 g2 A λa5 o' a4 a3 a6 a7 H O N a1 y=>DR N a1 y ?_
 obtain⟨Q,T,rfl⟩:=H.sl;obtain⟨W,a0,rfl⟩:=O.sl;refine ja λb2=>jS ([.slice Q l2[i].1.length T,.slice W l2[i].2.length a0]) ?_
 refine jla (l:=[.slice xa l1[i].1.length xc,.slice ya l1[i].2.length yc]) (dM rfl) rfl (jla (l:=[.slice Q l2[i].1.length T,.slice W l2[i].2.length a0]) (dM rfl) rfl ?_);refine H4 (by kernel_rfl) (jro (Z7 hx hy H O z1 z2) (jif (λhd=>?_) (λhd=>?_)))
 .have hd:l1[i]≠l2[i]:=by simpa using hd
  rw[Xa hc A hd];exact BV (BV (BB rfl))
 .have hd:l1[i] = l2[i]:=by simpa using hd
  exact jad (BV (BV (hK hc (Ph hl hc j hd))))
theorem Wx {H N:Value} {r1 A:List (List Value)} {l1 l2:List (List Int)} (Q:Rw (RwC R) r1 l1) (G:Fz R H 1 r1.length r1.flatten) (T:Rw (RwC R) A l2) (O:Fz R N 1 A.length A.flatten) (z0:l1.length < 1000000) (z:∀x∈l1,x.length < 1000000) :
  Ro EU [H,N,.func (.func Ee) #[] #[]] (.bool (l1 == l2)) R D:=by
 refine GR λF=>?_
 refine z_3 ?_;have W:=Q.1;have e2:=T.1;refine Bf G.sl (Bf O.sl (jne (jif (λh=>?_) (λh=>?_))))
 .rw[Sn (la:=l1) (lb:=l2) (by rw[<- W,<- e2];simpa using h)];exact BB rfl
 have hl:l1.length = l2.length:=by
  have:((r1.length:Int) != A.length) = false:=h;rw[bne_eq_false_iff_eq] at this;omega
 refine Bf G.sl ?_;refine Nm [N,.func (.func Ee) #[] #[],H,I r1.length] l1.length (λi=>l1.take i = l2.take i) V λi K e hi j hK he=>?_
 refine z_V ?_;refine jlt (jif (λhc=>?_) (λhc=>?_));rotate_left
 .have hc:=z_g hc;rw[show i = l1.length from Z] at j;rw[T9 j hl];exact BB rfl
 have hc:i < l1.length:=by have:=z_f hc;omega
 have y:i < l2.length:=Z
 refine jrw Q G hc λxv hx=>jrw T O y λyv hy=>?_
 refine H4 (by kernel_rfl) (jro (LM hx hy (z _ (dL hc))) (jif (λhd=>?_) (λhd=>?_)))
 .have hd:l1[i]≠l2[i]:=by simpa using hd
  rw[Xa hc y hd];exact BB rfl
 .have hd:l1[i] = l2[i]:=by simpa using hd
  exact jad (hK hc (Ph hl hc j hd))
theorem PC {v1 v2:Value} {g h:PG} (h1:GrF R v1 g) (h2:GrF R v2 h) (z:GZ g):Ro HK [v1,v2] (.bool (KJ g h)) R D:=by
 obtain⟨r1,r2,nv,rv,pv,rfl,a1,T,a3,W,a5⟩:=h1;obtain⟨K,N,a0,a7,a6,rfl,b1,b2,b3,b4,b5⟩:=h2;obtain⟨na,nc,rfl⟩:=T.sl;obtain⟨ra,rc,rfl⟩:=W.sl;obtain⟨pa,pc,rfl⟩:=a5.sl;obtain⟨y,A,rfl⟩:=b2.sl;obtain⟨O,Q,rfl⟩:=b4.sl;obtain⟨G,H,rfl⟩:=b5.sl;obtain⟨z1,z2,z3,z4,z5⟩:=z;refine N4 λF=>?_
 refine z_2 ?_;refine ja λx1=>ja λx2=>?_
 unfold KJ;refine jan [Pt x1,Pt x2] ((g.nodes == h.nodes) && (g.AD == h.AD)) (λK' j=>?_) (λe c u ho he=>?_)
 .refine jfo (jl (v:=.slice na r1.length nc) rfl (jfo (jl (v:=.slice y K.length A) rfl (jro (Uk a1 T b1 b2 z1 z4) ?_))));refine Dl (λq=>?_) (λq=>?_)
  .rw[q];exact jfo (jl (v:=.slice ra r2.length rc) rfl (jfo (jl (v:=.slice O N.length Q) rfl (jro (Wx a3 W b3 b4 z2 z5) (j _ _ _ Bh (by rw[q,eP]))))))
  .rw[q];exact j _ _ _ By (by rw[q,fA])
 refine z_V ?_;refine jan [] ((g.nodes == h.nodes) && (g.AD == h.AD) && (g.pinned == h.pinned)) (λK' j=>?_) (λe c u x he=>?_)
 .rw[ho];refine Dl (λq=>?_) (λq=>?_)
  .rw[q];exact jfo (jl (v:=.slice pa g.pinned.length pc) rfl (jfo (jl (v:=.slice G h.pinned.length H) rfl (jro (LM a5 b5 z3) (j _ _ _ Bh (by rw[q,eP]))))))
  .rw[q];exact j _ _ _ By (by rw[q,fA])
 refine z_V ?_;rw[x];exact BV (BV (BB rfl))
set_option maxRecDepth 8000 in
theorem NL {v1 v2:Value} {g h:PG} (h1:GrF R v1 g) (h2:GrF R v2 h) (z1:GZ g) (z2:GZ h) (W:GOk g) (a6:GOk h):Ro Hy [v1,v2] (.bool (KJ (Ek g) (Ek h))) R []:=by
 have K:=h1;have N:=h2;obtain⟨r1,r2,nv,rv,pv,rfl,a1,a2,a3,a4,a5⟩:=h1;obtain⟨a7,a8,j,y,x,rfl,b1,b2,b3,b4,b5⟩:=h2;refine Na λF=>?_
 refine z_2 ?_;refine ja λx1=>ja λx2=>B9 (b:=x1) λR1 T Q=>B9 (b:=x2) λR2 O H=>?_
 have Q:R2 x1 = some (C 40 [nv,rv,pv]):=O _ _ Q;have H:R2 x2 = some (C 40 [j,y,x]):=H;have K:=K.le (T.trans O);have N:=N.le (T.trans O);refine jci (λ_:Unit=>[.bool (KJ (Ek g) (Ek h))]) (λ_=>[] ++ F) (λR' _=>R2.le R') (λK1 k1=>?_) ?_;rotate_left
 .rintro e R3 _ G he;refine z_V ?_;exact Ao (A:=[]) (T.trans (O.trans G)) ⟨rfl,rfl⟩
 refine DR (l:=[nv,rv,pv]) Q (by exact z_n 3) rfl (jrp (HY K z1) ?_);rw[On.2 W];refine Bv [Pt x1,Pt x2,.bool true,.agg #[j,y,x]] (λK2 k2=>?_) (λe he=>?_)
 .exact jtt (DR (l:=[j,y,x]) H (by exact z_n 3) rfl k2)
 refine z_V ?_;refine jtt (jrp (HY N z2) ?_);rw[On.2 a6];refine Bv [Pt x2,.bool true,.agg #[nv,rv,pv],.agg #[j,y,x]] (λK2 k2=>?_) (λe he=>?_)
 .refine EP (jtt (DR (l:=[nv,rv,pv]) Q (by exact z_n 3) rfl (DR (l:=[j,y,x]) H (by exact z_n 3) rfl k2)))
 refine z_V ?_;refine jtt ?_;refine jc (A:=[]) (IC K z1 W) ?_;rintro t1 R3 A3 G ⟨rfl,g3⟩;refine Ak (DR (l:=[j,y,x]) (G _ _ H) (by exact z_n 3) rfl jev) ?_;refine jc (A:=[]) (IC (N.le G) z2 a6) ?_;rintro t2 R4 A4 a0 ⟨rfl,g4⟩;refine jrp (PC (D:=[]) (g3.le a0) g4 (YN W)) (EP ?_);exact k1 R4 () (G.trans a0)
end
end Go.Lf
end
section
namespace Sm
open Go.Lf
theorem Je {f:Int->Int}:∀{xs:List Int} {a:Int},(∀x∈xs,f x = f a->x = a)->(xs.map f).idxOf (f a) = xs.idxOf a
 | [],a,_=>rfl
 | x :: xs,a,h=>by
  rw[eN,List.idxOf_cons,List.idxOf_cons];by_cases c:x = a
  .subst c;simp
  .have j : f x≠f a:=λe=>c (h x V e)
   rw[beq_eq_false_iff_ne.2 c,beq_eq_false_iff_ne.2 j];simp only[cond_false];rw[Je λy A=>h y (dh _ A)]
section
variable {s:Ah} {l:List AQ} {met:List Int}
def cn (l:List AQ) (met:List Int) (x:Int):Int:=match now l x with
 | some u=>if u = 0 then -1 else (met.idxOf u:Int)
 | none=>-1
def WM (s:Ah) (l:List AQ) (met:List Int):PG:=⟨met.map λa=>match Ax l a with
 | some t=>(t.refs.map (cn l met),t.nums)
 | none=>([],[]),s.AB.map λt=>t.AD.map (cn l met),s.AJ.map (cn l met)⟩
def nu (AI:List Int) (a:Int):Int:=AI.idxOf a
theorem PS (j:HpF s l met) {x u:Int} (h:now l x = some u) (G:u = 0\/u∈met):nmA l (Aa met) x = if u = 0 then -1 else nu (Aa met) u:=by
 unfold nmA;have y:x = 0↔u = 0:=by
  unfold now at h;constructor
  .intro e;rw[if_pos e] at h;cases h;rfl
  .intro e;by_cases c:x = 0
   .exact c
   .rw[if_neg c] at h;obtain⟨t,D,A⟩:=gA.1 h;exact absurd (A.trans e) (j.S.nz t (BF D).1)
 rw[h,eI];by_cases c:u = 0
 .rw[if_pos c,if_pos (y.2 c)]
 .rw[if_neg c,if_neg λe=>c (y.1 e)];unfold BP nu;rw[if_pos (((Bt j.M.nd).2 u).2 (G.resolve_left c))]
theorem Xi {AI:List Int} {a b:Int} (y:a∈AI) (hb:b∈AI) (e:nu AI a = nu AI b):a = b:=by
 unfold nu at e;have j:=gU (eQ y);have x:=gU (eQ hb);rw[<- j,<- x];exact getElem_congr_idx Z
theorem YX {AI acc:List Int} (x:∀a∈acc,a∈AI) {u:Int} (A:u = 0\/u∈AI):EI (acc.map (nu AI)) (if u = 0 then -1 else nu AI u) = (Bu acc u).map (nu AI)/\∀a∈Bu acc u,a∈AI:=by
 by_cases c:u = 0
 .rw[if_pos c];have j:Bu acc u = acc:=by unfold Bu;rw[if_pos (.inl c)]
  rw[j];unfold EI;rw[if_neg Z];exact⟨rfl,x⟩
 .rw[if_neg c];have y:=A.resolve_left c;have h0:0<=nu AI u:=by unfold nu;omega
  by_cases d:u∈acc
  .have j:Bu acc u = acc:=by unfold Bu;rw[if_pos (.inr d)]
   rw[j];unfold EI;rw[if_neg (λh=>h.2 (fI d))];exact⟨rfl,x⟩
  .have j:Bu acc u = acc ++ [u]:=by unfold Bu;rw[if_neg (λe=>e.elim c d)]
   rw[j];unfold EI;rw[if_pos ⟨h0,λe=>by
    obtain⟨b,hb,e⟩:=dc.1 e
    exact d (Xi (x b hb) y e▸hb)⟩]
   refine⟨by rw[dz];rfl,λa h=>?_⟩;rcases dg.1 h with h | h
   .exact x a h
   .rw[dZ.1 h];exact y
theorem PA (j:HpF s l met):∀{xs acc r:List Int},(∀a∈acc,a∈Aa met)->(∀x∈xs,∃u,now l x = some u/\(u = 0\/u∈met))->Aq l xs acc = some r->CI (acc.map (nu (Aa met))) (xs.map (nmA l (Aa met))) = r.map (nu (Aa met))/\∀a∈r,a∈Aa met
 | [],acc,r,ha,_,h=>by cases h;exact⟨rfl,ha⟩
 | x :: xs,acc,r,ha,hx,h=>by
  obtain⟨u,D,A⟩:=hx x V;rw[Bn,D,z_o] at h;obtain⟨p1,p2⟩:=YX ha (A.imp id ((Bt j.M.nd).2 u).2);have e:CI (acc.map (nu (Aa met))) ((x :: xs).map (nmA l (Aa met))) = CI (EI (acc.map (nu (Aa met))) (nmA l (Aa met) x)) (xs.map (nmA l (Aa met))):=rfl;rw[e,PS j D A,p1];exact PA j (xs:=xs) p2 (λy G=>hx y (dh _ G)) h
theorem UD (y:HpF s l met) {a:Int} (x:a∈Aa met):(Gy s l (Aa met)).nodes.getD (nu (Aa met) a).toNat ([],[]) = ndP l (Aa met) a:=by
 have j:=eQ x;show ((Aa met).map (ndP l (Aa met))).getD (((Aa met).idxOf a:Nat):Int).toNat ([],[]) = _;rw[dG,dI,eH,dH j,fg,eI,gU j]
theorem UG (G:HpF s l met) (hc:∀b∈met,∀t,Ax l b = some t->∀a∈t.refs,∃u,now l a = some u/\(u = 0\/u∈met)):∀{n f i:Nat} {out r:List Int},(∀a∈out,a∈Aa met)->BI l n i out = some r->r.length<=f + i->H9 (Gy s l (Aa met)) f i (out.map (nu (Aa met))) = r.map (nu (Aa met))
 | 0,_,_,_,_,_,h,_=>by cases h
 | n + 1,f,i,out,r,ha,h,hfi=>by
  by_cases c:i < out.length
  .have Q:=ha _ (dL c);have H:=((Bt G.M.nd).2 _).1 Q;obtain⟨t,O⟩:=G.M.th _ H;rw[C9 c O] at h;cases D:Aq l t.refs out with
   | none=>rw[D] at h;cases h
   | some o=>
    rw[D,z_o] at h;have mono:∀{n i:Nat} {o r:List Int},BI l n i o = some r->o.length<=r.length:=by
     have W:∀{A j r:List Int},Aq l A j = some r->j.length<=r.length:=by
      intro A;induction A with
      | nil=>intro j r h;cases h;exact z_n _
      | cons x A N=>
       intro j r h;rw[Bn] at h;cases K:now l x with
       | none=>rw[K] at h;cases h
       | some y=>
        rw[K] at h;refine gX ?_ (N h);unfold Bu;split
        .exact z_n _
        .simp
     intro n;induction n with
     | zero=>intro i o r h;cases h
     | succ n N=>
      intro i o r h;by_cases c:i < o.length
      .cases R:Ax l o[i] with
       | none=>
        unfold BI at h;rw[dH c] at h;dsimp only at h;rw[R] at h;cases h
       | some t=>
        rw[C9 c R] at h;cases D:Aq l t.refs o with
        | none=>rw[D] at h;cases h
        | some o2=>rw[D] at h;exact gX (W D) (N h)
      .rw[CJ Z] at h;cases h;exact z_n _
    have T:=mono h;have m1:i < o.length:=by
     have:∀{A j r:List Int},Aq l A j = some r->j.length<=r.length:=by
      intro A;induction A with
      | nil=>intro j r h;cases h;exact z_n _
      | cons x A N=>
       intro j r h;rw[Bn] at h;cases K:now l x with
       | none=>rw[K] at h;cases h
       | some y=>
        rw[K] at h;refine gX ?_ (N h);unfold Bu;split
        .exact z_n _
        .simp
     have:=this D;omega
    obtain⟨g,rfl⟩:∃g,f = g + 1:=⟨f - 1,Z⟩;rw[Lo (by rw[dN];exact c),fQ];have e:Fa (Gy s l (Aa met)) (nu (Aa met) out[i]) = t.refs.map (nmA l (Aa met)):=by
     unfold Fa;rw[UD G Q];unfold ndP;rw[O]
    obtain⟨p1,p2⟩:=PA G ha (hc _ H t O) D;rw[e,p1];exact UG G hc p2 h Z
  .rw[CJ Z] at h;cases h;exact OL (by rw[dN];omega)
theorem aJ (x:HpF s l met):K0 (Gy s l (Aa met)) = met.map (nu (Aa met)):=by
 obtain⟨D,G⟩:=x.closed;have H:=x.head;unfold C8 at H;simp only[z_b] at H;have j:=x.re;rw[DZ H.2] at j;have y:=En met [];have y:(Aa met).length = met.length:=by simpa [Aa] using y
 cases K:Aq l (Ct s) [] with
 | none=>rw[K] at j;cases j
 | some o=>
  rw[K,z_o] at j;obtain⟨p1,p2⟩:=PA x (acc:=[]) (λa R=>by cases R) D K;have e0:Y0 (Gy s l (Aa met)) = o.map (nu (Aa met)):=by
   rw[<- p1];unfold Y0 Ct;show CI ((s.AB.map λt=>t.AD.map (nmA l (Aa met))).foldl CI []) (s.AJ.map (nmA l (Aa met))) = _;rw[dz];have Q:∀(N O acc:List Int),CI acc (N ++ O) = CI (CI acc N) O:=λN O acc=>by unfold CI;rw[gY]
   rw[Q];congr 1;have:∀(A:List Th) (acc:List Int),(A.map λt=>t.AD.map (nmA l (Aa met))).foldl CI acc = CI acc ((A.flatMap (·.AD)).map (nmA l (Aa met))):=by
    intro A;induction A with
    | nil=>intro acc;rfl
    | cons t A T=>
     intro acc;rw[eN,gJ,T,List.flatMap_cons,dz,Q]
   exact this _ _
  unfold K0;rw[e0];refine UG x G p2 j ?_;show met.length<=((Aa met).map (ndP l (Aa met))).length + 1 + 0;rw[dN];omega
theorem Tp (D:HpF s l met) {x u:Int} (h:now l x = some u) (G:u = 0\/u∈met):nmG (met.map (nu (Aa met))) (nmA l (Aa met) x) = cn l met x:=by
 rw[PS D h G];unfold cn;rw[h];dsimp only;by_cases c:u = 0
 .rw[if_pos c,if_pos c];rfl
 .rw[if_neg c,if_neg c];have A:=G.resolve_left c;have j:=λy=>((Bt D.M.nd).2 y).2
  unfold nmG;rw[if_pos (by unfold nu;omega),if_pos (fI A),Je λy K e=>Xi (j y K) (j u A) e];have H:=eQ A;unfold Gg;rw[dN,dI,eH,gI H];rfl
theorem JH (j:HpF s l met):Ek (Gy s l (Aa met)) = WM s l met:=by
 obtain⟨A,N⟩:=j.closed;unfold Ek WM;rw[aJ j,fq];congr 1
 .refine eh λa K=>?_
  have has:=((Bt j.M.nd).2 a).2 K;obtain⟨t,H⟩:=j.M.th a K;show ((Fa _ (nu (Aa met) a)).map _,_) = _;unfold Fa;rw[UD j has];unfold ndP;rw[H];dsimp only;rw[fq];congr 1;exact eh λx G=>by
   obtain⟨u,D,y⟩:=N a K t H x G;exact Tp j D y
 .show (s.AB.map λt=>t.AD.map (nmA l (Aa met))).map _ = _;rw[fq];refine eh λt H=>?_
  show (t.AD.map _).map _ = _;rw[fq];exact eh λx G=>by
   obtain⟨u,D,y⟩:=A x (dx _ (fi.2 ⟨t,H,G⟩));exact Tp j D y
 .show (s.AJ.map _).map _ = _;rw[fq];exact eh λx G=>by
   obtain⟨u,D,y⟩:=A x (eM _ G);exact Tp j D y
end
section
variable {s s' : Ah} {l l' : List AQ} {met AI to tops:List Int}
theorem OU (H:HpF s l met) (O:Od met AI) (Q:Hr l l' AI to) {x u:Int} (h:now l x = some u) (D:u = 0\/u∈met):cn l' (met.map (mvT AI to)) (plc l AI to x) = cn l met x:=by
 have A:=λy=>(O.m y).2
 have j : u = 0\/u∈AI:=D.imp id (A u);rw[P7 Q.z h j];unfold cn;rw[Q.now j,h];dsimp only;by_cases c:u = 0
 .rw[if_pos c,if_pos rfl,if_pos c]
 .rw[if_neg c,if_neg c,if_neg (λe=>Q.zt (by have:=GX Q.len (j.resolve_left c);rw[e] at this;exact this))];rw[Je λy G e=>Q.inj y (A y G) u (j.resolve_left c) e]
theorem Lz (G:HpF s l met) (O:Od met AI) (N:DT s s' l AI to tops) (Q:Hr l l' AI to):WM s' l' (met.map (mvT AI to)) = WM s l met:=by
 obtain⟨D,R⟩:=G.closed;have H:s'.AB = s.AB.map (Cr l AI to):=EO N.hlen N.th;have j:s'.AJ = s.AJ:=by rw[N.eq]
 unfold WM;rw[H,j,fq,fq];congr 1
 .refine eh λa W=>?_
  obtain⟨t,T,h2⟩:=Q.th a ((O.m a).2 W);show (match Ax l' (mvT AI to a) with | some t=>(t.refs.map _,t.nums) | none=>([],[])) = _;rw[T,h2];dsimp only;rw[fq];congr 1;exact eh λx y=>by
   obtain⟨u,K,A⟩:=R a W t T x y;exact OU G O Q K A
 .refine eh λt ht=>?_
  show ((Cr l AI to t).AD).map _ = _;unfold Cr;rw[fq];exact eh λx y=>by
   obtain⟨u,K,A⟩:=D x (dx _ (fi.2 ⟨t,ht,y⟩));exact OU G O Q K A
 .refine eh λx y=>?_
  obtain⟨u,K,A⟩:=D x (eM _ y);have:=OU G O Q K A;rwa [(OW G O N y).2] at this
theorem O5 (x:HpF s l met) (O:Od met AI) (y:DT s s' l AI to tops):∃l',CD s' = some (l',met.map (mvT AI to))/\Thn s'.AC (bgF s l to) l'/\Hr l l' AI to/\HpF s' l' (met.map (mvT AI to))/\
  KJ (Ek (Gy s l (Aa met))) (Ek (Gy s' l' (Aa (met.map (mvT AI to))))) = true:=by
 obtain⟨l',A,D,Q⟩:=Jx x O y;have j:=Cq A;refine⟨l',A,D,Q,j,?_⟩;rw[JH x,JH j,Lz x O y Q];unfold KJ;simp
theorem ZU (j:HpF s l met) (hr:∀t∈s.AB,t.AD.length<=8):GOk (Gy s l (Aa met)):=by
 obtain⟨R,a1⟩:=j.closed;obtain⟨G,T,-⟩:=EW j.ths;have W:=En met [];have W:(Aa met).length = met.length:=by simpa [Aa] using W
 have hh:=j.head;unfold C8 at hh;simp only[z_b,z_d] at hh;obtain⟨⟨⟨⟨⟨⟨⟨_,_⟩,_⟩,g4⟩,g5⟩,g6⟩,g7⟩,_⟩:=hh;have nl:(Gy s l (Aa met)).nodes.length = (Aa met).length:=by
  show ((Aa met).map _).length = _;rw[dN]
 have H:∀x u,now l x = some u->(u = 0\/u∈met)->-1<=nmA l (Aa met) x/\nmA l (Aa met) x < (Gy s l (Aa met)).nodes.length:=λx u h D=>by
  rw[PS j h D,nl];by_cases c:u = 0
  .rw[if_pos c];omega
  .rw[if_neg c];have:=eQ (((Bt j.M.nd).2 u).2 (D.resolve_left c));unfold nu;omega
 have a2:met.length<=200:=by
  have h1:met.length<=((List.range s.AC.length).map λ(i:Nat)=>(i:Int)).length:=Et j.M.nd λx K=>by
   obtain⟨t,A⟩:=j.M.th x K;obtain⟨m1,m2⟩:=BF A;have i:=G.inn (T.all t m1).1;rw[m2] at i;exact dc.2 ⟨x.toNat,fK.2 Z,Z⟩
  have h2:=G.len;have N:=G.ok.n1;simp at h1;omega
 refine⟨by rw[nl];omega,by show 1<=(s.AB.map _).length;rw[dN];omega,by show (s.AB.map _).length<=3;rw[dN];omega,by show (s.AJ.map _).length<=8;rw[dN];omega,λx K=>?_,λx K=>?_,λx K=>?_⟩
 .obtain⟨y,O,rfl⟩:=dc.1 (show x∈s.AJ.map (nmA l (Aa met)) from K);obtain⟨u,D,N⟩:=R y (eM _ O);obtain⟨q1,q2⟩:=H y u D N;refine⟨?_,q2⟩;have hm:=j.pin O;obtain⟨t,A⟩:=j.M.th y hm;obtain⟨m1,m2⟩:=BF A;have a3:=j.S.at16 t m1;have hn:now l y = some y:=by
   unfold now;rw[if_neg Z,A,fg,j.nw y hm t A]
  rw[PS j hn (.inr hm),if_neg Z];unfold nu;omega
 .obtain⟨a,ha,rfl⟩:=dc.1 (show x∈(Aa met).map (ndP l (Aa met)) from K);have Q:=((Bt j.M.nd).2 a).1 ha;obtain⟨t,A⟩:=j.M.th a Q;obtain⟨m1,m2⟩:=BF A;obtain⟨x1,x2⟩:=T.all t m1;obtain⟨n1,n2,_⟩:=E0 G x1;rw[<- x2] at n1 n2;have a0:=Ge s.AC t.at_;unfold BN at a0;simp only[z_b,z_d] at a0;unfold ndP;rw[A];dsimp only;refine⟨by rw[dN];omega,Z,λy O=>?_⟩;obtain⟨w,hw,rfl⟩:=dc.1 O;obtain⟨u,D,N⟩:=a1 a Q t A w hw;exact H w u D N
 .obtain⟨t,A,rfl⟩:=dc.1 (show x∈s.AB.map (λt=>t.AD.map (nmA l (Aa met))) from K);refine⟨by rw[dN];exact hr t A,λy O=>?_⟩;obtain⟨w,hw,rfl⟩:=dc.1 O;obtain⟨u,D,N⟩:=R w (dx _ (fi.2 ⟨t,A,hw⟩));exact H w u D N
end
section
variable {s s' : Ah} {l l' : List AQ} {met AI to tops:List Int}
theorem QP (h:StB 10 s) (a0:s.BK<=90000) (N:HpF s l met) (O:Od met AI) (j:DT s s' l AI to tops):StB 10 s':=by
 obtain⟨K,W⟩:=M5 N O j;have wl:=h.wl;have t1:=h.t1;have t0:=h.t0;have n0:=h.n0;have n1:=h.n1;have ml:=h.ml;have fl:=GN j;have tn:=j.tn;have A:s'.AB = s.AB.map (Cr l AI to):=EO j.hlen j.th;have y:s'.AJ = s.AJ:=by rw[j.eq]
 have hold:s'.old = []:=by rw[j.eq]
 have H:s'.AM = List.replicate s.AC.length false:=by rw[j.eq]
 have D:s'.BE = s.BE:=by rw[j.eq]
 have G:s'.BK = s.BK + 1:=by rw[j.eq]
 refine⟨Go.Lf.full_rn N O j h.wr Z,Z,Z,Z,λx hx=>?_,by rw[A,dN];exact n0,by rw[A,dN];exact n1,λt Q=>?_,by rw[y];exact h.pl,λa T=>h.pv a (by rw[<- y];exact T),by rw[hold];decide,by rw[H,dV,fl],by rw[D];exact h.cy,by rw[G];have:=h.fu;omega⟩
 .obtain⟨i,hi,rfl⟩:=dm hx;have e:rv s'.AA i = s'.AA[i]:=by
   unfold rv gv;simp only[dG,dI,dH hi,eI]
  rw[<- e];by_cases c:i = 0
  .subst c;have:=K.ok.e;rw[show ((0:Nat):Int) = 0 from rfl,this];exact⟨δ,δ⟩
  .have R:=K.ok.row i Z Z;have r0:=R.t0;have r1:=R.t1;omega
 .rw[A] at Q;obtain⟨u,hu,rfl⟩:=dc.1 Q;have:=h.rl u hu;unfold Cr;simp only[dN];exact this
theorem XA (Q:Hr l l' AI to) {a:Int} (y:a∈AI):szA l' (mvT AI to a) = szA l a:=by
 obtain⟨t,j,x⟩:=Q.th a y;rw[KA j,KA x]
theorem ND (x:HpF s l met) (O:Od met AI) (Q:Hr l l' AI to):DS l' (met.map (mvT AI to)) = DS l met:=by
 unfold DS;rw[fq];congr 1;exact eh λa j=>XA Q ((O.m a).2 j)
theorem Lw (hf:HpF s l met) (O:Od met AI) (K:DT s s' l AI to tops) (Q:Hr l l' AI to) (N : Thn s'.AC (bgF s l to) l') (j : HpF s' l' (met.map (mvT AI to))) (hp:s.AJ = []):JP l' = DS l' (met.map (mvT AI to)):=by
 have hnd:=j.S.nd;have R:JP l' = ((l'.map AQ.at_).map (szA l')).sum:=by
  unfold JP;rw[fq];congr 1;exact eh λt D=>(KA (DM hnd D)).symm
 rw[R];unfold DS;refine QD (List.Perm.map _ ?_);have A:∀x,x∈l'.map AQ.at_↔x∈met.map (mvT AI to):=λx=>by
  constructor
  .intro G;obtain⟨t,D,rfl⟩:=dc.1 G;rcases (N.all t D).1 with h | ⟨_,h⟩
   .obtain⟨a,H⟩:=GY K.hlen.symm h;have has:=(fB H).1;refine dc.2 ⟨a,(O.m a).1 has,?_⟩;obtain⟨i,hi,e⟩:=dm H;rw[gN] at e;have y:i < AI.length/\i < to.length:=by rw[gK] at hi;omega
    have T:AI[i] = a:=congrArg Prod.fst e;have W:to[i] = t.at_:=congrArg Prod.snd e;have hn:AI.Nodup:=O.nd;unfold mvT;rw[<- T,hn.idxOf_getElem i y.1,dI,dH y.2,eI,W]
   .rw[hp] at h;simp[Aj] at h
  .intro G;obtain⟨t,D⟩:=j.M.th x G;obtain⟨m1,m2⟩:=BF D;exact dc.2 ⟨t,m1,m2⟩
 exact (List.perm_ext_iff_of_nodup hnd j.M.nd).2 A
end
theorem Ed (r:Int):Aj [] r = false:=rfl
theorem KW {l:List AQ} {a:Int} {j tops:List Int} {r:Nat}:Ca [] l (a :: j) tops r =
  if nxt [] tops (CW l a) (tops.length + 1) r = tops.length then none else
  (Ca [] l j (tops.set (nxt [] tops (CW l a) (tops.length + 1) r) (tops.getD (nxt [] tops (CW l a) (tops.length + 1) r) 0 + CW l a)) (nxt [] tops (CW l a) (tops.length + 1) r)).map λq=>(tops.getD (nxt [] tops (CW l a) (tops.length + 1) r) 0 :: q.1,q.2):=by
 rw[MK,if_neg (by rw[Ed];decide)]
theorem X5 {tops:List Int} {n:Int}:∀(f r:Nat),r<=nxt [] tops n f r
 | 0,r=>z_n _
 | f + 1,r=>by
  unfold nxt;split
  .exact gX (eS r) (X5 f (r + 1))
  .exact z_n _
section
variable {s s' s2:Ah} {l l' : List AQ} {met to tops to2 tops2:List Int}
theorem OI:(Bl s).length = s.AA.length:=by unfold Bl;rw[dN,List.length_range]
theorem QZ (j:s.AJ = []) {q:Nat} (h:q < s.AA.length):(Bl s).getD q 0 = AK q:=by
 unfold Bl;rw[dI,eH,gI h,fg,eI,j,Ed,if_neg δ]
end
section
variable {AJ tops:List Int} {n:Int}
theorem Q4:∀(f r:Nat),tops.length < f + r->r<=tops.length->r<=nxt AJ tops n f r/\nxt AJ tops n f r<=tops.length/\(nxt AJ tops n f r < tops.length->Aj AJ (nxt AJ tops n f r) = false/\tops.getD (nxt AJ tops n f r) 0 + n<=AK (nxt AJ tops n f r) + 16)/\(nxt AJ tops n f r≠r->Aj AJ r = true\/AK r + 16 < tops.getD r 0 + n)
 | 0,r,h,h2=>Z
 | f + 1,r,h,h2=>by
  unfold nxt;by_cases c:r < tops.length/\(Aj AJ r = true\/AK r + 16 < tops.getD r 0 + n)
  .rw[if_pos c];obtain⟨i1,i2,i3,y⟩:=Q4 f (r + 1) Z Z;exact⟨Z,i2,i3,λ_=>c.2⟩
  .rw[if_neg c];refine⟨z_n _,h2,λj=>?_,λh=>absurd rfl h⟩;have c1:=λe=>c ⟨j,e⟩
   refine⟨?_,?_⟩
   .cases x:Aj AJ r with
    | true=>exact absurd (.inl x) c1
    | false=>rfl
   .exact Int.not_lt.1 λe=>c1 (.inr e)
end
end Sm
end
section
namespace Sm
open Go.Lf
def s0 (r t:Nat):Ah:=⟨(CU (List.replicate (r * 16) 0) 16 Bp).1,AT (AV r) 1 ⟨3,-1,24,24,0⟩,List.replicate (r * 16) false,0,false,false,false,0,List.replicate t ⟨[16],0,false,0⟩,[],[],0,0⟩
end Sm
namespace Go.Lf
open Go Sm
end Go.Lf
end
section
namespace Sm
end Sm
namespace Go.Lf
open Go Sm
section
variable {R:RM}
end
end Go.Lf
end
section
namespace Sm
end Sm
namespace Go.Lf
open Go Sm
section
variable {R:RM} {s:Sm.Ah} {wv tv mv thv ov pv:Value}
end
end Go.Lf
end
section
namespace Sm
open Go.Lf
def usd (t:List Rg) (q:Nat):Bool:=((rv t q).kind != 1) && ((rv t q).kind != 0)
section
variable {s s' : Ah} {l:List AQ} {met to tops:List Int}
theorem U5 (y:HpF s l met) {a:Int} (h:a∈met):16<=a/\1<=a / 16/\a / 16 < s.AA.length/\0 < CW l a/\a + CW l a<=16 * (a / 16) + 16/\usd s.AA (a / 16).toNat = true/\bgs l a/\CW l a = sz s.AC a:=by
 obtain⟨G,T,-⟩:=EW y.ths;obtain⟨t,A⟩:=y.M.th a h;obtain⟨D,j⟩:=BF A;obtain⟨N,O⟩:=T.all t D;have i:=G.inn N;have H:CW l a = sz s.AC a:=by
  unfold CW;rw[A];dsimp only;have x:=congrArg AQ.sh O;dsimp only[thg] at x;rw[x,j];rfl
 rw[j] at i;have R:=G.ok.row (a / 16) i.2.1 i.2.2.1;refine⟨i.1,i.2.1,i.2.2.1,Z,Z,?_,⟨t,D,j⟩,H⟩;have k1:(rv s.AA (a / 16)).kind≠1:=λe=>by have:=R.fr e;omega
 have k0:=R.k0;unfold usd;rw[show ((a / 16).toNat:Int) = a / 16 by omega];have K:(rv s.AA (a / 16)).kind≠0:=Z
 simp[k1,K]
end
theorem Uw {s s1 K:Ah} {l:List AQ} {x AI j to tops y A:List Int} (D:HpF s l x) (O:Od x AI) (N:DT s s1 l AI to tops) (H:Od x j) (Q:DT s K l j y A) :
  ∃l1 G,CD s1 = some (l1,x.map (mvT AI to))/\CD K = some (G,x.map (mvT j y))/\KJ (Ek (Gy s1 l1 (Aa (x.map (mvT AI to))))) (Ek (Gy K G (Aa (x.map (mvT j y))))) = true/\DS l1 (x.map (mvT AI to)) = DS G (x.map (mvT j y)):=by
 obtain⟨l1,W,T1,R⟩:=Jx D O N;obtain⟨G,h2,T2,T⟩:=Jx D H Q;refine⟨l1,G,W,h2,?_,by rw[ND D O R,ND D H T]⟩;rw[JH (Cq W),JH (Cq h2),Lz D O N R,Lz D H Q T];unfold KJ;simp
theorem QB {tops:List Int} {t:List Rg} {size:Int} (hl:t.length<=12) (h:Rel tops t) (hb:∀q:Int,1<=q->q < t.length->0<=(rv t q).top/\(rv t q).top<=1000) (y:0<=size/\size<=16):∀(n f r:Nat),1<=r->nxt [] tops size f r < t.length->t.length - r < n->t.length - r < f->FA [] t size n r = some ((nxt [] tops size f r:Nat):Int)
 | 0,f,r,_,_,h2,_=>Z
 | n + 1,0,r,_,_,_,h3=>Z
 | n + 1,f + 1,r,h0,h1,h2,h3=>by
  have g:=X5 (tops:=tops) (n:=size) (f + 1) r;have x:r < t.length:=Z
  obtain⟨A,D⟩:=hb r Z Z;unfold FA;rw[if_neg (by rw[Ed];decide),Cm Z Z];simp only[dP,z_o];rw[BQ Z Z];simp only[z_o];by_cases c:AK r + 16 < (rv t r).top + size
  .have e:nxt [] tops size (f + 1) r = nxt [] tops size f (r + 1):=by
    rw[nxt,if_pos ⟨by rw[h.1];exact x,.inr (by rw[h.2 r h0 x];exact c)⟩]
   rw[if_pos c,e];rw[e] at h1;exact QB hl h hb y n f (r + 1) Z h1 Z Z
  .have e:nxt [] tops size (f + 1) r = r:=by
    rw[nxt,if_neg];rintro⟨_,j | j⟩
    .rw[Ed] at j;cases j
    .rw[h.2 r h0 x] at j;exact c j
   rw[if_neg c,e]
theorem UK {tops:List Int} {t:List Rg} (h:Rel tops t) {r:Nat} (y:1<=r) (A:r < t.length) (row:Rg) {top:Int} (he:row.top = top):Rel (tops.set r top) (AT t r row):=by
 refine⟨by rw[eG,h.1];simp[AT],λq x j=>?_⟩;have j:q < t.length:=by simpa [AT] using j
 rw[DB Z Z Z,dI,gC];by_cases c:r = q
 .rw[if_pos c,if_pos (by rw[h.1];omega),if_pos Z,he];rfl
 .rw[if_neg c,if_neg Z,<- dI];exact h.2 q x j
theorem LU {l:List AQ}:∀(la tops:List Int) (r:Nat) (t:List Rg) (to A j : List Int),Ca [] l la tops r = some (A,j)->Rel tops t->t.length<=12->1<=r->r<=t.length->(∀a∈la,∃x,Ax l a = some x/\0<=AF x.sh/\AF x.sh<=16)->(∀q:Int,1<=q->q < t.length->0<=(rv t q).top/\(rv t q).top<=1000)->∃N,slide [] l la t r to = some (N,to ++ A)
 | [],tops,r,t,to,A,j,h,_,_,_,_,_,_=>by cases h;exact⟨t,by rw[eD];rfl⟩
 | a :: la,tops,r,t,to,A,j,h,hr,hl,h1,h2,hx,hb=>by
  obtain⟨x,O,s0,s1⟩:=hx a V;have K:CW l a = AF x.sh:=by unfold CW;rw[O]
  rw[KW,K] at h;have R:=hr.1;obtain⟨n1,n2,Q,-⟩:=Q4 (AJ:=[]) (tops:=tops) (n:=AF x.sh) (tops.length + 1) r Z Z;obtain⟨y,D⟩:∃y,y = nxt [] tops (AF x.sh) (tops.length + 1) r:=⟨_,rfl⟩;rw[<- D] at h n1 n2 Q;split at h
  .cases h
  have G:y < t.length:=Z
  obtain⟨-,n4⟩:=Q Z;rw[hr.2 y Z G] at h n4;obtain⟨b0,b1⟩:=hb y Z Z;have H:AK y = 16 * y:=Bq Z Z;obtain⟨q,T,e⟩:=gA.1 h;obtain⟨N,W⟩:=LU la _ y (AT t y { rv t y with kind:=3,top:=(rv t y).top + AF x.sh,BC:=(rv t y).top + AF x.sh }) (to ++ [(rv t y).top]) q.1 q.2 T (UK hr Z G _ rfl) (by simpa [AT] using hl) Z (by simp[AT];omega) (λb hb=>hx b (dh _ hb)) (λp p1 p2=>by
   have p2:p < t.length:=by simpa [AT] using p2
   rw[DB Z Z Z]
   split
   .dsimp only;omega
   .exact hb p p1 p2)
  refine⟨N,?_⟩;unfold slide;rw[O];simp only[dP,z_o];rw[if_neg (by rw[Ed];decide),QB hl hr hb ⟨s0,s1⟩ (t.length + 2) (tops.length + 1) r h1 (by rw[<- D];omega) Z Z,<- D];simp only[z_o];rw[Cm Z Z];simp only[z_o];rw[BQ Z Z];simp only[z_o];rw[W];have e:(rv t y).top :: q.1 = A:=congrArg Prod.fst e;rw[<- e];simp
def cdO (s:Ah):Option Ah:=match Dj s with
 | none=>none
 | some (l,met)=>if 0 < s.AJ.length then none else match Ca [] l met (Bl s) 1 with
  | none=>none
  | some _=>IB met s
theorem QE {s:Ah} (j:s.AJ = []):∀(l:List AQ) (w:List Int) (t:List Rg),stay s l w t = some (w,t)
 | [],w,t=>rfl
 | x :: l,w,t=>by
  unfold stay;dsimp only;rw[j,Ed,if_neg δ];exact QE j l w t
theorem Pf {s:Ah} {l:List AQ} {j to tops:List Int} (K:HpF s l j) (y:s.AJ = []) (hl:Ca [] l j (Bl s) 1 = some (to,tops)) (N:-900000<=s.BK/\s.BK<=900000):∃s',IB j s = some s'/\DT s s' l j to tops/\El l j to j to (List.replicate s.AC.length 0) = some s'.AC:=by
 obtain⟨G,T,O⟩:=EW K.ths;have n0:=G.ok.n0;have n1:=G.ok.n1;obtain⟨a0,a1,R⟩:=EA (n:=s.AA.length) Z Z;have tl:(AV (s.AA.length:Int)).length = s.AA.length:=Z
 have row:∀q:Int,1<=q->q < s.AA.length->(rv (AV s.AA.length) q).top = 16 * q:=λq D Q=>by rw[R q D Q,(Cu D Z).2]
 obtain⟨t2,H⟩:=LU j (Bl s) 1 (AV s.AA.length) [] to tops hl ⟨by rw[OI,tl],λq D Q=>by rw[QZ y Z,row q Z Z,Bq Z Z]⟩ Z (z_n 1) Z (λa ha=>by
   obtain⟨t,ht⟩:=K.M.th a ha
   obtain⟨z0,z1⟩:=EE t.sh
   exact⟨t,ht,z0,Z⟩) (λq D Q=>by rw[row q D Z];omega)
 have H:slide [] l j (AV s.AA.length) 1 [] = some (t2,to):=H;have A:=QE y l (List.replicate s.AC.length 0) (AV s.AA.length);obtain⟨s',to2,tops2,x,W⟩:=Qy K ⟨K.M.nd,λ_=>Iff.rfl⟩ (λw1 t1 h _ _ _=>by
  rw[A] at h
  cases h
  rw[y]
  exact⟨t2,to,H⟩) N
 have e:=W.ld;rw[y,hl] at e;cases e;refine⟨s',x,W,?_⟩;unfold IB at x;rw[O] at x;simp only[eI,dP] at x;rw[A] at x;simp only[z_o] at x;rw[y,H] at x;simp only[z_o,zl] at x;obtain⟨w2,h4,x⟩:=dF.1 x;obtain⟨ths,-,x⟩:=dF.1 x;obtain⟨fl,-,x⟩:=dF.1 x;cases x;exact h4
structure Tf (s:Ah) (l:List AQ) (met:List Int) (i r:Nat) (t:List Rg) (tops to:List Int):Prop where
 il:i<=met.length
 r1:1<=r
 rl:r < s.AA.length
 tl:t.length = s.AA.length
 ol:to.length = i
 re:Rel tops t
 e0:rv t 0 = De
 rw_:∀q:Int,1<=q->q < s.AA.length->rv t q = IZ [] q (rv t q).top/\16 * q<=(rv t q).top/\(rv t q).top<=16 * q + 16
 fr:∀q:Int,r < q->q < s.AA.length->(rv t q).top = 16 * q
 eq:Ca [] l met (Bl s) 1 = (Ca [] l (met.drop i) tops r).map λq=>(to ++ q.1,q.2)
theorem Uu {s:Ah} {l:List AQ} {y:List Int} (G:s.AJ = []) (n0:2<=s.AA.length) (n1:s.AA.length<=12):Tf s l y 0 1 (AV s.AA.length) (Bl s) []:=by
 obtain⟨H,D,A⟩:=EA (n:=s.AA.length) Z Z;have row:∀q:Int,1<=q->q < s.AA.length->(rv (AV s.AA.length) q).top = 16 * q:=λq j x=>by rw[A q j x,(Cu j Z).2]
 refine⟨Z,Z,Z,Z,rfl,⟨by rw[OI];omega,λq j x=>?_⟩,D,λq j x=>⟨?_,?_,?_⟩,λq j x=>row q Z x,?_⟩
 .rw[QZ G Z,row q Z Z,Bq Z Z]
 .rw[row q j x];unfold IZ;rw[if_neg,A q j x];rintro (c | c)
  .rw[Bq Z Z] at c;omega
  .rw[Ed] at c;cases c
 .rw[row q j x];omega
 .rw[row q j x];omega
 .rw[fG];cases Ca [] l y (Bl s) 1<;>simp
theorem V4 {tops:List Int} {n:Int} {r f:Nat} (x:r < tops.length) (hl:tops.length<=12) (j:r + 1 < tops.length->tops.getD (r + 1) 0 = 16 * (r + 1:Nat)) (y:n<=16):nxt [] tops n (f + 2) r = if tops.getD r 0 + n > 16 * r + 16 then r + 1 else r:=by
 rw[nxt,Bq (r:=r) Z Z];by_cases c:tops.getD r 0 + n > 16 * r + 16
 .rw[if_pos c,if_pos ⟨x,.inr Z⟩,nxt,if_neg];rintro⟨c1,c2 | c2⟩
  .rw[Ed] at c2;cases c2
  .rw[j c1,Bq Z Z] at c2;omega
 .rw[if_neg c,if_neg];rintro⟨_,c2 | c2⟩
  .rw[Ed] at c2;cases c2
  .omega
theorem Xu {s:Ah} {l:List AQ} {y:List Int} {i r j : Nat} {t:List Rg} {tops to:List Int} {x:AQ} (L:Tf s l y i r t tops to) (n1:s.AA.length<=12) (hi:i < y.length) (hx:Ax l y[i] = some x) (z0:0 < AF x.sh) (z1:AF x.sh<=16) (A : j = if (rv t r).top + AF x.sh > 16 * r + 16 then r + 1 else r) :
  (j = s.AA.length->Ca [] l y (Bl s) 1 = none)/\(j < s.AA.length->Tf s l y (i + 1) j (t.set j { rv t j with kind:=3,top:=(rv t j).top + AF x.sh,BC:=(rv t j).top + AF x.sh }) (tops.set j ((rv t j).top + AF x.sh)) (to ++ [(rv t j).top])):=by
 have a2:=L.rl;have h1:=L.r1;have tl:=L.tl;have tp:tops.length = s.AA.length:=by rw[L.re.1,tl]
 have e1:tops.getD r 0 = (rv t r).top:=L.re.2 r h1 Z;have T:nxt [] tops (CW l y[i]) (tops.length + 1) r = j:=by
  have H:CW l y[i] = AF x.sh:=by unfold CW;rw[hx]
  rw[H,show tops.length + 1 = (tops.length - 1) + 2 from Z,V4 Z Z (λc=>by rw[L.re.2 (r + 1) Z Z];exact L.fr ((r + 1:Nat):Int) Z Z) z1,A,e1]
 have D:=L.eq;rw[dQ hi,KW,T] at D;have H:CW l y[i] = AF x.sh:=by unfold CW;rw[hx]
 constructor
 .intro e;rw[D,if_pos Z];rfl
 intro R;rw[if_neg Z,H,L.re.2 j (by rw[A];split<;>omega) Z] at D;have K : 1<=j:=by rw[A];split<;>omega
 have a1:r<=j:=by rw[A];split<;>omega
 have a0:16 * (j : Int)<=(rv t j).top/\(rv t j).top + AF x.sh<=16 * j + 16:=by
  refine⟨(L.rw_ j Z Z).2.1,?_⟩;by_cases c:(rv t r).top + AF x.sh > 16 * r + 16
  .rw[if_pos c] at A;have:=L.fr j Z Z;omega
  .rw[if_neg c] at A;subst A;omega
 have Q:∀q:Int,0<=q->rv (t.set j { rv t j with kind:=3,top:=(rv t j).top + AF x.sh,BC:=(rv t j).top + AF x.sh }) q = if q = j then { rv t j with kind:=3,top:=(rv t j).top + AF x.sh,BC:=(rv t j).top + AF x.sh } else rv t q:=λq N=>by
  have:=DB (l:=t) (a:=j) (x:=q) (v:={ rv t j with kind:=3,top:=(rv t j).top + AF x.sh,BC:=(rv t j).top + AF x.sh }) Z Z N;simpa [AT] using this
 have G:=UK L.re K Z { rv t j with kind:=3,top:=(rv t j).top + AF x.sh,BC:=(rv t j).top + AF x.sh } rfl;simp only[AT,dG] at G;refine⟨hi,K,R,by rw[eG];exact tl,by rw[dK,L.ol];rfl,G,by rw[Q 0 Z,if_neg Z];exact L.e0,λq N O=>?_,λq N O=>?_,?_⟩
 .rw[Q q Z];by_cases c:q = j
  .subst c;rw[if_pos rfl];dsimp only;have e2:=(L.rw_ (j : Int) N O).1;refine⟨?_,Z,Z⟩;have W:(rv t j).AX = -1/\(rv t j).AI = 0:=by
    rw[e2];unfold IZ;split<;>exact⟨rfl,rfl⟩
   unfold IZ;rw[if_pos (.inl (by rw[Bq Z Z];omega)),W.1,W.2]
  .rw[if_neg c];exact L.rw_ q N O
 .rw[Q q Z,if_neg Z];exact L.fr q Z O
 .rw[D];cases Ca [] l (y.drop (i + 1)) (tops.set j ((rv t j).top + AF x.sh)) j with
  | none=>rfl
  | some q=>simp
theorem Ye {s:Ah} {l:List AQ} {j:List Int} {r:Nat} {t:List Rg} {tops to:List Int} (L:Tf s l j j.length r t tops to):Ca [] l j (Bl s) 1 = some (to,tops):=by
 rw[L.eq,List.drop_length];show some (to ++ [],tops) = _;rw[eD]
theorem YE {s y : Ah} {l:List AQ} {j:List Int} {r:Nat} {t:List Rg} {tops to:List Int} (G:s.AJ = []) (L:Tf s l j j.length r t tops to) (x:DT s y l j to tops):t = y.AA:=by
 have tl:=L.tl;have tn:=x.tn;have rg:∀(u:List Rg) (q:Nat) (h:q < u.length),rv u (q:Int) = u[q]:=λu q h=>by
  show gv De u q = _;unfold gv;rw[dG,dI,dH h];rfl
 refine fY Z λq A D=>?_
 rw[<- rg t q A,<- rg y.AA q D];by_cases c:q = 0
 .subst c;exact (L.e0).trans x.e0.symm
 .rw[(L.rw_ q Z Z).1,x.rw_ q Z Z,G,<- L.re.2 q Z Z,<- x.tl.2 q Z Z]
end Sm
end
section
namespace Sm
open Go.Lf
theorem Ss (u:List Rg) (q:Nat) (h:q < u.length):rv u (q:Int) = u[q]:=by
 show gv De u q = _;unfold gv;rw[dG,dI,dH h];rfl
theorem aM {l:List AQ} {AI to:List Int} {x z:Int} (h:now l x = some z):plc l AI to x = if BP AI z < 0 then 0 else to.getD (BP AI z).toNat 0:=by
 unfold plc BP;rw[h];dsimp only;by_cases c:z∈AI
 .rw[if_pos c,if_pos c,if_neg Z,dG]
 .rw[if_neg c,if_neg c,if_pos Z]
end Sm
namespace Go.Lf
open Go Sm
theorem bC {s s1 A:Sm.Ah} {l:List AQ} {AI j to tops y x:List Int} (D:DT s s1 l AI to tops) (G:DT s A l j y x) (a b c d e f:Value):eSt s1 a b c d e f = eSt A a b c d e f:=by
 unfold eSt;rw[D.eq,G.eq]
section st
variable {R:RM} {s:Sm.Ah} {wv tv mv thv ov pv:Value}
set_option maxHeartbeats 8000000 in
set_option maxRecDepth 8000 in
theorem Wn (h:SF R s wv tv mv thv ov pv):Fn P LY [.agg (eSt s wv tv mv thv ov pv).toArray] R [] (λv O A=>A = []/\QFd (cdO s) v O):=by
 refine TL λF=>?_
 refine z_1 ?_;have fu:=h.b.fu;have t0:=h.b.t0;have t1:=h.b.t1;have wl:=h.b.wl;have n0:=h.b.n0;have n1:=h.b.n1;have rl:=h.b.rl;have pl:=h.b.pl;have t6:=h.b.pv;refine ja λsb=>B9 (b:=sb) λR0 f4 a6=>ja λgb=>?_
 have h:=h.le f4;have a6:R0 sb = some (C 50 (eSt s wv tv mv thv ov pv)):=a6;refine jor [Pt sb,Pt gb] (Dj s).isNone (λK' a5=>?_) (λe c u ho he=>?_)
 .refine DR a6 (z_n 13) rfl (jrp (Ul h) ?_);cases hh:CD s with
  | none=>
   refine jtf (a5 _ _ _ DN ?_);unfold Dj;rw[hh];split<;>rfl
  | some q=>
   refine jff (DR a6 (z_n 13) rfl (jrp (XE h) (a5 _ _ _ CH ?_)));unfold Dj;rw[hh,Bool.not_not];cases s.AB.any (·.busy)<;>rfl
 refine z_V ?_;obtain⟨pa,pc,s4⟩:=h.c.p.sl;refine jor [Pt sb,Pt gb] (((Dj s).isNone) || (decide ((s.AJ.length:Int) > 0))) (λK' a5=>?_) (λe c u ho he=>?_)
 .rw[ho];refine jgO a5 λh1 hN=>jfo (jlr a6 rfl (Bf ⟨pa,pc,s4⟩ (jgr hN)))
 refine z_V ?_;obtain⟨c7,a0⟩:∃c7,c7 = ((Dj s).isNone || decide ((s.AJ.length:Int) > 0)):=⟨_,rfl⟩;rw[<- a0] at ho;refine jor [Pt sb,Pt gb] c7 (λK' a5=>?_) (λe c u s3 he=>?_)
 .rw[ho];refine FB (λg=>?_) (λg=>?_)
  .rw[g];exact jfo (jlr a6 rfl (jlt (a5 _ _ _ CH (by rw[g];exact decide_eq_false Z))))
  .rw[g];exact a5 _ _ _ DN g.symm
 refine z_V ?_;refine jor [Pt sb,Pt gb] c7 (λK' a5=>?_) (λe c u j2 he=>?_)
 .rw[s3];refine FB (λg=>?_) (λg=>?_)
  .rw[g];exact jfo (jlr a6 rfl (jgr (a5 _ _ _ CH (by rw[g];exact decide_eq_false Z))))
  .rw[g];exact a5 _ _ _ DN g.symm
 refine z_V ?_;rw[j2];have f3:∀{O},cdO s = none->QFd (cdO s) (.tuple #[z50,.bool false]) O:=λe=>by rw[e];rfl
 cases hb:c7 with
 | true=>
  refine DG (jbd rfl rfl (js rfl rfl (dM rfl) rfl (jla (dM rfl) rfl (Ao f4 ⟨rfl,?_⟩))));refine f3 ?_;rw[hb] at a0;unfold cdO;cases hc:Dj s with
  | none=>rfl
  | some q=>
   rw[hc] at a0;have:0 < s.AJ.length:=by have:=z_f (show decide ((s.AJ.length:Int) > 0) = true from a0.symm);omega
   obtain⟨l,met⟩:=q;show (if 0 < s.AJ.length then none else _) = none;rw[if_pos this]
 | false=>
 rw[hb] at a0;cases hc:Dj s with
 | none=>rw[hc] at a0;cases a0
 | some q=>
 obtain⟨l,met⟩:=q;rw[hc] at a0;have hp:s.AJ = []:=dy.1 (by have:=z_g (show decide ((s.AJ.length:Int) > 0) = false from a0.symm);omega);have m2:cdO s = match Ca [] l met (Bl s) 1 with | none=>none | some _=>IB met s:=by
  unfold cdO;rw[hc];show (if 0 < s.AJ.length then none else _) = _;rw[if_neg (by rw[hp];decide)]
 have hh:CD s = some (l,met):=by
  unfold Dj at hc;split at hc
  .cases hc
  .exact hc
 have hf:=Cq hh;have s8:=ZL hf;obtain⟨w7,o8⟩:=Ho h hf.ths;have w8:met.length<=193:=by have:=Hf hf.re;omega
 refine CQ (DR a6 (z_n 13) rfl (jc (A:=[]) (IL h.c Z Z) ?_));rintro _ R1 _ h6 ⟨rfl,hq⟩;rw[s8] at hq;obtain⟨lv,m3,rfl⟩:=hq;have h1:=h.le h6;refine jex rfl (jex rfl (DR (h6 _ _ a6) (z_n 13) rfl ?_));refine jc (A:=[]) (Ky h1.c m3 Z hf.re Z (λt ht=>by have:=rl t ht;omega) Z (λt ht=>by have:=(o8 t ht).2.2.1;omega)) ?_;rintro v8 R2 A8 h7 u5;refine Dv u5 λR5 h9 i5=>?_
 have c9:=h6.trans (h7.trans h9);have h5:=h1.le (h7.trans h9);have e7:=m3.le (h7.trans h9);have f2:=c9 _ _ a6;refine jfo (jlr f2 rfl (Bf h5.c.t.sl ?_));refine jmk (Ip (s.AA.length:Int)) ?_;intro y4 N e9;unfold WH at e9;have j9:(AV (s.AA.length:Int)).length = s.AA.length:=by
  unfold AV;rw[if_neg Z];simp;omega
 rw[if_neg (by intro hn;rw[hn] at j9;simp at j9;omega)] at e9;obtain⟨sv,⟨bt,ct,tsp,r3,rfl,rfl⟩,rfl⟩:=e9;rw[j9] at r3 ⊢;refine jex rfl (jex rfl (jfo (jlr f2 rfl (Bf h5.c.w.sl (jms Z Z Z λbw=>?_)))));rw[dG];have t3:(List.replicate s.AC.length (cl z3)).flatten = (List.replicate s.AC.length (0:Int)).map I ++ []:=by
  rw[show cl z3 = [I 0] from rfl];simp[fx]
 rw[t3];obtain⟨T,hT⟩:∃T,T = S0 bt s.AA.length ct:=⟨_,rfl⟩;obtain⟨W,hW⟩:∃W,W = Value.slice (some ⟨bw,0,none⟩) s.AC.length s.AC.length:=⟨_,rfl⟩;obtain⟨y5,hZ⟩:∃y5:List Int,y5 = List.replicate s.AC.length 0:=⟨_,rfl⟩;have p7:y5.length = s.AC.length:=by rw[hZ,dV]
 rw[<- hT,<- hW,<- hZ];obtain⟨E,hE⟩:∃E:Chs,E = (gb,C 50 (cl z50)) :: ([] ++ F):=⟨_,rfl⟩;refine B8 (D':=[] ++ ((bw,C Ab (y5.map I ++ [])) :: (bt,C AO (Ad eRg (AV (s.AA.length:Int)) ++ tsp)) :: E)) (by rw[hE];exact eK _) ?_;refine jci (λq:List Rg × List Int × List Int × Value × Chs=>[Pt sb,Pt gb,lv,v8,T,W,q.2.2.2.1])
  (λq=>q.2.2.2.2 ++ ((bw,C Ab (y5.map I ++ [])) :: (bt,C AO (Ad eRg q.1 ++ tsp)) :: E))
  (λO q=>O = R5/\(∃r,Tf s l met met.length r q.1 q.2.1 q.2.2.1)/\SO q.2.2.1 q.2.2.2.1 q.2.2.2.2) (λK1 k1=>?_) ?_
 .refine jiI k1 λK2 k2=>?_
  refine jli (λi:Nat × Nat × List Rg × List Int × List Int × Value × Chs=>met.length - i.1) (λi=>[Pt sb,Pt gb,lv,v8,T,W,i.2.2.2.2.2.1,I i.2.1,I i.1])
   (λi=>i.2.2.2.2.2.2 ++ ((bw,C Ab (y5.map I ++ [])) :: (bt,C AO (Ad eRg i.2.2.1 ++ tsp)) :: E))
   (λO i=>O = R5/\Tf s l met i.1 i.2.1 i.2.2.1 i.2.2.2.1 i.2.2.2.2.1/\SO i.2.2.2.2.1 i.2.2.2.2.2.1 i.2.2.2.2.2.2)
   (0,1,AV s.AA.length,Bl s,[],SN,[]) ⟨rfl,Uu hp t0 t1,.inl ⟨rfl,rfl,rfl⟩⟩ rfl rfl ?_
  rintro K e O ⟨i,r,tt,tops,u8,v,A⟩ ⟨hR,L,so⟩ he hK;subst hR;dsimp only at L so he hK ⊢;refine z_V ?_;refine Bf i5.sl (jlt (jif (λc=>?_) (λc=>?_)));rotate_left
  .have e2:i = met.length:=by have:=z_g c;have:=L.il;omega
   subst e2;exact k2 O (tt,tops,u8,v,A) ⟨rfl,⟨r,L⟩,so⟩
  have c:i < met.length:=by have:=z_f c;omega
  obtain⟨x,hx⟩:=hf.M.th _ (dL c);have hu:=U5 hf (dL c);have x2:CW l met[i] = AF x.sh:=by unfold CW;rw[hx]
  obtain⟨k,hk,j0,rfl⟩:=Ei hx;refine Bk i5 Z Z ?_;rw[getElem_congr_idx (dG i)];refine jro (Do _ e7 Z) ?_;rw[j0];refine Zc e7 hk (jp (CN (l[k]).sh) ?_);obtain⟨u6,u7⟩:=EE (l[k]).sh;obtain⟨r',b8⟩:∃r',r' = if (rv tt r).top + AF (l[k]).sh > 16 * r + 16 then r + 1 else r:=⟨_,rfl⟩
  obtain⟨Ln,Ls⟩:=Xu L t1 c hx Z Z b8;have s7:=L.rl;have y0:=L.tl;have x1:=L.r1;have i9:r < tt.length:=Z
  have f1:=(L.rw_ r Z Z).2;have w1:AK r = 16 * r:=Bq Z Z;rw[Ss tt r i9] at b8 f1;refine Bv [Pt sb,Pt gb,lv,v8,T,W,v,I r',I i,I (AF (l[k]).sh)] (λK3 k3=>?_) (λe he=>?_)
  .subst hT;refine C0 s7 (jfo (jl (v:=I (tt[r]).top) (by rw[da];exact C6 (f:=2) i9 rfl) (jad (jp (BX r) (jad (jgr (Ak (jl (v:=I (tt[r]).top) (by rw[da];exact C6 (f:=2) i9 rfl) jev) (jif (λg=>?_) (λg=>?_)))))))))
   .have g:=z_f g;rw[if_pos Z] at b8;subst b8;exact jad k3
   .have g:=z_g g;rw[if_neg Z] at b8;subst b8;exact k3
  refine z_V ?_;subst hT;refine jln (jeq (jif (λg=>?_) (λg=>?_)))
  .have g:r' = s.AA.length:=by have:=eq_of_beq g;omega
   subst hE;refine jbd (cs:=cl z50) rfl rfl (jS (cl z50) (jla (l:=cl z50) (dM rfl) rfl ?_));exact Ao (A:=[]) (f4.trans c9) ⟨rfl,f3 (by rw[m2,Ln g])⟩
  have g:r' < s.AA.length:=by
   have:=ne_of_beq_false g;rw[b8] at this ⊢;split<;>rename_i h2
   .rw[if_pos h2] at this;omega
   .omega
  have L':=Ls g;have f6:r' < tt.length:=Z
  have v2:=L'.r1;rw[Ss tt r' f6] at L';obtain⟨row,ey⟩:∃row,tt[r'] = row:=⟨_,rfl⟩;have n7:=(L.rw_ r' Z Z).2;rw[Ss tt r' f6,ey] at n7;rw[ey] at L';obtain⟨size,j8⟩:∃size,size = AF (l[k]).sh:=⟨_,rfl⟩;rw[<- j8] at L' u6 u7 ⊢;refine C0 g (Lb f6 ?_);rw[ey];refine ja λb5=>?_
  refine js (cs':=eRg row) rfl rfl V rfl ?_;refine jfo (jl (v:=I row.top) rfl ?_);refine jbs (cs:=[I row.top]) rfl rfl λb4=>?_
  refine Gw (A:=A) so (by have:=L.ol;omega) λv' A' c0=>?_
  refine jfo (js (cs':=eRg { row with kind:=3 }) rfl rfl V rfl ?_);refine jfo (jl (v:=I row.top) rfl (jad ?_));refine jfo (js (cs':=eRg { row with kind:=3,top:=row.top + size }) rfl rfl V rfl ?_);refine jfo (jl (v:=I (row.top + size)) rfl ?_);refine jfo (js (cs':=eRg { row with kind:=3,top:=row.top + size,BC:=row.top + size }) rfl rfl V rfl ?_);refine jla (l:=eRg { row with kind:=3,top:=row.top + size,BC:=row.top + size }) V rfl ?_;refine C0 g (Gl (t:=tt) (x:={ row with kind:=3,top:=row.top + size,BC:=row.top + size }) f6 ?_);refine Al A' (G:=(bw,C Ab (y5.map I ++ [])) :: (bt,C AO (Ad eRg (tt.set r' { row with kind:=3,top:=row.top + size,BC:=row.top + size }) ++ tsp)) :: E) ?_;exact jad (hK O (i + 1,r',_,_,_,v',A') (by dsimp only;omega) ⟨rfl,L',c0⟩)
 rintro e O ⟨t2,tops,H,v,A⟩ ⟨hR,⟨r,L⟩,so⟩ he;subst hR;dsimp only at L so he ⊢;refine z_V ?_;have f7:=Ye L;obtain⟨s',r4,F1,e8⟩:=Pf hf hp f7 Z;obtain rfl:=YE hp L F1;have n8:=F1.hlen;have t4:=GN F1;have s2:s'.AM = List.replicate s.AC.length false:=by rw[F1.eq]
 rw[<- hZ] at e8;subst hW hT;refine Dv so λR8 d1 a3=>?_
 have h8:=h5.le d1;have c6:=e7.le d1;have c5:=i5.le d1;have g7:=d1 _ _ f2;refine jci (λ_:Unit=>[Pt sb,Pt gb,lv,v8,S0 bt s.AA.length ct,S0 bw s.AC.length s.AC.length,v]) (λ_=>(bw,C Ab (s'.AC.map I ++ [])) :: (bt,C AO (Ad eRg s'.AA ++ tsp)) :: E) (λO _=>O = R8) (λK1 k1=>?_) ?_
 .refine jiI k1 λK2 k2=>?_
  refine jli (λi:Nat × List Int=>met.length - i.1) (λi=>[Pt sb,Pt gb,lv,v8,S0 bt s.AA.length ct,S0 bw s.AC.length s.AC.length,v,I i.1]) (λi=>(bw,C Ab (i.2.map I ++ [])) :: (bt,C AO (Ad eRg s'.AA ++ tsp)) :: E) (λO i=>O = R8/\i.1<=met.length/\i.2.length = s.AC.length/\El l met H (met.drop i.1) (H.drop i.1) i.2 = some s'.AC) (0,y5) ⟨rfl,V,p7,by rw[fG,fG];exact e8⟩ rfl rfl ?_;rintro K e O ⟨i,w⟩ ⟨hR,hi,t5,Q⟩ he hK;subst hR;dsimp only at hi t5 Q he hK ⊢;refine z_V ?_;refine Bf c5.sl (jlt (jif (λhc=>?_) (λhc=>?_)));rotate_left
  .have hc:=z_g hc;rw[dT Z] at Q;have:w = s'.AC:=by unfold El at Q;simpa using Q
   rw[this];exact k2 O () rfl
  have hc:i < met.length:=by have:=z_f hc;omega
  rw[dQ hc,dQ (show i < H.length by omega)] at Q;unfold El at Q;obtain⟨x,hx,Q⟩:=AG Q;obtain⟨k,hk,j0,rfl⟩:=Ei hx;obtain⟨wa,n9,Q⟩:=AG Q;obtain⟨wb,o2,Q⟩:=AG Q;obtain⟨wc,o4,Q⟩:=AG Q;obtain⟨wd,h3,Q⟩:=AG Q;refine jci (λ_:Unit=>[Pt sb,Pt gb,lv,v8,S0 bt s.AA.length ct,S0 bw s.AC.length s.AC.length,v,I i]) (λ_=>(bw,C Ab (wd.map I ++ [])) :: (bt,C AO (Ad eRg s'.AA ++ tsp)) :: E) (λR3 _=>R3 = O/\wd.length = s.AC.length) (λK3 k3=>?_) ?_;rotate_left
  .rintro e R3 _ ⟨hR,f7⟩ he;subst hR;refine z_V ?_;exact jad (hK _ (i + 1,wd) (by dsimp only;omega) ⟨rfl,hc,f7,Q⟩)
  refine jiI k3 λK4 k4=>?_
  obtain⟨y,hy⟩:∃y,H[i]'(Z) = y:=⟨_,rfl⟩;rw[hy] at n9 o2 o4 h3;obtain⟨q1,q2,q3⟩:=ES n9;obtain⟨q4,q5,q6⟩:=ES o2;obtain⟨-,-,tr,tn⟩:=o8 _ (dL hk);have w3:wa.length = w.length:=by rw[q3,eG]
  have w4:wb.length = wa.length:=by rw[q6,eG]
  have ty:H[((i:Nat):Int).toNat]'(Z) = y:=by rw[<- hy];exact getElem_congr_idx (dG i)
  refine Bk c5 Z Z ?_;rw[getElem_congr_idx (dG i)];refine jro (Do _ c6 Z) ?_;rw[j0];refine jtg c6 hk λb3 o3 y1 v7 rv nv n3 m6 p8 j2 j3=>?_
  obtain⟨ra,rc,rfl⟩:=n3.sl;obtain⟨na,nc,rfl⟩:=m6.sl;refine DR p8 j2 j3 (ja λa8=>?_);refine jS (eTh l[k] (.slice ra l[k].refs.length rc) (.slice na l[k].nums.length nc)) ?_;refine Bk a3 Z Z (Bk a3 Z Z ?_);rw[ty];refine jia q1 Z (jsi (l:=w) (sp:=[]) Z ?_);rw[<- q3];refine Xe a3 Z Z λq hq=>hq _ _ ?_
  rw[ty] at hq ⊢;refine jad (jfo (jla (t:=BL) (cs:=eTh l[k] (.slice ra l[k].refs.length rc) (.slice na l[k].nums.length nc)) (l:=[I l[k].sh.refs,I l[k].sh.nums]) (by exact (by decide:4<=6)) rfl (jp (EN l[k].sh) ?_)));refine jia q4 Z (Ak (hq _ _ jev) (jsi (l:=wa) (sp:=[]) Z ?_));rw[<- q6];refine jci (λ_:Unit=>[Pt sb,Pt gb,lv,v8,S0 bt s.AA.length ct,S0 bw s.AC.length s.AC.length,v,I i,Pt a8]) (λ_=>(a8,C BL (eTh l[k] (.slice ra l[k].refs.length rc) (.slice na l[k].nums.length nc))) :: (bw,C Ab (wc.map I ++ [])) :: (bt,C AO (Ad eRg s'.AA ++ tsp)) :: E) (λR3 _=>R3 = O/\wc.length = s.AC.length) (λK6 k6=>?_) ?_
  .refine jiI k6 λK7 k7=>?_
   refine jli (λj:Nat × List Int=>l[k].refs.length - j.1) (λj=>[Pt sb,Pt gb,lv,v8,S0 bt s.AA.length ct,S0 bw s.AC.length s.AC.length,v,I i,Pt a8,I j.1]) (λj=>(a8,C BL (eTh l[k] (.slice ra l[k].refs.length rc) (.slice na l[k].nums.length nc))) :: (bw,C Ab (j.2.map I ++ [])) :: (bt,C AO (Ad eRg s'.AA ++ tsp)) :: E) (λR3 j=>R3 = O/\j.1<=l[k].refs.length/\j.2.length = s.AC.length/\F3 l met H j.2 (y + 2 + j.1) (l[k].refs.drop j.1) = some wc) (0,wb) ⟨rfl,V,by dsimp only;omega,by simpa using o4⟩ rfl rfl ?_;rintro K8 e R3 ⟨j,w5⟩ ⟨hR,hj,a9,D⟩ he c8;subst hR;dsimp only at hj a9 D he c8 ⊢;refine z_V ?_;refine jfo (jl (v:=.slice ra l[k].refs.length rc) rfl (jln (jlt (jif (λhd=>?_) (λhd=>?_)))));rotate_left
   .have hd:=z_g hd;rw[dT Z] at D;have:w5 = wc:=by unfold F3 at D;simpa using D
    rw[this];exact k7 _ () ⟨rfl,by rw[<- this];exact a9⟩
   have hd:j < l[k].refs.length:=by have:=z_f hd;omega
   rw[dQ hd] at D;unfold F3 at D;obtain⟨z,hz,D⟩:=AG D;obtain⟨w6,b0,D⟩:=AG D;refine jci (λ_:Unit=>[Pt sb,Pt gb,lv,v8,S0 bt s.AA.length ct,S0 bw s.AC.length s.AC.length,v,I i,Pt a8,I j]) (λ_=>(a8,C BL (eTh l[k] (.slice ra l[k].refs.length rc) (.slice na l[k].nums.length nc))) :: (bw,C Ab (w6.map I ++ [])) :: (bt,C AO (Ad eRg s'.AA ++ tsp)) :: E) (λR4 _=>R4 = R3/\w6.length = s.AC.length) (λK9 k9=>?_) ?_;rotate_left
   .rintro e R4 _ ⟨hR,r7⟩ he;subst hR;refine z_V ?_;exact jad (c8 _ (j + 1,w6) (by dsimp only;omega) ⟨rfl,hd,r7,by rw[<- D];congr 1;omega⟩)
   refine jiI k9 λK10 k10=>?_
   refine jfo (jl (v:=.slice ra l[k].refs.length rc) rfl (Bk n3 Z Z ?_));rw[getElem_congr_idx (dG j)];refine jro (Fp c6 Z hz) (jro (Gi z (Ay.rd c5) Z) (jge (jif (λh0=>?_) (λh0=>?_))))
   .have h0:=z_f h0;rw[if_pos Z] at b0;obtain⟨u,hu,b0⟩:=AG b0;obtain⟨u0,u1,u2,u3⟩:=Av hu;obtain⟨p1,p2,p3⟩:=ES b0;refine Bk a3 Z Z ?_;rw[ty];refine jad (jad (Bk a3 u0 u1 ?_));rw[u3];refine jia p1 Z (jsi (l:=w5) (sp:=[]) Z ?_);rw[<- p3];exact k10 _ () ⟨rfl,by rw[p3,eG];exact a9⟩
   .have h0:=z_g h0;rw[if_neg Z] at b0;have:w5 = w6:=by simpa using b0
    subst this;exact k10 _ () ⟨rfl,a9⟩
  rintro e R3 _ ⟨hR,r9⟩ he;subst hR;refine z_V ?_;refine jiI k4 λK7 k7=>?_
  refine jli (λj:Nat × List Int=>l[k].nums.length - j.1) (λj=>[Pt sb,Pt gb,lv,v8,S0 bt s.AA.length ct,S0 bw s.AC.length s.AC.length,v,I i,Pt a8,I j.1]) (λj=>(a8,C BL (eTh l[k] (.slice ra l[k].refs.length rc) (.slice na l[k].nums.length nc))) :: (bw,C Ab (j.2.map I ++ [])) :: (bt,C AO (Ad eRg s'.AA ++ tsp)) :: E) (λR4 j=>R4 = R3/\j.1<=l[k].nums.length/\j.2.length = s.AC.length/\wrs j.2 (y + 2 + l[k].refs.length + j.1) (l[k].nums.drop j.1) = some wd) (0,wc) ⟨rfl,V,r9,by simpa using h3⟩ rfl rfl ?_;rintro K8 e R4 ⟨j,w5⟩ ⟨hR,hj,a9,D⟩ he c8;subst hR;dsimp only at hj a9 D he c8 ⊢;refine z_V ?_;refine jfo (jl (v:=.slice na l[k].nums.length nc) rfl (jln (jlt (jif (λhd=>?_) (λhd=>?_)))));rotate_left
  .have hd:=z_g hd;rw[dT Z] at D;have:w5 = wd:=by unfold wrs at D;simpa using D
   rw[this];exact BV (k7 _ () ⟨rfl,by rw[<- this];exact a9⟩)
  have hd:j < l[k].nums.length:=by have:=z_f hd;omega
  rw[dQ hd] at D;unfold wrs at D;obtain⟨w6,b0,D⟩:=AG D;obtain⟨p1,p2,p3⟩:=ES b0;refine Bk a3 Z Z ?_;rw[ty];refine jad (jfo (jl (v:=.slice ra l[k].refs.length rc) rfl (jln (jad (jad ?_)))));refine jfo (jl (v:=.slice na l[k].nums.length nc) rfl (Bk m6 Z Z ?_));rw[getElem_congr_idx (dG j)];refine jia p1 Z (jsi (l:=w5) (sp:=[]) Z (jad ?_));rw[<- p3];exact c8 _ (j + 1,w6) (by dsimp only;omega) ⟨rfl,hd,by rw[p3,eG];exact a9,by rw[<- D];congr 1;omega⟩
 rintro e O _ hR he;subst hR;refine z_V ?_;obtain⟨sF,u9,v0,FF0,FF⟩:=Ob hf Z;refine DR g7 (z_n 13) rfl ?_;refine jc (A:=[]) (OH h8.c Z t0 t1 Z (λt ht=>by have:=rl t ht;omega) Z (λa ha=>by have:=t6 a ha;unfold AN;split<;>omega) FF0) ?_;rintro _ R9 _ p6 ⟨o9,v6,p4,l3,v5,l4,bm,v4,x7,rows,A',e1,e2,e3,e4,e5,f1,u4,m9,rfl,rfl⟩;have f0:rows.length = s.AB.length:=by rw[f1.1,IV FF.th]
 have s6:∀r∈rows,r.length = 4:=f1.all λ_ _=>Cd.len
 rcases u4 with ⟨e6,_,_⟩ | ⟨bh,ch,hsp,i4,v1,rfl,rfl⟩
 .rw[e6] at f0;simp at f0;omega
 obtain⟨qa,qc,rfl⟩:=m9.sl;rw[f0] at i4 ⊢;have g4:sF.AM = s'.AM:=by rw[s2,FF.eq]
 have m8:sF.AJ = s'.AJ:=by rw[F1.eq,FF.eq]
 have m5:s'.AB = s.AB.map (Cr l met H):=EO n8 F1.th;have g5:sF.AB = s.AB.map (Cr l (Aa met) u9):=EO FF.hlen FF.th;have g6:s'.AB.length = s.AB.length:=by rw[m5,dN]
 refine B9 (b:=bm) λR10 g0 q8=>?_
 refine Al [(bh,C 117 (rows.flatten ++ hsp)),(bw,C Ab (s'.AC.map I ++ [])),(bt,C AO (Ad eRg s'.AA ++ tsp))] (G:=E) ?_;rw[bC FF F1,g4,m8];refine ja λb9=>?_
 refine jS (eSt s' (S0 o9 sF.AC.length p4) (S0 l3 sF.AA.length l4) (S0 bm s'.AM.length s'.AM.length) (S0 bh s.AB.length ch) (SN) (.slice qa s'.AJ.length qc)) ?_;refine jfo (jS (eSt s' (S0 bw s.AC.length s.AC.length) (S0 l3 sF.AA.length l4) (S0 bm s'.AM.length s'.AM.length) (S0 bh s.AB.length ch) (SN) (.slice qa s'.AJ.length qc)) ?_);refine jfo (jS (eSt s' (S0 bw s.AC.length s.AC.length) (S0 bt s.AA.length ct) (S0 bm s'.AM.length s'.AM.length) (S0 bh s.AB.length ch) (SN) (.slice qa s'.AJ.length qc)) ?_);obtain⟨S9,d2⟩:∃S9,S9 = eSt s' (S0 bw s.AC.length s.AC.length) (S0 bt s.AA.length ct) (S0 bm s'.AM.length s'.AM.length) (S0 bh s.AB.length ch) (SN) (.slice qa s'.AJ.length qc):=⟨_,rfl⟩;have d3:S9[0 + 8]? = some (S0 bh s.AB.length ch):=by rw[d2];rfl
 rw[<- d2];obtain⟨E9,l6⟩:∃E9:Chs,E9 = (bw,C Ab (s'.AC.map I ++ [])) :: (bt,C AO (Ad eRg s'.AA ++ tsp)) :: E:=⟨_,rfl⟩;refine B8 (D':=(bh,C 117 (rows.flatten ++ hsp)) :: (b9,C 50 S9) :: E9) (by rw[l6];exact fF _ _ _) ?_;have a1:=p6.trans g0;have p5:=h8.le a1;have j1:=c6.le a1;have i6:=c5.le a1;have f5:=a3.le a1;have j7:=a1 _ _ g7;obtain⟨r2,-⟩:=hf.closed;refine jci (λ_:List (List Value)=>[Pt gb,Pt b9]) (λq=>(bh,C 117 (q.flatten ++ hsp)) :: (b9,C 50 S9) :: E9) (λO q=>R10.le O/\Rw (Cd O) q s'.AB) (λK1 k1=>?_) ?_
 .refine jiI k1 λK2 k2=>?_
  refine jli (λi:Nat × List (List Value)=>s.AB.length - i.1) (λi=>[Pt sb,Pt gb,lv,v8,v,Pt b9,I i.1]) (λi=>(bh,C 117 ((i.2 ++ rows.drop i.1).flatten ++ hsp)) :: (b9,C 50 S9) :: E9) (λO i=>R10.le O/\i.1<=s.AB.length/\Rw (Cd O) i.2 (s'.AB.take i.1)) (0,[]) ⟨RM.le.refl _,V,Rw.nil⟩ rfl rfl ?_;rintro K e Ra ⟨i,rh⟩ ⟨b2,hi,a4⟩ he hK;dsimp only at hi a4 he hK ⊢;refine z_V ?_;refine jfo (jl d3 (jln (jlt (jif (λc=>?_) (λc=>?_)))));rotate_left
  .have c:=z_g c;rw[dO Z] at a4;rw[dT Z,eD];exact k2 Ra rh ⟨b2,a4⟩
  have c:i < s.AB.length:=by have:=z_f c;omega
  have v3:rh.length = i:=by rw[a4.1,dU];omega
  have n2:∀r∈rh,r.length = 4:=a4.all λ_ _=>Cd.len
  have Bp:∀r∈rh ++ rows.drop i,r.length = 4:=λr hr=>by
   rcases dg.1 hr with g1 | g1
   .exact n2 r g1
   .exact s6 r (fS g1)
  have i7:i < (rh ++ rows.drop i).length:=by rw[dK,eO];omega
  have x4:=rl _ (dL c);obtain⟨l2,f8,n4⟩:=f1.2 i Z (by rw[g5,dN];exact c);simp only[g5,fQ] at f8;have r5:(rh ++ rows.drop i)[i]'i7 = [l2,I (s.AB[i]).next,.bool false,I (Cr l met H s.AB[i]).Am]:=by
   rw[fD Z,fT];rw[show rows[i + (i - rh.length)]'(Z) = rows[i]'(Z) from getElem_congr_idx Z,f8];rfl
  have Em:∀y:List Value,(rh ++ rows.drop i).set i y = (rh ++ [y]) ++ rows.drop (i + 1):=λy=>by
   rw[fH _ _ Z,dQ (show i < rows.length by omega),show i - rh.length = 0 from Z,dS];rfl
  have w2:i * 4 + 4<=((rh ++ rows.drop i).flatten ++ hsp).length:=by
   rw[dK,Br Bp,<- gj];exact gX (ff 4 Z) (Nat.le_add_right _ _)
  obtain⟨xa,xn,xc,j6⟩:∃a n c,l2 = .slice a n c:=by obtain⟨a,c,h⟩:=n4.sl;exact⟨a,_,c,h⟩
  refine jfo (jl d3 (C0 c (jla (l:=[l2,I (s.AB[i]).next,.bool false,I (Cr l met H s.AB[i]).Am]) Z (by rw[da,Fe i i7 Bp];exact r5) ?_)));refine ja λb1=>?_
  rw[j6];refine jS ([.slice xa xn xc,I (s.AB[i]).next,.bool false,I (Cr l met H s.AB[i]).Am]) ?_;refine jfo (jS ([SN,I (s.AB[i]).next,.bool false,I (Cr l met H s.AB[i]).Am]) ?_);have ha:=p5.le b2;have m4:=j1.le b2;have r6:=i6.le b2;have i8:=f5.le b2;have g8:=b2 _ _ j7;obtain⟨D3,l5⟩:∃D3:Chs,D3 = (bh,C 117 ((rh ++ rows.drop i).flatten ++ hsp)) :: (b9,C 50 S9) :: E9:=⟨_,rfl⟩;rw[<- l5];refine B8 (D':=[] ++ ((b1,C 117 [SN,I (s.AB[i]).next,.bool false,I (Cr l met H s.AB[i]).Am]) :: D3)) (eK _) ?_;refine jci (λ_:Value × Chs=>[Pt sb,Pt gb,lv,v8,v,Pt b9,I i,Pt b1]) (λq=>q.2 ++ ((b1,C 117 [q.1,I (s.AB[i]).next,.bool false,I (Cr l met H s.AB[i]).Am]) :: D3)) (λO q=>O = Ra/\SO (Cr l met H s.AB[i]).AD q.1 q.2) (λK3 k3=>?_) ?_
  .refine jiI k3 λK4 k4=>?_
   refine jli (λj:Nat × Value × Chs=>(s.AB[i]).AD.length - j.1) (λj=>[Pt sb,Pt gb,lv,v8,v,Pt b9,I i,Pt b1,I j.1]) (λj=>j.2.2 ++ ((b1,C 117 [j.2.1,I (s.AB[i]).next,.bool false,I (Cr l met H s.AB[i]).Am]) :: D3)) (λO j=>O = Ra/\j.1<=(s.AB[i]).AD.length/\SO (((s.AB[i]).AD.take j.1).map (plc l met H)) j.2.1 j.2.2) (0,SN,[]) ⟨rfl,V,.inl ⟨rfl,rfl,rfl⟩⟩ rfl rfl ?_;rintro K5 e Rb ⟨j,jv,jA⟩ ⟨hR,hj,a7⟩ he l8;subst hR;dsimp only at hj a7 he l8 ⊢;refine z_V ?_;obtain⟨ta,tc,x3⟩:=ha.c.th.sl;refine jfo (jlr g8 rfl (jtr ha.c.th c λb5 o5 y2 v9 x8 n5 p9 w9 j4=>(jfo (jlr p9 (Bm j4 rfl) (Bf n5.sl (jlt (jif (λhd=>?_) (λhd=>?_))))))));rotate_left
   .have hd:=z_g hd;rw[dO Z] at a7;exact k4 Rb (jv,jA) ⟨rfl,a7⟩
   have hd:j < (s.AB[i]).AD.length:=by have:=z_f hd;omega
   obtain⟨z,hz,-⟩:=r2 _ (dx _ (fi.2 ⟨_,dL c,dL hd⟩));have m7:=aM (AI:=met) (to:=H) hz;refine jci (λ_:Value × Chs=>[Pt sb,Pt gb,lv,v8,v,Pt b9,I i,Pt b1,I j]) (λq=>q.2 ++ ((b1,C 117 [q.1,I (s.AB[i]).next,.bool false,I (Cr l met H s.AB[i]).Am]) :: D3)) (λO q=>O = Rb/\SO (((s.AB[i]).AD.take (j + 1)).map (plc l met H)) q.1 q.2) (λK6 k6=>?_) ?_;rotate_left
   .rintro e O ⟨jv,jA⟩ ⟨hR,o7⟩ he;subst hR;dsimp only at o7 ⊢;refine z_V ?_;exact jad (l8 O (j + 1,jv,jA) (by dsimp only;omega) ⟨rfl,hd,o7⟩)
   refine jiI k6 λK7 k7=>?_
   rw[dJ hd,dz,eN,List.map_nil,m7] at k7;obtain⟨x5,jn,x6,rfl⟩:=a7.sl;have d4:(((s.AB[i]).AD.take j).map (plc l met H)).length + 1 < 1000000000000:=by rw[dN,dU];omega
   refine jfo (jlr g8 rfl (jtr ha.c.th c λb6 o6 y3 w0 x9 n6 q0 x0 j5=>(jfo (jlr q0 (Bm j5 rfl) (Bk n6 Z Z ?_)))));rw[getElem_congr_idx (dG j)];refine jro (Fp m4 Z hz) (jro (Gi z (Ay.rd r6) Z) (jlt (jif (λh0=>?_) (λh0=>?_))))
   .rw[if_pos (z_f h0)] at k7;refine jfo (jl rfl (jbs rfl rfl λb7=>(Gw a7 d4 λv' A' c0=>?_)));obtain⟨t7,t9,t8,rfl⟩:=c0.sl;exact jfo (js rfl rfl V rfl (k7 Rb (_,A') ⟨rfl,c0⟩))
   .have h0:=z_g h0;rw[if_neg h0] at k7;have s5:(BP met z).toNat < H.length:=by
     rw[n8];unfold BP at h0 ⊢;split at h0
     .rename_i hm;rw[if_pos hm,dG];exact eQ hm
     .omega
    rw[dI,dH s5,eI] at k7;refine jfo (jl rfl (Bk i8 Z Z ?_));refine jbs rfl rfl λb7=>(Ak (jl rfl jev) (Gw a7 d4 λv' A' c0=>?_))
    obtain⟨t7,t9,t8,rfl⟩:=c0.sl;exact jfo (js rfl rfl V rfl (k7 Rb (_,A') ⟨rfl,c0⟩))
  rintro e Rb ⟨jv,jA⟩ ⟨hR,a7⟩ he;subst hR;dsimp only at a7 ⊢;refine z_V ?_;refine Dv a7 λRc m0 g3=>?_
  obtain⟨ua,uc,rfl⟩:=g3.sl;rw[l5];refine jfo (jl d3 (jla (l:=[.slice ua (Cr l met H s.AB[i]).AD.length uc,I (s.AB[i]).next,.bool false,I (Cr l met H s.AB[i]).Am]) (by exact z_n 4) rfl (C0 c ?_)));refine js (cs':=((rh ++ rows.drop i).set i [.slice ua (Cr l met H s.AB[i]).AD.length uc,I (s.AB[i]).next,.bool false,I (Cr l met H s.AB[i]).Am]).flatten ++ hsp) rfl rfl (by show 0 + i * 4 + 4<=_;omega) (by rw[da];exact Is (w:=4) τ i i7 Bp) ?_;rw[Em];refine jad (BV (hK Rc (i + 1,rh ++ [_]) (by dsimp only;omega) ⟨b2.trans m0,c,?_⟩));dsimp only;rw[dJ (show i < s'.AB.length by omega)];have s9:s'.AB[i]'(Z) = Cr l met H s.AB[i]:=by simp only[m5,fQ]
  exact (a4.mono λ_ _=>Cd.le m0).app (Rw.one (by rw[s9];exact⟨_,rfl,g3⟩))
 rintro e O rh ⟨h4,a4⟩ he;refine z_V ?_;subst l6;refine jla (l:=S9) (by rw[d2];exact z_n 13) (by rw[d2];rfl) ?_;subst hE;refine B9 (b:=bw) λR11 l9 q9=>B9 (b:=bt) λR12 g2 m1=>B9 (b:=bh) λR13 c4 q7=>?_
 have a2:=l9.trans (g2.trans c4);rw[d2];refine jS (eSt s' (S0 bw s.AC.length s.AC.length) (S0 bt s.AA.length ct) (S0 bm s'.AM.length s'.AM.length) (S0 bh s.AB.length ch) (SN) (.slice qa s'.AJ.length qc)) (jla (l:=eSt s' (S0 bw s.AC.length s.AC.length) (S0 bt s.AA.length ct) (S0 bm s'.AM.length s'.AM.length) (S0 bh s.AB.length ch) (SN) (.slice qa s'.AJ.length qc)) (dM rfl) rfl ?_);refine Ao (A:=[]) (f4.trans (c9.trans (d1.trans (a1.trans (h4.trans a2))))) ⟨rfl,?_⟩;rw[m2,f7];show QFd (IB met s) _ _;rw[r4];have tn:=F1.tn;have hold:s'.old = []:=by rw[F1.eq]
 rw[<- g6] at i4;refine⟨_,_,_,_,_,_,⟨?_,?_,?_,⟨rh,a4.mono λ_ _=>Cd.le a2,?_⟩,?_,?_⟩,⟨bt,ct,tsp,?_,c4 _ _ m1,Z⟩,rfl⟩
 .rw[<- t4];exact MN ((g2.trans c4) _ _ q9) V (z_n _)
 .rw[<- tn];exact MN (c4 _ _ m1) (by rw[DX (w:=5) (λ_=>rfl)]) Z
 .exact SK (sp:=[]) (by rw[eD];exact (h4.trans a2) _ _ (by rw[<- g4];exact q8)) (z_n _)
 .rw[<- g6,<- a4.1];exact MN q7 (Br (a4.all λ_ _=>Cd.len)) (by rw[a4.1];exact i4)
 .rw[hold];exact .inl ⟨rfl,rfl,rfl⟩
 .rw[<- m8];exact m9.le (g0.trans (h4.trans a2))
 .rw[tn]
end st
end Go.Lf
end
section
namespace Go.Lf
open Go Sm
section st
variable {R:RM} {s:Sm.Ah} {wv tv mv thv ov pv:Value}
theorem Xw {l:List AQ} {j:List Int} (h:SF R s wv tv mv thv ov pv) (y:HpF s l j):∀a∈j,0 < a/\a < 1000000:=λa x=>by
 have A:=U5 y x;have t1:=h.b.t1;omega
set_option maxRecDepth 4000 in
theorem Sl (h:SF R s wv tv mv thv ov pv):Fn P Mz [.agg (eSt s wv tv mv thv ov pv).toArray] R [] (λv R' A=>A = []/\QFd (cdO s) v R'):=by
 refine Tv λF=>?_
 refine z_1 ?_;refine ja λsb=>ja λgb=>jla (by exact z_n 13) rfl ?_
 have fu:=h.b.fu;have ml:=h.b.ml;refine jc (OG h) ?_;rintro x R1 _ D ⟨rfl,K⟩;have h:=h.le D;obtain⟨pa,pc,a4⟩:=h.c.p.sl;unfold cdO;cases hc:Dj s with
 | none=>
  rw[hc] at K;obtain rfl:x = _:=K;refine jor [Pt gb,.pointer none] true (λK' H=>?_) (λe c u ho he=>?_)
  .exact jxr (λw=>Pw w _ _) (jtf (H _ _ _ DN rfl))
  refine z_V ?_;rw[ho];refine DG (jbd rfl rfl (js rfl rfl (dM rfl) rfl (jla (dM rfl) rfl ?_)));exact Ao D ⟨rfl,rfl⟩
 | some q=>
  obtain⟨l,met⟩:=q;rw[hc] at K;obtain⟨hb,mb,v,rfl,hv⟩:=K;refine jor [Pt gb,Pt hb] (decide ((s.AJ.length:Int) > 0)) (λK' H=>?_) (λe c u ho he=>?_)
  .exact jxr (λw=>QW w _ _ hb) (jff (jfo (jl (v:=pv) rfl (Bf ⟨pa,pc,a4⟩ (jgr (H _ _ _ CH rfl))))))
  refine z_V ?_;rw[ho];refine jif (λg=>?_) (λg=>?_)
  .refine jbd rfl rfl (js rfl rfl (dM rfl) rfl (jla (dM rfl) rfl ?_));refine Ao D ⟨rfl,?_⟩;show QFd (if 0 < s.AJ.length then none else _) _ _;rw[if_pos (by have:=z_f g;omega)];rfl
  have hp:s.AJ = []:=dy.1 (by have:=z_g g;omega);have hh:CD s = some (l,met):=by
   unfold Dj at hc;split at hc
   .cases hc
   .exact hc
  have y:=Cq hh;obtain⟨a6,a9⟩:=Ho h y.ths;have a7:=y.M.len;obtain⟨G,T,-⟩:=EW y.ths;obtain⟨a0,a1⟩:=y.closed;have wl:=h.b.wl;have t1:=h.b.t1;have a5:=hv;obtain⟨o,g1,g2,g3,g4⟩:=a5;refine jnc (jfo (jlr (v:=v) g1 rfl ?_));have a3:∀t∈l,16<=t.at_/\t.at_ + (2 + t.refs.length + t.nums.length:Nat)<=s.AC.length:=λt N=>by
   obtain⟨h1,h2⟩:=T.all t N;have i:=G.inn h1;have j:=(E0 G h1).2.2;rw[<- h2] at j;omega
  have O:Od met met:=⟨y.M.nd,λ_=>Iff.rfl⟩;refine jc (Kz (r:=match Ca [] l met (Bl s) 1 with | none=>none | some _=>IB met s) h hv g4 Z (λa Q=>y.M.th a Q) y.M.nd (Xw h y) (λt _=>EE t.sh) y.S.nd (λt N=>by have:=a3 t N;omega)
   (λa Q t N x hx=>by obtain⟨u,hu,_⟩:=a1 a Q t N x hx;exact⟨u,hu⟩)
   (λt N x hx=>by obtain⟨u,hu,_⟩:=a0 x (dx _ (fi.2 ⟨t,N,hx⟩));exact⟨u,hu⟩) ?_) ?_
  .rw[hp];cases hl:Ca [] l met (Bl s) 1 with
   | none=>rfl
   | some q=>
    obtain⟨to,tops⟩:=q;obtain⟨s',a2,F1,-⟩:=Pf y hp hl Z;exact⟨s',a2,UM y O ml F1⟩
  rintro v R4 A4 W ⟨rfl,K⟩;obtain⟨wa,ta,ma,Q,oa,a8,g5,gz,rfl⟩:=K.u;refine jex rfl (jex rfl ?_);refine jsS g5 (jla (by exact z_n 13) rfl (Ao (D.trans W) ⟨rfl,?_⟩));show QFd (if 0 < s.AJ.length then none else _) _ _;rw[if_neg (by rw[hp];decide)];exact K
end st
end Go.Lf
end
section
namespace Sm
open Go.Lf
theorem WX {s:Ah} {l:List AQ} {x:List Int} (y:HpF s l x):∀t∈s.AB,t.AD.length<=8:=λt A=>by
 have j:=y.head;unfold C8 at j;simp only[z_b] at j;have:=df.1 j.1.2 t A;unfold Fs at this;simp only[z_b,z_d] at this;exact this.1.1
theorem ZP {g:PG} (ok:GOk g):GZ g:=⟨by have:=ok.n;omega,by have:=ok.r1;omega,by have:=ok.p;omega,λx j=>by have:=ok.nd x j;omega,λx j=>by have:=ok.rr x j;omega⟩
end Sm
namespace Go.Lf
open Go Sm
end Go.Lf
end
section
namespace Sm
open Go.Lf
theorem UU {s D : Ah} (h:cdO s = some D) (fu:0<=s.BK/\s.BK<=100000):∃l met to tops,Dj s = some (l,met)/\CD s = some (l,met)/\HpF s l met/\s.AJ = []/\DT s D l met to tops:=by
 unfold cdO at h;cases j:Dj s with
 | none=>rw[j] at h;cases h
 | some q=>
  obtain⟨l,met⟩:=q;rw[j] at h;have y:CD s = some (l,met):=by
   unfold Dj at j;split at j
   .cases j
   .exact j
  dsimp only at h;split at h
  .cases h
  rename_i A;have A:s.AJ = []:=dy.1 Z;cases hl:Ca [] l met (Bl s) 1 with
  | none=>rw[hl] at h;cases h
  | some q=>
   obtain⟨to,tops⟩:=q;rw[hl] at h;obtain⟨s2,x,G,-⟩:=Pf (Cq y) A hl Z;have h:IB met s = some D:=h;rw[x] at h;cases h;exact⟨l,met,to,tops,rfl,y,Cq y,A,G⟩
end Sm
namespace Go.Lf
open Go Sm
theorem PN {R:RM} {v:Value} (hc:Cod R v):Fn P H8 [v] R [] (λx R' A=>A = []/\DSF x R'):=by
 refine MM λF=>?_
 refine z_1 ?_;obtain⟨n,hf⟩:=hc;refine ja λb=>?_
 refine jc (A:=[]) (WV hf) ?_;rintro _ R1 _ _ ⟨hR,rb,v',rfl,rfl,hb⟩;subst hR;refine jc (A:=[(rb,rdO v' 0)]) (SH hb δ) ?_;rintro x R2 A H ⟨s,wv,mv,thv,ov,pv,tb,tc,tsp,m',sb,hw,hm,W,K,O,T,a0,a1,rfl,rfl⟩;obtain⟨wa,wc,rfl⟩:=hw.sl;obtain⟨ma,mc,rfl⟩:=hm.sl;obtain⟨D,hc,rfl⟩:=W.sl;obtain⟨oa,oc,rfl⟩:=K.sl;obtain⟨pa,pc,rfl⟩:=O.sl;refine ja λb4=>jS (eSt s (.slice wa s.AC.length wc) (S0 tb s.AA.length tc) (.slice ma s.AM.length mc) (.slice D s.AB.length hc) (.slice oa s.old.length oc) (.slice pa s.AJ.length pc)) ?_
 refine jci (λ_:List Int × Option Addr × Nat=>[Pt b,Pt b4])
  (λq=>(b4,C 50 (eSt { s with AJ:=q.1 } (.slice wa s.AC.length wc) (S0 tb s.AA.length tc) (.slice ma s.AM.length mc) (.slice D s.AB.length hc) (.slice oa s.old.length oc) (.slice q.2.1 q.1.length q.2.2))) :: (tb,C AO (Ad eRg s.AA ++ tsp)) :: (b,C 50 (cl z50)) :: ([] ++ F))
  (λR' q=>R' = R2/\Ay R2 (.slice q.2.1 q.1.length q.2.2) q.1/\StB 9 { s with AJ:=q.1 }) (λK1 k1=>?_) ?_
 .refine jc (A:=[(rb,rdO v' m')]) (X1 (hb.le H) Z) ?_;rintro _ R3 _ _ ⟨j,rfl,y,rfl,-,-⟩;subst j;refine jgr (jif (λ_=>?_) (λ_=>?_))
  .refine jfo (jS (eSt { s with AJ:=[] } (.slice wa s.AC.length wc) (S0 tb s.AA.length tc) (.slice ma s.AM.length mc) (.slice D s.AB.length hc) (.slice oa s.old.length oc) (SN)) ?_);refine BV ?_;exact k1 R3 ([],none,0) ⟨rfl,.inl ⟨rfl,rfl,rfl⟩,{ sb with pl:=V,pv:=λa D=>by cases D }⟩
  .exact BV (k1 R3 (s.AJ,pa,pc) ⟨rfl,O,sb⟩)
 rintro e R' ⟨ps,pa,pc⟩ ⟨hR,N,G⟩ he;subst hR;dsimp only at N G ⊢;refine z_V ?_;refine jla (l:=eSt { s with AJ:=ps } (.slice wa s.AC.length wc) (S0 tb s.AA.length tc) (.slice ma s.AM.length mc) (.slice D s.AB.length hc) (.slice oa s.old.length oc) (.slice pa ps.length pc)) (by exact z_n 13) rfl ?_;refine B9 (b:=tb) λR3 j Q=>?_
 have hx:DSF (.agg (eSt { s with AJ:=ps } (.slice wa s.AC.length wc) (S0 tb s.AA.length tc) (.slice ma s.AM.length mc) (.slice D s.AB.length hc) (.slice oa s.old.length oc) (.slice pa ps.length pc)).toArray) R3:=
  ⟨{ s with AJ:=ps },_,_,_,_,_,_,rfl,(by have:=G.fu;dsimp only at this ⊢;omega),⟨hw.le j,Wi Q T,hm.le j,W.le j,K.le j,N.le j⟩,⟨tb,tc,tsp,rfl,Q,T⟩,G.mono2⟩
 exact BV (aI hx (Ao (A:=[]) (H.trans j) ⟨rfl,hx⟩))
set_option maxHeartbeats 4000000 in
set_option maxRecDepth 8000 in
theorem Sy {R:RM} {v:Value} (hc:Cod R v):Fn P Ha [v] R [] (λx _ A=>x = .bool true/\A = []):=by
 refine MH λF=>?_
 refine z_1 ?_;obtain⟨cn,g8⟩:=Zq hc;refine Bf g8 (jgr (jif (λ_=>Ao (A:=[]) (RM.le.refl R) ⟨rfl,rfl⟩) (λ_=>?_)));refine jc (A:=[]) (PN hc) ?_;rintro x0 R1 _ f6 ⟨rfl,hd⟩;refine cN hd λb s wv tv mv thv ov pv _ d1 h=>?_
 refine jla (l:=eSt s wv tv mv thv ov pv) (by exact z_n 13) rfl ?_;refine jc (A:=[]) (Sl h) ?_;rintro x R2 _ c7 ⟨rfl,hq⟩;have h:=h.le c7;obtain⟨wa,ta,ma,ha,oa,pa,g1,c5,rfl⟩:=hq.u;obtain⟨s1,e1⟩:∃s1,s1 = (cdO s).getD st0:=⟨_,rfl⟩;rw[<- e1] at g1 c5 ⊢;refine jex rfl (jex rfl (ja λb1=>jsS g1 ?_));refine jla (l:=eSt s wv tv mv thv ov pv) (by exact z_n 13) rfl ?_;refine jc (A:=[]) (Wn h) ?_;rintro x R3 _ T ⟨rfl,g7⟩;have h:=h.le T;obtain⟨h9,h8,h4,f7,h6,h7,g2,-,rfl⟩:=g7.u;rw[<- e1] at g2 ⊢;refine jex rfl (jex rfl (ja λb2=>jsS g2 ?_));have g1:=g1.le T;have K:=f6.trans (c7.trans T);have z1:StZ s1:=by
  cases y:cdO s with
  | none=>rw[e1,y];exact⟨δ,δ,δ,δ,δ,δ,λt ht=>by cases ht⟩
  | some s'=>
   rw[e1,y];have fu:=h.b.fu;obtain⟨l,met,to,tops,-,-,-,-,F1⟩:=UU y Z;exact aU h F1
 refine jor [Pt b,Pt b1,.bool (cdO s).isSome] false (λK' j=>?_) (λe c u ho he=>?_)
 .refine @jxb _ _ _ _ _ _ _ ?_;rw[bne_self_eq_false];refine jff (jla (l:=eSt s1 wa ta ma ha oa pa) (by exact z_n 13) rfl ?_);refine jla (l:=eSt s1 h9 h8 h4 f7 h6 h7) (by exact z_n 13) rfl ?_;exact jro (VY g1 g2 z1) (j _ _ _ CH rfl)
 refine z_V ?_;rw[ho];refine CQ ?_;cases y:cdO s with
 | none=>
  obtain rfl:s1 = st0:=by rw[e1,y];rfl
  exact DG (jfo (jl (v:=wa) rfl (Bf g1.w.sl (jeq (Ao (A:=[]) K ⟨rfl,rfl⟩)))))
 | some s'=>
 refine CQ ?_;obtain rfl:s1 = s':=by rw[e1,y];rfl
 have fu:=h.b.fu;obtain⟨l,met,to,tops,f8,hh,Q,hp,F1⟩:=UU y Z;have O:Od met met:=⟨Q.M.nd,λ_=>Iff.rfl⟩;have O2:=Jg Q.M.nd;obtain⟨s2,to2,tops2,FF0,F2⟩:=Ob Q Z;have c9:fdO s = some s2:=by unfold fdO;rw[f8];exact FF0
 have h1:SF R3 s1 wa ta ma ha oa pa:=⟨g1,(c5 (by rw[y];rfl)).le T,QP h.b d1 Q O F1⟩;obtain⟨l1,a7,T1,Q1,a0,-⟩:=O5 Q O F1;obtain⟨l2,a8,T2,Q2,a6,-⟩:=O5 Q O2 F2;obtain⟨i6,i7,a9,b0,b8,b9⟩:=Uw Q O F1 O2 F2;rw[a7] at a9;cases a9;rw[a8] at b0;cases b0;have b4:=Lw Q O F1 Q1 T1 a0 hp;have b5:=Lw Q O2 F2 Q2 T2 a6 hp;have G:=ZU a0 (WX a0);have H:=ZU a6 (WX a6);obtain⟨D,f2⟩:∃m,m = met.map (mvT met to):=⟨_,rfl⟩;obtain⟨N,f3⟩:∃m,m = met.map (mvT (Aa met) to2):=⟨_,rfl⟩;rw[<- f2] at a7 a0 b8 b9 b4 G;rw[<- f3] at a8 a6 b8 b9 b5 H;refine jla (l:=eSt s wv tv mv thv ov pv) (by exact z_n 13) rfl ?_;refine jc (A:=[]) (S5 h) ?_;rintro x R4 _ c8 ⟨rfl,d3⟩;rw[c9] at d3;obtain⟨w5,t5,m5,n5,o5,p5,h5,h3,rfl⟩:=d3;have h2:SF R4 s2 w5 t5 m5 n5 o5 p5:=⟨h5,h3,QP h.b d1 Q O2 F2⟩;refine jex rfl (jex rfl (ja λb3=>jsS h5 ?_));have h1:=h1.le c8;refine jla (l:=eSt s1 wa ta ma ha oa pa) (by exact z_n 13) rfl ?_;refine jc (A:=[]) (HU h1) ?_;rintro _ R5 _ c0 ⟨rfl,hq⟩;rw[a7] at hq;obtain⟨gv,hg,rfl⟩:=hq;have c4:=hg;obtain⟨q1,q2,qn,qr,qp,rfl,a1,a2,a3,a4,a5⟩:=c4;obtain⟨na,nc,rfl⟩:=a2.sl;obtain⟨ra,rc,rfl⟩:=a4.sl;obtain⟨xa,xc,rfl⟩:=a5.sl;refine jex rfl (jex rfl (ja λb6=>jS [.slice na q1.length nc,.slice ra q2.length rc,.slice xa (Gy s1 l1 (Aa D)).pinned.length xc] ?_));have h2:=h2.le c0;have h1:=h1.le c0;refine jla (l:=eSt s2 w5 t5 m5 n5 o5 p5) (by exact z_n 13) rfl ?_;refine jc (A:=[]) (HU h2) ?_;rintro _ R6 _ W ⟨rfl,hq⟩;rw[a8] at hq;obtain⟨gv,d2,rfl⟩:=hq;have c4:=d2;obtain⟨e3,e4,i8,j0,i9,rfl,i4,e9,i5,f0,f1⟩:=c4;obtain⟨d4,e2,rfl⟩:=e9.sl;obtain⟨e5,e6,rfl⟩:=f0.sl;obtain⟨e7,e8,rfl⟩:=f1.sl;refine jex rfl (jex rfl (ja λb7=>jS [.slice d4 e3.length e2,.slice e5 e4.length e6,.slice e7 (Gy s2 l2 (Aa N)).pinned.length e8] ?_));have h1:=h1.le W;have h2:=h2.le W;have hg:=hg.le W;have c6:=K.trans (c8.trans (c0.trans W));have f4:IS s1 = (DS l1 D,JP l1):=by unfold IS;rw[a7]
 have f5:IS s2 = (DS l2 N,JP l2):=by unfold IS;rw[a8]
 refine jla (l:=eSt s1 wa ta ma ha oa pa) (by exact z_n 13) rfl (jrp (HD h1) ?_);rw[f4,b4];refine jex rfl (jex rfl (jla (l:=eSt s2 w5 t5 m5 n5 o5 p5) (by exact z_n 13) rfl (jrp (HD h2) ?_)));rw[f5,b5,<- b9];refine jex rfl (jex rfl ?_);obtain⟨n,hn⟩:∃n,n = DS l1 D:=⟨_,rfl⟩;dsimp only;rw[<- hn];refine jan [Pt b6,Pt b7,.bool true,I n,I n,I n,I n] true (λK' j=>jtt (j _ _ _ Bh rfl)) (λe c u ho he=>?_);refine z_V ?_;refine jan [Pt b6,Pt b7,I n,I n,I n,I n] true (λK' j=>?_) (λe c u g0 he=>?_)
 .rw[ho];exact jtt (j _ _ _ Bh rfl)
 refine z_V ?_;refine jan [I n,I n,I n,I n] true (λK' j=>?_) (λe c u g3 he=>?_)
 .rw[g0];refine jtt (jla (l:=[.slice na q1.length nc,.slice ra q2.length rc,.slice xa (Gy s1 l1 (Aa D)).pinned.length xc]) (dM rfl) rfl (jla (l:=[.slice d4 e3.length e2,.slice e5 e4.length e6,.slice e7 (Gy s2 l2 (Aa N)).pinned.length e8]) (dM rfl) rfl (jrp (NL hg d2 (ZP G) (ZP H) G H) ?_)));rw[b8];exact j _ _ _ Bh rfl
 refine z_V ?_;refine jan [I n,I n,I n] true (λK' j=>?_) (λe c u g4 he=>?_)
 .rw[g3];refine jtt (jeq ?_);rw[beq_self_eq_true];exact j _ _ _ Bh rfl
 refine z_V ?_;refine jan [I n,I n] true (λK' j=>?_) (λe c u g5 he=>?_)
 .rw[g4];refine jtt (jeq ?_);rw[beq_self_eq_true];exact j _ _ _ Bh rfl
 refine z_V ?_;refine jan [] true (λK' j=>?_) (λe c u g6 he=>?_)
 .rw[g5];refine jtt (jeq ?_);rw[beq_self_eq_true];exact j _ _ _ Bh rfl
 refine z_V ?_;rw[g6];exact Ao (A:=[]) c6 ⟨rfl,rfl⟩
end Go.Lf
end
