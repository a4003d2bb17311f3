/- A part of the proof of the given row. Conditions: none. -/
import Derived.Test.YthfhnheigfoioaaGreatFL
set_option linter.unusedVariables false
set_option linter.unusedSimpArgs false
set_option maxRecDepth 100000
section
namespace Sm
def EG (acc:List Int) (n:Int):List Int:=if 0<=n/\n ∉ acc then acc ++ [n] else acc
def CJ (acc l:List Int):List Int:=l.foldl EG acc
def Fa (g:PG) (n:Int):List Int:=(g.nodes.getD n.toNat ([],[])).1
def HD (g:PG):Nat->Nat->List Int->List Int
 | 0,_,out=>out
 | f + 1,k,out=>match out[k]? with
  | none=>out
  | some n=>HD g f (k + 1) (CJ out (Fa g n))
def YE (g:PG):List Int:=CJ (g.AD.foldl CJ []) g.pinned
def KC (g:PG):List Int:=HD g (g.nodes.length + 1) 0 (YE g)
structure MOk (N:Nat) (acc:List Int):Prop where
 nd:acc.Nodup
 rg:∀x∈acc,0<=x/\x < N
theorem MOk.len {N:Nat} {acc:List Int} (h:MOk N acc):acc.length<=N:=by
 have:acc.length<=((List.range N).map λ(i:Nat)=>(i:Int)).length:=Eo h.nd λx j=>by
  obtain⟨y,A⟩:=h.rg x j;exact eE.2 ⟨x.toNat,fV.2 Z,Z⟩
 simpa using this
theorem MOk.step {N:Nat} {acc:List Int} (h:MOk N acc) {n:Int} (A:n < N):MOk N (EG acc n):=by
 unfold EG;split
 .rename_i c;refine⟨?_,λx j=>?_⟩
  .rw[List.nodup_append];exact⟨h.nd,V,λa y b hb e=>c.2 (by rw[dz.1 hb] at e;rw[<- e];exact y)⟩
  .rcases eI.1 j with j | j
   .exact h.rg x j
   .rw[dz.1 j];exact⟨c.1,A⟩
 .exact h
theorem MOk.meet {N:Nat}:∀{l acc:List Int},MOk N acc->(∀x∈l,x < N)->MOk N (CJ acc l)
 | [],acc,h,_=>h
 | n :: l,acc,h,hl=>MOk.meet (acc:=EG acc n) (h.step (hl n V)) λx j=>hl x (eD _ j)
theorem T9 {acc l:List Int} {i:Nat} (h:i < l.length):CJ acc (l.take (i + 1)) = EG (CJ acc (l.take i)) l[i]:=by
 unfold CJ;rw[db h,gy];rfl
theorem SU {n:Nat} {j:Int} {l:List Int}:DN n j l = true↔∀x∈l,j<=x/\x < n:=by
 unfold DN;rw[eL,List.any_eq_false];simp only[eN,z_d,not_or,Int.not_lt];exact⟨λh x y=>by have:=h x y;omega,λh x y=>by have:=h x y;omega⟩
structure GOk (g:PG):Prop where
 n:g.nodes.length<=200
 r0:1<=g.AD.length
 r1:g.AD.length<=3
 p:g.pinned.length<=8
 pr:∀x∈g.pinned,0<=x/\x < g.nodes.length
 nd:∀x∈g.nodes,x.1.length<=4/\x.2.length<=4/\∀y∈x.1,-1<=y/\y < g.nodes.length
 rr:∀x∈g.AD,x.length<=8/\∀y∈x,-1<=y/\y < g.nodes.length
theorem Oz {g:PG}:gOk g = true↔GOk g:=by
 unfold gOk Nc;simp only[z_b,z_d,eG,SU];constructor
 .rintro⟨⟨⟨⟨⟨⟨A,D⟩,G⟩,H⟩,K⟩,j⟩,N⟩;exact⟨A,D,G,H,K,λx y=>⟨(j x y).1.1,(j x y).1.2,(j x y).2⟩,N⟩
 .rintro⟨A,D,G,H,K,j,N⟩;exact⟨⟨⟨⟨⟨⟨A,D⟩,G⟩,H⟩,K⟩,λx y=>⟨⟨(j x y).1,(j x y).2.1⟩,(j x y).2.2⟩⟩,N⟩
theorem Qs {g:PG} (h:GOk g) (n:Int):(∀y∈Fa g n,-1<=y/\y < g.nodes.length)/\(Fa g n).length<=4:=by
 unfold Fa;rw[dZ];cases j:g.nodes[n.toNat]? with
 | none=>exact⟨λy A=>by simp at A,V⟩
 | some x=>exact⟨(h.nd x (List.mem_of_getElem? j)).2.2,(h.nd x (List.mem_of_getElem? j)).1⟩
theorem Iz {g:PG} (h:GOk g):∀{rs:List (List Int)} {acc:List Int},(∀x∈rs,x∈g.AD)->MOk g.nodes.length acc->MOk g.nodes.length (rs.foldl CJ acc)
 | [],acc,_,m=>m
 | r :: rs,acc,hr,m=>Iz h (rs:=rs) (acc:=CJ acc r) (λx j=>hr x (eD _ j)) (m.meet λx j=>((h.rr r (hr r V)).2 x j).2)
theorem MOk.nil {N:Nat}:MOk N []:=⟨List.nodup_nil,λx j=>by cases j⟩
theorem UU {g:PG} (h:GOk g):MOk g.nodes.length (YE g):=(Iz h (λ_ j=>j) MOk.nil).meet λx j=>(h.pr x j).2
theorem Qv {g:PG} (h:GOk g):∀{f k:Nat} {out:List Int},MOk g.nodes.length out->MOk g.nodes.length (HD g f k out)
 | 0,_,_,m=>m
 | f + 1,k,out,m=>by
  unfold HD;split
  .exact m
  .exact Qv h (m.meet λx j=>((Qs h _).1 x j).2)
theorem UR {g:PG} (h:GOk g):MOk g.nodes.length (KC g):=Qv h (UU h)
theorem Lt {g:PG} {f k:Nat} {out:List Int} (h:k < out.length):HD g (f + 1) k out = HD g f (k + 1) (CJ out (Fa g out[k])):=by
 conv=>lhs;unfold HD
 rw[dY h]
theorem OV {g:PG} {f k:Nat} {out:List Int} (h:out.length<=k):HD g f k out = out:=by
 cases f with
 | zero=>rfl
 | succ f=>unfold HD;rw[fG h]
end Sm
namespace Go.Lf
open Go Sm
section
variable {R:RM}
def MtD (N sb ob mb:Nat) (acc:List Int) (ov:Value) (A:Chs):Chs:=(sb,C 47 [S0 mb N N]) :: (ob,C 30 [ov]) :: (mb,C Az ((mkB N acc).map Value.bool)) :: A
set_option maxHeartbeats 1000000 in
set_option maxRecDepth 8000 in
theorem SD {N H D mb:Nat} {lv O:Value} {l acc:List Int} {A0:Chs} (h:Aw R lv l) (hl:l.length < 1000000) (hx:∀x∈l,x < N) (hN:N<=200) (m:MOk N acc) (W:SO acc O A0) :
  Fn P F8 [lv,Pt H,Pt D] R (MtD N H D mb acc O A0) (λv T A=>v = .tuple #[]/\T = R/\∃a5 A',SO (CJ acc l) a5 A'/\A = MtD N H D mb (CJ acc l) a5 A'):=by
 refine LM λF=>?_
 refine z_3 ?_;refine Bl h.sl ?_;refine jli (λi:Nat × Value × Chs=>l.length - i.1) (λi=>[Pt H,Pt D,lv,I l.length,I i.1]) (λi=>MtD N H D mb (CJ acc (l.take i.1)) i.2.1 (i.2.2 ++ F))
  (λT i=>T = R/\i.1<=l.length/\SO (CJ acc (l.take i.1)) i.2.1 i.2.2) (0,O,A0) ⟨rfl,V,by simpa [CJ] using W⟩ rfl (by simp[CJ,MtD]) ?_
 rintro K e T ⟨i,O,A⟩ ⟨hR,hi,W⟩ he hK;subst hR;dsimp only at hi W he ⊢;refine z_V ?_;refine jlt (jif (λc=>?_) (λc=>?_));rotate_left
 .have c:=z_g c;rw[dh Z] at W ⊢;unfold MtD;refine Ao (A:=MtD N H D mb (CJ acc l) O A) (RM.le.refl _) ⟨rfl,rfl,O,A,W,rfl⟩ (s:=⟨?_⟩) (G:=F);exact f9 _
 have c:i < l.length:=by have:=z_f c;omega
 have a9:=hx _ (dc c);have mi:MOk N (CJ acc (l.take i)):=m.meet λx a8=>hx x (ec a8)
 have a4:=mi.len;have y:=T9 (acc:=acc) c;obtain⟨j,a7⟩:∃j,j = CJ acc (l.take i):=⟨_,rfl⟩;rw[<- a7] at W mi a4 y ⊢;refine jci (λ_:Value × Chs=>[Pt H,Pt D,lv,I l.length,I i]) (λq=>MtD N H D mb (EG j l[i]) q.1 (q.2 ++ F)) (λR1 q=>R1 = T/\SO (EG j l[i]) q.1 q.2) (λK1 k1=>?_) ?_;rotate_left
 .rintro e R1 ⟨a2,A1⟩ ⟨a1,a3⟩ he;subst a1;refine z_V ?_;refine jad ?_;have:=hK R1 (i + 1,a2,A1) (by dsimp only;omega) ⟨rfl,c,by dsimp only;rw[y];exact a3⟩;dsimp only at this;rw[y] at this;exact this
 refine jci (λ_:Value × Chs=>[Pt H,Pt D,lv,I l.length,I i]) (λq=>MtD N H D mb (EG j l[i]) q.1 (q.2 ++ F)) (λR1 q=>R1 = T/\SO (EG j l[i]) q.1 q.2) (λK2 k2=>?_) ?_;rotate_left
 .rintro e R1 ⟨a2,A1⟩ ⟨a1,a3⟩ he;subst a1;refine z_V ?_;exact k1 R1 (a2,A1) ⟨rfl,a3⟩
 refine C5 h Z Z ?_;simp only[da];unfold MtD at k2 ⊢;refine jan [Pt H,Pt D,I l[i],lv,I l.length,I i] (decide (0<=l[i]) && !decide (l[i]∈j)) (λK' a0=>?_) (λe c1 u ho he=>?_)
 .refine jge (Dl (λq=>?_) (λq=>?_))
  .rw[q];have q0:0<=l[i]:=by simpa using q
   obtain⟨k,hk⟩:∃k:Nat,l[i] = k:=⟨l[i].toNat,Z⟩;refine jl (v:=S0 mb N N) rfl ?_;rw[hk];have Q:k < N:=Z
   refine CC Q (jl (v:=.bool (decide ((k:Int)∈j))) ?_ ?_)
   .rw[fY,eH,eU,dY (by rw[On];exact Q)];simp[mkB]
   .rw[hk] at a0;exact a0 _ _ _ Bm V
  .rw[q];exact a0 _ _ _ Bu (by
    have:¬ (0<=l[i]):=by simpa using q
    rw[decide_eq_false this];rfl)
 refine z_V ?_;rw[ho];refine jif (λq=>?_) (λq=>?_)
 .have q:0<=l[i]/\l[i] ∉ j:=by simpa using q
  have es:EG j l[i] = j ++ [l[i]]:=by unfold EG;rw[if_pos q]
  rw[es] at k2;obtain⟨k,hk⟩:∃k:Nat,l[i] = k:=⟨l[i].toNat,Z⟩;have Q:k < N:=Z
  refine jl (v:=S0 mb N N) rfl ?_;rw[hk] at k2 ⊢;refine dA Q ?_;refine jl (v:=O) rfl (jbs (cs:=[I k]) rfl rfl λbb=>?_);refine IU (A:=A) (E:=(H,C 47 [S0 mb N N]) :: (D,C 30 [O]) :: (mb,C Az ((mkB N (j ++ [(k:Int)])).map Value.bool)) :: F) (s:=⟨?_⟩) W Z λv' A' a6=>?_
  .refine List.Perm.trans ?_ (fO);exact ((fO (l₁:=A) (l₂:=F)).cons _).cons _ |>.cons _
  obtain⟨va,vc,rfl⟩:=a6.sln;refine BC (D':=(D,C 30 [O]) :: (A' ++ ((H,C 47 [S0 mb N N]) :: (mb,C Az ((mkB N (j ++ [(k:Int)])).map Value.bool)) :: F))) ?_ ?_
  .exact ((fW _ _ _).append_left A').trans eP
  refine jS ([.slice va (j ++ [(k:Int)]).length vc]) ?_;refine BC ?_ (k2 T (_,A') ⟨rfl,a6⟩);dsimp only;refine List.Perm.trans ?_ (fW _ _ _);refine fo _ ?_;exact eP.trans ((eP).cons _)
 .have q:¬ (0<=l[i]/\l[i] ∉ j):=by simpa using q
  have es:EG j l[i] = j:=by unfold EG;rw[if_neg q]
  rw[es] at k2;exact k2 T (O,A) ⟨rfl,W⟩
end
end Go.Lf
end
section
namespace Go.Lf
open Go Sm
instance MtD.sp (N sb ob mb:Nat) (acc:List Int) (ov:Value) (A F:Chs):Sp (MtD N sb ob mb acc ov (A ++ F)) (MtD N sb ob mb acc ov A) F:=⟨f9 _⟩
section
variable {R:RM} {v:Value} {g:PG}
set_option maxHeartbeats 1000000 in
set_option maxRecDepth 8000 in
theorem ZJ (h:GrF R v g) (ok:GOk g):Fn P IH [v] R [] (λv T A=>SO (KC g) v A):=by
 obtain⟨r1,r2,nv,rv,pv,rfl,h1,h2,h3,h4,h5⟩:=h;obtain⟨na,nc,rfl⟩:=h2.sl;obtain⟨ra,rc,rfl⟩:=h4.sl;obtain⟨pa,pc,rfl⟩:=h5.sl;have e1:=h1.1;have e2:=h3.1;have n2:=ok.n;have zr:=ok.r1;have zp:=ok.p;refine Nb λF=>?_
 refine z_1 ?_;refine ja λb=>BE (b:=b) λR0 G hb=>ja λH=>?_
 have hb:R0 b = some (C 40 [.slice na r1.length nc,.slice ra r2.length rc,.slice pa g.pinned.length pc]):=hb;have h1:=h1.mono λ_ _=>NdC.le G
 have h2:=h2.le G;have h3:=h3.mono λ_ _=>RwC.le G
 have h4:=h4.le G;have h5:=h5.le G;rw[e1,e2] at hb;have h2:Fz R0 (.slice na g.nodes.length nc) 2 r1.length r1.flatten:=by rw[<- e1];exact h2
 have h4:Fz R0 (.slice ra g.AD.length rc) 1 r2.length r2.flatten:=by rw[<- e2];exact h4
 refine jfo (jlr (v:=.slice na g.nodes.length nc) hb rfl (jln ?_));refine jms Z Z Z λmb=>ja λW=>?_
 have e0:(List.replicate (g.nodes.length:Int).toNat (cl z4)).flatten = (mkB g.nodes.length []).map Value.bool:=by
  rw[Yw,da];show (List.replicate g.nodes.length [Value.bool false]).flatten = _;simp
 rw[e0,da];refine jS [S0 mb g.nodes.length g.nodes.length] ?_;obtain⟨N,Q⟩:∃N,N = g.nodes.length:=⟨_,rfl⟩;rw[<- Q] at n2 hb h2 ⊢;obtain⟨FN,y⟩:∃FN:Value,FN = .func (.func F8) #[] #[Pt W,Pt H]:=⟨_,rfl⟩;refine jci (λ_:Value × Chs=>[Pt b,Pt H,FN]) (λq=>MtD N W H mb (g.AD.foldl CJ []) q.1 (q.2 ++ F)) (λR1 q=>R1 = R0/\SO (g.AD.foldl CJ []) q.1 q.2) (λK1 k1=>?_) ?_
 .refine jfo (jlr (v:=.slice ra g.AD.length rc) hb rfl (jln ?_));refine jiI k1 λK2 k2=>?_
  refine BC (D':=MtD N W H mb [] (SN) ([] ++ F)) ?_ ?_
  .unfold MtD;exact (fW _ _ _).cons _
  refine jli (λi:Nat × Value × Chs=>g.AD.length - i.1) (λi=>[Pt b,Pt H,FN,.slice ra g.AD.length rc,I g.AD.length,I i.1]) (λi=>MtD N W H mb ((g.AD.take i.1).foldl CJ []) i.2.1 (i.2.2 ++ F))
   (λT i=>T = R0/\i.1<=g.AD.length/\SO ((g.AD.take i.1).foldl CJ []) i.2.1 i.2.2) (0,SN,[]) ⟨rfl,V,.inl ⟨rfl,rfl,rfl⟩⟩ (by rw[y];rfl) rfl ?_
  rintro K e T ⟨i,ov,A⟩ ⟨hR,hi,j⟩ he hK;subst hR;dsimp only at hi j he ⊢;refine z_V ?_;refine jlt (jif (λc=>?_) (λc=>?_));rotate_left
  .have c:=z_g c;rw[dh Z] at j ⊢;exact k2 T (ov,A) ⟨rfl,j⟩
  have c:i < g.AD.length:=by have:=z_f c;omega
  have hr:=ok.rr _ (dc c);have m:=Iz ok (rs:=g.AD.take i) (acc:=[]) (λx D=>ec D) MOk.nil;have et:(g.AD.take (i + 1)).foldl CJ [] = CJ ((g.AD.take i).foldl CJ []) g.AD[i]:=by
   rw[db c,gy];rfl
  refine jrw h3 h4 c λxv D=>?_
  rw[y];refine H8 (by kernel_rfl) ?_;refine jc (SD (mb:=mb) D Z (λx D=>by rw[Q];exact (hr.2 x D).2) n2 (by rw[Q];exact m) j) ?_;rintro _ R2 A2 _ ⟨rfl,a0,a2,A',a3,rfl⟩;subst a0;refine jad ?_;have:=hK R2 (i + 1,a2,A') (by dsimp only;omega) ⟨rfl,c,by dsimp only;rw[et];exact a3⟩;dsimp only at this;rw[et,y] at this;exact this
 rintro e R1 ⟨ov,A⟩ ⟨hR,j⟩ he;subst hR;dsimp only at j ⊢;refine z_V ?_;have m:=Iz ok (rs:=g.AD) (acc:=[]) (λx D=>D) MOk.nil;refine jfo (jlr (v:=.slice pa g.pinned.length pc) hb rfl ?_);rw[y];refine H8 (by kernel_rfl) ?_;refine jc (SD (mb:=mb) h5 Z (λx D=>by rw[Q];exact (ok.pr x D).2) n2 (by rw[Q];exact m) j) ?_;rintro _ R2 A2 _ ⟨rfl,a0,a2,A',a3,rfl⟩;subst a0;rw[<- y];have m0:=UU ok;refine jci (λ_:Value × Chs=>[Pt H]) (λq=>MtD N W H mb (KC g) q.1 (q.2 ++ F)) (λR1 q=>R1 = R2/\SO (KC g) q.1 q.2) (λK1 k1=>?_) ?_;rotate_left
 .rintro e R1 ⟨ov,A⟩ ⟨hR,j⟩ he;subst hR;dsimp only at j ⊢;refine z_V ?_;unfold MtD;exact jl (v:=ov) rfl (BT (BT (BT (Ao (A:=A) G j))))
 refine jiI k1 λK2 k2=>?_
 refine jli (λi:Nat × List Int × Value × Chs=>N + 1 - i.1) (λi=>[Pt b,Pt H,FN,I i.1]) (λi=>MtD N W H mb i.2.1 i.2.2.1 (i.2.2.2 ++ F))
  (λT i=>T = R2/\i.1<=i.2.1.length/\MOk N i.2.1/\SO i.2.1 i.2.2.1 i.2.2.2/\HD g (N + 1 - i.1) i.1 i.2.1 = KC g) (0,YE g,a2,A') ⟨rfl,V,by rw[Q];exact m0,a3,by rw[Q];rfl⟩ rfl rfl ?_
 rintro K e T ⟨i,acc,ov,A⟩ ⟨hR,hi,m,j,O⟩ he hK;subst hR;dsimp only at hi j he m O ⊢;refine z_V ?_;have b1:=m.len;obtain⟨oa,oc,rfl⟩:=j.sln;unfold MtD;refine jl (v:=.slice oa acc.length oc) rfl (jln (jlt (jif (λc=>?_) (λc=>?_))));rotate_left
 .have c:=z_g c;rw[OV Z] at O;rw[<- O] at k2;exact k2 T (_,A) ⟨rfl,j⟩
 have c:i < acc.length:=by have:=z_f c;omega
 obtain⟨q,hq⟩:∃q,N + 1 - i = q + 1:=⟨N - i,Z⟩;rw[hq,Lt c] at O;obtain⟨x0,x1⟩:=m.rg _ (dc c);obtain⟨k,hk⟩:∃k:Nat,acc[i] = k:=⟨acc[i].toNat,Z⟩;have a1:k < g.nodes.length:=Z
 refine jfo (jlr (v:=.slice na N nc) hb rfl (jl (v:=.slice oa acc.length oc) rfl ?_));refine Vc (A:=A) (E:=(W,C 47 [S0 mb N N]) :: (H,C 30 [.slice oa acc.length oc]) :: (mb,C Az ((mkB N acc).map Value.bool)) :: F) j (s:=⟨by
   refine List.Perm.trans ?_ fO
   exact (fO (l₁:=A) (l₂:=F)).cons _ |>.cons _ |>.cons _⟩) c ?_
 rw[hk];refine jnd h1 h2 a1 λxb o ty cs xv yv D hy a8 ho a4=>jfo (jlr a8 (Bt a4 (f:=0) rfl) ?_)
 have a7:Fa g acc[i] = g.nodes[k].1:=by
  unfold Fa;rw[hk,da,dZ,dY a1];rfl
 have hnd:=ok.nd _ (dc a1);rw[y];refine H8 (by kernel_rfl) ?_;show J _ (MtD N W H mb acc (.slice oa acc.length oc) (A ++ F)) _;refine jc (SD (mb:=mb) D Z (λx D=>by rw[Q];exact (hnd.2.2 x D).2) n2 m j) ?_;rintro _ R3 A3 _ ⟨rfl,a5,a9,A3,b0,rfl⟩;subst a5;refine jad ?_;have a6:i + 1<=(CJ acc g.nodes[k].1).length:=by
  have:∀(l acc:List Int),acc.length<=(CJ acc l).length:=by
   intro l;induction l with
   | nil=>intro acc;exact z_n _
   | cons x l ih=>
    intro acc;refine i7 ?_ (ih (EG acc x));unfold EG;split
    .simp
    .exact z_n _
  exact i7 c (this _ _)
 have:=hK R3 (i + 1,CJ acc g.nodes[k].1,a9,A3) (by dsimp only;omega) ⟨rfl,a6,m.meet λx D=>by rw[Q];exact (hnd.2.2 x D).2,b0,by
  dsimp only
  rw[<- a7,show N + 1 - (i + 1) = q from Z];exact O⟩
 dsimp only at this;rw[y] at this;exact this
end
end Go.Lf
end
section
namespace Sm
def Gp (n:Nat):List Int:=(List.range n).map λ(i:Nat)=>(i:Int)
theorem Qr {n:Nat}:(Gp n).length = n:=by simp[Gp]
def nmG (order:List Int) (x:Int):Int:=if 0<=x then (if x∈order then (Gp order.length).getD (order.idxOf x) 0 else 0) else x
def FB (g:PG):PG:=⟨(KC g).map λn=>((Fa g n).map (nmG (KC g)),(g.nodes.getD n.toNat ([],[])).2),g.AD.map λr=>r.map (nmG (KC g)),g.pinned.map (nmG (KC g))⟩
theorem Ys {f:Int->Int} {xs:List Int} {i:Nat} (h:i<=xs.length):((xs.take i).map f ++ xs.drop i).length = xs.length:=by simp;omega
theorem ZG {f:Int->Int} {xs:List Int} {i:Nat} (h:i < xs.length) (j:i < ((xs.take i).map f ++ xs.drop i).length):((xs.take i).map f ++ xs.drop i)[i] = xs[i]:=by
 rw[fh (by simp;omega),gG];congr 1;simp;omega
theorem ZI {f:Int->Int} {xs:List Int} {i:Nat} (h:i < xs.length):((xs.take i).map f ++ xs.drop i).set i (f xs[i]) = (xs.take (i + 1)).map f ++ xs.drop (i + 1):=by
 rw[fd _ _ (by simp;omega),dq h,db h,eS,dm];congr 1;rw[show i - (List.map f (List.take i xs)).length = 0 from by simp;omega];rfl
end Sm
namespace Go.Lf
open Go Sm
section
variable {R:RM}
set_option maxHeartbeats 1000000 in
set_option maxRecDepth 8000 in
theorem Z4 {lv:Value} {l j:List Int} {mb:Nat} {o:Obj} (h:Aw R lv l) (hl:l.length < 1000000) (ho:R mb = some o) (hm:Mg o (prs j (Gp j.length))) :
  Fn P Ju [lv,.map (some mb)] R [] (λv x A=>x = R/\SO (l.map (nmG j)) v A):=by
 refine Um λF=>?_
 refine z_2 ?_;refine jc (A:=[]) (Dt h hl) ?_;rintro cv R1 A1 _ ⟨N,Q,-⟩;subst N;refine jci (λ_:Chs=>[cv]) (λA=>A ++ F) (λx A=>x = R1/\SO (l.map (nmG j)) cv A) (λK1 k1=>?_) ?_;rotate_left
 .rintro e x A ⟨N,D⟩ he;subst N;refine z_V ?_;exact Ao (A:=A) (RM.le.refl _) ⟨rfl,D⟩
 obtain⟨G,H,rfl⟩:=Q.sln;refine jln ?_;refine jiI k1 λK2 k2=>?_
 refine jli (λi:Nat × Chs=>l.length - i.1) (λi=>[.map (some mb),.slice G l.length H,.slice G l.length H,I l.length,I i.1]) (λi=>i.2 ++ F)
  (λx i=>x = R1/\i.1<=l.length/\SO ((l.take i.1).map (nmG j) ++ l.drop i.1) (.slice G l.length H) i.2) (0,A1) ⟨rfl,V,by simpa using Q⟩ rfl rfl ?_
 rintro K e x ⟨i,A⟩ ⟨N,hi,D⟩ he hK;subst N;dsimp only at hi D he ⊢;refine z_V ?_;refine jlt (jif (λc=>?_) (λc=>?_));rotate_left
 .have c:=z_g c;rw[dh Z,dv Z,eh] at D;exact k2 x A ⟨rfl,D⟩
 have c:i < l.length:=by have:=z_f c;omega
 have y:=Ys (f:=nmG j) hi;have hg:=ZG (f:=nmG j) c (by rw[y];exact c);have T:=ZI (f:=nmG j) c;refine jci (λ_:Chs=>[.map (some mb),.slice G l.length H,.slice G l.length H,I l.length,I i]) (λA=>A ++ F) (λW A=>W = x/\SO ((l.take (i + 1)).map (nmG j) ++ l.drop (i + 1)) (.slice G l.length H) A) (λK3 k3=>?_) ?_;rotate_left
 .rintro e W A ⟨a0,a1⟩ he;subst a0;refine z_V ?_;exact jad (hK W (i + 1,A) (by dsimp only;omega) ⟨rfl,c,a1⟩)
 refine jiI k3 λK4 k4=>?_
 refine Vc D (by rw[y];exact c) ?_;rw[hg];refine jge (jif (λg=>?_) (λg=>?_))
 .have g:0<=l[i]:=by simpa using g
  refine @VP _ _ _ 122 3 mb o (prs j (Gp j.length)) l[i] (I 0) false (Li.fz ho) HX X0 hm ?_;rw[PA Qr];have en:(if (false:Bool) = true then Value.tuple #[(if l[i]∈j then some (I ((Gp j.length).getD (j.idxOf l[i]) 0)) else none).getD (I 0),.bool (if l[i]∈j then some (I ((Gp j.length).getD (j.idxOf l[i]) 0)) else none).isSome] else (if l[i]∈j then some (I ((Gp j.length).getD (j.idxOf l[i]) 0)) else none).getD (I 0)) = I (nmG j l[i]):=by
   rw[if_neg δ];unfold nmG;rw[if_pos g];split<;>rfl
  rw[en];refine Xl D (by rw[y];exact c) λA' O=>?_
  rw[T] at O;exact k4 x A' ⟨rfl,O⟩
 .have g:¬ 0<=l[i]:=by simpa using g
  have en:nmG j l[i] = l[i]:=by unfold nmG;rw[if_neg g]
  rw[en] at T;have e2:((l.take i).map (nmG j) ++ l.drop i).set i l[i] = (l.take i).map (nmG j) ++ l.drop i:=by
   have:=List.set_getElem_self (show i < ((l.take i).map (nmG j) ++ l.drop i).length by rw[y];exact c);rwa [hg] at this
  rw[e2] at T;rw[T] at D;exact k4 x A ⟨rfl,D⟩
end
end Go.Lf
end
section
namespace Go.Lf
open Go Sm
section
variable {R:RM} {v:Value} {g:PG}
set_option maxHeartbeats 2000000 in
set_option maxRecDepth 8000 in
theorem IK (h:GrF R v g) (z:GZ g) (ok:GOk g):Fn P I3 [v] R [] (λx H A=>A = []/\GrF H x (FB g)):=by
 have b7:=h;obtain⟨r1,r2,nv,rv,pv,rfl,h1,h2,h3,h4,h5⟩:=h;obtain⟨na,nc,rfl⟩:=h2.sl;obtain⟨ra,rc,rfl⟩:=h4.sl;obtain⟨pa,pc,rfl⟩:=h5.sl;have e1:=h1.1;have e2:=h3.1;have i8:=ok.n;have zr:=ok.r1;have zp:=ok.p;refine Nd λF=>?_
 refine z_1 ?_;refine ja λb=>BE (b:=b) λR0 e6 hb=>ja λN=>?_
 have hb:R0 b = some (C 40 [.slice na r1.length nc,.slice ra r2.length rc,.slice pa g.pinned.length pc]):=hb;have b7:=b7.le e6;refine Da (l:=[.slice na r1.length nc,.slice ra r2.length rc,.slice pa g.pinned.length pc]) hb (by exact z_n 3) rfl (jrp (He b7 z) ?_);rw[Oz.2 ok];refine CK (Da (l:=[.slice na r1.length nc,.slice ra r2.length rc,.slice pa g.pinned.length pc]) hb (by exact z_n 3) rfl ?_);refine jc (A:=[]) (ZJ b7 ok) ?_;intro lv R2 A2 e8 so;refine E0 so λR3 e9 hi=>?_
 have b8:=UR ok;have f4:=b8.len;obtain⟨y,a7⟩:∃y,y = KC g:=⟨_,rfl⟩;rw[<- a7] at hi b8 f4;obtain⟨la,lc,rfl⟩:=hi.sl;have hb:=(e8.trans e9) _ _ hb;have a1:=e6.trans (e8.trans e9);refine Wa Zh λmb o0 g5=>?_
 refine jci (λ_:Obj=>[Pt b,Pt N,.slice la y.length lc,.map (some mb)]) (λo=>(mb,o) :: (N,C 40 (cl z40)) :: ([] ++ F)) (λH o=>H = R3/\Mg o (prs y (Gp y.length))) (λK1 k1=>?_) ?_
 .refine jln ?_;refine jiI k1 λK2 k2=>?_
  refine jli (λi:Nat × Obj=>y.length - i.1) (λi=>[Pt b,Pt N,.slice la y.length lc,.map (some mb),.slice la y.length lc,I y.length,I i.1]) (λi=>(mb,i.2) :: (N,C 40 (cl z40)) :: ([] ++ F))
   (λH i=>H = R3/\i.1<=y.length/\Mg i.2 (prs (y.take i.1) (Gp i.1))) (0,o0) ⟨rfl,V,by simpa [prs,Gp] using g5⟩ rfl rfl ?_
  rintro K e H ⟨k,o⟩ ⟨hR,hk,hm⟩ he hK;subst hR;dsimp only at hk hm he ⊢;refine z_V ?_;refine jlt (jif (λc=>?_) (λc=>?_));rotate_left
  .have c:=z_g c;rw[dh Z,show k = y.length from Z] at hm;exact k2 H o ⟨rfl,hm⟩
  have c:k < y.length:=by have:=z_f c;omega
  refine C5 hi Z Z ?_;simp only[da];refine @Ye _ _ _ 122 3 mb o _ (prs (y.take k) (Gp k)) _ _ _ HX hm λo3 d1=>?_
  have g2:∀p∈prs (y.take k) (Gp k),p.1≠y[k]:=λp hp e=>by
   have h1:=UN hp;rw[e] at h1;obtain⟨j,hj,ej⟩:=eJ h1;rw[dp] at hj;rw[gP] at ej;have:=(List.getElem_inj b8.nd).1 ej;omega
  rw[SR g2] at d1;have et:prs (y.take (k + 1)) (Gp (k + 1)) = prs (y.take k) (Gp k) ++ [(y[k],I k)]:=by
   rw[db c];have:Gp (k + 1) = Gp k ++ [(k:Int)]:=by unfold Gp;rw[List.range_succ,eS];rfl
   rw[this,Uj (by rw[dp,Qr];omega)]
  rw[<- et] at d1;exact jad (hK H (k + 1,o3) (by dsimp only;omega) ⟨rfl,c,d1⟩)
 rintro e H o ⟨hR,hm⟩ he;subst hR;refine z_V ?_;refine BE (b:=mb) λR4 a5 g1=>ja λgb=>?_
 have h1:=h1.mono λ_ _=>NdC.le (a1.trans a5)
 have h2:=h2.le (a1.trans a5);have h3:=h3.mono λ_ _=>RwC.le (a1.trans a5)
 have h4:=h4.le (a1.trans a5);have h5:=h5.le (a1.trans a5);have hi:=hi.le a5;have hb:=a5 _ _ hb;have e7:=a1.trans a5;have i4:∀x,nmG y x = nmG (KC g) x:=λx=>by rw[a7]
 have b0:∀{H : RM} {xv:Value} {l:List Int},R4.le H->Aw H xv l->l.length < 1000000->Fn P Ju [xv,.map (some mb)] H [] (λv f6 A=>f6 = H/\SO (l.map (nmG y)) v A):=λhR hx hl=>Z4 hx hl (hR _ _ g1) hm
 refine jci (λ_:Value × Chs × List (List Value)=>[Pt b,Pt N,.map (some mb),Pt gb])
  (λi=>(gb,C 40 [i.1,SN,SN]) :: (i.2.1 ++ ((N,C 40 (cl z40)) :: ([] ++ F))))
  (λH i=>R4.le H/\Rw (NdC H) i.2.2 (FB g).nodes/\SW 60 2 i.2.2 i.1 i.2.1) (λK1 k1=>?_) ?_
 .refine jln ?_;refine jiI k1 λK2 k2=>?_
  refine jli (λi:Nat × Value × Chs × List (List Value)=>y.length - i.1)
   (λi=>[Pt b,Pt N,.map (some mb),Pt gb,.slice la y.length lc,I y.length,I i.1])
   (λi=>(gb,C 40 [i.2.1,SN,SN]) :: (i.2.2.1 ++ ((N,C 40 (cl z40)) :: ([] ++ F))))
   (λH i=>R4.le H/\i.1<=y.length/\Rw (NdC H) i.2.2.2 ((y.take i.1).map λn=>((Fa g n).map (nmG y),(g.nodes.getD n.toNat ([],[])).2))/\SW 60 2 i.2.2.2 i.2.1 i.2.2.1)
   (0,SN,[],[]) ⟨RM.le.refl _,V,Rw.nil,.inl ⟨rfl,rfl,rfl⟩⟩ rfl rfl ?_
  rintro K e R5 ⟨k,nv,A1,rows⟩ ⟨W,c9,D,so⟩ he hK;dsimp only at c9 D so he hK ⊢;refine z_V ?_;refine jlt (jif (λc=>?_) (λc=>?_));rotate_left
  .have c:=z_g c;rw[dh Z,a7] at D;exact k2 R5 (nv,A1,rows) ⟨W,D,so⟩
  have c:k < y.length:=by have:=z_f c;omega
  obtain⟨x0,x1⟩:=b8.rg _ (dc c);obtain⟨q,hq⟩:∃q:Nat,y[k] = q:=⟨y[k].toNat,Z⟩;have b3:q < g.nodes.length:=Z
  have hnd:=ok.nd _ (dc b3);have g6:Fa g y[k] = g.nodes[q].1:=by
   unfold Fa;rw[hq,da,dZ,dY b3];rfl
  have g3:(g.nodes.getD (y[k]).toNat ([],[])).2 = g.nodes[q].2:=by
   rw[hq,da,dZ,dY b3];rfl
  have c8:=W _ _ hb;have e4:=h1.mono λ_ _=>NdC.le W
  have e5:=h2.le W;refine C5 (hi.le W) Z Z ?_;simp only[da];rw[hq];refine jfo (jl (v:=nv) rfl (jfo (jlr (v:=.slice na r1.length nc) c8 rfl ?_)));refine jnd e4 e5 b3 λxb o ty cs xv yv hx hy g8 ho f3=>jfo (jlr (v:=xv) g8 (Bt f3 (f:=0) rfl) ?_)
  refine jfo (jlr (v:=.slice na r1.length nc) c8 rfl ?_);refine jnd e4 e5 b3 λj2 o2 j1 h9 j3 f5 j0 h6 c7 i9 b4=>jfo (jlr (v:=f5) c7 (Bt b4 (f:=1) rfl) ?_)
  refine jc (A:=[]) (b0 W hx Z) ?_;rintro sv R6 A6 _ ⟨a0,b6⟩;subst a0;refine Al [(gb,C 40 [nv,SN,SN])] (G:=A6 ++ (A1 ++ ((N,C 40 (cl z40)) :: ([] ++ F)))) ?_;refine Ak (jl (v:=nv) rfl jev) (Ak (jlr (v:=.slice na r1.length nc) c8 rfl jev) (Ak (jlr (v:=f5) c7 (Bt b4 (f:=1) rfl) jev) ?_));refine jc (A:=[]) (Dt h6 Z) ?_;rintro cv R7 A7 _ ⟨a2,h7,-⟩;subst a2;refine BC (D':=A7 ++ ((gb,C 40 [nv,SN,SN]) :: (A6 ++ (A1 ++ ((N,C 40 (cl z40)) :: ([] ++ F)))))) (f9 _) ?_;refine Al A7 (G:=(gb,C 40 [nv,SN,SN]) :: (A6 ++ (A1 ++ ((N,C 40 (cl z40)) :: ([] ++ F))))) (E0 h7 λR8 O f1=>Al A6 (G:=(gb,C 40 [nv,SN,SN]) :: (A1 ++ ((N,C 40 (cl z40)) :: ([] ++ F)))) (E0 b6 λR9 a6 b2=>?_));obtain⟨xa,xc,rfl⟩:=b2.sl;obtain⟨ca,cc,rfl⟩:=f1.sl;refine jbd (cs:=[.slice xa (g.nodes[q].1.map (nmG y)).length xc,.slice ca g.nodes[q].2.length cc]) rfl rfl (Ak (jl (v:=nv) rfl jev) (jbs (cs:=[.slice xa (g.nodes[q].1.map (nmG y)).length xc,.slice ca g.nodes[q].2.length cc]) rfl rfl λbb=>Ak (jl (v:=nv) rfl jev) ?_));have d2:=D.1;rw[df,dp] at d2;refine Qk [[.slice xa (g.nodes[q].1.map (nmG y)).length xc,.slice ca g.nodes[q].2.length cc]] so rfl (D.all λ_ _=>NdC.len) (by intro r hr;rw[dz.1 hr];rfl) rfl rfl rfl δ (by simp only[dl,fP];omega) λv' A' b5=>?_
  obtain⟨va,vc,d3⟩:=b5.sl;subst d3;refine jfo (jS ([.slice va (rows ++ [[Value.slice xa (g.nodes[q].1.map (nmG y)).length xc,.slice ca g.nodes[q].2.length cc]]).length vc,SN,SN]) (jad ?_));refine Al [(gb,C 40 [.slice va (rows ++ [[Value.slice xa (g.nodes[q].1.map (nmG y)).length xc,.slice ca g.nodes[q].2.length cc]]).length vc,SN,SN])] (G:=A' ++ ((N,C 40 (cl z40)) :: ([] ++ F))) ?_;refine hK R9 (k + 1,_,A',rows ++ [[Value.slice xa (g.nodes[q].1.map (nmG y)).length xc,.slice ca g.nodes[q].2.length cc]]) (by dsimp only;omega) ⟨W.trans (O.trans a6),c,?_,b5⟩;rw[db c,eS];refine (D.mono λ_ _=>NdC.le (O.trans a6)).app (Rw.one ⟨_,_,rfl,?_,?_⟩)
  .dsimp only;rw[g6];exact b2
  .dsimp only;rw[g3];exact f1.le a6
 rintro e R5 ⟨a3,A1,Q⟩ ⟨W,a8,c6⟩ he;dsimp only at a8 c6 ⊢;refine z_V ?_;obtain⟨b9,c0,g4⟩:=c6.sl;refine Al A1 (G:=(gb,C 40 [a3,SN,SN]) :: (N,C 40 (cl z40)) :: ([] ++ F)) ?_;refine jfw c6 (a8.all λ_ _=>NdC.len) λR6 a0 hfz=>?_
 have a8:=a8.mono λ_ _=>NdC.le a0
 have a0:=W.trans a0;clear W c6;refine jci (λ_:Value × Chs × List (List Value)=>[Pt b,Pt N,.map (some mb),Pt gb])
  (λi=>(gb,C 40 [a3,i.1,SN]) :: (i.2.1 ++ ((N,C 40 (cl z40)) :: ([] ++ F))))
  (λH i=>R6.le H/\Rw (RwC H) i.2.2 (g.AD.map λr=>r.map (nmG y))/\SW 30 1 i.2.2 i.1 i.2.1) (λK1 k1=>?_) ?_
 .refine jfo (jlr (v:=.slice ra r2.length rc) (a0 _ _ hb) rfl (jln ?_));refine jiI k1 λK2 k2=>?_
  refine jli (λi:Nat × Value × Chs × List (List Value)=>g.AD.length - i.1)
   (λi=>[Pt b,Pt N,.map (some mb),Pt gb,.slice ra r2.length rc,I r2.length,I i.1])
   (λi=>(gb,C 40 [a3,i.2.1,SN]) :: (i.2.2.1 ++ ((N,C 40 (cl z40)) :: ([] ++ F))))
   (λH i=>R6.le H/\i.1<=g.AD.length/\Rw (RwC H) i.2.2.2 ((g.AD.take i.1).map λr=>r.map (nmG y))/\SW 30 1 i.2.2.2 i.2.1 i.2.2.1)
   (0,SN,[],[]) ⟨RM.le.refl _,V,Rw.nil,.inl ⟨rfl,rfl,rfl⟩⟩ rfl rfl ?_
  rintro K e R7 ⟨k,rv,A2,rows⟩ ⟨a2,c9,D,so⟩ he hK;dsimp only at c9 D so he hK ⊢;refine z_V ?_;refine jlt (jif (λc=>?_) (λc=>?_));rotate_left
  .have c:=z_g c;rw[dh Z] at D;exact k2 R7 (rv,A2,rows) ⟨a2,D,so⟩
  have c:k < g.AD.length:=by have:=z_f c;omega
  have h8:=(ok.rr _ (dc c)).1;have f8:=h3.mono λ_ _=>RwC.le (a0.trans a2)
  refine jrw f8 (h4.le (a0.trans a2)) c λxv hx=>jfo (jl (v:=rv) rfl ?_)
  refine jc (A:=[]) (b0 (a0.trans a2) hx Z) ?_;rintro sv R8 A6 _ ⟨O,b6⟩;subst O;refine Al A6 (G:=(gb,C 40 [a3,rv,SN]) :: (A2 ++ ((N,C 40 (cl z40)) :: ([] ++ F)))) (E0 b6 λR9 a6 b2=>?_);obtain⟨xa,xc,rfl⟩:=b2.sl;refine Ak (jl (v:=rv) rfl jev) (jbs (cs:=[.slice xa (g.AD[k].map (nmG y)).length xc]) rfl rfl λbb=>Ak (jl (v:=rv) rfl jev) ?_);have d2:=D.1;rw[df,dp] at d2;refine Qk [[.slice xa (g.AD[k].map (nmG y)).length xc]] so rfl (D.all λ_ _=>RwC.len) (by intro r hr;rw[dz.1 hr];rfl) rfl rfl rfl δ (by simp only[dl,fP];omega) λv' A' b5=>?_
  obtain⟨va,vc,d3⟩:=b5.sl;subst d3;refine jfo (jS ([a3,.slice va (rows ++ [[Value.slice xa (g.AD[k].map (nmG y)).length xc]]).length vc,SN]) (jad ?_));refine Al [(gb,C 40 [a3,.slice va (rows ++ [[Value.slice xa (g.AD[k].map (nmG y)).length xc]]).length vc,SN])] (G:=A' ++ ((N,C 40 (cl z40)) :: ([] ++ F))) ?_;refine hK R9 (k + 1,_,A',rows ++ [[Value.slice xa (g.AD[k].map (nmG y)).length xc]]) (by dsimp only;omega) ⟨a2.trans a6,c,?_,b5⟩;rw[db c,eS];exact (D.mono λ_ _=>RwC.le a6).app (Rw.one ⟨_,rfl,b2⟩)
 rintro e R7 ⟨d4,A2,T⟩ ⟨a2,a9,e3⟩ he;dsimp only at a9 e3 ⊢;refine z_V ?_;obtain⟨c4,c5,g7⟩:=e3.sl;refine Al A2 (G:=(gb,C 40 [a3,d4,SN]) :: (N,C 40 (cl z40)) :: ([] ++ F)) ?_;refine jfw e3 (a9.all λ_ _=>RwC.len) λR8 O f0=>?_
 have a9:=a9.mono λ_ _=>RwC.le O
 have O:=a2.trans O;have b1:=a0.trans O;refine jfo (jlr (v:=.slice pa g.pinned.length pc) (b1 _ _ hb) rfl ?_);refine jc (A:=[]) (b0 b1 (h5.le b1) Z) ?_;rintro sv R9 A6 _ ⟨a6,b6⟩;subst a6;refine Al [(gb,C 40 [a3,d4,SN]),(N,C 40 (cl z40))] (G:=A6 ++ ([] ++ F)) ?_;refine Al A6 (G:=[(gb,C 40 [a3,d4,SN]),(N,C 40 (cl z40))] ++ ([] ++ F)) ?_;refine E0 b6 λR10 a4 f2=>?_
 obtain⟨xa,xc,rfl⟩:=f2.sl;subst g4 g7;refine jfo (jS [.slice b9 Q.length c0,.slice c4 T.length c5,.slice xa (g.pinned.map (nmG y)).length xc] ?_);refine jla (l:=[.slice b9 Q.length c0,.slice c4 T.length c5,.slice xa (g.pinned.map (nmG y)).length xc]) (dg rfl) rfl ?_;refine jS [.slice b9 Q.length c0,.slice c4 T.length c5,.slice xa (g.pinned.map (nmG y)).length xc] ?_;refine jla (l:=[.slice b9 Q.length c0,.slice c4 T.length c5,.slice xa (g.pinned.map (nmG y)).length xc]) (dg rfl) rfl ?_;refine Ao (A:=[]) (e7.trans (b1.trans a4)) ⟨rfl,Q,T,_,_,_,rfl,a8.mono λ_ _=>NdC.le (O.trans a4),hfz.le (O.trans a4),?_,f0.le a4,?_⟩
 .unfold FB;rw[<- a7];exact a9.mono λ_ _=>RwC.le a4
 .unfold FB;rw[<- a7];exact f2
end
end Go.Lf
end
section
namespace Sm
def O7 (g h:PG):Bool:=(g.nodes == h.nodes) && (g.AD == h.AD) && (g.pinned == h.pinned)
theorem Ya {g:PG} (ok:GOk g):GZ (FB g):=by
 have m:=(UR ok).len;have n:=ok.n;have r:=ok.r1;have p:=ok.p;refine⟨by simp[FB];omega,by simp[FB];omega,by simp[FB];omega,λx j=>?_,λx j=>?_⟩
 .obtain⟨k,A,rfl⟩:=eE.1 j;have D:=(Qs ok k).2;refine⟨by simp;omega,?_⟩;dsimp only;rw[dZ];cases j:g.nodes[k.toNat]? with
  | none=>simp
  | some y=>have:=(ok.nd y (List.mem_of_getElem? j)).2.1;simp;omega
 .obtain⟨k,A,rfl⟩:=eE.1 j;have:=(ok.rr k A).1;simp;omega
end Sm
namespace Go.Lf
open Go Sm
section
variable {R:RM} {D:Chs}
theorem Po {α:Type} {la lb:List α} {i:Nat} (hl:la.length = lb.length) (hc:i < la.length) (he:la.take i = lb.take i) (hd:la[i] = lb[i]'(Z)):la.take (i + 1) = lb.take (i + 1):=by
 rw[db hc,db (by omega:i < lb.length),he,hd]
theorem So {α:Type} [BEq α] [LawfulBEq α] {la lb:List α} (h:(la.length:Int)≠lb.length):(la == lb) = false:=by
 rw[beq_eq_false_iff_ne];intro e;rw[e] at h;exact h rfl
theorem Xq {α:Type} [BEq α] [LawfulBEq α] {la lb:List α} {i:Nat} (j:i < la.length) (x:i < lb.length) (h:la[i]≠lb[i]):(la == lb) = false:=by
 rw[beq_eq_false_iff_ne];intro e;subst e;exact h rfl
theorem T7 {α:Type} [BEq α] [LawfulBEq α] {la lb:List α} (h:la.take la.length = lb.take la.length) (hl:la.length = lb.length):(la == lb) = true:=by
 rw[dh Z,dh Z] at h;rw[h];exact beq_self_eq_true _
theorem LT {y A:Value} {la lb:List Int} (x:Aw R y la) (hb:Aw R A lb) (H:la.length < 1000000):Ro Ed [y,A] (.bool (la == lb)) R D:=by
 refine N7 λF=>?_
 refine z_2 ?_;refine Bl x.sl (Bl hb.sl (jne (jif (λh=>?_) (λh=>?_))))
 .rw[So (by simpa using h)];exact B9 rfl
 have hl:la.length = lb.length:=by
  have:((la.length:Int) != lb.length) = false:=h;rw[bne_eq_false_iff_eq] at this;omega
 refine Bl x.sl ?_;refine Nw [y,A,I la.length] la.length (λi=>la.take i = lb.take i) V λi K e N j G he=>?_
 refine z_V ?_;refine jlt (jif (λhc=>?_) (λhc=>?_));rotate_left
 .have hc:=z_g hc;rw[show i = la.length from Z] at j;rw[T7 j hl];exact B9 rfl
 have hc:i < la.length:=by have:=z_f hc;omega
 refine C5 x Z Z (C5 hb Z Z (jne ?_));simp only[da];refine jif (λhd=>?_) (λhd=>?_)
 .rw[Xq hc Z (by simpa using hd)];exact B9 rfl
 .exact jad (G hc (Po hl hc j (by simpa using hd)))
theorem ZL {Q W j G : Option Addr} {T yc A H : Nat} {x y:List Int × List Int} (h1:Aw R (.slice Q x.1.length T) x.1) (h2:Aw R (.slice W x.2.length yc) x.2) (N : Aw R (.slice j y.1.length A) y.1) (O : Aw R (.slice G y.2.length H) y.2) (z1:x.1.length < 1000000) (z2:x.2.length < 1000000) :
  Ro Dv [.agg #[.slice Q x.1.length T,.slice W x.2.length yc],.agg #[.slice j y.1.length A,.slice G y.2.length H]] (.bool (x == y)) R D:=by
 refine KB λF=>?_
 refine z_2 ?_;refine ja λb1=>ja λb2=>?_
 have ex:(x == y) = ((x.1 == y.1) && (x.2 == y.2)):=rfl;rw[ex];refine jan [] ((x.1 == y.1) && (x.2 == y.2)) (λK' K=>?_) (λe c u ho he=>?_)
 .refine jfo (jl (v:=.slice Q x.1.length T) rfl (jfo (jl (v:=.slice j y.1.length A) rfl (jro (LT h1 N z1) ?_))));refine Dl (λg=>?_) (λg=>?_)
  .rw[g];exact jfo (jl (v:=.slice W x.2.length yc) rfl (jfo (jl (v:=.slice G y.2.length H) rfl (jro (LT h2 O z2) (K _ _ _ Bm (by rw[g,f7]))))))
  .rw[g];exact K _ _ _ Bu (by rw[g,fM])
 refine z_V ?_;rw[ho];exact BT (BT (B9 rfl))
theorem Uo {v1 v2:Value} {r1 r2:List (List Value)} {l1 l2:List (List Int × List Int)} (h1:Rw (NdC R) r1 l1) (g1:Fz R v1 2 r1.length r1.flatten) (h2:Rw (NdC R) r2 l2) (g2:Fz R v2 2 r2.length r2.flatten) (z0:l1.length < 1000000) (z:∀x∈l1,x.1.length < 1000000/\x.2.length < 1000000) :
  Ro Ec [v1,v2,.func (.func Dv) #[] #[]] (.bool (l1 == l2)) R D:=by
 refine Gc λF=>?_
 refine z_3 ?_;have e1:=h1.1;have e2:=h2.1;refine Bl g1.sl (Bl g2.sl (jne (jif (λh=>?_) (λh=>?_))))
 .rw[So (la:=l1) (lb:=l2) (by rw[<- e1,<- e2];simpa using h)];exact B9 rfl
 have hl:l1.length = l2.length:=by
  have:((r1.length:Int) != r2.length) = false:=h;rw[bne_eq_false_iff_eq] at this;omega
 refine Bl g1.sl ?_;refine Nw [v2,.func (.func Dv) #[] #[],v1,I r1.length] l1.length (λi=>l1.take i = l2.take i) V λi K e hi j hK he=>?_
 refine z_V ?_;refine jlt (jif (λhc=>?_) (λhc=>?_));rotate_left
 .have hc:=z_g hc;rw[show i = l1.length from Z] at j;rw[T7 j hl];exact B9 rfl
 have hc:i < l1.length:=by have:=z_f hc;omega
 have A:i < l2.length:=Z
 obtain⟨z1,z2⟩:=z _ (dc hc);refine jnd h1 g1 hc λxb o ty cs xv yv hx hy a2 ho G=>Da a2 ho G ?_
 obtain⟨xa,xc,rfl⟩:=hx.sl;obtain⟨ya,yc,rfl⟩:=hy.sl;refine ja λb1=>jS ([.slice xa l1[i].1.length xc,.slice ya l1[i].2.length yc]) ?_
 refine jnd h2 g2 A λa5 o' a4 a3 a6 a7 H O N a1 y=>Da N a1 y ?_
 obtain⟨Q,T,rfl⟩:=H.sl;obtain⟨W,a0,rfl⟩:=O.sl;refine ja λb2=>jS ([.slice Q l2[i].1.length T,.slice W l2[i].2.length a0]) ?_
 refine jla (l:=[.slice xa l1[i].1.length xc,.slice ya l1[i].2.length yc]) (dg rfl) rfl (jla (l:=[.slice Q l2[i].1.length T,.slice W l2[i].2.length a0]) (dg rfl) rfl ?_);refine H8 (by kernel_rfl) (jro (ZL hx hy H O z1 z2) (jif (λhd=>?_) (λhd=>?_)))
 .have hd:l1[i]≠l2[i]:=by simpa using hd
  rw[Xq hc A hd];exact BT (BT (B9 rfl))
 .have hd:l1[i] = l2[i]:=by simpa using hd
  exact jad (BT (BT (hK hc (Po hl hc j hd))))
theorem X7 {H N:Value} {r1 A:List (List Value)} {l1 l2:List (List Int)} (Q:Rw (RwC R) r1 l1) (G:Fz R H 1 r1.length r1.flatten) (T:Rw (RwC R) A l2) (O:Fz R N 1 A.length A.flatten) (z0:l1.length < 1000000) (z:∀x∈l1,x.length < 1000000) :
  Ro ET [H,N,.func (.func Ed) #[] #[]] (.bool (l1 == l2)) R D:=by
 refine GY λF=>?_
 refine z_3 ?_;have W:=Q.1;have e2:=T.1;refine Bl G.sl (Bl O.sl (jne (jif (λh=>?_) (λh=>?_))))
 .rw[So (la:=l1) (lb:=l2) (by rw[<- W,<- e2];simpa using h)];exact B9 rfl
 have hl:l1.length = l2.length:=by
  have:((r1.length:Int) != A.length) = false:=h;rw[bne_eq_false_iff_eq] at this;omega
 refine Bl G.sl ?_;refine Nw [N,.func (.func Ed) #[] #[],H,I r1.length] l1.length (λi=>l1.take i = l2.take i) V λi K e hi j hK he=>?_
 refine z_V ?_;refine jlt (jif (λhc=>?_) (λhc=>?_));rotate_left
 .have hc:=z_g hc;rw[show i = l1.length from Z] at j;rw[T7 j hl];exact B9 rfl
 have hc:i < l1.length:=by have:=z_f hc;omega
 have y:i < l2.length:=Z
 refine jrw Q G hc λxv hx=>jrw T O y λyv hy=>?_
 refine H8 (by kernel_rfl) (jro (LT hx hy (z _ (dc hc))) (jif (λhd=>?_) (λhd=>?_)))
 .have hd:l1[i]≠l2[i]:=by simpa using hd
  rw[Xq hc y hd];exact B9 rfl
 .have hd:l1[i] = l2[i]:=by simpa using hd
  exact jad (hK hc (Po hl hc j hd))
theorem PL {v1 v2:Value} {g h:PG} (h1:GrF R v1 g) (h2:GrF R v2 h) (z:GZ g):Ro HN [v1,v2] (.bool (O7 g h)) R D:=by
 obtain⟨r1,r2,nv,rv,pv,rfl,a1,T,a3,W,a5⟩:=h1;obtain⟨K,N,a0,a7,a6,rfl,b1,b2,b3,b4,b5⟩:=h2;obtain⟨na,nc,rfl⟩:=T.sl;obtain⟨ra,rc,rfl⟩:=W.sl;obtain⟨pa,pc,rfl⟩:=a5.sl;obtain⟨y,A,rfl⟩:=b2.sl;obtain⟨O,Q,rfl⟩:=b4.sl;obtain⟨G,H,rfl⟩:=b5.sl;obtain⟨z1,z2,z3,z4,z5⟩:=z;refine NE λF=>?_
 refine z_2 ?_;refine ja λx1=>ja λx2=>?_
 unfold O7;refine jan [Pt x1,Pt x2] ((g.nodes == h.nodes) && (g.AD == h.AD)) (λK' j=>?_) (λe c u ho he=>?_)
 .refine jfo (jl (v:=.slice na r1.length nc) rfl (jfo (jl (v:=.slice y K.length A) rfl (jro (Uo a1 T b1 b2 z1 z4) ?_))));refine Dl (λq=>?_) (λq=>?_)
  .rw[q];exact jfo (jl (v:=.slice ra r2.length rc) rfl (jfo (jl (v:=.slice O N.length Q) rfl (jro (X7 a3 W b3 b4 z2 z5) (j _ _ _ Bm (by rw[q,f7]))))))
  .rw[q];exact j _ _ _ Bu (by rw[q,fM])
 refine z_V ?_;refine jan [] ((g.nodes == h.nodes) && (g.AD == h.AD) && (g.pinned == h.pinned)) (λK' j=>?_) (λe c u x he=>?_)
 .rw[ho];refine Dl (λq=>?_) (λq=>?_)
  .rw[q];exact jfo (jl (v:=.slice pa g.pinned.length pc) rfl (jfo (jl (v:=.slice G h.pinned.length H) rfl (jro (LT a5 b5 z3) (j _ _ _ Bm (by rw[q,f7]))))))
  .rw[q];exact j _ _ _ Bu (by rw[q,fM])
 refine z_V ?_;rw[x];exact BT (BT (B9 rfl))
set_option maxRecDepth 8000 in
theorem NV {v1 v2:Value} {g h:PG} (h1:GrF R v1 g) (h2:GrF R v2 h) (z1:GZ g) (z2:GZ h) (W:GOk g) (a6:GOk h):Ro I7 [v1,v2] (.bool (O7 (FB g) (FB h))) R []:=by
 have K:=h1;have N:=h2;obtain⟨r1,r2,nv,rv,pv,rfl,a1,a2,a3,a4,a5⟩:=h1;obtain⟨a7,a8,j,y,x,rfl,b1,b2,b3,b4,b5⟩:=h2;refine Nk λF=>?_
 refine z_2 ?_;refine ja λx1=>ja λx2=>BE (b:=x1) λR1 T Q=>BE (b:=x2) λR2 O H=>?_
 have Q:R2 x1 = some (C 40 [nv,rv,pv]):=O _ _ Q;have H:R2 x2 = some (C 40 [j,y,x]):=H;have K:=K.le (T.trans O);have N:=N.le (T.trans O);refine jci (λ_:Unit=>[.bool (O7 (FB g) (FB h))]) (λ_=>[] ++ F) (λR' _=>R2.le R') (λK1 k1=>?_) ?_;rotate_left
 .rintro e R3 _ G he;refine z_V ?_;exact Ao (A:=[]) (T.trans (O.trans G)) ⟨rfl,rfl⟩
 refine Da (l:=[nv,rv,pv]) Q (by exact z_n 3) rfl (jrp (He K z1) ?_);rw[Oz.2 W];refine Bk [Pt x1,Pt x2,.bool true,.agg #[j,y,x]] (λK2 k2=>?_) (λe he=>?_)
 .exact jtt (Da (l:=[j,y,x]) H (by exact z_n 3) rfl k2)
 refine z_V ?_;refine jtt (jrp (He N z2) ?_);rw[Oz.2 a6];refine Bk [Pt x2,.bool true,.agg #[nv,rv,pv],.agg #[j,y,x]] (λK2 k2=>?_) (λe he=>?_)
 .refine EN (jtt (Da (l:=[nv,rv,pv]) Q (by exact z_n 3) rfl (Da (l:=[j,y,x]) H (by exact z_n 3) rfl k2)))
 refine z_V ?_;refine jtt ?_;refine jc (A:=[]) (IK K z1 W) ?_;rintro t1 R3 A3 G ⟨rfl,g3⟩;refine Ak (Da (l:=[j,y,x]) (G _ _ H) (by exact z_n 3) rfl jev) ?_;refine jc (A:=[]) (IK (N.le G) z2 a6) ?_;rintro t2 R4 A4 a0 ⟨rfl,g4⟩;refine jrp (PL (D:=[]) (g3.le a0) g4 (Ya W)) (EN ?_);exact k1 R4 () (G.trans a0)
end
end Go.Lf
end
section
namespace Sm
open Go.Lf
theorem Jk {f:Int->Int}:∀{xs:List Int} {a:Int},(∀x∈xs,f x = f a->x = a)->(xs.map f).idxOf (f a) = xs.idxOf a
 | [],a,_=>rfl
 | x :: xs,a,h=>by
  rw[eX,List.idxOf_cons,List.idxOf_cons];by_cases c:x = a
  .subst c;simp
  .have j : f x≠f a:=λe=>c (h x V e)
   rw[beq_eq_false_iff_ne.2 c,beq_eq_false_iff_ne.2 j];simp only[cond_false];rw[Jk λy A=>h y (eD _ A)]
section
variable {s:Aj} {l:List AO} {met:List Int}
def cn (l:List AO) (met:List Int) (x:Int):Int:=match now l x with
 | some u=>if u = 0 then -1 else (met.idxOf u:Int)
 | none=>-1
def WS (s:Aj) (l:List AO) (met:List Int):PG:=⟨met.map λa=>match Av l a with
 | some t=>(t.refs.map (cn l met),t.nums)
 | none=>([],[]),s.AB.map λt=>t.AD.map (cn l met),s.AI.map (cn l met)⟩
def nu (AJ:List Int) (a:Int):Int:=AJ.idxOf a
theorem PY (j:HpF s l met) {x u:Int} (h:now l x = some u) (G:u = 0\/u∈met):nmA l (AN met) x = if u = 0 then -1 else nu (AN met) u:=by
 unfold nmA;have y:x = 0↔u = 0:=by
  unfold now at h;constructor
  .intro e;rw[if_pos e] at h;cases h;rfl
  .intro e;by_cases c:x = 0
   .exact c
   .rw[if_neg c] at h;obtain⟨t,D,A⟩:=fy.1 h;exact absurd (A.trans e) (j.S.nz t (BA D).1)
 rw[h,eR];by_cases c:u = 0
 .rw[if_pos c,if_pos (y.2 c)]
 .rw[if_neg c,if_neg λe=>c (y.1 e)];unfold Ba nu;rw[if_pos (((B8 j.M.nd).2 u).2 (G.resolve_left c))]
theorem Xy {AJ:List Int} {a b:Int} (y:a∈AJ) (hb:b∈AJ) (e:nu AJ a = nu AJ b):a = b:=by
 unfold nu at e;have j:=gl (fC y);have x:=gl (fC hb);rw[<- j,<- x];exact getElem_congr_idx Z
theorem Yk {AJ acc:List Int} (x:∀a∈acc,a∈AJ) {u:Int} (A:u = 0\/u∈AJ):EG (acc.map (nu AJ)) (if u = 0 then -1 else nu AJ u) = (Bq acc u).map (nu AJ)/\∀a∈Bq acc u,a∈AJ:=by
 by_cases c:u = 0
 .rw[if_pos c];have j:Bq acc u = acc:=by unfold Bq;rw[if_pos (.inl c)]
  rw[j];unfold EG;rw[if_neg Z];exact⟨rfl,x⟩
 .rw[if_neg c];have y:=A.resolve_left c;have h0:0<=nu AJ u:=by unfold nu;omega
  by_cases d:u∈acc
  .have j:Bq acc u = acc:=by unfold Bq;rw[if_pos (.inr d)]
   rw[j];unfold EG;rw[if_neg (λh=>h.2 (fU d))];exact⟨rfl,x⟩
  .have j:Bq acc u = acc ++ [u]:=by unfold Bq;rw[if_neg (λe=>e.elim c d)]
   rw[j];unfold EG;rw[if_pos ⟨h0,λe=>by
    obtain⟨b,hb,e⟩:=eE.1 e
    exact d (Xy (x b hb) y e▸hb)⟩]
   refine⟨by rw[eS];rfl,λa h=>?_⟩;rcases eI.1 h with h | h
   .exact x a h
   .rw[dz.1 h];exact y
theorem PI (j:HpF s l met):∀{xs acc r:List Int},(∀a∈acc,a∈AN met)->(∀x∈xs,∃u,now l x = some u/\(u = 0\/u∈met))->Au l xs acc = some r->CJ (acc.map (nu (AN met))) (xs.map (nmA l (AN met))) = r.map (nu (AN met))/\∀a∈r,a∈AN met
 | [],acc,r,ha,_,h=>by cases h;exact⟨rfl,ha⟩
 | x :: xs,acc,r,ha,hx,h=>by
  obtain⟨u,D,A⟩:=hx x V;rw[Bo,D,z_o] at h;obtain⟨p1,p2⟩:=Yk ha (A.imp id ((B8 j.M.nd).2 u).2);have e:CJ (acc.map (nu (AN met))) ((x :: xs).map (nmA l (AN met))) = CJ (EG (acc.map (nu (AN met))) (nmA l (AN met) x)) (xs.map (nmA l (AN met))):=rfl;rw[e,PY j D A,p1];exact PI j (xs:=xs) p2 (λy G=>hx y (eD _ G)) h
theorem UF (y:HpF s l met) {a:Int} (x:a∈AN met):(GO s l (AN met)).nodes.getD (nu (AN met) a).toNat ([],[]) = ndP l (AN met) a:=by
 have j:=fC x;show ((AN met).map (ndP l (AN met))).getD (((AN met).idxOf a:Nat):Int).toNat ([],[]) = _;rw[da,dZ,eU,dY j,gC,eR,gl j]
theorem UJ (G:HpF s l met) (hc:∀b∈met,∀t,Av l b = some t->∀a∈t.refs,∃u,now l a = some u/\(u = 0\/u∈met)):∀{n f i:Nat} {out r:List Int},(∀a∈out,a∈AN met)->BJ l n i out = some r->r.length<=f + i->HD (GO s l (AN met)) f i (out.map (nu (AN met))) = r.map (nu (AN met))
 | 0,_,_,_,_,_,h,_=>by cases h
 | n + 1,f,i,out,r,ha,h,hfi=>by
  by_cases c:i < out.length
  .have Q:=ha _ (dc c);have H:=((B8 G.M.nd).2 _).1 Q;obtain⟨t,O⟩:=G.M.th _ H;rw[C9 c O] at h;cases D:Au l t.refs out with
   | none=>rw[D] at h;cases h
   | some o=>
    rw[D,z_o] at h;have mono:∀{n i:Nat} {o r:List Int},BJ l n i o = some r->o.length<=r.length:=by
     have W:∀{A j r:List Int},Au l A j = some r->j.length<=r.length:=by
      intro A;induction A with
      | nil=>intro j r h;cases h;exact z_n _
      | cons x A N=>
       intro j r h;rw[Bo] at h;cases K:now l x with
       | none=>rw[K] at h;cases h
       | some y=>
        rw[K] at h;refine i7 ?_ (N h);unfold Bq;split
        .exact z_n _
        .simp
     intro n;induction n with
     | zero=>intro i o r h;cases h
     | succ n N=>
      intro i o r h;by_cases c:i < o.length
      .cases R:Av l o[i] with
       | none=>
        unfold BJ at h;rw[dY c] at h;dsimp only at h;rw[R] at h;cases h
       | some t=>
        rw[C9 c R] at h;cases D:Au l t.refs o with
        | none=>rw[D] at h;cases h
        | some o2=>rw[D] at h;exact i7 (W D) (N h)
      .rw[CL Z] at h;cases h;exact z_n _
    have T:=mono h;have m1:i < o.length:=by
     have:∀{A j r:List Int},Au l A j = some r->j.length<=r.length:=by
      intro A;induction A with
      | nil=>intro j r h;cases h;exact z_n _
      | cons x A N=>
       intro j r h;rw[Bo] at h;cases K:now l x with
       | none=>rw[K] at h;cases h
       | some y=>
        rw[K] at h;refine i7 ?_ (N h);unfold Bq;split
        .exact z_n _
        .simp
     have:=this D;omega
    obtain⟨g,rfl⟩:∃g,f = g + 1:=⟨f - 1,Z⟩;rw[Lt (by rw[df];exact c),fx];have e:Fa (GO s l (AN met)) (nu (AN met) out[i]) = t.refs.map (nmA l (AN met)):=by
     unfold Fa;rw[UF G Q];unfold ndP;rw[O]
    obtain⟨p1,p2⟩:=PI G ha (hc _ H t O) D;rw[e,p1];exact UJ G hc p2 h Z
  .rw[CL Z] at h;cases h;exact OV (by rw[df];omega)
theorem aW (x:HpF s l met):KC (GO s l (AN met)) = met.map (nu (AN met)):=by
 obtain⟨D,G⟩:=x.closed;have H:=x.head;unfold C8 at H;simp only[z_b] at H;have j:=x.re;rw[DY H.2] at j;have y:=DU met [];have y:(AN met).length = met.length:=by simpa [AN] using y
 cases K:Au l (Cq s) [] with
 | none=>rw[K] at j;cases j
 | some o=>
  rw[K,z_o] at j;obtain⟨p1,p2⟩:=PI x (acc:=[]) (λa R=>by cases R) D K;have e0:YE (GO s l (AN met)) = o.map (nu (AN met)):=by
   rw[<- p1];unfold YE Cq;show CJ ((s.AB.map λt=>t.AD.map (nmA l (AN met))).foldl CJ []) (s.AI.map (nmA l (AN met))) = _;rw[eS];have Q:∀(N O acc:List Int),CJ acc (N ++ O) = CJ (CJ acc N) O:=λN O acc=>by unfold CJ;rw[gy]
   rw[Q];congr 1;have:∀(A:List Th) (acc:List Int),(A.map λt=>t.AD.map (nmA l (AN met))).foldl CJ acc = CJ acc ((A.flatMap (·.AD)).map (nmA l (AN met))):=by
    intro A;induction A with
    | nil=>intro acc;rfl
    | cons t A T=>
     intro acc;rw[eX,ge,T,List.flatMap_cons,eS,Q]
   exact this _ _
  unfold KC;rw[e0];refine UJ x G p2 j ?_;show met.length<=((AN met).map (ndP l (AN met))).length + 1 + 0;rw[df];omega
theorem Tn (D:HpF s l met) {x u:Int} (h:now l x = some u) (G:u = 0\/u∈met):nmG (met.map (nu (AN met))) (nmA l (AN met) x) = cn l met x:=by
 rw[PY D h G];unfold cn;rw[h];dsimp only;by_cases c:u = 0
 .rw[if_pos c,if_pos c];rfl
 .rw[if_neg c,if_neg c];have A:=G.resolve_left c;have j:=λy=>((B8 D.M.nd).2 y).2
  unfold nmG;rw[if_pos (by unfold nu;omega),if_pos (fU A),Jk λy K e=>Xy (j y K) (j u A) e];have H:=fC A;unfold Gp;rw[df,dZ,eU,gT H];rfl
theorem Qu (j:HpF s l met):FB (GO s l (AN met)) = WS s l met:=by
 obtain⟨A,N⟩:=j.closed;unfold FB WS;rw[aW j,gI];congr 1
 .refine fD λa K=>?_
  have has:=((B8 j.M.nd).2 a).2 K;obtain⟨t,H⟩:=j.M.th a K;show ((Fa _ (nu (AN met) a)).map _,_) = _;unfold Fa;rw[UF j has];unfold ndP;rw[H];dsimp only;rw[gI];congr 1;exact fD λx G=>by
   obtain⟨u,D,y⟩:=N a K t H x G;exact Tn j D y
 .show (s.AB.map λt=>t.AD.map (nmA l (AN met))).map _ = _;rw[gI];refine fD λt H=>?_
  show (t.AD.map _).map _ = _;rw[gI];exact fD λx G=>by
   obtain⟨u,D,y⟩:=A x (eT _ (gW.2 ⟨t,H,G⟩));exact Tn j D y
 .show (s.AI.map _).map _ = _;rw[gI];exact fD λx G=>by
   obtain⟨u,D,y⟩:=A x (eu _ G);exact Tn j D y
end
section
variable {s s' : Aj} {l l' : List AO} {met AJ to tops:List Int}
theorem Oe (H:HpF s l met) (O:Od met AJ) (Q:HR l l' AJ to) {x u:Int} (h:now l x = some u) (D:u = 0\/u∈met):cn l' (met.map (mvT AJ to)) (plc l AJ to x) = cn l met x:=by
 have A:=λy=>(O.m y).2
 have j : u = 0\/u∈AJ:=D.imp id (A u);rw[Ia Q.z h j];unfold cn;rw[Q.now j,h];dsimp only;by_cases c:u = 0
 .rw[if_pos c,if_pos rfl,if_pos c]
 .rw[if_neg c,if_neg c,if_neg (λe=>Q.zt (by have:=FI Q.len (j.resolve_left c);rw[e] at this;exact this))];rw[Jk λy G e=>Q.inj y (A y G) u (j.resolve_left c) e]
theorem Wf (G:HpF s l met) (O:Od met AJ) (N:DP s s' l AJ to tops) (Q:HR l l' AJ to):WS s' l' (met.map (mvT AJ to)) = WS s l met:=by
 obtain⟨D,R⟩:=G.closed;have H:s'.AB = s.AB.map (Ez l AJ to):=En N.hlen N.th;have j:s'.AI = s.AI:=by rw[N.eq]
 unfold WS;rw[H,j,gI,gI];congr 1
 .refine fD λa W=>?_
  obtain⟨t,T,h2⟩:=Q.th a ((O.m a).2 W);show (match Av l' (mvT AJ to a) with | some t=>(t.refs.map _,t.nums) | none=>([],[])) = _;rw[T,h2];dsimp only;rw[gI];congr 1;exact fD λx y=>by
   obtain⟨u,K,A⟩:=R a W t T x y;exact Oe G O Q K A
 .refine fD λt ht=>?_
  show ((Ez l AJ to t).AD).map _ = _;unfold Ez;rw[gI];exact fD λx y=>by
   obtain⟨u,K,A⟩:=D x (eT _ (gW.2 ⟨t,ht,y⟩));exact Oe G O Q K A
 .refine fD λx y=>?_
  obtain⟨u,K,A⟩:=D x (eu _ y);have:=Oe G O Q K A;rwa [(Og G O N y).2] at this
theorem V3 (x:HpF s l met) (O:Od met AJ) (y:DP s s' l AJ to tops):∃l',Bw s' = some (l',met.map (mvT AJ to))/\Thn s'.AC (bgF s l to) l'/\HR l l' AJ to/\HpF s' l' (met.map (mvT AJ to))/\
  O7 (FB (GO s l (AN met))) (FB (GO s' l' (AN (met.map (mvT AJ to))))) = true:=by
 obtain⟨l',A,D,Q⟩:=VV x O y;have j:=D0 A;refine⟨l',A,D,Q,j,?_⟩;rw[Qu x,Qu j,Wf x O y Q];unfold O7;simp
theorem Zi (j:HpF s l met) (hr:∀t∈s.AB,t.AD.length<=8):GOk (GO s l (AN met)):=by
 obtain⟨R,a1⟩:=j.closed;obtain⟨G,T,-⟩:=EU j.ths;have W:=DU met [];have W:(AN met).length = met.length:=by simpa [AN] using W
 have hh:=j.head;unfold C8 at hh;simp only[z_b,z_d] at hh;obtain⟨⟨⟨⟨⟨⟨⟨_,_⟩,_⟩,g4⟩,g5⟩,g6⟩,g7⟩,_⟩:=hh;have nl:(GO s l (AN met)).nodes.length = (AN met).length:=by
  show ((AN met).map _).length = _;rw[df]
 have H:∀x u,now l x = some u->(u = 0\/u∈met)->-1<=nmA l (AN met) x/\nmA l (AN met) x < (GO s l (AN met)).nodes.length:=λx u h D=>by
  rw[PY j h D,nl];by_cases c:u = 0
  .rw[if_pos c];omega
  .rw[if_neg c];have:=fC (((B8 j.M.nd).2 u).2 (D.resolve_left c));unfold nu;omega
 have a2:met.length<=200:=by
  have h1:met.length<=((List.range s.AC.length).map λ(i:Nat)=>(i:Int)).length:=Eo j.M.nd λx K=>by
   obtain⟨t,A⟩:=j.M.th x K;obtain⟨m1,m2⟩:=BA A;have i:=G.inn (T.all t m1).1;rw[m2] at i;exact eE.2 ⟨x.toNat,fV.2 Z,Z⟩
  have h2:=G.len;have N:=G.ok.n1;simp at h1;omega
 refine⟨by rw[nl];omega,by show 1<=(s.AB.map _).length;rw[df];omega,by show (s.AB.map _).length<=3;rw[df];omega,by show (s.AI.map _).length<=8;rw[df];omega,λx K=>?_,λx K=>?_,λx K=>?_⟩
 .obtain⟨y,O,rfl⟩:=eE.1 (show x∈s.AI.map (nmA l (AN met)) from K);obtain⟨u,D,N⟩:=R y (eu _ O);obtain⟨q1,q2⟩:=H y u D N;refine⟨?_,q2⟩;have hm:=j.pin O;obtain⟨t,A⟩:=j.M.th y hm;obtain⟨m1,m2⟩:=BA A;have a3:=j.S.at16 t m1;have hn:now l y = some y:=by
   unfold now;rw[if_neg Z,A,gC,j.nw y hm t A]
  rw[PY j hn (.inr hm),if_neg Z];unfold nu;omega
 .obtain⟨a,ha,rfl⟩:=eE.1 (show x∈(AN met).map (ndP l (AN met)) from K);have Q:=((B8 j.M.nd).2 a).1 ha;obtain⟨t,A⟩:=j.M.th a Q;obtain⟨m1,m2⟩:=BA A;obtain⟨x1,x2⟩:=T.all t m1;obtain⟨n1,n2,_⟩:=E4 G x1;rw[<- x2] at n1 n2;have a0:=Gm s.AC t.at_;unfold BN at a0;simp only[z_b,z_d] at a0;unfold ndP;rw[A];dsimp only;refine⟨by rw[df];omega,Z,λy O=>?_⟩;obtain⟨w,hw,rfl⟩:=eE.1 O;obtain⟨u,D,N⟩:=a1 a Q t A w hw;exact H w u D N
 .obtain⟨t,A,rfl⟩:=eE.1 (show x∈s.AB.map (λt=>t.AD.map (nmA l (AN met))) from K);refine⟨by rw[df];exact hr t A,λy O=>?_⟩;obtain⟨w,hw,rfl⟩:=eE.1 O;obtain⟨u,D,N⟩:=R w (eT _ (gW.2 ⟨t,A,hw⟩));exact H w u D N
end
section
variable {s s' : Aj} {l l' : List AO} {met AJ to tops:List Int}
theorem Wp (h:StB 10 s) (a0:s.BL<=90000) (N:HpF s l met) (O:Od met AJ) (j:DP s s' l AJ to tops):StB 10 s':=by
 obtain⟨K,W⟩:=MA N O j;have wl:=h.wl;have t1:=h.t1;have t0:=h.t0;have n0:=h.n0;have n1:=h.n1;have ml:=h.ml;have fl:=GU j;have tn:=j.tn;have A:s'.AB = s.AB.map (Ez l AJ to):=En j.hlen j.th;have y:s'.AI = s.AI:=by rw[j.eq]
 have hold:s'.old = []:=by rw[j.eq]
 have H:s'.AQ = List.replicate s.AC.length false:=by rw[j.eq]
 have D:s'.BF = s.BF:=by rw[j.eq]
 have G:s'.BL = s.BL + 1:=by rw[j.eq]
 refine⟨Go.Lf.full_rn N O j h.wr Z,Z,Z,Z,λx hx=>?_,by rw[A,df];exact n0,by rw[A,df];exact n1,λt Q=>?_,by rw[y];exact h.pl,λa T=>h.pv a (by rw[<- y];exact T),by rw[hold];decide,by rw[H,dw,fl],by rw[D];exact h.cy,by rw[G];have:=h.fu;omega⟩
 .obtain⟨i,hi,rfl⟩:=eJ hx;have e:rv s'.AA i = s'.AA[i]:=by
   unfold rv gv;simp only[da,dZ,dY hi,eR]
  rw[<- e];by_cases c:i = 0
  .subst c;have:=K.ok.e;rw[show ((0:Nat):Int) = 0 from rfl,this];exact⟨δ,δ⟩
  .have R:=K.ok.row i Z Z;have r0:=R.t0;have r1:=R.t1;omega
 .rw[A] at Q;obtain⟨u,hu,rfl⟩:=eE.1 Q;have:=h.rl u hu;unfold Ez;simp only[df];exact this
theorem XL (Q:HR l l' AJ to) {a:Int} (y:a∈AJ):szA l' (mvT AJ to a) = szA l a:=by
 obtain⟨t,j,x⟩:=Q.th a y;rw[Mr j,Mr x]
theorem Tu (x:HpF s l met) (O:Od met AJ) (Q:HR l l' AJ to):CS l' (met.map (mvT AJ to)) = CS l met:=by
 unfold CS;rw[gI];congr 1;exact fD λa j=>XL Q ((O.m a).2 j)
theorem SX (hf:HpF s l met) (O:Od met AJ) (K:DP s s' l AJ to tops) (Q:HR l l' AJ to) (N : Thn s'.AC (bgF s l to) l') (j : HpF s' l' (met.map (mvT AJ to))) (hp:s.AI = []):Ds l' = CS l' (met.map (mvT AJ to)):=by
 have hnd:=j.S.nd;have R:Ds l' = ((l'.map AO.at_).map (szA l')).sum:=by
  unfold Ds;rw[gI];congr 1;exact fD λt D=>(Mr (Dp hnd D)).symm
 rw[R];unfold CS;refine Lz (List.Perm.map _ ?_);have A:∀x,x∈l'.map AO.at_↔x∈met.map (mvT AJ to):=λx=>by
  constructor
  .intro G;obtain⟨t,D,rfl⟩:=eE.1 G;rcases (N.all t D).1 with h | ⟨_,h⟩
   .obtain⟨a,H⟩:=Gg K.hlen.symm h;have has:=(fR H).1;refine eE.2 ⟨a,(O.m a).1 has,?_⟩;obtain⟨i,hi,e⟩:=eJ H;rw[gL] at e;have y:i < AJ.length/\i < to.length:=by rw[gU] at hi;omega
    have T:AJ[i] = a:=congrArg Prod.fst e;have W:to[i] = t.at_:=congrArg Prod.snd e;have hn:AJ.Nodup:=O.nd;unfold mvT;rw[<- T,hn.idxOf_getElem i y.1,dZ,dY y.2,eR,W]
   .rw[hp] at h;simp[Ah] at h
  .intro G;obtain⟨t,D⟩:=j.M.th x G;obtain⟨m1,m2⟩:=BA D;exact eE.2 ⟨t,m1,m2⟩
 exact (List.perm_ext_iff_of_nodup hnd j.M.nd).2 A
end
theorem JP (r:Int):Ah [] r = false:=rfl
theorem HJ {l:List AO} {a:Int} {j tops:List Int} {r:Nat}:Db [] l (a :: j) tops r =
  if nxt [] tops (Bh l a) (tops.length + 1) r = tops.length then none else
  (Db [] l j (tops.set (nxt [] tops (Bh l a) (tops.length + 1) r) (tops.getD (nxt [] tops (Bh l a) (tops.length + 1) r) 0 + Bh l a)) (nxt [] tops (Bh l a) (tops.length + 1) r)).map λq=>(tops.getD (nxt [] tops (Bh l a) (tops.length + 1) r) 0 :: q.1,q.2):=by
 rw[Ib,if_neg (by rw[JP];decide)]
theorem LB {l l2:List AO}:∀{la lb tops:List Int} {r:Nat},la.map (Bh l) = lb.map (Bh l2)->Db [] l la tops r = Db [] l2 lb tops r
 | [],[],_,_,_=>rfl
 | [],_ :: _,_,_,h=>by cases h
 | _ :: _,[],_,_,h=>by cases h
 | a :: la,b :: lb,tops,r,h=>by
  rw[eX,eX,zj] at h;rw[HJ,HJ,h.1];split
  .rfl
  .rw[LB (la:=la) (lb:=lb) h.2]
theorem XF {tops:List Int} {n:Int}:∀(f r:Nat),r<=nxt [] tops n f r
 | 0,r=>z_n _
 | f + 1,r=>by
  unfold nxt;split
  .exact i7 (fF r) (XF f (r + 1))
  .exact z_n _
theorem OA {l:List AO}:∀{la tops to y : List Int} {r:Nat},Db [] l la tops r = some (to,y)->(∀a∈la,0 < Bh l a)->tops.length<=12->r<=tops.length->(∀q:Nat,r < q->q < tops.length->tops.getD q 0 = 16 * q)->(r < tops.length->tops.getD r 0<=16 * r + 16)->
  to.Pairwise (· < ·)/\∀b∈to,tops.getD r 0<=b\/tops.length<=r
 | [],tops,to,y,r,h,_,_,_,_,_=>by cases h;exact⟨List.Pairwise.nil,λb hb=>by cases hb⟩
 | a :: la,tops,to,y,r,h,hs,hl,hrl,hq,hr=>by
  rw[HJ] at h;obtain⟨j,A⟩:∃j,j = nxt [] tops (Bh l a) (tops.length + 1) r:=⟨_,rfl⟩;rw[<- A] at h;have W:r<=j:=by rw[A];exact XF _ _
  split at h
  .cases h
  rename_i a1;obtain⟨⟨Q,t2⟩,D,e⟩:=fy.1 h;cases e;have a2:=hs a V;by_cases c:j < tops.length
  .have hlen:(tops.set j (tops.getD j 0 + Bh l a)).length = tops.length:=by rw[fB]
   have N:∀q:Nat,(tops.set j (tops.getD j 0 + Bh l a)).getD q 0 = if q = j then tops.getD j 0 + Bh l a else tops.getD q 0:=λq=>by
    rw[dZ,gO];by_cases c2:j = q
    .subst c2;rw[if_pos rfl,if_pos c,if_pos rfl];rfl
    .rw[if_neg c2,if_neg (λe=>c2 e.symm),dZ]
   have K:tops.getD j 0 + Bh l a<=16 * j + 16:=by
    have H:∀(f q:Nat),tops.length < f + q->nxt [] tops (Bh l a) f q < tops.length->tops.getD (nxt [] tops (Bh l a) f q) 0 + Bh l a<=AK (nxt [] tops (Bh l a) f q) + 16:=by
     intro f;induction f with
     | zero=>intro q R D;exact absurd D (by unfold nxt;omega)
     | succ f O=>
      intro q R D;unfold nxt at D ⊢;split
      .rename_i hc;rw[if_pos hc] at D;exact O (q + 1) Z D
      .rename_i hc;rw[if_neg hc] at D;simp only[JP,eO,false_or,not_and,Int.not_lt] at hc;exact hc D
    have:=H (tops.length + 1) r Z (by rw[<- A];exact c);rw[<- A,Br Z Z] at this;exact this
   obtain⟨i1,i2⟩:=OA D (λx hx=>hs x (eD _ hx)) (by rw[hlen];exact hl) (by rw[hlen];omega) (λq R G=>by
    rw[N,if_neg Z]
    exact hq q Z (by rw[hlen] at G;exact G)) (λ_=>by rw[N,if_pos rfl];exact K)
   have up:∀b∈Q,tops.getD j 0 < b:=λb hb=>by
    rcases i2 b hb with G | G
    .rw[N,if_pos rfl] at G;omega
    .rw[hlen] at G;omega
   have T:tops.getD r 0<=tops.getD j 0\/tops.length<=r:=by
    by_cases c2:r = j
    .rw[c2];exact .inl (eQ _)
    .have G:=hq j Z c;have h4:=hr Z;exact .inl Z
   refine⟨fj.2 ⟨up,i1⟩,λb hb=>?_⟩;rcases du.1 hb with rfl | hb
   .exact T
   .have:=up b hb;exact T.imp (λh=>Z) id
  .have a0:tops.length < j:=Z
   have H:∀(f q:Nat),q<=tops.length->nxt [] tops (Bh l a) f q<=tops.length:=by
    intro f;induction f with
    | zero=>intro q h;exact h
    | succ f O=>
     intro q h;unfold nxt;split
     .rename_i hc;exact O (q + 1) Z
     .exact h
   have:=H (tops.length + 1) r hrl;rw[<- A] at this;omega
theorem Wb:∀{a b:List Int},a.Pairwise (· < ·)->b.Pairwise (· < ·)->(∀x,x∈a↔x∈b)->a = b
 | [],[],_,_,_=>rfl
 | [],y :: b,_,_,h=>by have:=(h y).2 V;cases this
 | x :: a,[],_,_,h=>by have:=(h x).1 V;cases this
 | x :: a,y :: b,ha,hb,h=>by
  obtain⟨A,G⟩:=fj.1 ha;obtain⟨D,H⟩:=fj.1 hb;have e:x = y:=by
   rcases du.1 ((h x).1 V) with c | c
   .exact c
   .rcases du.1 ((h y).2 V) with d | d
    .exact d.symm
    .have:=A y d;have:=D x c;omega
  subst e;congr 1;refine Wb G H λz=>⟨λj=>?_,λj=>?_⟩
  .rcases du.1 ((h z).1 (eD _ j)) with c | c
   .have:=A z j;omega
   .exact c
  .rcases du.1 ((h z).2 (eD _ j)) with c | c
   .have:=D z j;omega
   .exact c
section
variable {s s' s2:Aj} {l l' : List AO} {met to tops to2 tops2:List Int}
theorem CQ:(CI s).length = s.AA.length:=by unfold CI;rw[df,List.length_range]
theorem JB (j:s.AI = []) {q:Nat} (h:q < s.AA.length):(CI s).getD q 0 = AK q:=by
 unfold CI;rw[dZ,eU,gT h,gC,eR,j,JP,if_neg δ]
theorem UI (y:HpF s l met) (H:DP s s' l (AN met) to tops) (A : HpF s' l' (met.map (mvT (AN met) to))) (N:s.AI = []):to.Pairwise (· < ·)/\AN (met.map (mvT (AN met) to)) = to:=by
 obtain⟨G,T,-⟩:=EU y.ths;have n0:=G.ok.n0;have n1:=G.ok.n1;have D:=H.ld;rw[N] at D;have asc:=(OA D (λa K=>by
  obtain⟨t,Q⟩:=y.M.th a (((B8 y.M.nd).2 a).1 K)
  obtain⟨m1,m2⟩:=BA Q
  obtain⟨x1,R⟩:=T.all t m1
  unfold Bh
  rw[Q]
  dsimp only
  have O:=(E4 G x1).2.2
  rw[<- R] at O
  have j:=congrArg AO.sh R
  dsimp only[thg] at j
  rw[j]
  show 0 < sz s.AC t.at_
  omega) (by rw[CQ];omega) (by rw[CQ];omega) (λq O j=>by
  rw[CQ] at j
  rw[JB N j,Br Z Z]) (λj=>by
  rw[CQ] at j
  rw[JB N j,Br Z Z]
  omega)).1
 refine⟨asc,Wb (B8 A.M.nd).1 asc λx=>?_⟩;rw[(B8 A.M.nd).2];refine⟨λh=>?_,λh=>?_⟩
 .obtain⟨a,K,rfl⟩:=eE.1 h;exact FI H.hlen (((B8 y.M.nd).2 a).2 K)
 .obtain⟨i,W,e⟩:=eJ h;have hl:=H.hlen;have hnd:(AN met).Nodup:=(B8 y.M.nd).1.imp λh e=>Z
  refine eE.2 ⟨(AN met)[i]'(Z),((B8 y.M.nd).2 _).1 (dc _),?_⟩;unfold mvT;rw[List.Nodup.idxOf_getElem hnd i Z,dZ,dY W,eR,e]
theorem bI (y:HpF s l met) (j:DP s s' l (AN met) to tops):to = (AN met).map (mvT (AN met) to):=by
 have hl:=j.hlen;have hnd:(AN met).Nodup:=(B8 y.M.nd).1.imp λh e=>Z
 refine fq (by rw[df];exact hl) λi x A=>?_
 rw[fx];unfold mvT;rw[List.Nodup.idxOf_getElem hnd i Z,dZ,dY x,eR]
theorem TO (K:HpF s l met) (A:DP s s' l (AN met) to tops) (Q:HR l l' (AN met) to) (a1 : HpF s' l' (met.map (mvT (AN met) to))) (T:s.AI = []) (F2:DP s' s2 l' (AN (met.map (mvT (AN met) to))) to2 tops2):s2.AC = s'.AC:=by
 obtain⟨asc,es⟩:=UI K A a1 T;rw[es] at F2;obtain⟨a3,a0⟩:=K.closed;have hl:=A.hlen;have j:s'.AI = []:=by rw[A.eq];exact T
 have e1:CI s' = CI s:=by
  refine fq (by rw[CQ,CQ,A.tn]) λi D G=>?_
  have g1:=JB j (by rw[CQ] at D;exact D);have g2:=JB T (by rw[CQ] at G;exact G);rw[dZ,dY D,eR] at g1;rw[dZ,dY G,eR] at g2;rw[g1,g2]
 have e2:to2 = to:=by
  have D:=A.ld;have G:=F2.ld;rw[T] at D;rw[j,e1,<- LB (l:=l) (la:=AN met) (by
   conv=>rhs;rw[bI K A]
   rw[gI]
   refine fD λa N=>?_
   obtain⟨t,W,q2⟩:=Q.th a N
   show Bh l a = Bh l' (mvT (AN met) to a)
   unfold Bh
   rw[W,q2]),D] at G
  cases G;rfl
 have O:∀{x:Aj} {k:List AO},x.AI = []->(k.filter λy=>Ah x.AI (AM y.at_)) = []:=λh=>by
  rw[h];exact List.filter_eq_nil_iff.2 λy _=>by rw[JP];decide
 rw[F2.wd,GU A,A.wd,O j,O T,e2];congr 1;refine fq (by simp[hl]) λi D G=>?_
 have hi:i < to.length:=by simpa using D
 have a2 : i < (AN met).length:=Z
 rw[fx,fx,gL,gL];dsimp only;have N:=dc a2;have hz:=LO A.hlen N;obtain⟨t,W,q2⟩:=Q.th _ N;have hnd:(AN met).Nodup:=(B8 K.M.nd).1.imp λh e=>Z
 have em:mvT (AN met) to (AN met)[i] = to[i]:=by
  unfold mvT;rw[List.Nodup.idxOf_getElem hnd i Z,dZ,dY hi,eR]
 rw[em] at q2;unfold DI;rw[W,q2];dsimp only;congr 1;congr 1;congr 1;congr 1;rw[gI];refine fD λx hx=>?_
 obtain⟨u,hu,h3⟩:=a0 _ (((B8 K.M.nd).2 _).1 N) t W x hx;have H : u = 0\/u∈AN met:=h3.imp id ((B8 K.M.nd).2 u).2;show plc l' to to (plc l (AN met) to x) = plc l (AN met) to x;rw[Ia Q.z hu H];by_cases c:u = 0
 .rw[if_pos c,Ia Q.zt (x:=0) (u:=0) rfl (.inl rfl),if_pos rfl]
 .rw[if_neg c];have R:=FI A.hlen (H.resolve_left c);have hn:=Q.now H;rw[if_neg c] at hn;rw[Ia Q.zt hn (.inr R),if_neg (λe=>Q.zt (by rw[e] at R;exact R))];have hj:=fC R;unfold mvT at R hj ⊢;rw[dZ,dY hj,eR,gl hj]
end
def cU (p:Nat->Bool):Nat->Nat
 | 0=>0
 | n + 1=>cU p n + if p n = true then 1 else 0
theorem Wg {p p' : Nat->Bool} {i:Nat} (h:∀q,q≠i->p' q = p q):∀n,cU p' n<=cU p n + 1/\(n<=i\/p' i = p i->cU p' n = cU p n)
 | 0=>⟨Nat.zero_le _,λ_=>rfl⟩
 | n + 1=>by
  obtain⟨y,x⟩:=Wg h n;unfold cU;by_cases c:n = i
  .subst c;have:=x (.inl (z_n _));refine⟨by split<;>split<;>omega,λj=>?_⟩;rw[this,j.resolve_left Z]
  .rw[h n c];refine⟨Z,λj=>?_⟩;rw[x (j.imp Z id)]
theorem LU {p:Nat->Bool} {m:Nat}:∀{n:Nat},m<=n->cU p m<=cU p n
 | 0,h=>by cases Nat.le_zero.1 h;exact z_n _
 | n + 1,h=>by
  rcases Nat.lt_or_ge m (n + 1) with c | c
  .have:=LU (p:=p) (m:=m) (n:=n) Z;show cU p m<=cU p n + _;omega
  .have:m = n + 1:=Z
   subst this;exact z_n _
theorem ck {p:Nat->Bool} {m n:Nat} (h:m < n) (j:p n = true):cU p (m + 1) + 1<=cU p (n + 1):=by
 have:=LU (p:=p) (show m + 1<=n from h);show _<=cU p n + _;rw[if_pos j];omega
theorem Xt {p h u:Nat->Bool}:∀{n:Nat},(∀q,q < n->p q = true->h q = true\/u q = true)->cU p n<=cU h n + cU u n
 | 0,_=>Nat.zero_le _
 | n + 1,H=>by
  have i:=Xt (p:=p) (h:=h) (u:=u) (n:=n) λq j=>H q Z
  unfold cU;by_cases c:p n = true
  .rw[if_pos c];rcases H n Z c with d | d
   .rw[if_pos d];omega
   .rw[if_pos d];omega
  .rw[if_neg c];omega
theorem Xa {p h u:Nat->Bool}:∀{n:Nat},(∀q,q < n->(h q = true->p q = true)/\(u q = true->p q = true)/\¬ (h q = true/\u q = true))->cU h n + cU u n<=cU p n
 | 0,_=>Nat.zero_le _
 | n + 1,H=>by
  have i:=Xa (p:=p) (h:=h) (u:=u) (n:=n) λq A=>H q Z
  obtain⟨j,x,y⟩:=H n Z;unfold cU;by_cases c:h n = true<;>by_cases d:u n = true
  .exact absurd ⟨c,d⟩ y
  .rw[if_pos c,if_neg d,if_pos (j c)];omega
  .rw[if_neg c,if_pos d,if_pos (x d)];omega
  .rw[if_neg c,if_neg d];omega
section
variable {AI tops:List Int} {n:Int}
theorem Q8:∀(f r:Nat),tops.length < f + r->r<=tops.length->r<=nxt AI tops n f r/\nxt AI tops n f r<=tops.length/\(nxt AI tops n f r < tops.length->Ah AI (nxt AI tops n f r) = false/\tops.getD (nxt AI tops n f r) 0 + n<=AK (nxt AI tops n f r) + 16)/\(nxt AI tops n f r≠r->Ah AI r = true\/AK r + 16 < tops.getD r 0 + n)
 | 0,r,h,h2=>Z
 | f + 1,r,h,h2=>by
  unfold nxt;by_cases c:r < tops.length/\(Ah AI r = true\/AK r + 16 < tops.getD r 0 + n)
  .rw[if_pos c];obtain⟨i1,i2,i3,y⟩:=Q8 f (r + 1) Z Z;exact⟨Z,i2,i3,λ_=>c.2⟩
  .rw[if_neg c];refine⟨z_n _,h2,λj=>?_,λh=>absurd rfl h⟩;have c1:=λe=>c ⟨j,e⟩
   refine⟨?_,?_⟩
   .cases x:Ah AI r with
    | true=>exact absurd (.inl x) c1
    | false=>rfl
   .exact Int.not_lt.1 λe=>c1 (.inr e)
def inU (AI tops:List Int) (q:Nat):Bool:=decide (1<=q) && !Ah AI q && decide ((16 * q:Int) < tops.getD q 0)
theorem Il {l:List AO} {P:Nat->Bool}:∀{la tops to A : List Int} {r rho:Nat} {e:Int},Db AI l la tops r = some (to,A)->tops.length<=12->1<=r->r<=tops.length->
  (∀a∈la,16<=a/\a / 16 < tops.length/\0 < Bh l a/\a + Bh l a<=16 * (a / 16) + 16/\(Ah AI (a / 16) = false->P (a / 16).toNat = true))->la.Pairwise (λa b=>a + Bh l a<=b)->
  (∀a∈la,e<=a)->(16 * rho:Int)<=e->rho < tops.length->(∀q:Nat,r < q->q < tops.length->Ah AI q = false->tops.getD q 0 = 16 * q)->
  ((rho = 0/\cU (inU AI tops) tops.length = 0/\(r < tops.length->Ah AI r = false->tops.getD r 0 = 16 * r))\/(r < tops.length/\Ah AI r = false/\(16 * r:Int) < tops.getD r 0/\cU (inU AI tops) tops.length<=cU P (rho + 1)/\(cU (inU AI tops) tops.length = cU P (rho + 1)->tops.getD r 0 - 16 * r<=e - 16 * rho)))->
  A.length = tops.length/\cU (inU AI A) tops.length<=cU P tops.length
 | [],tops,to,A,r,rho,e,h,hl,h1,hr,ha,hp,he,hrho,hrl,H,hI=>by
  cases h;refine⟨rfl,?_⟩;have:=LU (p:=P) (show rho + 1<=tops.length from hrl);rcases hI with ⟨_,g,_⟩ | ⟨_,_,_,g,_⟩<;>omega
 | a :: la,tops,to,A,r,rho,e,h,hl,h1,hr,ha,hp,he,hrho,hrl,H,hI=>by
  obtain⟨a0,a1,a2,a3,a4⟩:=ha a V;obtain⟨p1,p2⟩:=fj.1 hp;have O:=λb hb=>ha b (eD _ hb)
  have a7:=he a V;rw[Ib] at h;rw[Bc Z] at h;by_cases Q:Ah AI (a / 16) = true
  .rw[if_pos Q] at h;obtain⟨⟨q1,q2⟩,h2,ee⟩:=fy.1 h;cases ee;exact Il h2 hl h1 hr O p2 (λb hb=>he b (eD _ hb)) hrho hrl H hI
  rw[if_neg Q] at h;have Q:Ah AI (a / 16) = false:=by simpa using Q
  obtain⟨s1,s2,D,s4⟩:=Q8 (AI:=AI) (tops:=tops) (n:=Bh l a) (tops.length + 1) r Z hr;obtain⟨y,a5⟩:∃y,y = nxt AI tops (Bh l a) (tops.length + 1) r:=⟨_,rfl⟩;rw[<- a5] at h s1 s2 D s4;split at h
  .cases h
  obtain⟨⟨to2,t2⟩,h2,ee⟩:=fy.1 h;cases ee;have c:y < tops.length:=Z
  obtain⟨D,s5⟩:=D c;rw[Br Z Z] at s5;have hlen:(tops.set y (tops.getD y 0 + Bh l a)).length = tops.length:=by rw[fB]
  have W:∀q:Nat,(tops.set y (tops.getD y 0 + Bh l a)).getD q 0 = if q = y then tops.getD y 0 + Bh l a else tops.getD q 0:=λq=>by
   rw[dZ,gO];by_cases c2:y = q
   .subst c2;rw[if_pos rfl,if_pos c,if_pos rfl];rfl
   .rw[if_neg c2,if_neg (λe=>c2 e.symm),dZ]
  obtain⟨j,a6⟩:∃k:Nat,(k:Int) = a / 16:=⟨(a / 16).toNat,Z⟩;have hP:P j = true:=by rw[show j = (a / 16).toNat from Z];exact a4 Q
  have a8:rho<=j:=Z
  obtain⟨u1,u2⟩:=Wg (p:=inU AI tops) (p':=inU AI (tops.set y (tops.getD y 0 + Bh l a))) (i:=y) (λq H=>by unfold inU;rw[W,if_neg H]) tops.length;have K:tops.getD y 0 = 16 * y\/(y = r/\(16 * r:Int) < tops.getD r 0/\¬ rho = 0\/y = r/\(16 * r:Int) < tops.getD r 0):=by
   by_cases d:y = r
   .rcases hI with ⟨_,_,g⟩ | ⟨_,_,g,_⟩
    .rw[d] at D ⊢;exact .inl (g Z D)
    .exact .inr (.inr ⟨d,g⟩)
   .exact .inl (H y Z c D)
  have R:∀t:List Int,(16 * y : Int) < t.getD y 0->inU AI t y = true:=λt ht=>by
   unfold inU;rw[D];simp only[Bool.not_false,Bool.and_true,z_b,z_d];exact⟨Z,ht⟩
  obtain⟨i1,i2⟩:=Il (rho:=j) (e:=a + Bh l a) h2 (by rw[hlen];exact hl) Z (by rw[hlen];omega) (λb hb=>by rw[hlen];exact O b hb) p2 p1 Z (by rw[hlen];omega) (λq g1 N g3=>by
   rw[hlen] at N
   rw[W,if_neg Z]
   exact H q Z N g3) (.inr (by
   rw[hlen,W,if_pos rfl]
   have up:rho < j->cU P (rho + 1) + 1<=cU P (j + 1):=λh=>ck h hP
   have a9:1<=cU P (j + 1):=by
    show 1<=cU P j + _
    rw[if_pos hP];omega
   rcases K with b | b
   .
    refine⟨c,D,Z,?_,λ_=>Z⟩
    rcases hI with ⟨_,g,_⟩ | ⟨g1,N,g3,g4,g5⟩
    .omega
    .by_cases k:rho < j
     .have:=up k;omega
     .have k:j = rho:=Z
      subst k
      by_cases d:cU (inU AI tops) tops.length = cU P (j + 1)
      .have g6:=g5 d
       have d2:y≠r:=λe=>by rw[e] at b;omega
       rcases s4 d2 with x | x
       .rw[x] at N;cases N
       .rw[Br Z Z] at x
        omega
      .omega
   .
    have b:y = r/\(16 * r:Int) < tops.getD r 0:=b.elim (λh=>⟨h.1,h.2.1⟩) id
    obtain⟨T,b2⟩:=b
    have same:=u2 (.inr (by rw[R _ (by rw[W,if_pos rfl,T];omega),R _ (by rw[T];exact b2)]))
    refine⟨c,D,by rw[T];omega,?_,λG=>?_⟩
    .rcases hI with ⟨_,g,_⟩ | ⟨_,_,_,g,_⟩
     .omega
     .have:=LU (p:=P) (show rho + 1<=j + 1 by omega)
      omega
    .rcases hI with ⟨g0,g,gg⟩ | ⟨_,_,_,g4,g5⟩
     .rw[same,g] at G;omega
     .rw[same] at G
      by_cases k:rho < j
      .have:=up k;omega
      .have k:j = rho:=Z
       subst k
       have:=g5 G
       rw[T];omega))
  rw[hlen] at i1 i2;exact⟨i1,i2⟩
end
end Sm
end
section
namespace Sm
open Go.Lf
def s0 (r t:Nat):Aj:=⟨(CY (List.replicate (r * 16) 0) 16 Bv).1,AU (AY r) 1 ⟨3,-1,24,24,0⟩,List.replicate (r * 16) false,0,false,false,false,0,List.replicate t ⟨[16],0,false,0⟩,[],[],0,0⟩
end Sm
namespace Go.Lf
open Go Sm
end Go.Lf
end
section
namespace Sm
end Sm
namespace Go.Lf
open Go Sm
section
variable {R:RM}
end
end Go.Lf
end
section
namespace Sm
def ES (t:List Rg):Int:=(t.filter λx=>(x.kind != 1) && (x.kind != 0)).length
theorem N0 {t:List Rg} {i:Nat} (h:i < t.length):ES (t.take (i + 1)) = ES (t.take i) + if ((t[i].kind != 1) && (t[i].kind != 0)) = true then 1 else 0:=by
 unfold ES;rw[db h,List.filter_append,de];by_cases c:((t[i].kind != 1) && (t[i].kind != 0)) = true
 .rw[if_pos c];simp only[List.filter_cons,List.filter_nil];rw[if_pos c];simp
 .rw[if_neg c];simp only[List.filter_cons,List.filter_nil];rw[if_neg c];simp
theorem XA {t:List Rg}:0<=ES t/\ES t<=t.length:=by
 unfold ES;have:=gu (λx:Rg=>(x.kind != 1) && (x.kind != 0)) t;omega
end Sm
namespace Go.Lf
open Go Sm
section
variable {R:RM} {s:Sm.Aj} {wv tv mv thv ov pv:Value}
set_option maxRecDepth 4000 in
theorem X5 (h:SF R s wv tv mv thv ov pv):Ro Hk [.agg (eSt s wv tv mv thv ov pv).toArray] (I (ES s.AA)) R []:=by
 refine N2 λF=>?_
 refine z_1 ?_;have t1:=h.b.t1;refine ja λb=>?_
 refine Bk [I (ES s.AA)] (λK1 k1=>?_) (λe he=>?_);rotate_left
 .refine z_V ?_;exact BT (B9 rfl)
 refine jfo (jl (v:=tv) rfl (Bl h.c.t.sl ?_));refine Bk [I (ES s.AA)] (λK2 O=>?_) (λe he=>?_);rotate_left
 .refine z_V ?_;exact k1
 refine dW s.AA.length (λi T=>T = [I (ES (s.AA.take i)),tv,I s.AA.length,I i]) rfl λi K e hi he N=>?_
 refine z_V ?_;refine jlt (jif (λc=>?_) (λc=>?_));rotate_left
 .have c:=z_g c;rw[dh Z];exact O
 have c:i < s.AA.length:=by have:=z_f c;omega
 have A:=N0 c;have D:=XA (t:=s.AA.take i);rw[dp] at D;refine Bk [I (ES (s.AA.take (i + 1))),tv,I s.AA.length,I i] (λK3 Q=>?_) (λe he=>?_);rotate_left
 .refine z_V ?_;exact jad (N _ c rfl)
 refine Bk [I (ES (s.AA.take (i + 1))),tv,I s.AA.length,I i] (λK4 H=>?_) (λe he=>?_);rotate_left
 .refine z_V ?_;exact Q
 refine jrg h.c.t c λx o ty cs hb G y=>Da hb G y (ja λb2=>jS (eRg s.AA[i]) ?_)
 refine jan [I (ES (s.AA.take i)),tv,I s.AA.length,I i] ((s.AA[i].kind != 1) && (s.AA[i].kind != 0)) (λW j=>?_) (λe c1 u G he=>?_)
 .refine jfo (jl (v:=I s.AA[i].kind) rfl (jne (Dl (λg=>?_) (λg=>?_))))
  .rw[g];exact jfo (jl (v:=I s.AA[i].kind) rfl (jne (j _ _ _ Bm (by rw[g,f7]))))
  .rw[g];exact j _ _ _ Bu (by rw[g,fM])
 refine z_V ?_;rw[G];refine jif (λg=>?_) (λg=>?_)
 .rw[if_pos g] at A;refine jad (BT ?_);rw[<- A];exact H
 .rw[if_neg (by rw[g];decide),Int.add_zero] at A;rw[<- A];exact BT H
theorem I5 (h:SF R s wv tv mv thv ov pv):Ro IJ [.agg (eSt s wv tv mv thv ov pv).toArray] (I (if (Bw s).isSome then ES s.AA else 0)) R []:=by
 refine Nl λF=>?_
 refine z_1 ?_;refine ja λb=>jla (l:=eSt s wv tv mv thv ov pv) (by exact z_n 13) rfl (jrp (KP h) ?_)
 refine jif (λg=>?_) (λg=>?_)
 .have g:(Bw s).isSome = false:=by simpa using g
  rw[g];exact Ao (A:=[]) (RM.le.refl R) ⟨rfl,rfl⟩
 .have g:(Bw s).isSome = true:=by simpa using g
  rw[g];refine jla (l:=eSt s wv tv mv thv ov pv) (by exact z_n 13) rfl (jrp (X5 h) ?_);exact Ao (A:=[]) (RM.le.refl R) ⟨rfl,rfl⟩
end
end Go.Lf
end
section
namespace Sm
open Go.Lf
def usd (t:List Rg) (q:Nat):Bool:=((rv t q).kind != 1) && ((rv t q).kind != 0)
theorem UQ {p:Nat->Bool}:∀{n:Nat},(∀q,q < n->p q = false)->cU p n = 0
 | 0,_=>rfl
 | n + 1,h=>by
  show cU p n + _ = 0;rw[UQ λq j=>h q Z,if_neg (by rw[h n Z];decide)]
theorem M3 {t:List Rg}:∀{i:Nat},i<=t.length->ES (t.take i) = (cU (usd t) i:Nat)
 | 0,_=>rfl
 | i + 1,h=>by
  have c:i < t.length:=Z
  rw[N0 c,M3 Z];show _ = ((cU (usd t) i + if usd t i = true then 1 else 0:Nat):Int);have e:usd t i = ((t[i].kind != 1) && (t[i].kind != 0)):=by unfold usd;rw[EL c]
  rw[e];split<;>omega
section
variable {s s' : Aj} {l:List AO} {met to tops:List Int}
theorem J0 (y:HpF s l met) {a:Int} (h:a∈met):16<=a/\1<=a / 16/\a / 16 < s.AA.length/\0 < Bh l a/\a + Bh l a<=16 * (a / 16) + 16/\usd s.AA (a / 16).toNat = true/\bgs l a/\Bh l a = sz s.AC a:=by
 obtain⟨G,T,-⟩:=EU y.ths;obtain⟨t,A⟩:=y.M.th a h;obtain⟨D,j⟩:=BA A;obtain⟨N,O⟩:=T.all t D;have i:=G.inn N;have H:Bh l a = sz s.AC a:=by
  unfold Bh;rw[A];dsimp only;have x:=congrArg AO.sh O;dsimp only[thg] at x;rw[x,j];rfl
 rw[j] at i;have R:=G.ok.row (a / 16) i.2.1 i.2.2.1;refine⟨i.1,i.2.1,i.2.2.1,Z,Z,?_,⟨t,D,j⟩,H⟩;have k1:(rv s.AA (a / 16)).kind≠1:=λe=>by have:=R.fr e;omega
 have k0:=R.k0;unfold usd;rw[show ((a / 16).toNat:Int) = a / 16 by omega];have K:(rv s.AA (a / 16)).kind≠0:=Z
 simp[k1,K]
theorem Uq (x:HpF s l met) (y:DP s s' l (AN met) to tops):ES s'.AA<=ES s.AA:=by
 obtain⟨G,T,-⟩:=EU x.ths;have n0:=G.ok.n0;have n1:=G.ok.n1;obtain⟨sp,K⟩:=B8 x.M.nd;have t0:∀q:Nat,q < s.AA.length->Ah s.AI q = false->(CI s).getD q 0 = 16 * q:=λq h j=>by
  unfold CI;rw[dZ,eU,gT h,gC,eR,if_neg (by rw[j];decide),Br Z Z]
 obtain⟨i1,i2⟩:=Il (P:=λq=>usd s.AA q && !Ah s.AI q) (rho:=0) (e:=0) y.ld (by rw[CQ];omega) Z (by rw[CQ];omega) (λa H=>by
  obtain⟨u1,u2,u3,u4,u5,N,_⟩:=J0 x ((K a).1 H)
  rw[CQ]
  refine⟨u1,u3,u4,u5,λj=>?_⟩
  rw[show (((a / 16).toNat:Nat):Int) = a / 16 by omega,j,N];rfl) (sp.imp_of_mem λ{a b} H hb h=>by
  obtain⟨_,_,_,_,_,_,u7,u8⟩:=J0 x ((K a).1 H)
  obtain⟨_,_,_,_,_,_,v7,_⟩:=J0 x ((K b).1 hb)
  rw[u8]
  exact G.dj a b u7 v7 h) (λa H=>by have:=(J0 x ((K a).1 H)).1;omega) Z (by rw[CQ];omega) (λq g1 g2 g3=>by rw[CQ] at g2;exact t0 q g2 g3) (.inl ⟨rfl,by
  rw[CQ]
  refine UQ λq O=>?_
  unfold inU
  cases j:Ah s.AI q with
  | true=>simp
  | false=>rw[t0 q O j];simp,λh j=>by rw[CQ] at h;exact t0 1 h j⟩)
 rw[CQ] at i1 i2;have R:=M3 (t:=s.AA) (z_n _);have W:=M3 (t:=s'.AA) (z_n _);rw[List.take_length] at R W;rw[R,W,y.tn];have a1:=Xt (p:=usd s'.AA) (h:=λq=>usd s.AA q && Ah s.AI q) (u:=inU s.AI tops) (n:=s.AA.length) λq O D=>by
  by_cases c0:q = 0
  .subst c0;unfold usd at D;rw[show rv s'.AA ((0:Nat):Int) = Dm from y.e0] at D;simp[Dm] at D
  .cases j:Ah s.AI q with
   | true=>
    left;rw[Bool.and_true];have A:=j;unfold Ah at A;rw[List.any_eq_true] at A;obtain⟨p,hp,e⟩:=A;obtain⟨u1,u2,u3,_,_,N,_⟩:=J0 x (x.pin hp);have e:AM p = q:=by simpa using e
    rw[Bc Z] at e;rw[e] at N;simpa using N
   | false=>
    right;have Q:=y.rw_ q Z Z;have ht:=y.tl.2 q Z (by rw[y.tn];exact O);unfold inU;rw[j,ht];by_cases c:AK q < (rv s'.AA q).top
    .rw[Br Z Z] at c;simp only[Bool.not_false,Bool.and_true,z_b,z_d];exact⟨Z,c⟩
    .exfalso;unfold LH at Q;rw[if_neg (λh=>h.elim c λh=>by rw[j] at h;cases h)] at Q;unfold usd at D;rw[Q] at D;simp[Dn] at D
 have a2:=Xa (p:=usd s.AA) (h:=λq=>usd s.AA q && Ah s.AI q) (u:=λq=>usd s.AA q && !Ah s.AI q) (n:=s.AA.length) λq _=>by
  refine⟨λh=>?_,λh=>?_,λh=>?_⟩
  .exact (z_b▸h:_/\_).1
  .exact (z_b▸h:_/\_).1
  .obtain⟨h1,A⟩:=h;cases j:Ah s.AI q<;>rw[j] at h1 A<;>simp at h1 A
 omega
end
end Sm
end
section
namespace Sm
open Go.Lf
theorem We {s:Aj} {l:List AO} {x:List Int} (y:HpF s l x):∀t∈s.AB,t.AD.length<=8:=λt A=>by
 have j:=y.head;unfold C8 at j;simp only[z_b] at j;have:=eG.1 j.1.2 t A;unfold Ft at this;simp only[z_b,z_d] at this;exact this.1.1
theorem Ze {g:PG} (ok:GOk g):GZ g:=⟨by have:=ok.n;omega,by have:=ok.r1;omega,by have:=ok.p;omega,λx j=>by have:=ok.nd x j;omega,λx j=>by have:=ok.rr x j;omega⟩
theorem W9 {s x : Aj} {l' : List AO} {j : List Int} {AJ to tops:List Int} {l:List AO} (A:DP s x l AJ to tops) (D:Bw x = some (l',j)) (y:-900000<=x.BL/\x.BL<=900000):∃s2 to2 tops2,fdO x = some s2/\DP x s2 l' (AN j) to2 tops2:=by
 obtain⟨s2,to2,tops2,G,H⟩:=LQ (D0 D) y;refine⟨s2,to2,tops2,?_,H⟩;have hb:x.AB.any (·.busy) = false:=by
  rw[En A.hlen A.th,List.any_map,List.any_eq_false];intro t _;unfold Ez;simp
 unfold fdO EM;rw[hb,D];exact G
end Sm
namespace Go.Lf
open Go Sm
set_option maxHeartbeats 4000000 in
set_option maxRecDepth 8000 in
theorem TH {R:RM} {v:Value} (hc:Cod R v):Fn P HP [v] R [] (λx _ A=>x = .bool true/\A = []):=by
 refine Mj λF=>?_
 refine z_1 ?_;obtain⟨cn,m9⟩:=aD hc;refine Bl m9 (jgr (jif (λ_=>Ao (A:=[]) (RM.le.refl R) ⟨rfl,rfl⟩) (λ_=>?_)));refine jc (A:=[]) (Pf hc) ?_;rintro x0 R1 _ m0 ⟨rfl,hd⟩;refine cm hd λb s wv tv mv thv ov pv _ m3 h=>?_
 refine jla (l:=eSt s wv tv mv thv ov pv) (by exact z_n 13) rfl ?_;refine jc (A:=[]) (Lb h) ?_;rintro x R2 _ j1 ⟨rfl,hq⟩;have h:=h.le j1;obtain⟨wa,ta,ma,ha,oa,pa,g1,i9,rfl⟩:=hq.u;obtain⟨s1,e1⟩:∃s1,s1 = (fdO s).getD st0:=⟨_,rfl⟩;rw[<- e1] at g1 i9 ⊢;refine jex rfl (jex rfl (ja λT=>jsS g1 ?_));refine jla (l:=eSt s wv tv mv thv ov pv) (by exact z_n 13) rfl ?_;refine jc (A:=[]) (Xo h) ?_;rintro x R3 _ d4 ⟨rfl,j9⟩;have h:=h.le d4;obtain⟨l3,l2,k3,j3,k4,k7,g2,-,rfl⟩:=j9.u;rw[<- e1] at g2 ⊢;refine jex rfl (jex rfl (ja λb2=>jsS g2 ?_));have g1:=g1.le d4;have c8:=m0.trans (j1.trans d4);have z1:StZ s1:=by
  cases a9:fdO s with
  | none=>rw[e1,a9];exact⟨δ,δ,δ,δ,δ,δ,λt ht=>by cases ht⟩
  | some s'=>
   rw[e1,a9];have fu:=h.b.fu;obtain⟨l,met,to,tops,-,-,F1⟩:=Ug a9 Z;exact aj h F1
 refine jor [Pt b,Pt T,.bool (fdO s).isSome] false (λK' j=>?_) (λe c u ho he=>?_)
 .refine @jxb _ _ _ _ _ _ _ ?_;rw[bne_self_eq_false];refine jff (jla (l:=eSt s1 wa ta ma ha oa pa) (by exact z_n 13) rfl ?_);refine jla (l:=eSt s1 l3 l2 k3 j3 k4 k7) (by exact z_n 13) rfl ?_;exact jro (Ve g1 g2 z1) (j _ _ _ Bn rfl)
 refine z_V ?_;rw[ho];refine CK ?_;cases a9:fdO s with
 | none=>
  obtain rfl:s1 = st0:=by rw[e1,a9];rfl
  exact DJ (jfo (jl (v:=wa) rfl (Bl g1.w.sl (jeq (Ao (A:=[]) c8 ⟨rfl,rfl⟩)))))
 | some s'=>
 refine CK ?_;obtain rfl:s1 = s':=by rw[e1,a9];rfl
 have fu:=h.b.fu;obtain⟨l,met,to,tops,hh,hf,F1⟩:=Ug a9 Z;have O:=Jm hf.M.nd;have D:SF R3 s1 wa ta ma ha oa pa:=⟨g1,(i9 (by rw[a9];rfl)).le d4,Wp h.b m3 hf O F1⟩;obtain⟨l1,b6,T1,Q,G,h8⟩:=V3 hf O F1;have h6:=Tu hf O Q;have j6:=M7 G.S.nd G.M.nd G.M.th;have d1:=SX hf O F1 Q T1 G;have i4:=UI hf F1 G;have i8:=Zi hf (We hf);have c7:=Zi G (We G);have e4:(AN met).length = met.length:=by have:=DU met [];simpa [AN] using this
 obtain⟨y,f5⟩:∃m,m = met.map (mvT (AN met) to):=⟨_,rfl⟩;rw[<- f5] at b6 G h8 h6 j6 d1 i4 c7;have f2:(AN y).length = met.length:=by have:=DU y [];rw[f5] at this ⊢;simpa [AN] using this
 obtain⟨s2,to2,tops2,j4,F2⟩:=W9 F1 b6 (by rw[F1.eq];dsimp only;omega);have f4:s1.AI = s.AI:=by rw[F1.eq]
 obtain⟨E1,f6⟩:∃E:Chs,E = (b2,C 50 (eSt s1 l3 l2 k3 j3 k4 k7)) :: ([] ++ F):=⟨_,rfl⟩;obtain⟨W,a0,rfl⟩:=h.c.p.sl;obtain⟨a6,a7,rfl⟩:=h.c.w.sl;refine BC (D':=(T,C 50 (eSt s1 wa ta ma ha oa pa)) :: (b,C 50 (eSt s (.slice a6 s.AC.length a7) tv mv thv ov (.slice W s.AI.length a0))) :: E1) (by rw[f6];exact eP (l₁:=[_,_]) |>.symm) ?_;clear g2 hq j9;refine jla (l:=eSt s (.slice a6 s.AC.length a7) tv mv thv ov (.slice W s.AI.length a0)) (by exact z_n 13) rfl ?_;refine jc (A:=[]) (HZ h) ?_;rintro _ R4 _ f8 ⟨rfl,hq⟩;rw[hh] at hq;obtain⟨gv,hg,rfl⟩:=hq;have g4:=hg;obtain⟨q1,q2,qn,qr,qp,rfl,a1,a2,a3,a4,a5⟩:=g4;obtain⟨na,nc,rfl⟩:=a2.sl;obtain⟨ra,rc,rfl⟩:=a4.sl;obtain⟨xa,xc,rfl⟩:=a5.sl;refine jex rfl (jex rfl (ja λb3=>jS [.slice na q1.length nc,.slice ra q2.length rc,.slice xa (GO s l (AN met)).pinned.length xc] ?_));have h:=h.le f8;have D:=D.le f8;refine jla (l:=eSt s1 wa ta ma ha oa pa) (by exact z_n 13) rfl ?_;refine jc (A:=[]) (HZ D) ?_;rintro _ R5 _ e3 ⟨rfl,hq⟩;rw[b6] at hq;obtain⟨gv,j5,rfl⟩:=hq;have g4:=j5;obtain⟨b7,e6,o8,p3,o9,rfl,l4,l5,n4,l6,l8⟩:=g4;obtain⟨d2,d3,rfl⟩:=l5.sl;obtain⟨e7,e8,rfl⟩:=l6.sl;obtain⟨e9,f0,rfl⟩:=l8.sl;refine jex rfl (jex rfl (ja λb4=>jS [.slice d2 b7.length d3,.slice e7 e6.length e8,.slice e9 (GO s1 l1 (AN y)).pinned.length f0] ?_));have h:=h.le e3;have D:=D.le e3;have hg:=hg.le e3;have f1:=c8.trans (f8.trans e3);have m8:q1.length = b7.length:=by rw[a1.1,l4.1];show ((AN met).map _).length = ((AN y).map _).length;rw[df,df,e4,f2]
 refine Bk [Pt b,Pt T,.bool false] (λK1 k1=>?_) (λe he=>?_)
 .refine jor [Pt b,Pt T,Pt b3,Pt b4] false (λK' j=>jff (j _ _ _ Bn rfl)) (λe c u ho he=>?_);refine z_V ?_;refine Bk [Pt b,Pt T,Pt b3,Pt b4,.bool false,.agg #[.slice na q1.length nc,.slice ra q2.length rc,.slice xa (GO s l (AN met)).pinned.length xc],.agg #[.slice d2 b7.length d3,.slice e7 e6.length e8,.slice e9 (GO s1 l1 (AN y)).pinned.length f0]] (λK2 k2=>?_) (λe he=>?_)
  .rw[ho];exact jff (jla (l:=[.slice na q1.length nc,.slice ra q2.length rc,.slice xa (GO s l (AN met)).pinned.length xc]) (dg rfl) rfl (jla (l:=[.slice d2 b7.length d3,.slice e7 e6.length e8,.slice e9 (GO s1 l1 (AN y)).pinned.length f0]) (dg rfl) rfl k2))
  refine z_V ?_;refine jff (jrp (NV hg j5 (Ze i8) (Ze c7) i8 c7) ?_);rw[h8];refine Bk [Pt b,Pt T,Pt b3,Pt b4,.bool false,.bool false] (λK2 k2=>jff k2) (λe he=>?_);refine z_V ?_;refine Bk [Pt b,Pt T,.bool false,.bool false] (λK2 k2=>?_) (λe he=>?_)
  .refine ER (jff (jfo (jl (v:=.slice na q1.length nc) rfl (jln (jfo (jl (v:=.slice d2 b7.length d3) rfl (jln (jne ?_))))))));rw[show ((q1.length:Int) != (b7.length:Int)) = false from by rw[m8];exact bne_self_eq_false _];exact k2
  refine z_V ?_;refine Bk [Pt b,Pt T,.bool false,.agg (eSt s1 wa ta ma ha oa pa).toArray,.agg (eSt s (.slice a6 s.AC.length a7) tv mv thv ov (.slice W s.AI.length a0)).toArray] (λK2 k2=>?_) (λe he=>?_)
  .exact ER (jff (jla (l:=eSt s1 wa ta ma ha oa pa) (by exact z_n 13) rfl (jla (l:=eSt s (.slice a6 s.AC.length a7) tv mv thv ov (.slice W s.AI.length a0)) (by exact z_n 13) rfl k2)))
  refine z_V ?_;refine jff (jrp (I5 D) (Ak (jla (l:=eSt s (.slice a6 s.AC.length a7) tv mv thv ov (.slice W s.AI.length a0)) (by exact z_n 13) rfl jev) (jrp (I5 h) (jgr (ER ?_)))));rw[hh,b6];have:=Uq hf F1;rw[show decide ((if (some (l1,y)).isSome = true then ES s1.AA else 0) > (if (some (l,met)).isSome = true then ES s.AA else 0)) = false from decide_eq_false (by simp only[Option.isSome_some,if_true];omega)];exact k1
 refine z_V ?_;refine CK (jla (l:=eSt s1 wa ta ma ha oa pa) (by exact z_n 13) rfl ?_);refine jrp (OQ D b6) (jex rfl (jex rfl ?_));refine jla (l:=eSt s (.slice a6 s.AC.length a7) tv mv thv ov (.slice W s.AI.length a0)) (by exact z_n 13) rfl ?_;refine jrp (OQ h hh) (jex rfl (jex rfl ?_));rw[h6];rw[h6] at j6 d1;refine jor [Pt b,Pt T,I (CS l met),I (Ds l1)] false (λK' j=>?_) (λe c u ho he=>?_)
 .refine jgr ?_;rw[show decide (CS l met > Ds l1) = false from decide_eq_false Z];refine jff (jne ?_);rw[bne_self_eq_false];exact j _ _ _ Bn rfl
 refine z_V ?_;refine jor [Pt b,Pt T,I (CS l met),I (Ds l1)] false (λK' j=>?_) (λe c u g7 he=>?_)
 .rw[ho];have e2:s1.Ac = 0:=by rw[F1.eq]
  refine jff (jfo (jl (v:=I s1.Ac) rfl (jne ?_)));rw[e2];exact j _ _ _ Bn rfl
 refine z_V ?_;refine jor [Pt b,Pt T,I (CS l met),I (Ds l1)] false (λK' j=>?_) (λe c u g8 he=>?_)
 .rw[g7];have e2:s1.stop = false:=by rw[F1.eq]
  refine jff (jfo (jl (v:=.bool s1.stop) rfl ?_));rw[e2];exact j _ _ _ Bn rfl
 refine z_V ?_;refine jor [Pt b,Pt T,I (CS l met),I (Ds l1)] false (λK' j=>?_) (λe c u h4 he=>?_)
 .rw[g8];have e2:s1.full = false:=by rw[F1.eq]
  refine jff (jfo (jl (v:=.bool s1.full) rfl ?_));rw[e2];exact j _ _ _ Bn rfl
 refine z_V ?_;have o7:=h.b.pl;refine jor [Pt b,Pt T,I (CS l met),I (Ds l1)] false (λK' j=>?_) (λe c u m7 he=>?_)
 .rw[h4];refine jff (jfo (jl (v:=pa) rfl (jfo (jl (v:=.slice W s.AI.length a0) rfl (jro (FU D.c.p h.c.p (by rw[f4];omega) Z) ?_)))));rw[show (s1.AI == s.AI) = true from by rw[f4];exact beq_self_eq_true _];exact j _ _ _ Bn rfl
 refine z_V ?_;rw[m7];refine CK (jfo (jl (v:=.slice W s.AI.length a0) rfl (jln (jgr (jif (λc0=>?_) (λc0=>?_))))))
 .refine jla (l:=eSt s1 wa ta ma ha oa pa) (by exact z_n 13) rfl (jrp (KP D) ?_);rw[b6];subst f6;exact Ao (A:=[]) f1 ⟨rfl,rfl⟩
 have hp:s.AI = []:=eV.1 (by have:=z_g c0;omega);refine jne ?_;rw[d1 hp,bne_self_eq_false];refine CK (jla (l:=eSt s (.slice a6 s.AC.length a7) tv mv thv ov (.slice W s.AI.length a0)) (by exact z_n 13) rfl ?_);refine jc (A:=[]) (Gq h) ?_;rintro _ R6 A6 g0 hq;rw[hh] at hq;obtain⟨sv,so,rfl⟩:=hq;refine E0 so λR7 g3 hi=>jex rfl (jex rfl ?_)
 have D:=D.le (g0.trans g3);refine jla (l:=eSt s1 wa ta ma ha oa pa) (by exact z_n 13) rfl ?_;refine jc (A:=[]) (Gq D) ?_;rintro _ R8 A8 m1 hq;rw[b6] at hq;obtain⟨p6,n3,rfl⟩:=hq;refine E0 n3 λR9 m2 g5=>jex rfl (jex rfl ?_)
 have c5:=m1.trans m2;have D:=D.le c5;have h:=h.le ((g0.trans g3).trans c5);have hi:=hi.le c5;have j0:=f1.trans ((g0.trans g3).trans c5);obtain⟨n6,h9⟩:=i4 hp;rw[h9] at g5 f2;obtain⟨sa,sc,rfl⟩:=hi.sl;obtain⟨b8,b9,rfl⟩:=g5.sl;refine jln (jln (jne ?_));have m6:to.length = (AN met).length:=Z
 rw[show (((AN met).length:Int) != (to.length:Int)) = false from by rw[m6];exact bne_self_eq_false _];refine CK ?_;have wl:=h.b.wl;have t1:=h.b.t1;have p8:=D.b.wl;have p7:=D.b.t1;obtain⟨o4,-⟩:=Hw h hf.ths;have o6:=hf.M.len;have j7:=U3 h.b.wr;have j8:=U3 D.b.wr;obtain⟨DD,b0⟩:∃DD:Chs,DD = (b4,C 40 [.slice d2 b7.length d3,.slice e7 e6.length e8,.slice e9 (GO s1 l1 (AN y)).pinned.length f0]) :: (b3,C 40 [.slice na q1.length nc,.slice ra q2.length rc,.slice xa (GO s l (AN met)).pinned.length xc]) :: (T,C 50 (eSt s1 wa ta ma ha oa pa)) :: (b,C 50 (eSt s (.slice a6 s.AC.length a7) tv mv thv ov (.slice W s.AI.length a0))) :: E1:=⟨_,rfl⟩;refine BC (D':=DD) (by rw[b0];exact f9 _) ?_;refine jci (λ_:Unit=>[Pt T]) (λ_=>DD) (λN _=>R9.le N) (λK1 l9=>?_) ?_
 .refine jci (λ_:Unit=>[Pt T]) (λ_=>DD) (λN _=>R9.le N) (λK2 h2=>?_) ?_;rotate_left
  .rintro e N i hp he;refine z_V ?_;exact l9 N i hp
  refine jli (λi:Nat=>(AN met).length - i) (λi=>[Pt b,Pt T,.slice sa (AN met).length sc,.slice b8 to.length b9,I i]) (λ_=>DD) (λN i=>R9.le N/\i<=(AN met).length) 0 ⟨RM.le.refl _,Z⟩ rfl rfl ?_;rintro K e Ra i ⟨a8,n7⟩ he hK;refine z_V ?_;refine jln (jlt (jif (λc=>?_) (λc=>h2 Ra () a8)));have c:i < (AN met).length:=by have:=z_f c;omega
  have ha:=h.le a8;have ga:=D.le a8;have m4:=hi.le a8;have c9:=g5.le a8;have hz:((AN met)[i]'(Z),to[i]'(Z))∈(AN met).zip to:=by
   have hl:i < ((AN met).zip to).length:=by rw[gU];omega
   have:=dc hl;rwa [gL] at this
  obtain⟨t,-,e5,h7⟩:=LW hf O F1 hz;dsimp only at e5 h7;obtain⟨k0,n8,n9⟩:=UE h hf ((AN met)[i]'c) ((Mx hf.M.nd _).1 (dc _));obtain⟨k2,o2,o3⟩:=UE D G (to[i]'(Z)) ((Mx G.M.nd _).1 (by rw[h9];exact dc _));rw[b0] at h2 hK ⊢;refine jci (λq:Nat × Value × Value=>[Pt b,Pt T,.slice sa (AN met).length sc,.slice b8 to.length b9,I i,.pointer (some ⟨q.1,0,none⟩),.bool true])
   (λq=>(q.1,C 70 (eTh t q.2.1 q.2.2)) :: DD) (λN q=>Ra.le N/\Aw N q.2.2 t.nums) (λK3 h3=>?_) ?_
  .rw[b0] at h3;refine jfo (jl (v:=.slice a6 s.AC.length a7) rfl (Xb m4 Z Z λp hp=>?_));simp only[da] at hp ⊢;refine Eg ?_ (Dj ?_)
   .refine jta ha.c.w Z Z (j7 _) e5 ?_;exact λN b3 rv nv hR H=>h3 N (b3,rv,nv) ⟨hR,H⟩
   .refine ja λb3=>Ak (jl (v:=.slice a6 s.AC.length a7) rfl jev) (Ak (hp λN D'=>jev) ?_)
    refine jtb ha.c.w Z Z (j7 _) e5 ?_;exact λN rv nv hR H=>h3 N (b3,rv,nv) ⟨hR,H⟩
  rintro e Rb ⟨c3,rv,nv⟩ ⟨c6,H⟩ he;dsimp only at he H ⊢;refine z_V ?_;rw[b0];have ga:=ga.le c6;have c9:=c9.le c6;refine jci (λq:Nat × Value × Value=>[Pt b,Pt T,.slice sa (AN met).length sc,.slice b8 to.length b9,I i,Pt c3,.bool true,.pointer (some ⟨q.1,0,none⟩),.bool true])
   (λq=>(q.1,C 70 (eTh ⟨to[i]'(Z),to[i]'(Z),t.sh,t.refs.map (plc l (AN met) to),t.nums⟩ q.2.1 q.2.2)) :: (c3,C 70 (eTh t rv nv)) :: DD) (λN q=>Rb.le N/\Aw N q.2.2 t.nums) (λK3 h3=>?_) ?_
  .rw[b0] at h3;refine jfo (jl (v:=wa) rfl (Xb c9 Z Z λp hp=>?_));simp only[da] at hp ⊢;refine Eg ?_ (Dj ?_)
   .refine jta ga.c.w Z Z (j8 _) h7 ?_;exact λN b4 rv nv hR H=>h3 N (b4,rv,nv) ⟨hR,H⟩
   .refine ja λb4=>Ak (jl (v:=wa) rfl jev) (Ak (hp λN D'=>jev) ?_)
    refine jtb ga.c.w Z Z (j8 _) h7 ?_;exact λN rv nv hR H=>h3 N (b4,rv,nv) ⟨hR,H⟩
  rintro e Rc ⟨c4,p4,n2⟩ ⟨j2,f3⟩ he;dsimp only at he f3 ⊢;refine z_V ?_;rw[b0];have H:=H.le j2;have e4:t.nums.length < 1000000:=by
   have:=congrArg (λx=>x.1.nums) e5;dsimp only at this;rw[<- this];unfold Ap;split
   .dsimp only;split
    .unfold seg;rw[dp,fA];omega
    .decide
   .decide
  refine jor [Pt b,Pt T,.slice sa (AN met).length sc,.slice b8 to.length b9,I i,Pt c3,Pt c4] false (λK' j=>?_) (λe c1 u1 g6 he=>?_)
  .show J _ _ (GT (.bool false) false _ _);exact jff (j _ _ _ Bn rfl)
  refine z_V ?_;refine jor [Pt b,Pt T,.slice sa (AN met).length sc,.slice b8 to.length b9,I i,Pt c3,Pt c4] false (λK' j=>?_) (λe c1 u1 g7 he=>?_)
  .rw[g6];refine jff (jfo (jla (l:=[I t.sh.refs,I t.sh.nums]) (by exact (by decide:4<=6)) rfl (jfo (jla (l:=[I t.sh.refs,I t.sh.nums]) (by exact (by decide:4<=6)) rfl (@bC t.sh t.sh _ _ _ _ _ ?_)))));rw[beq_self_eq_true];exact j _ _ _ Bn rfl
  refine z_V ?_;refine jor [Pt b,Pt T,.slice sa (AN met).length sc,.slice b8 to.length b9,I i,Pt c4] false (λK' j=>?_) (λe c1 u1 g8 he=>?_)
  .rw[g7];refine jff (jfo (jl (v:=nv) rfl (jfo (jl (v:=n2) rfl (jro (FU H f3 e4 e4) ?_)))));rw[beq_self_eq_true];exact j _ _ _ Bn rfl
  refine z_V ?_;refine jor [Pt b,Pt T,.slice sa (AN met).length sc,.slice b8 to.length b9,I i] false (λK' j=>?_) (λe c1 u1 h4 he=>?_)
  .rw[g8];refine jff (jfo (jl (v:=I (to[i]'(Z))) rfl (jfo (jl (v:=I (to[i]'(Z))) rfl (jne ?_)))));rw[bne_self_eq_false];exact j _ _ _ Bn rfl
  refine z_V ?_;rw[h4];refine CK (jad (BT (BT ?_)));exact hK Rc (i + 1) Z ⟨a8.trans (c6.trans j2),c⟩
 rintro e Ra _ a8 he;refine z_V ?_;rw[b0];have D:=D.le a8;refine jla (l:=eSt s1 wa ta ma ha oa pa) (by exact z_n 13) rfl ?_;refine jc (A:=[]) (Lb D) ?_;rintro _ Rb _ c6 ⟨rfl,hq⟩;rw[j4] at hq;obtain⟨w5,t5,m5,n5,o5,p5,h5,_,rfl⟩:=hq;refine jex rfl (jex rfl (ja λb5=>jsS h5 ?_));have D:=D.le c6;rw[f5] at G F2;have ew:=TO hf F1 Q G hp F2;refine jan [] true (λK' j=>?_) (λe c1 u1 g6 he=>?_)
 .refine jtt (jfo (jl (v:=w5) rfl (jfo (jl (v:=wa) rfl (jro (FU h5.w D.c.w (by rw[ew];omega) Z) ?_)))));rw[show (s2.AC == s1.AC) = true from by rw[ew];exact beq_self_eq_true _];exact j _ _ _ Bm rfl
 refine z_V ?_;rw[g6];subst f6;exact Ao (A:=[]) (j0.trans (a8.trans c6)) ⟨rfl,rfl⟩
end Go.Lf
end
