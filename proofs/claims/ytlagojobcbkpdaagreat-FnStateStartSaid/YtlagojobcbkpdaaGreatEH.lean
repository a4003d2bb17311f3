/- A part of the proof of the given row: the walk of the law and of all that it calls. Conditions: none. -/
import Derived.Test.YtlagojobcbkpdaaGreatEG
set_option linter.unusedVariables false
set_option linter.unusedSimpArgs false
set_option maxRecDepth 100000
section
namespace Sm
def Cg (acc:List Int) (n:Int):List Int:=if 0≤n∧n ∉ acc then acc ++ [n] else acc
def BK (acc l:List Int):List Int:=l.foldl Cg acc
def ED (g:PG) (n:Int):List Int:=(g.nodes.getD n.toNat ([],[])).1
def Ea (g:PG):Nat→Nat→List Int→List Int
 | 0,_,out=>out
 | f + 1,k,out=>match out[k]? with
  | none=>out
  | some n=>Ea g f (k + 1) (BK out (ED g n))
def Pl (g:PG):List Int:=BK (g.AD.foldl BK []) g.pinned
def Ft (g:PG):List Int:=Ea g (g.nodes.length + 1) 0 (Pl g)
structure MOk (N:Nat) (acc:List Int):Prop where
 nd:acc.Nodup
 rg:∀x∈acc,0≤x∧x < N
theorem MOk.len {N:Nat} {acc:List Int} (h:MOk N acc):acc.length≤N:=by
 have:acc.length≤((List.range N).map λ(i:Nat)=>(i:Int)).length:=ET h.nd λx hx=>by
  obtain⟨h1,h2⟩:=h.rg x hx;exact S6.2 ⟨x.toNat,SI.2 ω,ω⟩
 simpa using this
theorem MOk.step {N:Nat} {acc:List Int} (h:MOk N acc) {n:Int} (hn:n < N):MOk N (Cg acc n):=by
 unfold Cg;split
 ·rename_i c;refine⟨?_,λx hx=>?_⟩
  ·rw[List.nodup_append];exact⟨h.nd,σ,λa ha b hb e=>c.2 (by rw[Ri.1 hb] at e;rw[← e];exact ha)⟩
  ·rcases Rq.1 hx with hx | hx
   ·exact h.rg x hx
   ·rw[Ri.1 hx];exact⟨c.1,hn⟩
 ·exact h
theorem MOk.meet {N:Nat}:∀{l acc:List Int},MOk N acc→(∀x∈l,x < N)→MOk N (BK acc l)
 | [],acc,h,_=>h
 | n :: l,acc,h,hl=>MOk.meet (acc:=Cg acc n) (h.step (hl n σ)) λx hx=>hl x (Rx _ hx)
theorem KQ {acc l:List Int} {i:Nat} (h:i < l.length):BK acc (l.take (i + 1)) = Cg (BK acc (l.take i)) l[i]:=by
 unfold BK;rw[RW h,List.foldl_append];rfl
theorem K6 {n:Nat} {low:Int} {l:List Int}:BY n low l = true↔∀x∈l,low≤x∧x < n:=by
 unfold BY;rw[Rt,List.any_eq_false];simp only[SB,z_d,not_or,Int.not_lt];exact⟨λh x hx=>by have:=h x hx;omega,λh x hx=>by have:=h x hx;omega⟩
structure GOk (g:PG):Prop where
 n:g.nodes.length≤200
 r0:1≤g.AD.length
 r1:g.AD.length≤3
 p:g.pinned.length≤8
 pr:∀x∈g.pinned,0≤x∧x < g.nodes.length
 nd:∀x∈g.nodes,x.1.length≤4∧x.2.length≤4∧∀y∈x.1,-1≤y∧y < g.nodes.length
 rr:∀x∈g.AD,x.length≤8∧∀y∈x,-1≤y∧y < g.nodes.length
theorem IZ {g:PG}:gOk g = true↔GOk g:=by
 unfold gOk Hq;simp only[z_b,z_d,Rs,K6];constructor
 ·rintro⟨⟨⟨⟨⟨⟨h1,h2⟩,h3⟩,h4⟩,h5⟩,h6⟩,h7⟩;exact⟨h1,h2,h3,h4,h5,λx hx=>⟨(h6 x hx).1.1,(h6 x hx).1.2,(h6 x hx).2⟩,h7⟩
 ·rintro⟨h1,h2,h3,h4,h5,h6,h7⟩;exact⟨⟨⟨⟨⟨⟨h1,h2⟩,h3⟩,h4⟩,h5⟩,λx hx=>⟨⟨(h6 x hx).1,(h6 x hx).2.1⟩,(h6 x hx).2.2⟩⟩,h7⟩
theorem JW {g:PG} (h:GOk g) (n:Int):(∀y∈ED g n,-1≤y∧y < g.nodes.length)∧(ED g n).length≤4:=by
 unfold ED;rw[Rh];cases hx:g.nodes[n.toNat]? with
 | none=>exact⟨λy hy=>by simp at hy,σ⟩
 | some x=>exact⟨(h.nd x (List.mem_of_getElem? hx)).2.2,(h.nd x (List.mem_of_getElem? hx)).1⟩
theorem F4 {g:PG} (h:GOk g):∀{rs:List (List Int)} {acc:List Int},(∀x∈rs,x∈g.AD)→MOk g.nodes.length acc→MOk g.nodes.length (rs.foldl BK acc)
 | [],acc,_,m=>m
 | r :: rs,acc,hr,m=>F4 h (rs:=rs) (acc:=BK acc r) (λx hx=>hr x (Rx _ hx)) (m.meet λx hx=>((h.rr r (hr r σ)).2 x hx).2)
theorem MOk.nil {N:Nat}:MOk N []:=⟨List.nodup_nil,λx hx=>by cases hx⟩
theorem L2 {g:PG} (h:GOk g):MOk g.nodes.length (Pl g):=(F4 h (λ_ hx=>hx) MOk.nil).meet λx hx=>(h.pr x hx).2
theorem JZ {g:PG} (h:GOk g):∀{f k:Nat} {out:List Int},MOk g.nodes.length out→MOk g.nodes.length (Ea g f k out)
 | 0,_,_,m=>m
 | f + 1,k,out,m=>by
  unfold Ea;split
  ·exact m
  ·exact JZ h (m.meet λx hx=>((JW h _).1 x hx).2)
theorem Kz {g:PG} (h:GOk g):MOk g.nodes.length (Ft g):=JZ h (L2 h)
theorem K5 {g:PG} {f k:Nat} {out:List Int} (h:k < out.length):Ea g (f + 1) k out = Ea g f (k + 1) (BK out (ED g out[k])):=by
 conv=>lhs;unfold Ea
 rw[RU h]
theorem Ly {g:PG} {f k:Nat} {out:List Int} (h:out.length≤k):Ea g f k out = out:=by
 cases f with
 | zero=>rfl
 | succ f=>unfold Ea;rw[Sg h]
end Sm
namespace Go.Lf
open Go Sm
section
variable {R:RM}
def MtD (N sb ob mb:Nat) (acc:List Int) (ov:Value) (A:Chs):Chs:=(sb,C 25 [S0 mb N N]) :: (ob,C 23 [ov]) :: (mb,C Av ((mkB N acc).map Value.bool)) :: A
set_option maxHeartbeats 1000000 in
set_option maxRecDepth 8000 in
theorem K4 {N sb ob mb:Nat} {lv ov:Value} {l acc:List Int} {A0:Chs} (h:Ai R lv l) (hl:l.length < 1000000) (hx:∀x∈l,x < N) (hN:N≤200) (m:MOk N acc) (so:SO acc ov A0) :
  Fn P CU [lv,Pt sb,Pt ob] R (MtD N sb ob mb acc ov A0) (λv R' A=>v = .tuple #[]∧R' = R∧∃ov' A',SO (BK acc l) ov' A'∧A = MtD N sb ob mb (BK acc l) ov' A'):=by
 refine GY λF=>?_
 refine z_3 ?_;refine Bh h.sl ?_;refine jli (λi:Nat × Value × Chs=>l.length - i.1) (λi=>[Pt sb,Pt ob,lv,I l.length,I i.1]) (λi=>MtD N sb ob mb (BK acc (l.take i.1)) i.2.1 (i.2.2 ++ F))
  (λR' i=>R' = R∧i.1≤l.length∧SO (BK acc (l.take i.1)) i.2.1 i.2.2) (0,ov,A0) ⟨rfl,σ,by simpa [BK] using so⟩ rfl (by simp[BK,MtD]) ?_
 rintro K e R' ⟨i,ov,A⟩ ⟨hR,hi,so⟩ he hK;subst hR;dsimp only at hi so he ⊢;refine z_V ?_;refine jlt (jif (λc=>?_) (λc=>?_));rotate_left
 ·have c:=z_g c;rw[RX ω] at so ⊢;unfold MtD;refine AV (A:=MtD N sb ob mb (BK acc l) ov A) (RM.le.refl _) ⟨rfl,rfl,ov,A,so,rfl⟩ (s:=⟨?_⟩) (G:=F);exact SJ _
 have c:i < l.length:=by have:=z_f c;omega
 have hxi:=hx _ (RZ c);have mi:MOk N (BK acc (l.take i)):=m.meet λx hx'=>hx x (SM hx')
 have mlen:=mi.len;have etake:=KQ (acc:=acc) c;obtain⟨ac,hac⟩:∃ac,ac = BK acc (l.take i):=⟨_,rfl⟩;rw[← hac] at so mi mlen etake ⊢;refine jci (λ_:Value × Chs=>[Pt sb,Pt ob,lv,I l.length,I i]) (λq=>MtD N sb ob mb (Cg ac l[i]) q.1 (q.2 ++ F)) (λR1 q=>R1 = R'∧SO (Cg ac l[i]) q.1 q.2) (λK1 k1=>?_) ?_;rotate_left
 ·rintro e R1 ⟨ov1,A1⟩ ⟨hR1,so1⟩ he;subst hR1;refine z_V ?_;refine jad ?_;have:=hK R1 (i + 1,ov1,A1) (by dsimp only;omega) ⟨rfl,c,by dsimp only;rw[etake];exact so1⟩;dsimp only at this;rw[etake] at this;exact this
 refine jci (λ_:Value × Chs=>[Pt sb,Pt ob,lv,I l.length,I i]) (λq=>MtD N sb ob mb (Cg ac l[i]) q.1 (q.2 ++ F)) (λR1 q=>R1 = R'∧SO (Cg ac l[i]) q.1 q.2) (λK2 k2=>?_) ?_;rotate_left
 ·rintro e R1 ⟨ov1,A1⟩ ⟨hR1,so1⟩ he;subst hR1;refine z_V ?_;exact k1 R1 (ov1,A1) ⟨rfl,so1⟩
 refine ER h ω ω ?_;simp only[RV];unfold MtD at k2 ⊢;refine jan [Pt sb,Pt ob,I l[i],lv,I l.length,I i] (decide (0≤l[i]) && !decide (l[i]∈ac)) (λK' hK'=>?_) (λe c1 u ho he=>?_)
 ·refine jge (Bc (λq=>?_) (λq=>?_))
  ·rw[q];have q0:0≤l[i]:=by simpa using q
   obtain⟨k,hk⟩:∃k:Nat,l[i] = k:=⟨l[i].toNat,ω⟩;refine jl (v:=S0 mb N N) rfl ?_;rw[hk];have hkN:k < N:=ω
   refine E5 hkN (jl (v:=.bool (decide ((k:Int)∈ac))) ?_ ?_)
   ·rw[TQ,SY,S4,RU (by rw[IT];exact hkN)];simp[mkB]
   ·rw[hk] at hK';exact hK' _ _ _ Ac σ
  ·rw[q];exact hK' _ _ _ Aj (by
    have:¬ (0≤l[i]):=by simpa using q
    rw[decide_eq_false this];rfl)
 refine z_V ?_;rw[ho];refine jif (λq=>?_) (λq=>?_)
 ·have q:0≤l[i]∧l[i] ∉ ac:=by simpa using q
  have es:Cg ac l[i] = ac ++ [l[i]]:=by unfold Cg;rw[if_pos q]
  rw[es] at k2;obtain⟨k,hk⟩:∃k:Nat,l[i] = k:=⟨l[i].toNat,ω⟩;have hkN:k < N:=ω
  refine jl (v:=S0 mb N N) rfl ?_;rw[hk] at k2 ⊢;refine Qi hkN ?_;refine jl (v:=ov) rfl (jbs (cs:=[I k]) rfl rfl λbb=>?_);refine Pv (A:=A) (E:=(sb,C 25 [S0 mb N N]) :: (ob,C 23 [ov]) :: (mb,C Av ((mkB N (ac ++ [(k:Int)])).map Value.bool)) :: F) (s:=⟨?_⟩) so ω λv' A' so'=>?_
  ·refine List.Perm.trans ?_ (SE);exact ((SE (l₁:=A) (l₂:=F)).cons _).cons _ |>.cons _
  obtain⟨va,vc,rfl⟩:=so'.sln;refine Bq (D':=(ob,C 23 [ov]) :: (A' ++ ((sb,C 25 [S0 mb N N]) :: (mb,C Av ((mkB N (ac ++ [(k:Int)])).map Value.bool)) :: F))) ?_ ?_
  ·exact ((T8 _ _ _).append_left A').trans Se
  refine jS ([.slice va (ac ++ [(k:Int)]).length vc]) ?_;refine Bq ?_ (k2 R' (_,A') ⟨rfl,so'⟩);dsimp only;refine List.Perm.trans ?_ (T8 _ _ _);refine TS _ ?_;exact Se.trans ((Se).cons _)
 ·have q:¬ (0≤l[i]∧l[i] ∉ ac):=by simpa using q
  have es:Cg ac l[i] = ac:=by unfold Cg;rw[if_neg q]
  rw[es] at k2;exact k2 R' (ov,A) ⟨rfl,so⟩
end
end Go.Lf
end
section
namespace Go.Lf
open Go Sm
instance MtD.sp (N sb ob mb:Nat) (acc:List Int) (ov:Value) (A F:Chs):Sp (MtD N sb ob mb acc ov (A ++ F)) (MtD N sb ob mb acc ov A) F:=⟨SJ _⟩
section
variable {R:RM} {v:Value} {g:PG}
set_option maxHeartbeats 1000000 in
set_option maxRecDepth 8000 in
theorem OI (h:GrF R v g) (ok:GOk g):Fn P Ec [v] R [] (λv R' A=>SO (Ft g) v A):=by
 obtain⟨r1,r2,nv,rv,pv,rfl,h1,h2,h3,h4,h5⟩:=h;obtain⟨na,nc,rfl⟩:=h2.sl;obtain⟨ra,rc,rfl⟩:=h4.sl;obtain⟨pa,pc,rfl⟩:=h5.sl;have e1:=h1.1;have e2:=h3.1;have n2:=ok.n;have zr:=ok.r1;have zp:=ok.p;refine Hn λF=>?_
 refine z_1 ?_;refine ja λb=>AJ (b:=b) λR0 hR0 hb=>ja λob=>?_
 have hb:R0 b = some (C 42 [.slice na r1.length nc,.slice ra r2.length rc,.slice pa g.pinned.length pc]):=hb;have h1:=h1.mono λ_ _=>NdC.le hR0
 have h2:=h2.le hR0;have h3:=h3.mono λ_ _=>RwC.le hR0
 have h4:=h4.le hR0;have h5:=h5.le hR0;rw[e1,e2] at hb;have h2:Fz R0 (.slice na g.nodes.length nc) 2 r1.length r1.flatten:=by rw[← e1];exact h2
 have h4:Fz R0 (.slice ra g.AD.length rc) 1 r2.length r2.flatten:=by rw[← e2];exact h4
 refine jfo (jlr (v:=.slice na g.nodes.length nc) hb rfl (jln ?_));refine jms ω ω ω λmb=>ja λsb=>?_
 have e0:(List.replicate (g.nodes.length:Int).toNat (cl z4)).flatten = (mkB g.nodes.length []).map Value.bool:=by
  rw[O2,RV];show (List.replicate g.nodes.length [Value.bool false]).flatten = _;simp
 rw[e0,RV];refine jS [S0 mb g.nodes.length g.nodes.length] ?_;obtain⟨N,hN⟩:∃N,N = g.nodes.length:=⟨_,rfl⟩;rw[← hN] at n2 hb h2 ⊢;obtain⟨FN,hFN⟩:∃FN:Value,FN = .func (.func CU) #[] #[Pt sb,Pt ob]:=⟨_,rfl⟩;refine jci (λ_:Value × Chs=>[Pt b,Pt ob,FN]) (λq=>MtD N sb ob mb (g.AD.foldl BK []) q.1 (q.2 ++ F)) (λR1 q=>R1 = R0∧SO (g.AD.foldl BK []) q.1 q.2) (λK1 k1=>?_) ?_
 ·refine jfo (jlr (v:=.slice ra g.AD.length rc) hb rfl (jln ?_));refine jci (λ_:Value × Chs=>[Pt b,Pt ob,FN]) (λq=>MtD N sb ob mb (g.AD.foldl BK []) q.1 (q.2 ++ F)) (λR1 q=>R1 = R0∧SO (g.AD.foldl BK []) q.1 q.2) (λK2 k2=>?_) ?_;rotate_left
  ·rintro e R1 q hp he;refine z_V ?_;exact k1 R1 q hp
  refine Bq (D':=MtD N sb ob mb [] (SN) ([] ++ F)) ?_ ?_
  ·unfold MtD;exact (T8 _ _ _).cons _
  refine jli (λi:Nat × Value × Chs=>g.AD.length - i.1) (λi=>[Pt b,Pt ob,FN,.slice ra g.AD.length rc,I g.AD.length,I i.1]) (λi=>MtD N sb ob mb ((g.AD.take i.1).foldl BK []) i.2.1 (i.2.2 ++ F))
   (λR' i=>R' = R0∧i.1≤g.AD.length∧SO ((g.AD.take i.1).foldl BK []) i.2.1 i.2.2) (0,SN,[]) ⟨rfl,σ,.inl ⟨rfl,rfl,rfl⟩⟩ (by rw[hFN];rfl) rfl ?_
  rintro K e R' ⟨i,ov,A⟩ ⟨hR,hi,so⟩ he hK;subst hR;dsimp only at hi so he ⊢;refine z_V ?_;refine jlt (jif (λc=>?_) (λc=>?_));rotate_left
  ·have c:=z_g c;rw[RX ω] at so ⊢;exact k2 R' (ov,A) ⟨rfl,so⟩
  have c:i < g.AD.length:=by have:=z_f c;omega
  have hr:=ok.rr _ (RZ c);have m:=F4 ok (rs:=g.AD.take i) (acc:=[]) (λx hx=>SM hx) MOk.nil;have et:(g.AD.take (i + 1)).foldl BK [] = BK ((g.AD.take i).foldl BK []) g.AD[i]:=by
   rw[RW c,List.foldl_append];rfl
  refine jrw h3 h4 c λxv hx=>?_
  rw[hFN];refine FZ (by kernel_rfl) ?_;refine jc (K4 (mb:=mb) hx ω (λx hx=>by rw[hN];exact (hr.2 x hx).2) n2 (by rw[hN];exact m) so) ?_;rintro _ R2 A2 _ ⟨rfl,hR2,ov',A',so',rfl⟩;subst hR2;refine jad ?_;have:=hK R2 (i + 1,ov',A') (by dsimp only;omega) ⟨rfl,c,by dsimp only;rw[et];exact so'⟩;dsimp only at this;rw[et,hFN] at this;exact this
 rintro e R1 ⟨ov,A⟩ ⟨hR,so⟩ he;subst hR;dsimp only at so ⊢;refine z_V ?_;have m:=F4 ok (rs:=g.AD) (acc:=[]) (λx hx=>hx) MOk.nil;refine jfo (jlr (v:=.slice pa g.pinned.length pc) hb rfl ?_);rw[hFN];refine FZ (by kernel_rfl) ?_;refine jc (K4 (mb:=mb) h5 ω (λx hx=>by rw[hN];exact (ok.pr x hx).2) n2 (by rw[hN];exact m) so) ?_;rintro _ R2 A2 _ ⟨rfl,hR2,ov',A',so',rfl⟩;subst hR2;rw[← hFN];have m0:=L2 ok;refine jci (λ_:Value × Chs=>[Pt ob]) (λq=>MtD N sb ob mb (Ft g) q.1 (q.2 ++ F)) (λR1 q=>R1 = R2∧SO (Ft g) q.1 q.2) (λK1 k1=>?_) ?_;rotate_left
 ·rintro e R1 ⟨ov,A⟩ ⟨hR,so⟩ he;subst hR;dsimp only at so ⊢;refine z_V ?_;unfold MtD;exact jl (v:=ov) rfl (BH (BH (BH (AV (A:=A) hR0 so))))
 refine jci (λ_:Value × Chs=>[Pt ob]) (λq=>MtD N sb ob mb (Ft g) q.1 (q.2 ++ F)) (λR1 q=>R1 = R2∧SO (Ft g) q.1 q.2) (λK2 k2=>?_) ?_;rotate_left
 ·rintro e R1 q hp he;refine z_V ?_;exact k1 R1 q hp
 refine jli (λi:Nat × List Int × Value × Chs=>N + 1 - i.1) (λi=>[Pt b,Pt ob,FN,I i.1]) (λi=>MtD N sb ob mb i.2.1 i.2.2.1 (i.2.2.2 ++ F))
  (λR' i=>R' = R2∧i.1≤i.2.1.length∧MOk N i.2.1∧SO i.2.1 i.2.2.1 i.2.2.2∧Ea g (N + 1 - i.1) i.1 i.2.1 = Ft g) (0,Pl g,ov',A') ⟨rfl,σ,by rw[hN];exact m0,so',by rw[hN];rfl⟩ rfl rfl ?_
 rintro K e R' ⟨i,acc,ov,A⟩ ⟨hR,hi,m,so,hlp⟩ he hK;subst hR;dsimp only at hi so he m hlp ⊢;refine z_V ?_;have hml:=m.len;obtain⟨oa,oc,rfl⟩:=so.sln;unfold MtD;refine jl (v:=.slice oa acc.length oc) rfl (jln (jlt (jif (λc=>?_) (λc=>?_))));rotate_left
 ·have c:=z_g c;rw[Ly ω] at hlp;rw[← hlp] at k2;exact k2 R' (_,A) ⟨rfl,so⟩
 have c:i < acc.length:=by have:=z_f c;omega
 obtain⟨q,hq⟩:∃q,N + 1 - i = q + 1:=⟨N - i,ω⟩;rw[hq,K5 c] at hlp;obtain⟨x0,x1⟩:=m.rg _ (RZ c);obtain⟨k,hk⟩:∃k:Nat,acc[i] = k:=⟨acc[i].toNat,ω⟩;have hkn:k < g.nodes.length:=ω
 refine jfo (jlr (v:=.slice na N nc) hb rfl (jl (v:=.slice oa acc.length oc) rfl ?_));refine O8 (A:=A) (E:=(sb,C 25 [S0 mb N N]) :: (ob,C 23 [.slice oa acc.length oc]) :: (mb,C Av ((mkB N acc).map Value.bool)) :: F) so (s:=⟨by
   refine List.Perm.trans ?_ SE
   exact (SE (l₁:=A) (l₂:=F)).cons _ |>.cons _ |>.cons _⟩) c ?_
 rw[hk];refine jnd h1 h2 hkn λxb o ty cs xv yv hx hy hxb ho hrow=>jfo (jlr hxb (EQ hrow (f:=0) rfl) ?_)
 have hrf:ED g acc[i] = g.nodes[k].1:=by
  unfold ED;rw[hk,RV,Rh,RU hkn];rfl
 have hnd:=ok.nd _ (RZ hkn);rw[hFN];refine FZ (by kernel_rfl) ?_;show J _ (MtD N sb ob mb acc (.slice oa acc.length oc) (A ++ F)) _;refine jc (K4 (mb:=mb) hx ω (λx hx=>by rw[hN];exact (hnd.2.2 x hx).2) n2 m so) ?_;rintro _ R3 A3 _ ⟨rfl,hR3,ov3,A3,so3,rfl⟩;subst hR3;refine jad ?_;have hle:i + 1≤(BK acc g.nodes[k].1).length:=by
  have:∀(l acc:List Int),acc.length≤(BK acc l).length:=by
   intro l;induction l with
   | nil=>intro acc;exact z_n _
   | cons x l ih=>
    intro acc;refine Nat.le_trans ?_ (ih (Cg acc x));unfold Cg;split
    ·simp
    ·exact z_n _
  exact Nat.le_trans c (this _ _)
 have:=hK R3 (i + 1,BK acc g.nodes[k].1,ov3,A3) (by dsimp only;omega) ⟨rfl,hle,m.meet λx hx=>by rw[hN];exact (hnd.2.2 x hx).2,so3,by
  dsimp only
  rw[← hrf,show N + 1 - (i + 1) = q from ω];exact hlp⟩
 dsimp only at this;rw[hFN] at this;exact this
end
end Go.Lf
end
section
namespace Sm
def Dh (n:Nat):List Int:=(List.range n).map λ(i:Nat)=>(i:Int)
theorem JV {n:Nat}:(Dh n).length = n:=by simp[Dh]
def nmG (order:List Int) (x:Int):Int:=if 0≤x then (if x∈order then (Dh order.length).getD (order.idxOf x) 0 else 0) else x
def Ck (g:PG):PG:=⟨(Ft g).map λn=>((ED g n).map (nmG (Ft g)),(g.nodes.getD n.toNat ([],[])).2),g.AD.map λr=>r.map (nmG (Ft g)),g.pinned.map (nmG (Ft g))⟩
theorem Nz {f:Int→Int} {xs:List Int} {i:Nat} (h:i≤xs.length):((xs.take i).map f ++ xs.drop i).length = xs.length:=by simp;omega
theorem OF {f:Int→Int} {xs:List Int} {i:Nat} (h:i < xs.length) (h2:i < ((xs.take i).map f ++ xs.drop i).length):((xs.take i).map f ++ xs.drop i)[i] = xs[i]:=by
 rw[Sc (by simp;omega),TR];congr 1;simp;omega
theorem OH {f:Int→Int} {xs:List Int} {i:Nat} (h:i < xs.length):((xs.take i).map f ++ xs.drop i).set i (f xs[i]) = (xs.take (i + 1)).map f ++ xs.drop (i + 1):=by
 rw[Su _ _ (by simp;omega),SH h,RW h,S8,RY];congr 1;rw[show i - (List.map f (List.take i xs)).length = 0 from by simp;omega];rfl
end Sm
namespace Go.Lf
open Go Sm
section
variable {R:RM}
set_option maxHeartbeats 1000000 in
set_option maxRecDepth 8000 in
theorem O7 {lv:Value} {l order:List Int} {mb:Nat} {o:Obj} (h:Ai R lv l) (hl:l.length < 1000000) (ho:R mb = some o) (hm:Mg o (prs order (Dh order.length))) :
  Fn P Fl [lv,.map (some mb)] R [] (λv R' A=>R' = R∧SO (l.map (nmG order)) v A):=by
 refine LJ λF=>?_
 refine z_2 ?_;refine jc (A:=[]) (Bj h hl) ?_;rintro cv R1 A1 _ ⟨hR,so0,-⟩;subst hR;refine jci (λ_:Chs=>[cv]) (λA=>A ++ F) (λR' A=>R' = R1∧SO (l.map (nmG order)) cv A) (λK1 k1=>?_) ?_;rotate_left
 ·rintro e R' A ⟨hR,so⟩ he;subst hR;refine z_V ?_;exact AV (A:=A) (RM.le.refl _) ⟨rfl,so⟩
 obtain⟨ca,cc,rfl⟩:=so0.sln;refine jln ?_;refine jci (λ_:Chs=>[.slice ca l.length cc]) (λA=>A ++ F) (λR' A=>R' = R1∧SO (l.map (nmG order)) (.slice ca l.length cc) A) (λK2 k2=>?_) ?_;rotate_left
 ·rintro e R' A hp he;refine z_V ?_;exact k1 R' A hp
 refine jli (λi:Nat × Chs=>l.length - i.1) (λi=>[.map (some mb),.slice ca l.length cc,.slice ca l.length cc,I l.length,I i.1]) (λi=>i.2 ++ F)
  (λR' i=>R' = R1∧i.1≤l.length∧SO ((l.take i.1).map (nmG order) ++ l.drop i.1) (.slice ca l.length cc) i.2) (0,A1) ⟨rfl,σ,by simpa using so0⟩ rfl rfl ?_
 rintro K e R' ⟨i,A⟩ ⟨hR,hi,so⟩ he hK;subst hR;dsimp only at hi so he ⊢;refine z_V ?_;refine jlt (jif (λc=>?_) (λc=>?_));rotate_left
 ·have c:=z_g c;rw[RX ω,SU ω,SP] at so;exact k2 R' A ⟨rfl,so⟩
 have c:i < l.length:=by have:=z_f c;omega
 have hml:=Nz (f:=nmG order) hi;have hg:=OF (f:=nmG order) c (by rw[hml];exact c);have hs:=OH (f:=nmG order) c;refine jci (λ_:Chs=>[.map (some mb),.slice ca l.length cc,.slice ca l.length cc,I l.length,I i]) (λA=>A ++ F) (λR2 A=>R2 = R'∧SO ((l.take (i + 1)).map (nmG order) ++ l.drop (i + 1)) (.slice ca l.length cc) A) (λK3 k3=>?_) ?_;rotate_left
 ·rintro e R2 A ⟨hR2,so2⟩ he;subst hR2;refine z_V ?_;exact jad (hK R2 (i + 1,A) (by dsimp only;omega) ⟨rfl,c,so2⟩)
 refine jci (λ_:Chs=>[.map (some mb),.slice ca l.length cc,.slice ca l.length cc,I l.length,I i]) (λA=>A ++ F) (λR2 A=>R2 = R'∧SO ((l.take (i + 1)).map (nmG order) ++ l.drop (i + 1)) (.slice ca l.length cc) A) (λK4 k4=>?_) ?_;rotate_left
 ·rintro e R2 A hp he;refine z_V ?_;exact k3 R2 A hp
 refine O8 so (by rw[hml];exact c) ?_;rw[hg];refine jge (jif (λg=>?_) (λg=>?_))
 ·have g:0≤l[i]:=by simpa using g
  refine @QL _ _ _ 144 3 mb o (prs order (Dh order.length)) l[i] (I 0) false (Li.fz ho) NA Qq hm ?_;rw[Mb JV];have en:(if (false:Bool) = true then Value.tuple #[(if l[i]∈order then some (I ((Dh order.length).getD (order.idxOf l[i]) 0)) else none).getD (I 0),.bool (if l[i]∈order then some (I ((Dh order.length).getD (order.idxOf l[i]) 0)) else none).isSome] else (if l[i]∈order then some (I ((Dh order.length).getD (order.idxOf l[i]) 0)) else none).getD (I 0)) = I (nmG order l[i]):=by
   rw[if_neg δ];unfold nmG;rw[if_pos g];split<;>rfl
  rw[en];refine PW so (by rw[hml];exact c) λA' so'=>?_
  rw[hs] at so';exact k4 R' A' ⟨rfl,so'⟩
 ·have g:¬ 0≤l[i]:=by simpa using g
  have en:nmG order l[i] = l[i]:=by unfold nmG;rw[if_neg g]
  rw[en] at hs;have e2:((l.take i).map (nmG order) ++ l.drop i).set i l[i] = (l.take i).map (nmG order) ++ l.drop i:=by
   have:=List.set_getElem_self (show i < ((l.take i).map (nmG order) ++ l.drop i).length by rw[hml];exact c);rwa [hg] at this
  rw[e2] at hs;rw[hs] at so;exact k4 R' A ⟨rfl,so⟩
end
end Go.Lf
end
section
namespace Go.Lf
open Go Sm
section
variable {R:RM} {v:Value} {g:PG}
set_option maxHeartbeats 2000000 in
set_option maxRecDepth 8000 in
theorem Eh (h:GrF R v g) (z:GZ g) (ok:GOk g):Fn P EU [v] R [] (λx R' A=>A = []∧GrF R' x (Ck g)):=by
 have hgr:=h;obtain⟨r1,r2,nv,rv,pv,rfl,h1,h2,h3,h4,h5⟩:=h;obtain⟨na,nc,rfl⟩:=h2.sl;obtain⟨ra,rc,rfl⟩:=h4.sl;obtain⟨pa,pc,rfl⟩:=h5.sl;have e1:=h1.1;have e2:=h3.1;have hn2:=ok.n;have zr:=ok.r1;have zp:=ok.p;refine Hr λF=>?_
 refine z_1 ?_;refine ja λb=>AJ (b:=b) λR0 hR0 hb=>ja λg0=>?_
 have hb:R0 b = some (C 42 [.slice na r1.length nc,.slice ra r2.length rc,.slice pa g.pinned.length pc]):=hb;have hgr:=hgr.le hR0;refine Ce (l:=[.slice na r1.length nc,.slice ra r2.length rc,.slice pa g.pinned.length pc]) hb (by exact z_n 3) rfl (jrp (EF hgr z) ?_);rw[IZ.2 ok];refine C9 (Ce (l:=[.slice na r1.length nc,.slice ra r2.length rc,.slice pa g.pinned.length pc]) hb (by exact z_n 3) rfl ?_);refine jc (A:=[]) (OI hgr ok) ?_;intro lv R2 A2 hR2 so;refine EE so λR3 hR3 hi=>?_
 have mok:=Kz ok;have mlen:=mok.len;obtain⟨ord,hord⟩:∃ord,ord = Ft g:=⟨_,rfl⟩;rw[← hord] at hi mok mlen;obtain⟨la,lc,rfl⟩:=hi.sl;have hb:=(hR2.trans hR3) _ _ hb;have hR03:=hR0.trans (hR2.trans hR3);refine OW QG λmb o0 ho0=>?_
 refine jci (λ_:Obj=>[Pt b,Pt g0,.slice la ord.length lc,.map (some mb)]) (λo=>(mb,o) :: (g0,C 42 (cl z42)) :: ([] ++ F)) (λR' o=>R' = R3∧Mg o (prs ord (Dh ord.length))) (λK1 k1=>?_) ?_
 ·refine jln ?_;refine jci (λ_:Obj=>[Pt b,Pt g0,.slice la ord.length lc,.map (some mb)]) (λo=>(mb,o) :: (g0,C 42 (cl z42)) :: ([] ++ F)) (λR' o=>R' = R3∧Mg o (prs ord (Dh ord.length))) (λK2 k2=>?_) ?_;rotate_left
  ·rintro e R' o hp he;refine z_V ?_;exact k1 R' o hp
  refine jli (λi:Nat × Obj=>ord.length - i.1) (λi=>[Pt b,Pt g0,.slice la ord.length lc,.map (some mb),.slice la ord.length lc,I ord.length,I i.1]) (λi=>(mb,i.2) :: (g0,C 42 (cl z42)) :: ([] ++ F))
   (λR' i=>R' = R3∧i.1≤ord.length∧Mg i.2 (prs (ord.take i.1) (Dh i.1))) (0,o0) ⟨rfl,σ,by simpa [prs,Dh] using ho0⟩ rfl rfl ?_
  rintro K e R' ⟨k,o⟩ ⟨hR,hk,hm⟩ he hK;subst hR;dsimp only at hk hm he ⊢;refine z_V ?_;refine jlt (jif (λc=>?_) (λc=>?_));rotate_left
  ·have c:=z_g c;rw[RX ω,show k = ord.length from ω] at hm;exact k2 R' o ⟨rfl,hm⟩
  have c:k < ord.length:=by have:=z_f c;omega
  refine ER hi ω ω ?_;simp only[RV];refine @Q9 _ _ _ 144 3 mb o _ (prs (ord.take k) (Dh k)) _ _ _ NA hm λo3 hm3=>?_
  have hne:∀p∈prs (ord.take k) (Dh k),p.1≠ord[k]:=λp hp e=>by
   have h1:=Nu hp;rw[e] at h1;obtain⟨j,hj,ej⟩:=S5 h1;rw[Rk] at hj;rw[List.getElem_take] at ej;have:=(List.getElem_inj mok.nd).1 ej;omega
  rw[Oo hne] at hm3;have et:prs (ord.take (k + 1)) (Dh (k + 1)) = prs (ord.take k) (Dh k) ++ [(ord[k],I k)]:=by
   rw[RW c];have:Dh (k + 1) = Dh k ++ [(k:Int)]:=by unfold Dh;rw[List.range_succ,S8];rfl
   rw[this,ON (by rw[Rk,JV];omega)]
  rw[← et] at hm3;exact jad (hK R' (k + 1,o3) (by dsimp only;omega) ⟨rfl,c,hm3⟩)
 rintro e R' o ⟨hR,hm⟩ he;subst hR;refine z_V ?_;refine AJ (b:=mb) λR4 hR4 hmb=>ja λgb=>?_
 have h1:=h1.mono λ_ _=>NdC.le (hR03.trans hR4)
 have h2:=h2.le (hR03.trans hR4);have h3:=h3.mono λ_ _=>RwC.le (hR03.trans hR4)
 have h4:=h4.le (hR03.trans hR4);have h5:=h5.le (hR03.trans hR4);have hi:=hi.le hR4;have hb:=hR4 _ _ hb;have hR04:=hR03.trans hR4;have hlk:∀x,nmG ord x = nmG (Ft g) x:=λx=>by rw[hord]
 have named:∀{R' : RM} {xv:Value} {l:List Int},R4.le R'→Ai R' xv l→l.length < 1000000→Fn P Fl [xv,.map (some mb)] R' [] (λv R'' A=>R'' = R'∧SO (l.map (nmG ord)) v A):=λhR hx hl=>O7 hx hl (hR _ _ hmb) hm
 refine jci (λ_:Value × Chs × List (List Value)=>[Pt b,Pt g0,.map (some mb),Pt gb])
  (λi=>(gb,C 42 [i.1,SN,SN]) :: (i.2.1 ++ ((g0,C 42 (cl z42)) :: ([] ++ F))))
  (λR' i=>R4.le R'∧Rw (NdC R') i.2.2 (Ck g).nodes∧SW 94 2 i.2.2 i.1 i.2.1) (λK1 k1=>?_) ?_
 ·refine jln ?_;refine jci (λ_:Value × Chs × List (List Value)=>[Pt b,Pt g0,.map (some mb),Pt gb])
   (λi=>(gb,C 42 [i.1,SN,SN]) :: (i.2.1 ++ ((g0,C 42 (cl z42)) :: ([] ++ F))))
   (λR' i=>R4.le R'∧Rw (NdC R') i.2.2 (Ck g).nodes∧SW 94 2 i.2.2 i.1 i.2.1) (λK2 k2=>?_) ?_
  rotate_left
  ·rintro e R' i hp he;refine z_V ?_;exact k1 R' i hp
  refine jli (λi:Nat × Value × Chs × List (List Value)=>ord.length - i.1)
   (λi=>[Pt b,Pt g0,.map (some mb),Pt gb,.slice la ord.length lc,I ord.length,I i.1])
   (λi=>(gb,C 42 [i.2.1,SN,SN]) :: (i.2.2.1 ++ ((g0,C 42 (cl z42)) :: ([] ++ F))))
   (λR' i=>R4.le R'∧i.1≤ord.length∧Rw (NdC R') i.2.2.2 ((ord.take i.1).map λn=>((ED g n).map (nmG ord),(g.nodes.getD n.toNat ([],[])).2))∧SW 94 2 i.2.2.2 i.2.1 i.2.2.1)
   (0,SN,[],[]) ⟨RM.le.refl _,σ,Rw.nil,.inl ⟨rfl,rfl,rfl⟩⟩ rfl rfl ?_
  rintro K e R5 ⟨k,nv,A1,rows⟩ ⟨hR5,hkl,hrw,so⟩ he hK;dsimp only at hkl hrw so he hK ⊢;refine z_V ?_;refine jlt (jif (λc=>?_) (λc=>?_));rotate_left
  ·have c:=z_g c;rw[RX ω,hord] at hrw;exact k2 R5 (nv,A1,rows) ⟨hR5,hrw,so⟩
  have c:k < ord.length:=by have:=z_f c;omega
  obtain⟨x0,x1⟩:=mok.rg _ (RZ c);obtain⟨q,hq⟩:∃q:Nat,ord[k] = q:=⟨ord[k].toNat,ω⟩;have hqn:q < g.nodes.length:=ω
  have hnd:=ok.nd _ (RZ hqn);have hrf:ED g ord[k] = g.nodes[q].1:=by
   unfold ED;rw[hq,RV,Rh,RU hqn];rfl
  have hnm:(g.nodes.getD (ord[k]).toNat ([],[])).2 = g.nodes[q].2:=by
   rw[hq,RV,Rh,RU hqn];rfl
  have hb5:=hR5 _ _ hb;have h15:=h1.mono λ_ _=>NdC.le hR5
  have h25:=h2.le hR5;refine ER (hi.le hR5) ω ω ?_;simp only[RV];rw[hq];refine jfo (jl (v:=nv) rfl (jfo (jlr (v:=.slice na r1.length nc) hb5 rfl ?_)));refine jnd h15 h25 hqn λxb o ty cs xv yv hx hy hxb ho hrow=>jfo (jlr (v:=xv) hxb (EQ hrow (f:=0) rfl) ?_)
  refine jfo (jlr (v:=.slice na r1.length nc) hb5 rfl ?_);refine jnd h15 h25 hqn λxb2 o2 ty2 cs2 xv2 yv2 hx2 hy2 hxb2 ho2 hrow2=>jfo (jlr (v:=yv2) hxb2 (EQ hrow2 (f:=1) rfl) ?_)
  refine jc (A:=[]) (named hR5 hx ω) ?_;rintro sv R6 A6 _ ⟨hR6,so6⟩;subst hR6;refine Ab [(gb,C 42 [nv,SN,SN])] (G:=A6 ++ (A1 ++ ((g0,C 42 (cl z42)) :: ([] ++ F)))) ?_;refine As (jl (v:=nv) rfl jev) (As (jlr (v:=.slice na r1.length nc) hb5 rfl jev) (As (jlr (v:=yv2) hxb2 (EQ hrow2 (f:=1) rfl) jev) ?_));refine jc (A:=[]) (Bj hy2 ω) ?_;rintro cv R7 A7 _ ⟨hR7,so7,-⟩;subst hR7;refine Bq (D':=A7 ++ ((gb,C 42 [nv,SN,SN]) :: (A6 ++ (A1 ++ ((g0,C 42 (cl z42)) :: ([] ++ F)))))) (SJ _) ?_;refine Ab A7 (G:=(gb,C 42 [nv,SN,SN]) :: (A6 ++ (A1 ++ ((g0,C 42 (cl z42)) :: ([] ++ F))))) (EE so7 λR8 hR8 hi7=>Ab A6 (G:=(gb,C 42 [nv,SN,SN]) :: (A1 ++ ((g0,C 42 (cl z42)) :: ([] ++ F)))) (EE so6 λR9 hR9 hi6=>?_));obtain⟨xa,xc,rfl⟩:=hi6.sl;obtain⟨ca,cc,rfl⟩:=hi7.sl;refine jbd (cs:=[.slice xa (g.nodes[q].1.map (nmG ord)).length xc,.slice ca g.nodes[q].2.length cc]) rfl rfl (As (jl (v:=nv) rfl jev) (jbs (cs:=[.slice xa (g.nodes[q].1.map (nmG ord)).length xc,.slice ca g.nodes[q].2.length cc]) rfl rfl λbb=>As (jl (v:=nv) rfl jev) ?_));have hrl:=hrw.1;rw[Ry,Rk] at hrl;refine KO [[.slice xa (g.nodes[q].1.map (nmG ord)).length xc,.slice ca g.nodes[q].2.length cc]] so rfl (hrw.all λ_ _=>NdC.len) (by intro r hr;rw[Ri.1 hr];rfl) rfl rfl rfl δ (by simp only[Rr,TC];omega) λv' A' so'=>?_
  obtain⟨va,vc,hv'⟩:=so'.sl;subst hv';refine jfo (jS ([.slice va (rows ++ [[Value.slice xa (g.nodes[q].1.map (nmG ord)).length xc,.slice ca g.nodes[q].2.length cc]]).length vc,SN,SN]) (jad ?_));refine Ab [(gb,C 42 [.slice va (rows ++ [[Value.slice xa (g.nodes[q].1.map (nmG ord)).length xc,.slice ca g.nodes[q].2.length cc]]).length vc,SN,SN])] (G:=A' ++ ((g0,C 42 (cl z42)) :: ([] ++ F))) ?_;refine hK R9 (k + 1,_,A',rows ++ [[Value.slice xa (g.nodes[q].1.map (nmG ord)).length xc,.slice ca g.nodes[q].2.length cc]]) (by dsimp only;omega) ⟨hR5.trans (hR8.trans hR9),c,?_,so'⟩;rw[RW c,S8];refine (hrw.mono λ_ _=>NdC.le (hR8.trans hR9)).app (Rw.one ⟨_,_,rfl,?_,?_⟩)
  ·dsimp only;rw[hrf];exact hi6
  ·dsimp only;rw[hnm];exact hi7.le hR9
 rintro e R5 ⟨nv2,A1,rows1⟩ ⟨hR5,hrw1,so1⟩ he;dsimp only at hrw1 so1 ⊢;refine z_V ?_;obtain⟨nna,nnc,hnv⟩:=so1.sl;refine Ab A1 (G:=(gb,C 42 [nv2,SN,SN]) :: (g0,C 42 (cl z42)) :: ([] ++ F)) ?_;refine jfw so1 (hrw1.all λ_ _=>NdC.len) λR6 hR6 hfz=>?_
 have hrw1:=hrw1.mono λ_ _=>NdC.le hR6
 have hR6:=hR5.trans hR6;clear hR5 so1;refine jci (λ_:Value × Chs × List (List Value)=>[Pt b,Pt g0,.map (some mb),Pt gb])
  (λi=>(gb,C 42 [nv2,i.1,SN]) :: (i.2.1 ++ ((g0,C 42 (cl z42)) :: ([] ++ F))))
  (λR' i=>R6.le R'∧Rw (RwC R') i.2.2 (g.AD.map λr=>r.map (nmG ord))∧SW 23 1 i.2.2 i.1 i.2.1) (λK1 k1=>?_) ?_
 ·refine jfo (jlr (v:=.slice ra r2.length rc) (hR6 _ _ hb) rfl (jln ?_));refine jci (λ_:Value × Chs × List (List Value)=>[Pt b,Pt g0,.map (some mb),Pt gb])
   (λi=>(gb,C 42 [nv2,i.1,SN]) :: (i.2.1 ++ ((g0,C 42 (cl z42)) :: ([] ++ F))))
   (λR' i=>R6.le R'∧Rw (RwC R') i.2.2 (g.AD.map λr=>r.map (nmG ord))∧SW 23 1 i.2.2 i.1 i.2.1) (λK2 k2=>?_) ?_
  rotate_left
  ·rintro e R' i hp he;refine z_V ?_;exact k1 R' i hp
  refine jli (λi:Nat × Value × Chs × List (List Value)=>g.AD.length - i.1)
   (λi=>[Pt b,Pt g0,.map (some mb),Pt gb,.slice ra r2.length rc,I r2.length,I i.1])
   (λi=>(gb,C 42 [nv2,i.2.1,SN]) :: (i.2.2.1 ++ ((g0,C 42 (cl z42)) :: ([] ++ F))))
   (λR' i=>R6.le R'∧i.1≤g.AD.length∧Rw (RwC R') i.2.2.2 ((g.AD.take i.1).map λr=>r.map (nmG ord))∧SW 23 1 i.2.2.2 i.2.1 i.2.2.1)
   (0,SN,[],[]) ⟨RM.le.refl _,σ,Rw.nil,.inl ⟨rfl,rfl,rfl⟩⟩ rfl rfl ?_
  rintro K e R7 ⟨k,rv,A2,rows⟩ ⟨hR7,hkl,hrw,so⟩ he hK;dsimp only at hkl hrw so he hK ⊢;refine z_V ?_;refine jlt (jif (λc=>?_) (λc=>?_));rotate_left
  ·have c:=z_g c;rw[RX ω] at hrw;exact k2 R7 (rv,A2,rows) ⟨hR7,hrw,so⟩
  have c:k < g.AD.length:=by have:=z_f c;omega
  have hrl8:=(ok.rr _ (RZ c)).1;have h37:=h3.mono λ_ _=>RwC.le (hR6.trans hR7)
  refine jrw h37 (h4.le (hR6.trans hR7)) c λxv hx=>jfo (jl (v:=rv) rfl ?_)
  refine jc (A:=[]) (named (hR6.trans hR7) hx ω) ?_;rintro sv R8 A6 _ ⟨hR8,so6⟩;subst hR8;refine Ab A6 (G:=(gb,C 42 [nv2,rv,SN]) :: (A2 ++ ((g0,C 42 (cl z42)) :: ([] ++ F)))) (EE so6 λR9 hR9 hi6=>?_);obtain⟨xa,xc,rfl⟩:=hi6.sl;refine As (jl (v:=rv) rfl jev) (jbs (cs:=[.slice xa (g.AD[k].map (nmG ord)).length xc]) rfl rfl λbb=>As (jl (v:=rv) rfl jev) ?_);have hrl:=hrw.1;rw[Ry,Rk] at hrl;refine KO [[.slice xa (g.AD[k].map (nmG ord)).length xc]] so rfl (hrw.all λ_ _=>RwC.len) (by intro r hr;rw[Ri.1 hr];rfl) rfl rfl rfl δ (by simp only[Rr,TC];omega) λv' A' so'=>?_
  obtain⟨va,vc,hv'⟩:=so'.sl;subst hv';refine jfo (jS ([nv2,.slice va (rows ++ [[Value.slice xa (g.AD[k].map (nmG ord)).length xc]]).length vc,SN]) (jad ?_));refine Ab [(gb,C 42 [nv2,.slice va (rows ++ [[Value.slice xa (g.AD[k].map (nmG ord)).length xc]]).length vc,SN])] (G:=A' ++ ((g0,C 42 (cl z42)) :: ([] ++ F))) ?_;refine hK R9 (k + 1,_,A',rows ++ [[Value.slice xa (g.AD[k].map (nmG ord)).length xc]]) (by dsimp only;omega) ⟨hR7.trans hR9,c,?_,so'⟩;rw[RW c,S8];exact (hrw.mono λ_ _=>RwC.le hR9).app (Rw.one ⟨_,rfl,hi6⟩)
 rintro e R7 ⟨rv2,A2,rows2⟩ ⟨hR7,hrw2,so2⟩ he;dsimp only at hrw2 so2 ⊢;refine z_V ?_;obtain⟨rra,rrc,hrv⟩:=so2.sl;refine Ab A2 (G:=(gb,C 42 [nv2,rv2,SN]) :: (g0,C 42 (cl z42)) :: ([] ++ F)) ?_;refine jfw so2 (hrw2.all λ_ _=>RwC.len) λR8 hR8 hfz2=>?_
 have hrw2:=hrw2.mono λ_ _=>RwC.le hR8
 have hR8:=hR7.trans hR8;have hR48:=hR6.trans hR8;refine jfo (jlr (v:=.slice pa g.pinned.length pc) (hR48 _ _ hb) rfl ?_);refine jc (A:=[]) (named hR48 (h5.le hR48) ω) ?_;rintro sv R9 A6 _ ⟨hR9,so6⟩;subst hR9;refine Ab [(gb,C 42 [nv2,rv2,SN]),(g0,C 42 (cl z42))] (G:=A6 ++ ([] ++ F)) ?_;refine Ab A6 (G:=[(gb,C 42 [nv2,rv2,SN]),(g0,C 42 (cl z42))] ++ ([] ++ F)) ?_;refine EE so6 λR10 hR10 hi9=>?_
 obtain⟨xa,xc,rfl⟩:=hi9.sl;subst hnv hrv;refine jfo (jS [.slice nna rows1.length nnc,.slice rra rows2.length rrc,.slice xa (g.pinned.map (nmG ord)).length xc] ?_);refine jla (l:=[.slice nna rows1.length nnc,.slice rra rows2.length rrc,.slice xa (g.pinned.map (nmG ord)).length xc]) (RQ rfl) rfl ?_;refine jS [.slice nna rows1.length nnc,.slice rra rows2.length rrc,.slice xa (g.pinned.map (nmG ord)).length xc] ?_;refine jla (l:=[.slice nna rows1.length nnc,.slice rra rows2.length rrc,.slice xa (g.pinned.map (nmG ord)).length xc]) (RQ rfl) rfl ?_;refine AV (A:=[]) (hR04.trans (hR48.trans hR10)) ⟨rfl,rows1,rows2,_,_,_,rfl,hrw1.mono λ_ _=>NdC.le (hR8.trans hR10),hfz.le (hR8.trans hR10),?_,hfz2.le hR10,?_⟩
 ·unfold Ck;rw[← hord];exact hrw2.mono λ_ _=>RwC.le hR10
 ·unfold Ck;rw[← hord];exact hi9
end
end Go.Lf
end
section
namespace Sm
def I8 (g h:PG):Bool:=(g.nodes == h.nodes) && (g.AD == h.AD) && (g.pinned == h.pinned)
theorem Np {g:PG} (ok:GOk g):GZ (Ck g):=by
 have m:=(Kz ok).len;have n:=ok.n;have r:=ok.r1;have p:=ok.p;refine⟨by simp[Ck];omega,by simp[Ck];omega,by simp[Ck];omega,λx hx=>?_,λx hx=>?_⟩
 ·obtain⟨k,hk,rfl⟩:=S6.1 hx;have h1:=(JW ok k).2;refine⟨by simp;omega,?_⟩;dsimp only;rw[Rh];cases hx:g.nodes[k.toNat]? with
  | none=>simp
  | some y=>have:=(ok.nd y (List.mem_of_getElem? hx)).2.1;simp;omega
 ·obtain⟨k,hk,rfl⟩:=S6.1 hx;have:=(ok.rr k hk).1;simp;omega
end Sm
namespace Go.Lf
open Go Sm
section
variable {R:RM} {D:Chs}
theorem Iw {α:Type} {la lb:List α} {i:Nat} (hl:la.length = lb.length) (hc:i < la.length) (he:la.take i = lb.take i) (hd:la[i] = lb[i]'(ω)):la.take (i + 1) = lb.take (i + 1):=by
 rw[RW hc,RW (by omega:i < lb.length),he,hd]
theorem KJ {α:Type} [BEq α] [LawfulBEq α] {la lb:List α} (h:(la.length:Int)≠lb.length):(la == lb) = false:=by
 rw[beq_eq_false_iff_ne];intro e;rw[e] at h;exact h rfl
theorem NH {α:Type} [BEq α] [LawfulBEq α] {la lb:List α} {i:Nat} (h1:i < la.length) (h2:i < lb.length) (h:la[i]≠lb[i]):(la == lb) = false:=by
 rw[beq_eq_false_iff_ne];intro e;subst e;exact h rfl
theorem KP {α:Type} [BEq α] [LawfulBEq α] {la lb:List α} (h:la.take la.length = lb.take la.length) (hl:la.length = lb.length):(la == lb) = true:=by
 rw[RX ω,RX ω] at h;rw[h];exact beq_self_eq_true _
theorem Gb {va vb:Value} {la lb:List Int} (ha:Ai R va la) (hb:Ai R vb lb) (h1:la.length < 1000000):Ro CI [va,vb] (.bool (la == lb)) R D:=by
 refine HR λF=>?_
 refine z_2 ?_;refine Bh ha.sl (Bh hb.sl (jne (jif (λh=>?_) (λh=>?_))))
 ·rw[KJ (by simpa using h)];exact Af rfl
 have hl:la.length = lb.length:=by
  have:((la.length:Int) != lb.length) = false:=h;rw[bne_eq_false_iff_eq] at this;omega
 refine Bh ha.sl ?_;refine HT [va,vb,I la.length] la.length (λi=>la.take i = lb.take i) σ λi K e hi heq hK he=>?_
 refine z_V ?_;refine jlt (jif (λhc=>?_) (λhc=>?_));rotate_left
 ·have hc:=z_g hc;rw[show i = la.length from ω] at heq;rw[KP heq hl];exact Af rfl
 have hc:i < la.length:=by have:=z_f hc;omega
 refine ER ha ω ω (ER hb ω ω (jne ?_));simp only[RV];refine jif (λhd=>?_) (λhd=>?_)
 ·rw[NH hc ω (by simpa using hd)];exact Af rfl
 ·exact jad (hK hc (Iw hl hc heq (by simpa using hd)))
theorem OJ {xa ya xa' ya' : Option Addr} {xc yc xc' yc' : Nat} {x y:List Int × List Int} (h1:Ai R (.slice xa x.1.length xc) x.1) (h2:Ai R (.slice ya x.2.length yc) x.2) (h1' : Ai R (.slice xa' y.1.length xc') y.1) (h2' : Ai R (.slice ya' y.2.length yc') y.2) (z1:x.1.length < 1000000) (z2:x.2.length < 1000000) :
  Ro Bo [.agg #[.slice xa x.1.length xc,.slice ya x.2.length yc],.agg #[.slice xa' y.1.length xc',.slice ya' y.2.length yc']] (.bool (x == y)) R D:=by
 refine Fs λF=>?_
 refine z_2 ?_;refine ja λb1=>ja λb2=>?_
 have ex:(x == y) = ((x.1 == y.1) && (x.2 == y.2)):=rfl;rw[ex];refine jan [] ((x.1 == y.1) && (x.2 == y.2)) (λK' hK'=>?_) (λe c u ho he=>?_)
 ·refine jfo (jl (v:=.slice xa x.1.length xc) rfl (jfo (jl (v:=.slice xa' y.1.length xc') rfl (jro (Gb h1 h1' z1) ?_))));refine Bc (λg=>?_) (λg=>?_)
  ·rw[g];exact jfo (jl (v:=.slice ya x.2.length yc) rfl (jfo (jl (v:=.slice ya' y.2.length yc') rfl (jro (Gb h2 h2' z2) (hK' _ _ _ Ac (by rw[g,Rj]))))))
  ·rw[g];exact hK' _ _ _ Aj (by rw[g,Rl])
 refine z_V ?_;rw[ho];exact BH (BH (Af rfl))
theorem LL {v1 v2:Value} {r1 r2:List (List Value)} {l1 l2:List (List Int × List Int)} (h1:Rw (NdC R) r1 l1) (g1:Fz R v1 2 r1.length r1.flatten) (h2:Rw (NdC R) r2 l2) (g2:Fz R v2 2 r2.length r2.flatten) (z0:l1.length < 1000000) (z:∀x∈l1,x.1.length < 1000000∧x.2.length < 1000000) :
  Ro CE [v1,v2,.func (.func Bo) #[] #[]] (.bool (l1 == l2)) R D:=by
 refine Da λF=>?_
 refine z_3 ?_;have e1:=h1.1;have e2:=h2.1;refine Bh g1.sl (Bh g2.sl (jne (jif (λh=>?_) (λh=>?_))))
 ·rw[KJ (la:=l1) (lb:=l2) (by rw[← e1,← e2];simpa using h)];exact Af rfl
 have hl:l1.length = l2.length:=by
  have:((r1.length:Int) != r2.length) = false:=h;rw[bne_eq_false_iff_eq] at this;omega
 refine Bh g1.sl ?_;refine HT [v2,.func (.func Bo) #[] #[],v1,I r1.length] l1.length (λi=>l1.take i = l2.take i) σ λi K e hi heq hK he=>?_
 refine z_V ?_;refine jlt (jif (λhc=>?_) (λhc=>?_));rotate_left
 ·have hc:=z_g hc;rw[show i = l1.length from ω] at heq;rw[KP heq hl];exact Af rfl
 have hc:i < l1.length:=by have:=z_f hc;omega
 have hc2:i < l2.length:=ω
 obtain⟨z1,z2⟩:=z _ (RZ hc);refine jnd h1 g1 hc λxb o ty cs xv yv hx hy hxb ho hrow=>Ce hxb ho hrow ?_
 obtain⟨xa,xc,rfl⟩:=hx.sl;obtain⟨ya,yc,rfl⟩:=hy.sl;refine ja λb1=>jS ([.slice xa l1[i].1.length xc,.slice ya l1[i].2.length yc]) ?_
 refine jnd h2 g2 hc2 λxb' o' ty' cs' xv' yv' hx' hy' hxb' ho' hrow'=>Ce hxb' ho' hrow' ?_
 obtain⟨xa',xc',rfl⟩:=hx'.sl;obtain⟨ya',yc',rfl⟩:=hy'.sl;refine ja λb2=>jS ([.slice xa' l2[i].1.length xc',.slice ya' l2[i].2.length yc']) ?_
 refine jla (l:=[.slice xa l1[i].1.length xc,.slice ya l1[i].2.length yc]) (RQ rfl) rfl (jla (l:=[.slice xa' l2[i].1.length xc',.slice ya' l2[i].2.length yc']) (RQ rfl) rfl ?_);refine FZ (by kernel_rfl) (jro (OJ hx hy hx' hy' z1 z2) (jif (λhd=>?_) (λhd=>?_)))
 ·have hd:l1[i]≠l2[i]:=by simpa using hd
  rw[NH hc hc2 hd];exact BH (BH (Af rfl))
 ·have hd:l1[i] = l2[i]:=by simpa using hd
  exact jad (BH (BH (hK hc (Iw hl hc heq hd))))
theorem Ml {v1 v2:Value} {r1 r2:List (List Value)} {l1 l2:List (List Int)} (h1:Rw (RwC R) r1 l1) (g1:Fz R v1 1 r1.length r1.flatten) (h2:Rw (RwC R) r2 l2) (g2:Fz R v2 1 r2.length r2.flatten) (z0:l1.length < 1000000) (z:∀x∈l1,x.length < 1000000) :
  Ro CH [v1,v2,.func (.func CI) #[] #[]] (.bool (l1 == l2)) R D:=by
 refine DW λF=>?_
 refine z_3 ?_;have e1:=h1.1;have e2:=h2.1;refine Bh g1.sl (Bh g2.sl (jne (jif (λh=>?_) (λh=>?_))))
 ·rw[KJ (la:=l1) (lb:=l2) (by rw[← e1,← e2];simpa using h)];exact Af rfl
 have hl:l1.length = l2.length:=by
  have:((r1.length:Int) != r2.length) = false:=h;rw[bne_eq_false_iff_eq] at this;omega
 refine Bh g1.sl ?_;refine HT [v2,.func (.func CI) #[] #[],v1,I r1.length] l1.length (λi=>l1.take i = l2.take i) σ λi K e hi heq hK he=>?_
 refine z_V ?_;refine jlt (jif (λhc=>?_) (λhc=>?_));rotate_left
 ·have hc:=z_g hc;rw[show i = l1.length from ω] at heq;rw[KP heq hl];exact Af rfl
 have hc:i < l1.length:=by have:=z_f hc;omega
 have hc2:i < l2.length:=ω
 refine jrw h1 g1 hc λxv hx=>jrw h2 g2 hc2 λyv hy=>?_
 refine FZ (by kernel_rfl) (jro (Gb hx hy (z _ (RZ hc))) (jif (λhd=>?_) (λhd=>?_)))
 ·have hd:l1[i]≠l2[i]:=by simpa using hd
  rw[NH hc hc2 hd];exact Af rfl
 ·have hd:l1[i] = l2[i]:=by simpa using hd
  exact jad (hK hc (Iw hl hc heq hd))
theorem Il {v1 v2:Value} {g h:PG} (h1:GrF R v1 g) (h2:GrF R v2 h) (z:GZ g):Ro E6 [v1,v2] (.bool (I8 g h)) R D:=by
 obtain⟨r1,r2,nv,rv,pv,rfl,a1,a2,a3,a4,a5⟩:=h1;obtain⟨r1',r2',nv',rv',pv',rfl,b1,b2,b3,b4,b5⟩:=h2;obtain⟨na,nc,rfl⟩:=a2.sl;obtain⟨ra,rc,rfl⟩:=a4.sl;obtain⟨pa,pc,rfl⟩:=a5.sl;obtain⟨na',nc',rfl⟩:=b2.sl;obtain⟨ra',rc',rfl⟩:=b4.sl;obtain⟨pa',pc',rfl⟩:=b5.sl;obtain⟨z1,z2,z3,z4,z5⟩:=z;refine HX λF=>?_
 refine z_2 ?_;refine ja λx1=>ja λx2=>?_
 unfold I8;refine jan [Pt x1,Pt x2] ((g.nodes == h.nodes) && (g.AD == h.AD)) (λK' hK'=>?_) (λe c u ho he=>?_)
 ·refine jfo (jl (v:=.slice na r1.length nc) rfl (jfo (jl (v:=.slice na' r1'.length nc') rfl (jro (LL a1 a2 b1 b2 z1 z4) ?_))));refine Bc (λq=>?_) (λq=>?_)
  ·rw[q];exact jfo (jl (v:=.slice ra r2.length rc) rfl (jfo (jl (v:=.slice ra' r2'.length rc') rfl (jro (Ml a3 a4 b3 b4 z2 z5) (hK' _ _ _ Ac (by rw[q,Rj]))))))
  ·rw[q];exact hK' _ _ _ Aj (by rw[q,Rl])
 refine z_V ?_;refine jan [] ((g.nodes == h.nodes) && (g.AD == h.AD) && (g.pinned == h.pinned)) (λK' hK'=>?_) (λe c u ho2 he=>?_)
 ·rw[ho];refine Bc (λq=>?_) (λq=>?_)
  ·rw[q];exact jfo (jl (v:=.slice pa g.pinned.length pc) rfl (jfo (jl (v:=.slice pa' h.pinned.length pc') rfl (jro (Gb a5 b5 z3) (hK' _ _ _ Ac (by rw[q,Rj]))))))
  ·rw[q];exact hK' _ _ _ Aj (by rw[q,Rl])
 refine z_V ?_;rw[ho2];exact BH (BH (Af rfl))
set_option maxRecDepth 8000 in
theorem Hj {v1 v2:Value} {g h:PG} (h1:GrF R v1 g) (h2:GrF R v2 h) (z1:GZ g) (z2:GZ h) (ok1:GOk g) (ok2:GOk h):Ro EZ [v1,v2] (.bool (I8 (Ck g) (Ck h))) R []:=by
 have h10:=h1;have h20:=h2;obtain⟨r1,r2,nv,rv,pv,rfl,a1,a2,a3,a4,a5⟩:=h1;obtain⟨r1',r2',nv',rv',pv',rfl,b1,b2,b3,b4,b5⟩:=h2;refine Hv λF=>?_
 refine z_2 ?_;refine ja λx1=>ja λx2=>AJ (b:=x1) λR1 hR1 hx1=>AJ (b:=x2) λR2 hR2 hx2=>?_
 have hx1:R2 x1 = some (C 42 [nv,rv,pv]):=hR2 _ _ hx1;have hx2:R2 x2 = some (C 42 [nv',rv',pv']):=hx2;have h10:=h10.le (hR1.trans hR2);have h20:=h20.le (hR1.trans hR2);refine jci (λ_:Unit=>[.bool (I8 (Ck g) (Ck h))]) (λ_=>[] ++ F) (λR' _=>R2.le R') (λK1 k1=>?_) ?_;rotate_left
 ·rintro e R3 _ hR3 he;refine z_V ?_;exact AV (A:=[]) (hR1.trans (hR2.trans hR3)) ⟨rfl,rfl⟩
 refine Ce (l:=[nv,rv,pv]) hx1 (by exact z_n 3) rfl (jrp (EF h10 z1) ?_);rw[IZ.2 ok1];refine CP [Pt x1,Pt x2,.bool true,.agg #[nv',rv',pv']] (λK2 k2=>?_) (λe he=>?_)
 ·exact jtt (Ce (l:=[nv',rv',pv']) hx2 (by exact z_n 3) rfl k2)
 refine z_V ?_;refine jtt (jrp (EF h20 z2) ?_);rw[IZ.2 ok2];refine CP [Pt x2,.bool true,.agg #[nv,rv,pv],.agg #[nv',rv',pv']] (λK2 k2=>?_) (λe he=>?_)
 ·refine Jj (jtt (Ce (l:=[nv,rv,pv]) hx1 (by exact z_n 3) rfl (Ce (l:=[nv',rv',pv']) hx2 (by exact z_n 3) rfl k2)))
 refine z_V ?_;refine jtt ?_;refine jc (A:=[]) (Eh h10 z1 ok1) ?_;rintro t1 R3 A3 hR3 ⟨rfl,g3⟩;refine As (Ce (l:=[nv',rv',pv']) (hR3 _ _ hx2) (by exact z_n 3) rfl jev) ?_;refine jc (A:=[]) (Eh (h20.le hR3) z2 ok2) ?_;rintro t2 R4 A4 hR4 ⟨rfl,g4⟩;refine jrp (Il (D:=[]) (g3.le hR4) g4 (Np ok1)) (Jj ?_);exact k1 R4 () (hR3.trans hR4)
end
end Go.Lf
end
section
namespace Sm
open Go.Lf
def s0 (r t:Nat):AU:=⟨(Am (List.replicate (r * 16) 0) 16 By).1,Ak (AC r) 1 ⟨3,-1,24,24,0⟩,List.replicate (r * 16) false,0,false,false,false,0,List.replicate t ⟨[16],0,false,0⟩,[],[],0,0⟩
def Jb:AF:=⟨16,16,⟨4,2⟩,[0,0,0,0],[0,0]⟩
theorem Ol:((List.range 10).all λi=>(List.range 3).all λj=>decide (CD (s0 (i + 3) (j + 1)) = some ([Jb],[16]))) = true:=by kernel_rfl
theorem L6 {r t:Nat} (r0:3≤r) (r1:r≤12) (t0:1≤t) (t1:t≤3):CD (s0 r t) = some ([Jb],[16]):=by
 have h:=Rs.1 Ol (r - 3) (SI.2 ω);have h:=Rs.1 h (t - 1) (SI.2 ω);rw[show r - 3 + 3 = r from ω,show t - 1 + 1 = t from ω] at h;exact z_f h
theorem QJ:((List.range 10).all λi=>(s0 (i + 3) 1).AE.all λx=>decide (0≤x) && decide (x < 1000)) = true:=by kernel_rfl
theorem K0 {r t:Nat} (r0:3≤r) (r1:r≤12) (t0:1≤t) (t1:t≤3):StB 9 (s0 r t):=by
 have hw:=Rs.1 QJ (r - 3) (SI.2 ω);rw[show r - 3 + 3 = r from ω] at hw;have tl:(s0 r t).AB.length = r:=by
  show (Ak (AC r) 1 _).length = r;rw[Bz];unfold AC;rw[if_neg ω];simp;omega
 have wl:(s0 r t).AE.length = r * 16:=by
  have hf:fits (r * 16) 16 (AA By) = true:=by
   have e:AA By = 8:=δ
   rw[e];unfold fits Ag AI;simp only[z_b,z_d,beq_iff_eq];refine⟨⟨⟨⟨⟨⟨⟨ω,ω⟩,ω⟩,ω⟩,ω⟩,ω⟩,ω⟩,δ⟩
  unfold s0 Am;dsimp only;rw[S7,if_pos hf];unfold put;simp[By];omega
 refine⟨λx hx=>?_,ω,ω,ω,λx hx=>?_,by simp[s0];omega,by simp[s0];omega,λu hu=>?_,by simp[s0],λa ha=>by simp[s0] at ha,by simp[s0],?_,by simp[s0],by simp[s0]⟩
 ·have:=Rs.1 hw x hx;simp only[z_b,z_d] at this;exact⟨ω,ω⟩
 ·unfold s0 at hx;dsimp only at hx;unfold Ak at hx;rcases TL hx with hx | rfl
  ·unfold AC at hx;rw[if_neg ω] at hx;rcases Rf.1 hx with rfl | hx
   ·exact⟨δ,δ⟩
   ·obtain⟨i,hi,rfl⟩:=S6.1 hx;have:=SI.1 hi;unfold EB AG;dsimp only;split<;>omega
  ·exact⟨δ,δ⟩
 ·rw[(SG.1 hu).2];decide
 ·rw[wl];simp[s0]
end Sm
namespace Go.Lf
open Go Sm
theorem CC (cf:Cfg):Pu Fc [.agg #[I cf.A8,I cf.A9,I cf.AH]] (.bool (B9 cf)):=by
 intro R;refine IS λF=>?_
 refine z_1 ?_;refine ja λb=>?_
 rw[show cl (.agg #[I cf.A8,I cf.A9,I cf.AH]) = [I cf.A8,I cf.A9,I cf.AH] from rfl];refine jan [Pt b] ((decide (cf.A8≥3)) && (decide (cf.A8≤12))) (λK' hK'=>?_) (λe c u ho he=>?_)
 ·refine jfo (jl (v:=I cf.A8) rfl (jge (Bc (λh1=>?_) (λh1=>?_))))
  ·refine jfo (jl (v:=I cf.A8) rfl (jle (hK' _ _ _ (h1▸Ac) (by rw[h1,Rj]))))
  ·exact hK' _ _ _ (h1▸Aj) (by rw[h1,Rl])
 refine z_V ?_;refine jan [Pt b] ((decide (cf.A8≥3) && decide (cf.A8≤12)) && (decide (cf.A9≥1))) (λK' hK'=>?_) (λe c u ho he=>?_)
 ·rw[ho];refine Bc (λh1=>?_) (λh1=>?_)
  ·refine jfo (jl (v:=I cf.A9) rfl (jge (hK' _ _ _ (h1▸Ac) (by rw[h1,Rj]))))
  ·exact hK' _ _ _ (h1▸Aj) (by rw[h1,Rl])
 refine z_V ?_;refine jan [Pt b] ((decide (cf.A8≥3) && decide (cf.A8≤12) && decide (cf.A9≥1)) && (decide (cf.A9≤3))) (λK' hK'=>?_) (λe c u ho he=>?_)
 ·rw[ho];refine Bc (λh1=>?_) (λh1=>?_)
  ·refine jfo (jl (v:=I cf.A9) rfl (jle (hK' _ _ _ (h1▸Ac) (by rw[h1,Rj]))))
  ·exact hK' _ _ _ (h1▸Aj) (by rw[h1,Rl])
 refine z_V ?_;refine jan [Pt b] ((decide (cf.A8≥3) && decide (cf.A8≤12) && decide (cf.A9≥1) && decide (cf.A9≤3)) && (decide (cf.AH≥0))) (λK' hK'=>?_) (λe c u ho he=>?_)
 ·rw[ho];refine Bc (λh1=>?_) (λh1=>?_)
  ·refine jfo (jl (v:=I cf.AH) rfl (jge (hK' _ _ _ (h1▸Ac) (by rw[h1,Rj]))))
  ·exact hK' _ _ _ (h1▸Aj) (by rw[h1,Rl])
 refine z_V ?_;refine jan [] ((decide (cf.A8≥3) && decide (cf.A8≤12) && decide (cf.A9≥1) && decide (cf.A9≤3) && decide (cf.AH≥0)) && (decide (cf.AH≤100))) (λK' hK'=>?_) (λe c u ho he=>?_)
 ·rw[ho];refine Bc (λh1=>?_) (λh1=>?_)
  ·refine jfo (jl (v:=I cf.AH) rfl (jle (hK' _ _ _ (h1▸Ac) (by rw[h1,Rj]))))
  ·exact hK' _ _ _ (h1▸Aj) (by rw[h1,Rl])
 refine z_V ?_;rw[ho];exact AV (A:=[]) (RM.le.refl R) rfl
theorem Hc {R:RM} {v:Value} (hc:Cod R v):Fn P DR [v] R [] (λx R' A=>A = []∧∃c:Cfg,x = .agg #[I c.A8,I c.A9,I c.AH]):=by
 refine Fo λF=>?_
 refine z_1 ?_;obtain⟨n,hf⟩:=hc;refine ja λb=>?_
 refine jc (A:=[]) (MT hf) ?_;rintro _ R1 _ _ ⟨hR,rb,v',rfl,rfl,hb⟩;subst hR;refine jpk hb ⟨ω,ω⟩ λx1 _ _=>jgr (jif (λ_=>?_) (λ_=>?_))
 ·refine jdr (J2 hb ⟨ω,ω⟩) ?_;rintro x R2 m' _ ⟨hR,c,rfl,-⟩ _ _;subst hR;refine jS [I c.A8,I c.A9,I c.AH] (jla (l:=[I c.A8,I c.A9,I c.AH]) (RQ rfl) rfl ?_);exact AV (A:=[]) (RM.le.refl _) ⟨rfl,c,rfl⟩
 ·refine jpk hb ⟨ω,ω⟩ λx2 _ _=>jpk hb ⟨ω,ω⟩ λx3 _ _=>?_
  refine jbs (cs:=[I 0,I 100,I 101,I (-1),I 16]) rfl rfl λb6=>?_
  refine jpk hb ⟨ω,ω⟩ λx4 _ _=>jia ω ω ?_
  refine jl (LF [0,100,101,-1,16] ω (by show _ < (5:Int);omega)) ?_;generalize sel [0,100,101,-1,16] x4 = y;refine jbd (cs:=[I x2,I x3,I y]) rfl rfl (jS [I x2,I x3,I y] (jla (l:=[I x2,I x3,I y]) (RQ rfl) rfl ?_));exact AV (A:=[]) (RM.le.refl _) ⟨rfl,⟨x2,x3,y⟩,rfl⟩
end Go.Lf
end
section
namespace Sm
theorem NG {n i:Nat} (h0:2≤n) (h1:n≤12) (hi:1≤i) (hn:i < n):(AC n).take (i + 1) = (AC n).take i ++ [EB i]:=by
 have hl:(AC n).length = n:=by unfold AC;rw[if_neg ω];simp;omega
 rw[RW ω];congr 2;unfold AC;simp only[if_neg (show ¬ ((n:Int) < 2∨12 < (n:Int)) by omega)];obtain⟨k,rfl⟩:∃k,i = k + 1:=⟨i - 1,ω⟩;rw[Sy,List.getElem_map,List.getElem_range];rfl
theorem IQ {n:Nat} (h0:2≤n) (h1:n≤12):(AC n).length = n:=by unfold AC;rw[if_neg ω];simp;omega
theorem P7 (r t:Nat):(s0 r t).A9 = List.replicate t ⟨[16],0,false,0⟩:=rfl
end Sm
namespace Go.Lf
open Go Sm
section
variable {R:RM}
theorem rg5 {l:List Rg}:∀r∈l.map eRg,r.length = 5:=by
 intro r hr;obtain⟨x,_,rfl⟩:=S6.1 hr;rfl
set_option maxRecDepth 4000 in
theorem Is {n:Nat} (h0:2≤n) (h1:n≤12):Fn P FK [I n] R [] (λv R' A=>R' = R∧∃sv,SW AK 5 ((AC n).map eRg) sv A∧v = .tuple #[sv,.bool true]):=by
 refine Ij λF=>?_
 refine z_1 ?_;refine jor [I n] false (λK' hK'=>?_) (λe c u ho he=>?_)
 ·refine jlt ?_;rw[decide_eq_false ω];refine jff (jgr ?_);rw[decide_eq_false ω];exact hK' _ _ _ AY rfl
 refine z_V ?_;rw[ho];refine C9 (jp JY (jbs (cs:=eRg DZ) rfl rfl λb=>?_));have hl:=IQ h0 h1;refine jci (λq:Value × Chs=>[q.1]) (λq=>q.2 ++ F) (λR' q=>R' = R∧SW AK 5 ((AC n).map eRg) q.1 q.2) (λK1 k1=>?_) ?_;rotate_left
 ·rintro e R' ⟨sv,A⟩ ⟨hR,so⟩ he;subst hR;refine z_V ?_;exact AV (A:=A) (RM.le.refl _) ⟨rfl,sv,so,rfl⟩
 refine jci (λq:Value × Chs=>[q.1]) (λq=>q.2 ++ F) (λR' q=>R' = R∧SW AK 5 ((AC n).map eRg) q.1 q.2) (λK2 k2=>?_) ?_;rotate_left
 ·rintro e R' q hp he;refine z_V ?_;exact k1 R' q hp
 refine jli (λi:Nat × Value × Chs=>n - i.1) (λi=>[I n,i.2.1,I i.1]) (λi=>i.2.2 ++ F) (λR' i=>R' = R∧1≤i.1∧i.1≤n∧SW AK 5 (((AC n).take i.1).map eRg) i.2.1 i.2.2) (1,S0 b 1 1,[(b,C 66 (eRg DZ))]) ⟨rfl,σ,by dsimp only;omega,?_⟩ rfl rfl ?_
 ·refine .inr ⟨b,1,[],?_,?_,?_,?_⟩
  ·simp;omega
  ·simp[hl];omega
  ·dsimp only;rw[Ry,Rk,hl,Nat.min_eq_left ω]
  ·unfold AC;rw[if_neg ω];rfl
 rintro K e R' ⟨i,v,A⟩ ⟨hR,i0,i1,so⟩ he hK;subst hR;dsimp only at i0 i1 so he ⊢;refine z_V ?_;refine jlt (jif (λc=>?_) (λc=>?_));rotate_left
 ·have c:=z_g c;rw[RX ω] at so;exact k2 R' (v,A) ⟨rfl,so⟩
 have c:i < n:=by have:=z_f c;omega
 refine jp (Mn i) (jbs (cs:=eRg ⟨1,-1,AG i,AG i,0⟩) rfl rfl λbb=>?_);refine KO (A:=A) (E:=F) [eRg (EB i)] so (by simp[EB]) rg5 (by intro r hr;rw[Ri.1 hr];rfl) rfl rfl rfl δ (by simp only[Ry,Rk,Rr,TC];omega) λv' A' so'=>?_
 refine jad (hK R' (i + 1,v',A') (by dsimp only;omega) ⟨rfl,by dsimp only;omega,c,?_⟩);dsimp only;rw[NG h0 h1 i0 c,S8];exact so'
set_option maxHeartbeats 1000000 in
set_option maxRecDepth 8000 in
theorem F3 {r t:Nat} {rs:Int} (r0:3≤r) (r1:r≤12) (t0:1≤t) (t1:t≤3) (hc:B9 ⟨r,t,rs⟩ = true) :
  Fn P DT [.agg #[I r,I t,I rs]] R [] (λv R' A=>A = []∧∃wv tv mv thv,SF R' (s0 r t) wv tv mv thv (SN) (SN)∧v = .tuple #[.agg (eSt (s0 r t) wv tv mv thv (SN) (SN)).toArray,.bool true]):=by
 refine FQ λF=>?_
 refine z_1 ?_;have hsb:=K0 r0 r1 t0 t1;have hml:=hsb.ml;have hwl:=hsb.wl;have htl:=IQ (n:=r) ω ω;have htl2:(s0 r t).AB.length = r:=by show (Ak (AC r) 1 _).length = r;rw[Bz,htl]
 have hmk:Am (List.replicate (r * 16) 0) 16 By = ((s0 r t).AE,true):=by
  have:(Am (List.replicate (r * 16) 0) 16 By).2 = true:=by
   unfold Am;split
   ·rfl
   ·rename_i h;have e:(s0 r t).AE = (Am (List.replicate (r * 16) 0) 16 By).1:=rfl;unfold Am at e;rw[if_neg h] at e;rw[e] at hwl;simp at hwl;omega
  exact Prod.ext rfl this
 refine ja λb1=>ja λb2=>jla (l:=[I r,I t,I rs]) (RQ rfl) rfl (jp (CC ⟨r,t,rs⟩) ?_)
 rw[hc];refine C9 (jbd (cs:=[I 4,I 2]) rfl rfl (ja λb3=>jS [I 4,I 2] ?_));refine jfo (jl (v:=I r) rfl (Fw ⟨ω,ω⟩ (jla (l:=[I 4,I 2]) (RQ rfl) rfl ?_)));refine jms ω ω ω λbz=>As (jla (l:=[I 4,I 2]) (RQ rfl) rfl jev) ?_
 have e16:((r:Int) * 16).toNat = r * 16:=ω
 have ez:(List.replicate (r * 16) (cl z3)).flatten = (List.replicate (r * 16) (0:Int)).map I:=by
  show (List.replicate (r * 16) [I 0]).flatten = _;rw[SX,TJ]
 rw[e16,ez];refine AJ (b:=bz) λR1 hR1 hbz=>?_
 have hzi:Ai R1 (S0 bz (r * 16) (r * 16)) (List.replicate (r * 16) 0):=by
  have:=CZ (w:=1) (n:=r * 16) (cap:=r * 16) (sp:=[]) (cells:=(List.replicate (r * 16) (0:Int)).map I) (by rw[SP];exact hbz) σ (z_n _);unfold Ai;rw[S7];exact this
 refine jc (A:=[]) (Hu 16 By hzi (by simp;omega)) ?_;rintro _ R2 N _ ⟨hR2,hq⟩;subst hR2;rw[hmk] at hq;obtain⟨sv,⟨bw,cw,wsp,hcw,hwsp,rfl,rfl⟩,rfl⟩:=hq;dsimp only at hcw hwsp ⊢;refine jex rfl (jex rfl ?_);refine Bq (D':=(bw,C AW ((s0 r t).AE.map I ++ wsp)) :: (b3,C 60 [I 4,I 2]) :: (b2,C 28 (cl z28)) :: (b1,C 33 [I r,I t,I rs]) :: ([] ++ F)) (SJ _) ?_;refine jfo (jl (v:=I r) rfl ?_);refine jc (A:=[]) (Is (n:=r) ω ω) ?_;rintro _ R3 N2 _ ⟨hR3,tv,so,rfl⟩;subst hR3;obtain⟨bt,ct,tsp,hct,htsp,rfl,rfl⟩:∃b c sp,((AC r).map eRg).length≤c∧sp.length = (c - ((AC r).map eRg).length) * 5∧tv = S0 b ((AC r).map eRg).length c∧N2 = [(b,C AK (((AC r).map eRg).flatten ++ sp))]:=by
  rcases so with ⟨h,_⟩ | h
  ·have:=congrArg List.length h;rw[Ry,htl] at this;simp at this;omega
  ·exact h
 refine jex rfl (jex rfl ?_);rw[Ry,htl] at hct htsp ⊢;refine Bq (D':=(bt,C AK (Aq eRg (AC r) ++ tsp)) :: (bw,C AW ((s0 r t).AE.map I ++ wsp)) :: (b3,C 60 [I 4,I 2]) :: (b2,C 28 (cl z28)) :: (b1,C 33 [I r,I t,I rs]) :: ([] ++ F)) (SJ _) ?_;refine jla (l:=[I 4,I 2]) (RQ rfl) rfl (jp (Bx ⟨4,2⟩) ?_);refine Lp ⟨δ,δ⟩ (jbd (cs:=eRg ⟨3,-1,24,24,0⟩) rfl rfl ?_);refine E5 (r:=1) ω (M7 (i:=1) (x:=⟨3,-1,24,24,0⟩) (by rw[htl];omega) ?_);refine jln (jms ω ω ω λbm=>?_);have emz:(List.replicate ((s0 r t).AE.length:Int).toNat (cl z4)).flatten = ((s0 r t).AS).map Value.bool:=by
  rw[RV,hwl,htl2];show (List.replicate (16 * r) [Value.bool false]).flatten = _;rw[SX,show (s0 r t).AS = List.replicate (r * 16) false from rfl,TJ,Nat.mul_comm]
 rw[emz,RV];have etb:(s0 r t).AB = (AC r).set 1 ⟨3,-1,24,24,0⟩:=rfl;rw[← etb];refine AJ (b:=bm) λR4 hR4 hbm=>AJ (b:=bt) λR5 hR5 hbt=>AJ (b:=bw) λR6 hR6 hbw=>?_
 have hbt:=hR6 _ _ hbt;have hbm:=(hR5.trans hR6) _ _ hbm;have hR16:=hR1.trans (hR4.trans (hR5.trans hR6));refine jbd (cs:=eSt (s0 r t) (S0 bw (s0 r t).AE.length cw) (S0 bt r ct) (S0 bm (s0 r t).AE.length (s0 r t).AE.length) (SN) (SN) (SN)) rfl rfl (ja λb6=>jS (eSt (s0 r t) (S0 bw (s0 r t).AE.length cw) (S0 bt r ct) (S0 bm (s0 r t).AE.length (s0 r t).AE.length) (SN) (SN) (SN)) ?_);obtain⟨D,hD⟩:∃D:Chs,D = (b3,C 60 [I 4,I 2]) :: (b2,C 28 (cl z28)) :: (b1,C 33 [I r,I t,I rs]) :: ([] ++ F):=⟨_,rfl⟩;refine jci (λ_:Value × Chs × List (List Value)=>[Pt b2,Pt b6]) (λq=>(b6,C 28 (eSt (s0 r t) (S0 bw (s0 r t).AE.length cw) (S0 bt r ct) (S0 bm (s0 r t).AE.length (s0 r t).AE.length) q.1 (SN) (SN))) :: (q.2.1 ++ D)) (λR' q=>R6.le R'∧Rw (CR R') q.2.2 (List.replicate t ⟨[16],0,false,0⟩)∧SW 83 4 q.2.2 q.1 q.2.1) (λK1 k1=>?_) ?_
 ·refine jfo (jl (v:=I t) rfl ?_);refine jci (λ_:Value × Chs × List (List Value)=>[Pt b2,Pt b6]) (λq=>(b6,C 28 (eSt (s0 r t) (S0 bw (s0 r t).AE.length cw) (S0 bt r ct) (S0 bm (s0 r t).AE.length (s0 r t).AE.length) q.1 (SN) (SN))) :: (q.2.1 ++ D)) (λR' q=>R6.le R'∧Rw (CR R') q.2.2 (List.replicate t ⟨[16],0,false,0⟩)∧SW 83 4 q.2.2 q.1 q.2.1) (λK2 k2=>?_) ?_;rotate_left
  ·rintro e R' q hp he;refine z_V ?_;exact k1 R' q hp
  refine jli (λi:Nat × Value × Chs × List (List Value)=>t - i.1) (λi=>[Pt b2,Pt b6,I t,I i.1]) (λi=>(b6,C 28 (eSt (s0 r t) (S0 bw (s0 r t).AE.length cw) (S0 bt r ct) (S0 bm (s0 r t).AE.length (s0 r t).AE.length) i.2.1 (SN) (SN))) :: (i.2.2.1 ++ D)) (λR' i=>R6.le R'∧i.1≤t∧Rw (CR R') i.2.2.2 (List.replicate i.1 ⟨[16],0,false,0⟩)∧SW 83 4 i.2.2.2 i.2.1 i.2.2.1) (0,SN,[],[]) ⟨RM.le.refl _,σ,Rw.nil,.inl ⟨rfl,rfl,rfl⟩⟩ rfl (by rw[hD];rfl) ?_;rintro K e R7 ⟨i,v,A,rows⟩ ⟨hR7,hi,hrw,so⟩ he hK;dsimp only at hi hrw so he hK ⊢;refine z_V ?_;refine jlt (jif (λc=>?_) (λc=>?_));rotate_left
  ·have c:=z_g c;rw[show i = t from ω] at hrw;exact k2 R7 (v,A,rows) ⟨hR7,hrw,so⟩
  have c:i < t:=by have:=z_f c;omega
  refine jfo (jl (v:=v) rfl (jbs (cs:=[I 16]) rfl rfl λbr=>AJ (b:=br) λR8 hR8 hbr=>?_));have hr:Ai R8 (S0 br 1 1) [16]:=CZ (w:=1) (n:=1) (sp:=[]) (cells:=[I 16]) (by rw[SP];exact hbr) rfl (z_n _);refine jbd (cs:=[S0 br 1 1,I 0,.bool false,I 0]) rfl rfl (jbs (cs:=[S0 br 1 1,I 0,.bool false,I 0]) rfl rfl λbb=>?_);have hrl:=hrw.1;rw[S7] at hrl;refine KO (A:=A) [[S0 br 1 1,I 0,.bool false,I 0]] so rfl (hrw.all λ_ _=>CR.len) (by intro r hr;rw[Ri.1 hr];rfl) rfl rfl rfl δ (by simp only[Rr,TC];omega) λv' A' so'=>?_
  obtain⟨va,vc,rfl⟩:=so'.sl;refine jfo (jS (eSt (s0 r t) (S0 bw (s0 r t).AE.length cw) (S0 bt r ct) (S0 bm (s0 r t).AE.length (s0 r t).AE.length) (.slice va (rows ++ [[S0 br 1 1,I 0,.bool false,I 0]]).length vc) (SN) (SN)) (jad ?_));refine Ab [(b6,C 28 (eSt (s0 r t) (S0 bw (s0 r t).AE.length cw) (S0 bt r ct) (S0 bm (s0 r t).AE.length (s0 r t).AE.length) (.slice va (rows ++ [[S0 br 1 1,I 0,.bool false,I 0]]).length vc) (SN) (SN)))] (G:=A' ++ D) ?_;refine hK R8 (i + 1,_,A',rows ++ [[S0 br 1 1,I 0,.bool false,I 0]]) (by dsimp only;omega) ⟨hR7.trans hR8,c,?_,so'⟩;rw[TN];exact (hrw.mono λ_ _=>CR.le hR8).app (Rw.one ⟨_,rfl,hr⟩)
 rintro e R7 ⟨v,A,rows⟩ ⟨hR7,hrw,so⟩ he;dsimp only at hrw so ⊢;refine z_V ?_;obtain⟨va,vc,rfl⟩:=so.sl;have hrl:=hrw.1;refine Ab A (G:=(b6,C 28 (eSt (s0 r t) (S0 bw (s0 r t).AE.length cw) (S0 bt r ct) (S0 bm (s0 r t).AE.length (s0 r t).AE.length) (.slice va rows.length vc) (SN) (SN))) :: D) ?_;refine jfw so (hrw.all λ_ _=>CR.len) λR8 hR8 hfz=>?_
 rw[hD];refine jla (l:=eSt (s0 r t) (S0 bw (s0 r t).AE.length cw) (S0 bt r ct) (S0 bm (s0 r t).AE.length (s0 r t).AE.length) (.slice va rows.length vc) (SN) (SN)) (by exact z_n 13) rfl (jS (eSt (s0 r t) (S0 bw (s0 r t).AE.length cw) (S0 bt r ct) (S0 bm (s0 r t).AE.length (s0 r t).AE.length) (.slice va rows.length vc) (SN) (SN)) (jla (l:=eSt (s0 r t) (S0 bw (s0 r t).AE.length cw) (S0 bt r ct) (S0 bm (s0 r t).AE.length (s0 r t).AE.length) (.slice va rows.length vc) (SN) (SN)) (by exact z_n 13) rfl ?_));have hR68:=hR7.trans hR8;refine AV (A:=[]) (hR16.trans hR68) ⟨rfl,_,_,_,_,⟨⟨?_,?_,?_,⟨rows,hrw.mono λ_ _=>CR.le hR8,hfz⟩,.inl ⟨rfl,rfl,rfl⟩,.inl ⟨rfl,rfl,rfl⟩⟩,⟨bt,ct,tsp,by rw[htl2],hR68 _ _ hbt,by rw[htl2];exact hct⟩,hsb⟩,rfl⟩
 ·exact CZ (hR68 _ _ hbw) σ hcw
 ·have h:=CZ (w:=5) (n:=(s0 r t).AB.length) (cap:=ct) (hR68 _ _ hbt) (by rw[Co (w:=5) (λ_=>rfl)]) (by rw[htl2];exact hct);rw[htl2] at h;unfold Rgs;rw[htl2];exact h
 ·have h:=CZ (w:=1) (n:=(s0 r t).AS.length) (cap:=(s0 r t).AE.length) (sp:=[]) (cells:=(s0 r t).AS.map Value.bool) (by rw[SP];exact hR68 _ _ hbm) σ ω;unfold Bls;rw[hml] at h ⊢;exact h
end
end Go.Lf
end
section
namespace Sm
def CO (t:List Rg):Int:=(t.filter λx=>(x.kind != 1) && (x.kind != 0)).length
theorem KU {t:List Rg} {i:Nat} (h:i < t.length):CO (t.take (i + 1)) = CO (t.take i) + if ((t[i].kind != 1) && (t[i].kind != 0)) = true then 1 else 0:=by
 unfold CO;rw[RW h,List.filter_append,Rc];by_cases c:((t[i].kind != 1) && (t[i].kind != 0)) = true
 ·rw[if_pos c];simp only[List.filter_cons,List.filter_nil];rw[if_pos c];simp
 ·rw[if_neg c];simp only[List.filter_cons,List.filter_nil];rw[if_neg c];simp
theorem Mo {t:List Rg}:0≤CO t∧CO t≤t.length:=by
 unfold CO;have:=List.length_filter_le (λx:Rg=>(x.kind != 1) && (x.kind != 0)) t;omega
end Sm
namespace Go.Lf
open Go Sm
section
variable {R:RM} {s:Sm.AU} {wv tv mv thv ov pv:Value}
set_option maxRecDepth 4000 in
theorem Mi (h:SF R s wv tv mv thv ov pv):Ro EL [.agg (eSt s wv tv mv thv ov pv).toArray] (I (CO s.AB)) R []:=by
 refine HM λF=>?_
 refine z_1 ?_;have t1:=h.b.t1;refine ja λb=>?_
 refine CP [I (CO s.AB)] (λK1 k1=>?_) (λe he=>?_);rotate_left
 ·refine z_V ?_;exact BH (Af rfl)
 refine jfo (jl (v:=tv) rfl (Bh h.c.t.sl ?_));refine CP [I (CO s.AB)] (λK2 k2=>?_) (λe he=>?_);rotate_left
 ·refine z_V ?_;exact k1
 refine RN s.AB.length (λi vs=>vs = [I (CO (s.AB.take i)),tv,I s.AB.length,I i]) rfl λi K e hi he hK=>?_
 refine z_V ?_;refine jlt (jif (λc=>?_) (λc=>?_));rotate_left
 ·have c:=z_g c;rw[RX ω];exact k2
 have c:i < s.AB.length:=by have:=z_f c;omega
 have hu:=KU c;have hle:=Mo (t:=s.AB.take i);rw[Rk] at hle;refine CP [I (CO (s.AB.take (i + 1))),tv,I s.AB.length,I i] (λK3 k3=>?_) (λe he=>?_);rotate_left
 ·refine z_V ?_;exact jad (hK _ c rfl)
 refine CP [I (CO (s.AB.take (i + 1))),tv,I s.AB.length,I i] (λK4 k4=>?_) (λe he=>?_);rotate_left
 ·refine z_V ?_;exact k3
 refine jrg h.c.t c λx o ty cs hb ho hrow=>Ce hb ho hrow (ja λb2=>jS (eRg s.AB[i]) ?_)
 refine jan [I (CO (s.AB.take i)),tv,I s.AB.length,I i] ((s.AB[i].kind != 1) && (s.AB[i].kind != 0)) (λK' hK'=>?_) (λe c1 u ho he=>?_)
 ·refine jfo (jl (v:=I s.AB[i].kind) rfl (jne (Bc (λg=>?_) (λg=>?_))))
  ·rw[g];exact jfo (jl (v:=I s.AB[i].kind) rfl (jne (hK' _ _ _ Ac (by rw[g,Rj]))))
  ·rw[g];exact hK' _ _ _ Aj (by rw[g,Rl])
 refine z_V ?_;rw[ho];refine jif (λg=>?_) (λg=>?_)
 ·rw[if_pos g] at hu;refine jad (BH ?_);rw[← hu];exact k4
 ·rw[if_neg (by rw[g];decide),Int.add_zero] at hu;rw[← hu];exact BH k4
theorem Hi (h:SF R s wv tv mv thv ov pv):Ro Ee [.agg (eSt s wv tv mv thv ov pv).toArray] (I (if (CD s).isSome then CO s.AB else 0)) R []:=by
 refine Hw λF=>?_
 refine z_1 ?_;refine ja λb=>jla (l:=eSt s wv tv mv thv ov pv) (by exact z_n 13) rfl (jrp (J3 h) ?_)
 refine jif (λg=>?_) (λg=>?_)
 ·have g:(CD s).isSome = false:=by simpa using g
  rw[g];exact AV (A:=[]) (RM.le.refl R) ⟨rfl,rfl⟩
 ·have g:(CD s).isSome = true:=by simpa using g
  rw[g];refine jla (l:=eSt s wv tv mv thv ov pv) (by exact z_n 13) rfl (jrp (Mi h) ?_);exact AV (A:=[]) (RM.le.refl R) ⟨rfl,rfl⟩
end
end Go.Lf
end
section
namespace Go.Lf
open Go Sm
section
variable {R:RM}
theorem OM {D:Chs}:Ro Bw [SN] (.bool false) R D:=by
 refine Hh λF=>?_
 refine z_1 ?_;exact jln (jgr (Af rfl))
theorem MQ {D:Chs} {pb ty t:Nat} (h:R pb = some (C ty (List.replicate t (SN)))) (ht:t≤3):Ro Bu [S0 pb t t,.func (.func Bw) #[] #[]] (.bool false) R D:=by
 refine D0 λF=>?_
 refine z_2 ?_;have hi:Ro CB [S0 pb t t,.func (.func Bw) #[] #[]] (I (-1)) R (D ++ F):=by
  refine Dg λF=>?_
  refine z_2 ?_;refine jln ?_;refine HT [S0 pb t t,.func (.func Bw) #[] #[],I t] t (λ_=>True) trivial λi K e hi _ hK he=>?_
  refine z_V ?_;refine jlt (jif (λc=>?_) (λc=>Af rfl));have c:i < t:=by have:=z_f c;omega
  refine E5 c (jlr (v:=SN) h (by rw[SY,TQ,List.getElem?_replicate,if_pos c]) (FZ (by kernel_rfl) (jro OM (C9 (jad (hK c trivial))))))
 exact jro hi (jge (Af rfl))
theorem KN {D:Chs} {pb ty t r:Nat} {rs:Int} (h:R pb = some (C ty (List.replicate t (SN)))) (ht:t≤3) (hc:B9 ⟨r,t,rs⟩ = true):Ro GA [.agg #[I r,I t,I rs],S0 pb t t,SN] (.bool true) R D:=by
 have hp:∀D,Ro GL [.agg #[I r,I t,I rs],S0 pb t t] (.bool true) R D:=λD=>by
  refine JL λF=>?_
  refine z_2 ?_;refine ja λb=>?_
  refine jan [S0 pb t t] true (λK' hK'=>?_) (λe c u ho he=>?_)
  ·refine jla (l:=[I r,I t,I rs]) (RQ rfl) rfl (jp (CC ⟨r,t,rs⟩) ?_);rw[hc];refine jtt (jln (jfo (jl (v:=I t) rfl (jeq ?_))));rw[beq_self_eq_true];exact hK' _ _ _ Ac rfl
  refine z_V ?_;refine jan [] true (λK' hK'=>?_) (λe c u ho2 he=>?_)
  ·rw[ho];exact jtt (jro (MQ h ht) (hK' _ _ _ Ac rfl))
  refine z_V ?_;rw[ho2];exact BH (Af rfl)
 refine Ja λF=>?_
 refine z_3 ?_;refine ja λb=>?_
 refine jan [] true (λK' hK'=>?_) (λe c u ho he=>?_)
 ·refine jla (l:=[I r,I t,I rs]) (RQ rfl) rfl (jro (hp _) (jtt (jln (jle ?_))));exact hK' _ _ _ Ac rfl
 refine z_V ?_;rw[ho];exact BH (Af rfl)
set_option maxHeartbeats 1000000 in
set_option maxRecDepth 8000 in
theorem Gt {pb ty t r:Nat} {rs:Int} (h:R pb = some (C ty (List.replicate t (SN)))) (r0:3≤r) (r1:r≤12) (t0:1≤t) (t1:t≤3) (hc:B9 ⟨r,t,rs⟩ = true) :
  Fn P Em [.agg #[I r,I t,I rs],S0 pb t t,SN] R [] (λv R' A=>A = []∧∃wv tv mv thv ov pv,StC R' (s0 r t) wv tv mv thv ov pv∧v = .tuple #[.agg (eSt (s0 r t) wv tv mv thv ov pv).toArray,SN]):=by
 refine Ho λF=>?_
 refine z_3 ?_;refine ja λb1=>ja λb2=>jla (l:=[I r,I t,I rs]) (RQ rfl) rfl (jro (KN h t1 hc) (C9 ?_))
 refine jla (l:=[I r,I t,I rs]) (RQ rfl) rfl ?_;have hnew:Fn P F6 [.agg #[I r,I t,I rs],S0 pb t t] R [] (λv R' A=>∃wv tv mv thv hv sb cs,SF R' (s0 r t) wv tv mv thv (SN) (SN)∧flat hv = true∧v = Pt sb∧A = []∧R' sb = some (C 138 (eSt (s0 r t) wv tv mv thv (SN) (SN) ++ cs))∧cs[7]? = some (SN)):=by
  refine IY λF=>?_
  refine z_2 ?_;refine ja λb1=>jla (l:=[I r,I t,I rs]) (RQ rfl) rfl ?_
  refine jc (A:=[]) (F3 r0 r1 t0 t1 hc) ?_;rintro _ R1 _ hR1 ⟨rfl,wv,tv,mv,thv,hsf,rfl⟩;obtain⟨wa,wc,rfl⟩:=hsf.c.w.sl;obtain⟨ta,tc,rfl⟩:=hsf.c.t.sl;obtain⟨ma,mc,rfl⟩:=hsf.c.m.sl;obtain⟨tha,thc,rfl⟩:=hsf.c.th.sl;obtain⟨E,hE⟩:∃E,E = eSt (s0 r t) (.slice wa (s0 r t).AE.length wc) (.slice ta (s0 r t).AB.length tc) (.slice ma (s0 r t).AS.length mc) (.slice tha (s0 r t).A9.length thc) (SN) (SN):=⟨_,rfl⟩;refine jex rfl (jex rfl (ja λb2=>js (cs':=E) rfl rfl (by exact z_n 13) (by rw[hE];rfl) ?_));refine jla (l:=E) (by rw[hE];exact z_n 13) (by rw[hE];rfl) (jla (l:=[I r,I t,I rs]) (RQ rfl) rfl (jfo (jl (v:=I t) rfl ?_)));refine jms ω ω ω λhb=>?_
  rw[RV];refine jbd (cs:=E ++ [I r,I t,I rs,S0 pb t t,S0 hb t t,.nilFunc,SN,SN,.func (.func 116) #[] #[]]) (by rw[hE];rfl) (by rw[hE];rfl) ?_;refine As (jla (l:=E) (by rw[hE];exact z_n 13) (by rw[hE];rfl) jev) (As (jla (l:=[I r,I t,I rs]) (RQ rfl) rfl jev) (ja λsb=>AJ (b:=sb) λR2 hR2 hsb=>?_));exact AV (A:=[]) (hR1.trans hR2) ⟨_,_,_,_,S0 hb t t,sb,_,hsf.le hR2,rfl,rfl,rfl,by rw[hE] at hsb;exact hsb,rfl⟩
 refine jc (A:=[]) hnew ?_;rintro _ R1 _ hR1 ⟨wv,tv,mv,thv,hv,sb,cs,hsf,fhv,rfl,rfl,hsb,hc7⟩;refine CP [Pt b2,Pt sb] (λK1 k1=>?_) (λe he=>?_)
 ·refine jln ?_;refine CP [Pt b2,Pt sb] (λK2 k2=>?_) (λe he=>?_);rotate_left
  ·refine z_V ?_;exact k1
  refine HT [Pt b2,Pt sb,SN,I 0] 0 (λ_=>True) trivial λi K e hi _ hK he=>?_
  refine z_V ?_;refine jlt (jif (λc=>?_) (λc=>k2));have:=z_f c;omega
 refine z_V ?_;have told:Fn P Dy [Pt sb] R1 [] (λv R' A=>A = []∧∃wv tv mv thv ov pv,StC R' (s0 r t) wv tv mv thv ov pv∧v = .tuple #[.agg (eSt (s0 r t) wv tv mv thv ov pv).toArray,SN]):=by
  refine Gq λF=>?_
  refine z_1 ?_;have h20:(eSt (s0 r t) wv tv mv thv (SN) (SN) ++ cs)[20]? = some (SN):=hc7;refine ja λg=>jnc (jfo (Ce (l:=eSt (s0 r t) wv tv mv thv (SN) (SN)) hsb (by rw[Rc];exact Nat.le_add_right 13 _) rfl (jnc (jfo (jlr (v:=SN) hsb h20 ?_)))))
  refine jc (A:=[]) (MG hsf) ?_;rintro _ R2 A2 hR2 ⟨bw,cw,wsp,bt,tc,tsp,bm,mc,msp,bh,hc,hsp,rows,Ar,ov,pv,q1,q2,q3,q4,q5,q6,hth,ho,hp,rfl,rfl⟩;refine As (jlr (v:=SN) (hR2 _ _ hsb) h20 jev) ?_;refine AJ (b:=bw) λR3 hR3 hbw=>AJ (b:=bt) λR4 hR4 hbt=>AJ (b:=bm) λR5 hR5 hbm=>AJ (b:=bh) λR6 hR6 hbh=>?_
  refine QZ hth λR7 hR7 hrw=>?_
  have hcl:Ro Ci [SN] (SN) R7 ((g,C 28 (cl z28)) :: ([] ++ F)):=by
   refine Er λF=>?_
   refine z_1 ?_;exact jxr (y:=.bool true) (λw=>by kernel_rfl) (Dv (Af rfl))
  refine jro hcl ?_;obtain⟨oa,oc,rfl⟩:=ho.sl;obtain⟨pa,pc,rfl⟩:=hp.sl;have hR27:=hR3.trans (hR4.trans (hR5.trans (hR6.trans hR7)));have hrl:=hth.len;refine jS (eSt (s0 r t) (S0 bw (s0 r t).AE.length cw) (S0 bt (s0 r t).AB.length tc) (S0 bm (s0 r t).AS.length mc) (S0 bh (s0 r t).A9.length hc) (.slice oa (s0 r t).old.length oc) (.slice pa (s0 r t).AN.length pc)) ?_;refine jla (l:=eSt (s0 r t) (S0 bw (s0 r t).AE.length cw) (S0 bt (s0 r t).AB.length tc) (S0 bm (s0 r t).AS.length mc) (S0 bh (s0 r t).A9.length hc) (.slice oa (s0 r t).old.length oc) (.slice pa (s0 r t).AN.length pc)) (by exact z_n 13) rfl ?_;refine AV (A:=[]) (hR2.trans hR27) ⟨rfl,_,_,_,_,_,_,⟨?_,?_,?_,⟨rows,hrw,?_⟩,ho.le hR27,hp.le hR27⟩,rfl⟩
  ·exact CZ ((hR4.trans (hR5.trans (hR6.trans hR7))) _ _ hbw) σ q1
  ·exact CZ ((hR5.trans (hR6.trans hR7)) _ _ hbt) (by rw[Co (w:=5) (λ_=>rfl)]) q3
  ·exact CZ ((hR6.trans hR7) _ _ hbm) σ q4
  ·rw[← hrl.1];exact CZ (hR7 _ _ hbh) (BI hrl.2) (by rw[hrl.1];exact q6)
 refine jc (A:=[]) told ?_;rintro _ R2 A2 hR2 ⟨rfl,wv2,tv2,mv2,thv2,ov2,pv2,hst,rfl⟩;obtain⟨wa,wc,rfl⟩:=hst.w.sl;obtain⟨ta,tc,rfl⟩:=hst.t.sl;obtain⟨ma,mc,rfl⟩:=hst.m.sl;obtain⟨tha,thc,rfl⟩:=hst.th.sl;obtain⟨oa,oc,rfl⟩:=hst.o.sl;obtain⟨pa,pc,rfl⟩:=hst.p.sl;refine jex rfl (jex rfl (jS (eSt (s0 r t) (.slice wa (s0 r t).AE.length wc) (.slice ta (s0 r t).AB.length tc) (.slice ma (s0 r t).AS.length mc) (.slice tha (s0 r t).A9.length thc) (.slice oa (s0 r t).old.length oc) (.slice pa (s0 r t).AN.length pc)) ?_));refine jla (l:=eSt (s0 r t) (.slice wa (s0 r t).AE.length wc) (.slice ta (s0 r t).AB.length tc) (.slice ma (s0 r t).AS.length mc) (.slice tha (s0 r t).A9.length thc) (.slice oa (s0 r t).old.length oc) (.slice pa (s0 r t).AN.length pc)) (by exact z_n 13) rfl ?_;exact AV (A:=[]) (hR1.trans hR2) ⟨rfl,_,_,_,_,_,_,hst,rfl⟩
end
end Go.Lf
end
section
namespace Sm
def Cb (t:Nat):PG:=⟨[([-1,-1,-1,-1],[0,0])],List.replicate t [0],[]⟩
theorem OP {t:Nat} (t0:1≤t) (t1:t≤3):GOk (Cb t):=by
 refine⟨by simp[Cb],by simpa [Cb] using t0,by simpa [Cb] using t1,by simp[Cb],(λx hx=>by cases hx),λx hx=>?_,λx hx=>?_⟩
 ·rw[Ri.1 hx];refine⟨δ,δ,λy hy=>?_⟩;have:y = -1:=by simpa using hy
  subst this;exact⟨δ,by simp[Cb]⟩
 ·rw[(SG.1 hx).2];refine⟨δ,λy hy=>?_⟩;rw[Ri.1 hy];exact⟨δ,by simp[Cb]⟩
theorem PN {t:Nat} (t1:t≤3):GZ (Cb t):=by
 refine⟨by simp[Cb],by simp[Cb];omega,by simp[Cb],λx hx=>?_,λx hx=>?_⟩
 ·rw[Ri.1 hx];exact⟨δ,δ⟩
 ·rw[(SG.1 hx).2];decide
end Sm
namespace Go.Lf
open Go Sm
theorem Ny (r t:Nat):Pd (s0 r t) [Jb] (AR [16]) = Cb t:=by
 unfold Pd Cb;have h1:(AR [16]).map (ndP [Jb] (AR [16])) = [([-1,-1,-1,-1],[0,0])]:=δ
 have h2:nmA [Jb] (AR [16]) 16 = 0:=δ
 rw[h1];congr 1;rw[P7,TJ];simp[h2]
section
variable {R:RM} {D:Chs} {k:Value→M}
theorem jbo {op:BinOp} {x y z:Value} (h:∀k:Value→M,BO op x y k = k z) (H:J R D (k z)):J R D (BO op x y k):=by rw[h];exact H
theorem MX {x y:Int} (h0:0≤y) (H:J R D (k (.int .u64 (x.fdiv (2 ^ min y.toNat 64))))):J R D (BO .shr (.int .u64 x) (.int .u64 y) k):=λh hs=>⟨h0,H h hs⟩
theorem RF {a:Option Addr} {len cap n:Nat} {u:Int} (h0:0≤u) (h1:u≤cap) (H:J R D (k (.slice a u.toNat cap))):J R D (SL n (.slice a len cap) none (some (I u)) k):=λh hs=>⟨⟨h0,h1⟩,H h hs⟩
theorem KB {p:Nat→Prop} (h0:p 0) (h1:p 1) (h2:p 2) (h3:p 3) (h4:p 4):∀n,n≤4→p n
 | 0,_=>h0 | 1,_=>h1 | 2,_=>h2 | 3,_=>h3 | 4,_=>h4
 | n + 5,h=>ω
theorem OE:∀n:Nat,n≤4→Ro DD [.int .u64 1,.int .u64 n] (.tuple #[.int .u64 0,.int .u64 n]) R D:=by
 apply KB
 all_goals
  refine FT λF=>?_
  refine z_2 ?_;refine jbo (λ_=>rfl) (MX δ (jbo (λ_=>rfl) (MX δ (jbo (λ_=>rfl) (jbo (λ_=>rfl) (MX δ (jbo (λ_=>rfl) (jbo (λ_=>rfl) (MX δ (jbo (λ_=>rfl) (jbo (λ_=>rfl) (jbo (λ_=>rfl) (jbo (λ_=>rfl) (MX δ (jbo (λ_=>rfl) (jbo (λ_=>rfl) ?_))))))))))))))));exact Af (by kernel_rfl)
theorem QY (n:Nat) (h:n≤4):Ro Dp [.int .u64 1,.int .u64 n] (.tuple #[.int .u64 0,.int .u64 n]) R D:=by
 refine GV λF=>?_
 refine z_2 ?_;exact C9 (jro (OE n h) (jex rfl (jex rfl (Af rfl))))
theorem Oa (w:World):∀n:Nat,n≤4→(Go.convert 3 130 (I n)).run P w = .ok (.int .u64 n) w:=by
 apply KB<;>kernel_rfl
theorem QN (w:World):∀n:Nat,n≤4→(Go.convert 130 3 (.int .u64 n)).run P w = .ok (I n) w:=by
 apply KB<;>kernel_rfl
theorem L3 {x:Int} {n m q:Nat} (h:m + q≤n):lay ((List.replicate m x ++ List.replicate (n - m) 0).map I) m ((List.replicate q x).map I) = (List.replicate (m + q) x ++ List.replicate (n - (m + q)) 0).map I:=by
 unfold lay;simp only[S8,TJ];rw[SC σ,RX σ,S7,List.drop_append];rw[SU σ];simp only[S7,zl,List.drop_replicate];rw[List.replicate_append_replicate];congr 2;omega
set_option maxRecDepth 4000 in
theorem NX {n b:Nat} {x:Int} (hn:n≤4) (hb:R b = some (C 3 [I x])):Fn P Dn [S0 b 1 1,I n] R [] (λv R' A=>R' = R∧∃nb,v = S0 nb n n∧A = [(nb,C AW ((List.replicate n x).map I))]):=by
 refine Ga λF=>?_
 unfold Dt;refine jlt ?_;rw[decide_eq_false ω];refine C9 (jln (jxr (λw=>Oa w 1 ω) (jxr (λw=>Oa w n hn) (jro (QY n hn) (jex rfl (jex rfl ?_))))));refine jor [S0 b 1 1,.int .u64 n] false (λK' hK'=>?_) (λe c u ho he=>?_)
 ·refine jbo (z:=.bool false) (λ_=>rfl) (jff (jbo (z:=.bool false) (λk=>?_) (hK' _ _ _ AY rfl)));show k (.bool (decide ((n:Int) > 9223372036854775807))) = _;rw[decide_eq_false ω]
 refine z_V ?_;rw[ho];refine C9 (jxr (λw=>QN w n hn) (jms ω ω ω λnb=>?_));have e0:(List.replicate ((n:Int).toNat) (cl z3)).flatten = ((List.replicate 0 x ++ List.replicate (n - 0) 0).map I):=by
  rw[RV];show (List.replicate n [I 0]).flatten = _;rw[SX];simp
 rw[e0,RV];have hc:Nat.min 1 n = min 1 n:=rfl;refine OZ (l:=(List.replicate (min 1 n) x).map I) (cs':=(List.replicate (0 + min 1 n) x ++ List.replicate (n - (0 + min 1 n)) 0).map I) ?_ (by simp[hc]) (by unfold BU;rw[Rs];intro y hy;obtain⟨z,_,rfl⟩:=S6.1 hy;rfl) (by simp;omega) (L3 ω) ?_
 ·have:=BB.frozen (D:=(nb,C 3 ((List.replicate 0 x ++ List.replicate (n - 0) 0).map I)) :: ([] ++ F)) (n:=min 1 n * 1) (o:=0) hb (by simp;omega);have e2:([I x].drop 0).take (min 1 n * 1) = (List.replicate (min 1 n) x).map I:=by
   rcases Nat.eq_zero_or_pos n with h | h
   ·subst h;rfl
   ·rw[show min 1 n = 1 from ω];rfl
  rw[e2] at this;exact this
 rw[SY,hc];refine jci (λ_:Unit=>[S0 nb n n]) (λ_=>(nb,C AW ((List.replicate n x).map I)) :: ([] ++ F)) (λR' _=>R' = R) (λK1 k1=>?_) ?_;rotate_left
 ·rintro e R' _ hR he;subst hR;refine z_V ?_;exact AV (A:=[(nb,C AW ((List.replicate n x).map I))]) (RM.le.refl _) ⟨rfl,nb,rfl,rfl⟩
 refine jci (λ_:Unit=>[S0 nb n n]) (λ_=>(nb,C AW ((List.replicate n x).map I)) :: ([] ++ F)) (λR' _=>R' = R) (λK2 k2=>?_) ?_;rotate_left
 ·rintro e R' u hp he;refine z_V ?_;exact k1 R' u hp
 refine jli (λm:Nat=>n - m) (λm=>[S0 nb n n,I m]) (λm=>(nb,C AW ((List.replicate m x ++ List.replicate (n - m) 0).map I)) :: ([] ++ F)) (λR' m=>R' = R∧m≤n∧(n = 0∨1≤m)) (min 1 n) ⟨rfl,ω,ω⟩ rfl rfl ?_;rintro K e R' m ⟨hR,hm,hm1⟩ he hK;subst hR;refine z_V ?_;refine jln (jlt (jif (λc=>?_) (λc=>?_)));rotate_left
 ·have c:=z_g c;rw[show m = n from ω,Nat.sub_self,List.replicate_zero,SP];exact k2 R' () rfl
 have c:m < n:=by have:=z_f c;omega
 refine Qy ω ω ω λo' ho' _=>?_
 have ho' : o' = m:=by rw[ho' ω];simp
 subst ho';refine RF ω ω ?_;simp only[RV];have hq:Nat.min o' (n - o') = min o' (n - o'):=rfl;refine OZ (l:=(List.replicate (min o' (n - o')) x).map I) (cs':=(List.replicate (o' + min o' (n - o')) x ++ List.replicate (n - (o' + min o' (n - o'))) 0).map I) ?_ (by simp[hq]) (by unfold BU;rw[Rs];intro y hy;obtain⟨z,_,rfl⟩:=S6.1 hy;rfl) (by simp;omega) (L3 ω) ?_
 ·have:=BB.held (R:=R') (D:=(nb,C 3 ((List.replicate o' x ++ List.replicate (n - o') 0).map I)) :: ([] ++ F)) (b:=nb) (n:=min o' (n - o') * 1) (o:=0) (by simp;omega);have e2:(((List.replicate o' x ++ List.replicate (n - o') 0).map I).drop 0).take (min o' (n - o') * 1) = (List.replicate (min o' (n - o')) x).map I:=by
   rw[TG,TQ,S8,SC (by simp;omega),TJ,List.take_replicate,TJ];congr 1;omega
  rw[e2] at this;exact this
 rw[hq];refine jad ?_;rw[show (o' : Int) + (min o' (n - o'):Nat) = ((o' + min o' (n - o'):Nat):Int) from ω];exact hK R' (o' + min o' (n - o')) ω ⟨rfl,ω,ω⟩
theorem P9 {n:Nat} (hn:n≤4):Fn P Hb [I n] R [] (λv R' A=>∃nb,v = S0 nb n n∧A = [(nb,C AW ((List.replicate n (-1)).map I))]):=by
 refine NS λF=>?_
 refine z_1 ?_;refine jbs (cs:=[I (-1)]) rfl rfl λb=>AJ (b:=b) λR1 hR1 hb=>?_
 refine jc (A:=[]) (NX hn hb) ?_;rintro _ R2 A _ ⟨hR2,nb,rfl,rfl⟩;subst hR2;exact AV (A:=[(nb,C AW ((List.replicate n (-1)).map I))]) hR1 ⟨nb,rfl,rfl⟩
end
end Go.Lf
end
section
namespace Go.Lf
open Go Sm
section
variable {R:RM}
theorem E8 {R:RM} {ng mb bs:Nat} (h1:R ng = some (C AW ((List.replicate 4 (-1)).map I))) (h2:R mb = some (C AW [I 0,I 0])) (h3:R bs = some (C 94 [S0 ng 4 4,S0 mb 2 2])) :
  ∃rows,Rw (NdC R) rows (Cb 1).nodes∧Fz R (S0 bs 1 1) 2 rows.length rows.flatten:=by
 refine⟨[[S0 ng 4 4,S0 mb 2 2]],Rw.one ⟨_,_,rfl,?_,?_⟩,?_⟩
 ·exact CZ (w:=1) (n:=4) (sp:=[]) (cells:=(List.replicate 4 (-1)).map I) (by rw[SP];exact h1) rfl (z_n _)
 ·exact CZ (w:=1) (n:=2) (sp:=[]) (cells:=[I 0,I 0]) (by rw[SP];exact h2) rfl (z_n _)
 ·exact CZ (w:=2) (n:=1) (sp:=[]) (cells:=[S0 ng 4 4,S0 mb 2 2]) (by rw[SP];exact h3) rfl (z_n _)
set_option maxHeartbeats 1000000 in
set_option maxRecDepth 8000 in
theorem Iv {t:Nat} (t0:1≤t) (t1:t≤3):Fn P FE [I t] R [] (λv R' A=>A = []∧∃gv,GrF R' gv (Cb t)∧v = .tuple #[gv,.bool true]):=by
 refine IU λF=>?_
 refine z_1 ?_;refine ja λg0=>?_
 refine jor [I t,Pt g0] false (λK' hK'=>?_) (λe c u ho he=>?_)
 ·refine jlt ?_;rw[decide_eq_false ω];refine jff (jgr ?_);rw[decide_eq_false ω];exact hK' _ _ _ AY rfl
 refine z_V ?_;rw[ho];refine C9 ?_;obtain⟨D,hD⟩:∃D:Chs,D = (g0,C 42 (cl z42)) :: ([] ++ F):=⟨_,rfl⟩;rw[← hD];refine jci (λq:Nat × Nat=>[I t,Pt g0,.pointer (some ⟨q.1,0,none⟩)]) (λq=>(q.1,C 42 [.slice (some ⟨q.2,0,none⟩) 1 1,SN,SN]) :: D) (λR' q=>R.le R'∧∃rows,Rw (NdC R') rows (Cb 1).nodes∧Fz R' (.slice (some ⟨q.2,0,none⟩) 1 1) 2 rows.length rows.flatten) (λK1 k1=>?_) ?_
 ·have n4:∀R,Fn P Hb [I 4] R [] (λv R' A=>∃nb,v = S0 nb 4 4∧A = [(nb,C AW ((List.replicate 4 (-1)).map I))]):=λR=>P9 (n:=4) (z_n 4)
  refine EM ?_ (EM ?_ (Cr ?_))
  ·refine jc (A:=[]) (n4 R) ?_;rintro _ Ra _ hRa ⟨ng,rfl,rfl⟩;refine EM ?_ (Cr ?_)
   ·refine jms ω ω ω λmb=>jbd (cs:=[S0 ng 4 4,S0 mb 2 2]) rfl rfl (EM ?_ (Cr ?_))
    ·refine jbs (cs:=[S0 ng 4 4,S0 mb 2 2]) rfl rfl λbs=>jbd (cs:=[S0 bs 1 1,SN,SN]) rfl rfl (ja λgb=>jS [S0 bs 1 1,SN,SN] ?_)
     refine AJ (b:=ng) λRb hRb hng=>AJ (b:=mb) λRc hRc hmb=>AJ (b:=bs) λRd hRd hbs=>?_
     exact k1 Rd (gb,bs) ⟨(hRa.trans ((hRb.trans hRc).trans hRd)),E8 ((hRc.trans hRd) _ _ hng) (hRd _ _ hmb) hbs⟩
    ·refine ja λgb=>jbs (cs:=[S0 ng 4 4,S0 mb 2 2]) rfl rfl λbs=>jbd (cs:=[S0 bs 1 1,SN,SN]) rfl rfl (jS [S0 bs 1 1,SN,SN] ?_)
     refine AJ (b:=ng) λRb hRb hng=>AJ (b:=mb) λRc hRc hmb=>AJ (b:=bs) λRd hRd hbs=>?_
     exact k1 Rd (gb,bs) ⟨(hRa.trans ((hRb.trans hRc).trans hRd)),E8 ((hRc.trans hRd) _ _ hng) (hRd _ _ hmb) hbs⟩
   ·refine ja λgb=>jms ω ω ω λmb=>jbd (cs:=[S0 ng 4 4,S0 mb 2 2]) rfl rfl (jbs (cs:=[S0 ng 4 4,S0 mb 2 2]) rfl rfl λbs=>jbd (cs:=[S0 bs 1 1,SN,SN]) rfl rfl (jS [S0 bs 1 1,SN,SN] ?_))
    refine AJ (b:=ng) λRb hRb hng=>AJ (b:=mb) λRc hRc hmb=>AJ (b:=bs) λRd hRd hbs=>?_
    exact k1 Rd (gb,bs) ⟨(hRa.trans ((hRb.trans hRc).trans hRd)),E8 ((hRc.trans hRd) _ _ hng) (hRd _ _ hmb) hbs⟩
  ·refine jms ω ω ω λmb=>EM ?_ (Cr ?_)
   ·refine jc (A:=[]) (n4 R) ?_;rintro _ Ra _ hRa ⟨ng,rfl,rfl⟩;refine jbd (cs:=[S0 ng 4 4,S0 mb 2 2]) rfl rfl (EM ?_ (Cr ?_))
    ·refine jbs (cs:=[S0 ng 4 4,S0 mb 2 2]) rfl rfl λbs=>jbd (cs:=[S0 bs 1 1,SN,SN]) rfl rfl (ja λgb=>jS [S0 bs 1 1,SN,SN] ?_)
     refine AJ (b:=ng) λRb hRb hng=>AJ (b:=mb) λRc hRc hmb=>AJ (b:=bs) λRd hRd hbs=>?_
     exact k1 Rd (gb,bs) ⟨(hRa.trans ((hRb.trans hRc).trans hRd)),E8 ((hRc.trans hRd) _ _ hng) (hRd _ _ hmb) hbs⟩
    ·refine ja λgb=>jbs (cs:=[S0 ng 4 4,S0 mb 2 2]) rfl rfl λbs=>jbd (cs:=[S0 bs 1 1,SN,SN]) rfl rfl (jS [S0 bs 1 1,SN,SN] ?_)
     refine AJ (b:=ng) λRb hRb hng=>AJ (b:=mb) λRc hRc hmb=>AJ (b:=bs) λRd hRd hbs=>?_
     exact k1 Rd (gb,bs) ⟨(hRa.trans ((hRb.trans hRc).trans hRd)),E8 ((hRc.trans hRd) _ _ hng) (hRd _ _ hmb) hbs⟩
   ·refine ja λgb=>jc (A:=[]) (n4 R) ?_
    rintro _ Ra _ hRa ⟨ng,rfl,rfl⟩;refine jbd (cs:=[S0 ng 4 4,S0 mb 2 2]) rfl rfl (jbs (cs:=[S0 ng 4 4,S0 mb 2 2]) rfl rfl λbs=>jbd (cs:=[S0 bs 1 1,SN,SN]) rfl rfl ?_);refine jS [S0 bs 1 1,SN,SN] ?_;refine AJ (b:=ng) λRb hRb hng=>AJ (b:=mb) λRc hRc hmb=>AJ (b:=bs) λRd hRd hbs=>?_
    exact k1 Rd (gb,bs) ⟨(hRa.trans ((hRb.trans hRc).trans hRd)),E8 ((hRc.trans hRd) _ _ hng) (hRd _ _ hmb) hbs⟩
  ·refine ja λgb=>EM ?_ (Cr ?_)
   ·refine jc (A:=[]) (n4 R) ?_;rintro _ Ra _ hRa ⟨ng,rfl,rfl⟩;refine jms ω ω ω λmb=>jbd (cs:=[S0 ng 4 4,S0 mb 2 2]) rfl rfl (jbs (cs:=[S0 ng 4 4,S0 mb 2 2]) rfl rfl λbs=>jbd (cs:=[S0 bs 1 1,SN,SN]) rfl rfl ?_)
    refine jS [S0 bs 1 1,SN,SN] ?_;refine AJ (b:=ng) λRb hRb hng=>AJ (b:=mb) λRc hRc hmb=>AJ (b:=bs) λRd hRd hbs=>?_
    exact k1 Rd (gb,bs) ⟨(hRa.trans ((hRb.trans hRc).trans hRd)),E8 ((hRc.trans hRd) _ _ hng) (hRd _ _ hmb) hbs⟩
   ·refine jms ω ω ω λmb=>jc (A:=[]) (n4 R) ?_
    rintro _ Ra _ hRa ⟨ng,rfl,rfl⟩;refine jbd (cs:=[S0 ng 4 4,S0 mb 2 2]) rfl rfl (jbs (cs:=[S0 ng 4 4,S0 mb 2 2]) rfl rfl λbs=>jbd (cs:=[S0 bs 1 1,SN,SN]) rfl rfl ?_);refine jS [S0 bs 1 1,SN,SN] ?_;refine AJ (b:=ng) λRb hRb hng=>AJ (b:=mb) λRc hRc hmb=>AJ (b:=bs) λRd hRd hbs=>?_
    exact k1 Rd (gb,bs) ⟨(hRa.trans ((hRb.trans hRc).trans hRd)),E8 ((hRc.trans hRd) _ _ hng) (hRd _ _ hmb) hbs⟩
 rintro e R1 ⟨gb,bs⟩ ⟨hR1,rows1,hrw1,hfz1⟩ he;dsimp only at he hfz1 ⊢;refine z_V ?_;refine jci (λ_:Value × Chs × List (List Value)=>[Pt g0,Pt gb]) (λq=>(gb,C 42 [S0 bs 1 1,q.1,SN]) :: (q.2.1 ++ D)) (λR' q=>R1.le R'∧Rw (RwC R') q.2.2 (List.replicate t [0])∧SW 23 1 q.2.2 q.1 q.2.1) (λK1 k1=>?_) ?_
 ·refine jci (λ_:Value × Chs × List (List Value)=>[Pt g0,Pt gb]) (λq=>(gb,C 42 [S0 bs 1 1,q.1,SN]) :: (q.2.1 ++ D)) (λR' q=>R1.le R'∧Rw (RwC R') q.2.2 (List.replicate t [0])∧SW 23 1 q.2.2 q.1 q.2.1) (λK2 k2=>?_) ?_;rotate_left
  ·rintro e R' q hp he;refine z_V ?_;exact k1 R' q hp
  refine jli (λi:Nat × Value × Chs × List (List Value)=>t - i.1) (λi=>[Pt g0,Pt gb,I t,I i.1]) (λi=>(gb,C 42 [S0 bs 1 1,i.2.1,SN]) :: (i.2.2.1 ++ D)) (λR' i=>R1.le R'∧i.1≤t∧Rw (RwC R') i.2.2.2 (List.replicate i.1 [0])∧SW 23 1 i.2.2.2 i.2.1 i.2.2.1) (0,SN,[],[]) ⟨RM.le.refl _,σ,Rw.nil,.inl ⟨rfl,rfl,rfl⟩⟩ rfl rfl ?_;rintro K e R7 ⟨i,v,A,rows⟩ ⟨hR7,hi,hrw,so⟩ he hK;dsimp only at hi hrw so he hK ⊢;refine z_V ?_;refine jlt (jif (λc=>?_) (λc=>?_));rotate_left
  ·have c:=z_g c;rw[show i = t from ω] at hrw;exact k2 R7 (v,A,rows) ⟨hR7,hrw,so⟩
  have c:i < t:=by have:=z_f c;omega
  refine jfo (jl (v:=v) rfl (jbs (cs:=[I 0]) rfl rfl λbr=>AJ (b:=br) λR8 hR8 hbr=>jbs (cs:=[S0 br 1 1]) rfl rfl λbb=>?_));have hr:Ai R8 (S0 br 1 1) [0]:=CZ (w:=1) (n:=1) (sp:=[]) (cells:=[I 0]) (by rw[SP];exact hbr) rfl (z_n _);have hrl:=hrw.1;rw[S7] at hrl;refine KO (A:=A) [[S0 br 1 1]] so rfl (hrw.all λ_ _=>RwC.len) (by intro r hr;rw[Ri.1 hr];rfl) rfl rfl rfl δ (by simp only[Rr,TC];omega) λv' A' so'=>?_
  obtain⟨va,vc,rfl⟩:=so'.sl;refine jfo (jS ([S0 bs 1 1,.slice va (rows ++ [[S0 br 1 1]]).length vc,SN]) (jad ?_));refine Ab [(gb,C 42 [S0 bs 1 1,.slice va (rows ++ [[S0 br 1 1]]).length vc,SN])] (G:=A' ++ D) ?_;refine hK R8 (i + 1,_,A',rows ++ [[S0 br 1 1]]) (by dsimp only;omega) ⟨hR7.trans hR8,c,?_,so'⟩;rw[TN];exact (hrw.mono λ_ _=>RwC.le hR8).app (Rw.one ⟨_,rfl,hr⟩)
 rintro e R7 ⟨v,A,rows⟩ ⟨hR7,hrw,so⟩ he;dsimp only at hrw so ⊢;refine z_V ?_;obtain⟨va,vc,rfl⟩:=so.sl;refine Ab A (G:=(gb,C 42 [S0 bs 1 1,.slice va rows.length vc,SN]) :: D) ?_;refine jfw so (hrw.all λ_ _=>RwC.len) λR8 hR8 hfz=>?_
 rw[hD];refine jla (l:=[S0 bs 1 1,.slice va rows.length vc,SN]) (RQ rfl) rfl (jS [S0 bs 1 1,.slice va rows.length vc,SN] (jla (l:=[S0 bs 1 1,.slice va rows.length vc,SN]) (RQ rfl) rfl ?_));refine AV (A:=[]) (hR1.trans (hR7.trans hR8)) ⟨rfl,_,⟨rows1,rows,_,_,_,rfl,hrw1.mono λ_ _=>NdC.le (hR7.trans hR8),hfz1.le (hR7.trans hR8),hrw.mono λ_ _=>RwC.le hR8,hfz,.inl ⟨rfl,rfl,rfl⟩⟩,rfl⟩
end
section
variable {R:RM}
theorem OY {R:RM}:StC R st0 (SN) (SN) (SN) (SN) (SN) (SN):=⟨.inl ⟨rfl,rfl,rfl⟩,.inl ⟨rfl,rfl,rfl⟩,.inl ⟨rfl,rfl,rfl⟩,⟨[],Rw.nil,.inl ⟨rfl,rfl,rfl⟩⟩,.inl ⟨rfl,rfl,rfl⟩,.inl ⟨rfl,rfl,rfl⟩⟩
theorem QI:StZ st0:=⟨δ,δ,δ,δ,δ,δ,λt ht=>by cases ht⟩
theorem Hy {c:Cfg} (hc:B9 c = false):Fn P DT [.agg #[I c.A8,I c.A9,I c.AH]] R [] (λv R' A=>R' = R∧A = []∧v = .tuple #[z28,.bool false]):=by
 refine FQ λF=>?_
 refine z_1 ?_;refine ja λb1=>ja λb2=>jla (l:=[I c.A8,I c.A9,I c.AH]) (RQ rfl) rfl (jp (CC c) ?_)
 rw[hc];refine Dv (jbd (cs:=cl z28) rfl rfl (jS (cl z28) (jla (l:=cl z28) (RQ rfl) rfl ?_)));exact AV (A:=[]) (RM.le.refl R) ⟨rfl,rfl,rfl⟩
theorem JD {c:Cfg} (hc:B9 c = false):Fn P Cd [.agg #[I c.A8,I c.A9,I c.AH]] R [] (λv R' A=>R' = R∧A = []∧v = .tuple #[z28,.bool false]):=by
 refine Fb λF=>?_
 refine z_1 ?_;refine ja λb1=>ja λb2=>jla (l:=[I c.A8,I c.A9,I c.AH]) (RQ rfl) rfl (jp (HY c) ?_)
 rw[hc];refine Dv (jbd (cs:=cl z28) rfl rfl (jS (cl z28) (jla (l:=cl z28) (RQ rfl) rfl ?_)));exact AV (A:=[]) (RM.le.refl R) ⟨rfl,rfl,rfl⟩
theorem JF:((List.range 10).all λi=>decide (CO (s0 (i + 3) 1).AB = 1)) = true:=by kernel_rfl
theorem Nq {r t:Nat} (r0:3≤r) (r1:r≤12):CO (s0 r t).AB = 1:=by
 have h:=Rs.1 JF (r - 3) (SI.2 ω);rw[show r - 3 + 3 = r from ω] at h;exact z_f h
theorem Qn {r t:Nat} (r0:3≤r) (r1:r≤12) (t0:1≤t) (t1:t≤3):StZ (s0 r t):=by
 have h:=K0 r0 r1 t0 t1;have h1:=h.wl;have h2:=h.t1;have h3:=h.ml;exact⟨ω,ω,ω,by simp[s0],by simp[s0],by simp[s0];omega,λu hu=>by rw[(SG.1 hu).2];decide⟩
theorem Je {r t:Nat} {rs:Int} (r0:3≤r) (r1:r≤12) (t0:1≤t) (t1:t≤3) (hc:B9 ⟨r,t,rs⟩ = true) {D:Chs} {k:Value→M}
  (H:∀R' wv tv mv thv,R.le R'→StC R' (s0 r t) wv tv mv thv (SN) (SN)→J R' D (k (.tuple #[.agg (eSt (s0 r t) wv tv mv thv (SN) (SN)).toArray,.bool true]))):J R D (CA P Cd [.agg #[I r,I t,I rs]] k):=by
 have hsb:=K0 r0 r1 t0 t1;have hml:=hsb.ml;have hwl:=hsb.wl;have htl:=IQ (n:=r) ω ω;have htl2:(s0 r t).AB.length = r:=by show (Ak (AC r) 1 _).length = r;rw[Bz,htl]
 refine jc (A:=[]) (KE (c:=⟨r,t,rs⟩) hc) ?_;rintro _ R1 _ hR1 ⟨bw,cw,wsp,bt,ct,tsp,bm,thv,h1,h2,h3,rfl,rfl⟩;refine AJ (b:=bw) λR2 hR2 hbw=>AJ (b:=bt) λR3 hR3 hbt=>AJ (b:=bm) λR4 hR4 hbm=>?_
 have e1:BF ⟨r,t,rs⟩ = (s0 r t).AE:=rfl;dsimp only at h1 h2 h3 hbt hbm ⊢;rw[e1] at h1 hbw ⊢;have ert:(r:Int).toNat = r:=RV r;have ett:(t:Int).toNat = t:=RV t;rw[ert] at hbm ⊢;rw[ett] at h3;refine H R4 _ _ _ _ (hR1.trans (hR2.trans (hR3.trans hR4))) ⟨?_,?_,?_,h3.le (hR2.trans (hR3.trans hR4)),.inl ⟨rfl,rfl,rfl⟩,.inl ⟨rfl,rfl,rfl⟩⟩
 ·exact CZ ((hR3.trans hR4) _ _ hbw) σ h1
 ·have h:=CZ (w:=5) (n:=(s0 r t).AB.length) (cap:=ct) (hR4 _ _ hbt) (by rw[Co (w:=5) (λ_=>rfl)];rfl) (by rw[htl2,← htl];exact h2);rw[htl2] at h;unfold Rgs;rw[htl2,htl];exact h
 ·have h:=CZ (w:=1) (n:=r * 16) (cap:=r * 16) (sp:=[]) (cells:=(List.replicate (r * 16) false).map Value.bool) (by rw[SP];exact hbm) σ (z_n _);unfold Bls;rw[show (s0 r t).AS = List.replicate (r * 16) false from rfl,S7];exact h
set_option maxHeartbeats 2000000 in
set_option maxRecDepth 8000 in
theorem Iq {R:RM} {v:Value} (hc:Cod R v):Fn P DL [v] R [] (λx _ A=>x = .bool true∧A = []):=by
 refine Fx λF=>?_
 refine z_1 ?_;obtain⟨cn,hsl⟩:=Oy hc;refine Bh hsl (jgr (jif (λ_=>AV (A:=[]) (RM.le.refl R) ⟨rfl,rfl⟩) (λ_=>?_)));refine jc (A:=[]) (Hc hc) ?_;rintro x0 R1 _ hR1 ⟨rfl,c,rfl⟩;refine ja λb=>jS [I c.A8,I c.A9,I c.AH] (jla (l:=[I c.A8,I c.A9,I c.AH]) (RQ rfl) rfl ?_)
 cases hcc:B9 c with
 | false=>
  refine jc (A:=[]) (Hy hcc) ?_;rintro _ R2 _ _ ⟨hR2,rfl,rfl⟩;subst hR2;refine jex rfl (jex rfl (ja λb1=>jS [SN,SN,SN,I 0,.bool false,.bool false,.bool false,I 0,SN,SN,SN,I 0,I 0] (jla (l:=[I c.A8,I c.A9,I c.AH]) (RQ rfl) rfl ?_)));refine jc (A:=[]) (JD hcc) ?_;rintro _ R2 _ _ ⟨hR2,rfl,rfl⟩;subst hR2;refine jex rfl (jex rfl (ja λb2=>jS [SN,SN,SN,I 0,.bool false,.bool false,.bool false,I 0,SN,SN,SN,I 0,I 0] ?_));refine jor [Pt b,Pt b1,.bool false] false (λK' hK'=>?_) (λe cc u ho he=>?_)
  ·refine @jxb _ _ _ _ _ _ _ ?_;rw[bne_self_eq_false];refine jff (jla (l:=[SN,SN,SN,I 0,.bool false,.bool false,.bool false,I 0,SN,SN,SN,I 0,I 0]) (by exact z_n 13) rfl (jla (l:=[SN,SN,SN,I 0,.bool false,.bool false,.bool false,I 0,SN,SN,SN,I 0,I 0]) (by exact z_n 13) rfl ?_));exact jro (Fu (s:=st0) OY OY QI) (hK' _ _ _ AY rfl)
  refine z_V ?_;refine jor [Pt b,Pt b1,.bool false] false (λK' hK'=>?_) (λe cc u ho2 he=>?_)
  ·rw[ho];refine jff (jla (l:=[I c.A8,I c.A9,I c.AH]) (RQ rfl) rfl (jp (CC c) ?_));rw[hcc];refine @jxb _ _ _ _ _ _ _ ?_;rw[bne_self_eq_false];exact hK' _ _ _ AY rfl
  refine z_V ?_;rw[ho2];refine C9 (Dv (jfo (jl (v:=SN) rfl (jln (jeq ?_)))));exact AV (A:=[]) hR1 ⟨rfl,rfl⟩
 | true=>
 obtain⟨r,t,r0,r1,t0,t1,er,et⟩:∃r t:Nat,3≤r∧r≤12∧1≤t∧t≤3∧c.A8 = r∧c.A9 = t:=by
  have h:=hcc;unfold B9 at h;simp only[z_b,z_d] at h;exact⟨c.A8.toNat,c.A9.toNat,ω,ω,ω,ω,ω,ω⟩
 obtain⟨rs,ers⟩:∃rs,rs = c.AH:=⟨_,rfl⟩;have ecfg:c = ⟨r,t,rs⟩:=by rw[ers,← er,← et]
 subst ecfg;dsimp only;have hz:=Qn r0 r1 t0 t1;refine jc (A:=[]) (F3 r0 r1 t0 t1 hcc) ?_;rintro _ R2 _ hR2 ⟨rfl,wv,tv,mv,thv,hsf,rfl⟩;have hst:=hsf.c;obtain⟨xw,xw',rfl⟩:=hst.w.sl;obtain⟨xt,xt',rfl⟩:=hst.t.sl;obtain⟨xm,xm',rfl⟩:=hst.m.sl;obtain⟨xh,xh',rfl⟩:=hst.th.sl;refine jex rfl (jex rfl (ja λb1=>jS (eSt (s0 r t) (.slice xw (s0 r t).AE.length xw') (.slice xt (s0 r t).AB.length xt') (.slice xm (s0 r t).AS.length xm') (.slice xh (s0 r t).A9.length xh') (SN) (SN)) (jla (l:=[I r,I t,I rs]) (RQ rfl) rfl ?_)));refine Je r0 r1 t0 t1 hcc λR3 wv2 tv2 mv2 thv2 hR3 hst2=>?_
 obtain⟨yw,yw',rfl⟩:=hst2.w.sl;obtain⟨yt,yt',rfl⟩:=hst2.t.sl;obtain⟨ym,ym',rfl⟩:=hst2.m.sl;obtain⟨yh,yh',rfl⟩:=hst2.th.sl;refine jex rfl (jex rfl (ja λb2=>jS (eSt (s0 r t) (.slice yw (s0 r t).AE.length yw') (.slice yt (s0 r t).AB.length yt') (.slice ym (s0 r t).AS.length ym') (.slice yh (s0 r t).A9.length yh') (SN) (SN)) ?_));have hsf:=hsf.le hR3;refine jor [Pt b,Pt b1,.bool true] false (λK' hK'=>?_) (λe cc u ho he=>?_)
 ·refine @jxb _ _ _ _ _ _ _ ?_;rw[bne_self_eq_false];refine jff (jla (l:=eSt (s0 r t) (.slice xw (s0 r t).AE.length xw') (.slice xt (s0 r t).AB.length xt') (.slice xm (s0 r t).AS.length xm') (.slice xh (s0 r t).A9.length xh') (SN) (SN)) (by exact z_n 13) rfl (jla (l:=eSt (s0 r t) (.slice yw (s0 r t).AE.length yw') (.slice yt (s0 r t).AB.length yt') (.slice ym (s0 r t).AS.length ym') (.slice yh (s0 r t).A9.length yh') (SN) (SN)) (by exact z_n 13) rfl ?_));exact jro (Fu hsf.c hst2 hz) (hK' _ _ _ AY rfl)
 refine z_V ?_;refine jor [Pt b,Pt b1,.bool true] false (λK' hK'=>?_) (λe cc u ho2 he=>?_)
 ·rw[ho];refine jff (jla (l:=[I r,I t,I rs]) (RQ rfl) rfl (jp (CC ⟨r,t,rs⟩) ?_));rw[hcc];refine @jxb _ _ _ _ _ _ _ ?_;rw[bne_self_eq_false];exact hK' _ _ _ AY rfl
 refine z_V ?_;rw[ho2];refine C9 (C9 (jfo (jl (v:=I t) rfl ?_)));refine jc (A:=[]) (Iv t0 t1) ?_;rintro _ R4 _ hR4 ⟨rfl,gv,hg,rfl⟩;have hg0:=hg;obtain⟨q1,q2,qn,qr,qp,rfl,a1,a2,a3,a4,a5⟩:=hg0;obtain⟨na,nc,rfl⟩:=a2.sl;obtain⟨ra,rc,rfl⟩:=a4.sl;obtain⟨pa,pc,rfl⟩:=a5.sl;refine jex rfl (jex rfl (ja λb3=>jS [.slice na q1.length nc,.slice ra q2.length rc,.slice pa (Cb t).pinned.length pc] ?_));have hsf:=hsf.le hR4;refine jla (l:=eSt (s0 r t) (.slice xw (s0 r t).AE.length xw') (.slice xt (s0 r t).AB.length xt') (.slice xm (s0 r t).AS.length xm') (.slice xh (s0 r t).A9.length xh') (SN) (SN)) (by exact z_n 13) rfl ?_;refine jc (A:=[]) (HN hsf) ?_;rintro _ R5 _ hR5 ⟨rfl,hq⟩;rw[L6 r0 r1 t0 t1] at hq;obtain⟨gv2,hg2,rfl⟩:=hq;rw[Ny] at hg2;have hg20:=hg2;obtain⟨q1',q2',qn',qr',qp',rfl,c1,c2,c3,c4,c5⟩:=hg20;obtain⟨na',nc',rfl⟩:=c2.sl;obtain⟨ra',rc',rfl⟩:=c4.sl;obtain⟨pa',pc',rfl⟩:=c5.sl;refine jex rfl (jex rfl (ja λb4=>jS [.slice na' q1'.length nc',.slice ra' q2'.length rc',.slice pa' (Cb t).pinned.length pc'] ?_));have hsf:=hsf.le hR5;have hg:=hg.le hR5;obtain⟨D,hD⟩:∃D:Chs,D = (b4,C 42 [.slice na' q1'.length nc',.slice ra' q2'.length rc',.slice pa' (Cb t).pinned.length pc']) :: (b3,C 42 [.slice na q1.length nc,.slice ra q2.length rc,.slice pa (Cb t).pinned.length pc]) :: (b2,C 28 (eSt (s0 r t) (.slice yw (s0 r t).AE.length yw') (.slice yt (s0 r t).AB.length yt') (.slice ym (s0 r t).AS.length ym') (.slice yh (s0 r t).A9.length yh') (SN) (SN))) :: (b1,C 28 (eSt (s0 r t) (.slice xw (s0 r t).AE.length xw') (.slice xt (s0 r t).AB.length xt') (.slice xm (s0 r t).AS.length xm') (.slice xh (s0 r t).A9.length xh') (SN) (SN))) :: (b,C 33 [I r,I t,I rs]) :: ([] ++ F):=⟨_,rfl⟩;refine jci (λq:Nat × Value × Value × Value × Value × Value × Value=>[Pt b1,Pt b3,Pt b4,.bool true,.pointer (some ⟨q.1,0,none⟩),SN]) (λq=>(q.1,C 28 (eSt (s0 r t) q.2.1 q.2.2.1 q.2.2.2.1 q.2.2.2.2.1 q.2.2.2.2.2.1 q.2.2.2.2.2.2)) :: D) (λR' q=>R5.le R'∧StC R' (s0 r t) q.2.1 q.2.2.1 q.2.2.2.1 q.2.2.2.2.1 q.2.2.2.2.2.1 q.2.2.2.2.2.2) (λK1 k1=>?_) ?_
 ·rw[hD] at k1;have ep:(List.replicate ((t:Int).toNat) (cl Qb)).flatten = List.replicate t (SN):=by
   rw[RV];show (List.replicate t [SN]).flatten = _;rw[SX]
  refine jla (l:=[I r,I t,I rs]) (RQ rfl) rfl (jfo (jl (v:=I t) rfl ?_));refine EM ?_ (Cr ?_)
  ·refine jms ω ω ω λpb=>?_
   rw[ep,RV];refine As (jla (l:=[I r,I t,I rs]) (RQ rfl) rfl jev) (AJ (b:=pb) λR6 hR6 hpb=>EM ?_ (Cr ?_))
   ·refine jc (A:=[]) (Gt hpb r0 r1 t0 t1 hcc) ?_;rintro _ R7 _ hR7 ⟨rfl,wv3,tv3,mv3,thv3,ov3,pv3,hst3,rfl⟩;obtain⟨zw,zw',rfl⟩:=hst3.w.sl;obtain⟨zt,zt',rfl⟩:=hst3.t.sl;obtain⟨zm,zm',rfl⟩:=hst3.m.sl;obtain⟨zh,zh',rfl⟩:=hst3.th.sl;obtain⟨zo,zo',rfl⟩:=hst3.o.sl;obtain⟨zp,zp',rfl⟩:=hst3.p.sl;refine jex rfl (jex rfl (ja λb5=>jS (eSt (s0 r t) (.slice zw (s0 r t).AE.length zw') (.slice zt (s0 r t).AB.length zt') (.slice zm (s0 r t).AS.length zm') (.slice zh (s0 r t).A9.length zh') (.slice zo (s0 r t).old.length zo') (.slice zp (s0 r t).AN.length zp')) ?_));exact k1 R7 (b5,_,_,_,_,_,_) ⟨hR6.trans hR7,hst3⟩
   ·refine ja λb5=>As (jla (l:=[I r,I t,I rs]) (RQ rfl) rfl jev) ?_
    refine jc (A:=[]) (Gt hpb r0 r1 t0 t1 hcc) ?_;rintro _ R7 _ hR7 ⟨rfl,wv3,tv3,mv3,thv3,ov3,pv3,hst3,rfl⟩;obtain⟨zw,zw',rfl⟩:=hst3.w.sl;obtain⟨zt,zt',rfl⟩:=hst3.t.sl;obtain⟨zm,zm',rfl⟩:=hst3.m.sl;obtain⟨zh,zh',rfl⟩:=hst3.th.sl;obtain⟨zo,zo',rfl⟩:=hst3.o.sl;obtain⟨zp,zp',rfl⟩:=hst3.p.sl;refine jex rfl (jex rfl (jS (eSt (s0 r t) (.slice zw (s0 r t).AE.length zw') (.slice zt (s0 r t).AB.length zt') (.slice zm (s0 r t).AS.length zm') (.slice zh (s0 r t).A9.length zh') (.slice zo (s0 r t).old.length zo') (.slice zp (s0 r t).AN.length zp')) ?_));exact k1 R7 (b5,_,_,_,_,_,_) ⟨hR6.trans hR7,hst3⟩
  ·refine ja λb5=>As (jla (l:=[I r,I t,I rs]) (RQ rfl) rfl jev) (As (jl (v:=I t) rfl jev) (jms ω ω ω λpb=>?_))
   rw[ep,RV];refine As (jla (l:=[I r,I t,I rs]) (RQ rfl) rfl jev) (AJ (b:=pb) λR6 hR6 hpb=>?_);refine jc (A:=[]) (Gt hpb r0 r1 t0 t1 hcc) ?_;rintro _ R7 _ hR7 ⟨rfl,wv3,tv3,mv3,thv3,ov3,pv3,hst3,rfl⟩;obtain⟨zw,zw',rfl⟩:=hst3.w.sl;obtain⟨zt,zt',rfl⟩:=hst3.t.sl;obtain⟨zm,zm',rfl⟩:=hst3.m.sl;obtain⟨zh,zh',rfl⟩:=hst3.th.sl;obtain⟨zo,zo',rfl⟩:=hst3.o.sl;obtain⟨zp,zp',rfl⟩:=hst3.p.sl;refine jex rfl (jex rfl (jS (eSt (s0 r t) (.slice zw (s0 r t).AE.length zw') (.slice zt (s0 r t).AB.length zt') (.slice zm (s0 r t).AS.length zm') (.slice zh (s0 r t).A9.length zh') (.slice zo (s0 r t).old.length zo') (.slice zp (s0 r t).AN.length zp')) ?_));exact k1 R7 (b5,_,_,_,_,_,_) ⟨hR6.trans hR7,hst3⟩
 rintro e R6 ⟨b5,wv3,tv3,mv3,thv3,ov3,pv3⟩ ⟨hR6,hst3⟩ he;dsimp only at he hst3 ⊢;refine z_V ?_;rw[hD];have hsf:=hsf.le hR6;have ok:=OP t0 t1;have gz:=PN (t:=t) t1;have esm:I8 (Ck (Cb t)) (Ck (Cb t)) = true:=by unfold I8;simp
 refine jan [Pt b1,Pt b5,SN] true (λK' hK'=>?_) (λe cc u ho3 he=>?_)
 ·refine jtt (jla (l:=[.slice na q1.length nc,.slice ra q2.length rc,.slice pa (Cb t).pinned.length pc]) (RQ rfl) rfl (jla (l:=[.slice na' q1'.length nc',.slice ra' q2'.length rc',.slice pa' (Cb t).pinned.length pc']) (RQ rfl) rfl ?_));refine jrp (Hj (hg.le hR6) (hg2.le hR6) gz gz ok ok) ?_;rw[esm];exact hK' _ _ _ Ac rfl
 refine z_V ?_;have eus:CO (s0 r t).AB = 1:=Nq r0 r1;refine jan [Pt b1,Pt b5,SN] true (λK' hK'=>?_) (λe cc u ho4 he=>?_)
 ·rw[ho3];refine jtt (jla (l:=eSt (s0 r t) (.slice xw (s0 r t).AE.length xw') (.slice xt (s0 r t).AB.length xt') (.slice xm (s0 r t).AS.length xm') (.slice xh (s0 r t).A9.length xh') (SN) (SN)) (by exact z_n 13) rfl (jrp (Hi hsf) ?_));rw[L6 r0 r1 t0 t1,eus];exact jeq (hK' _ _ _ Ac rfl)
 refine z_V ?_;refine jan [SN] true (λK' hK'=>?_) (λe cc u ho5 he=>?_)
 ·rw[ho4];refine jtt (jla (l:=eSt (s0 r t) (.slice xw (s0 r t).AE.length xw') (.slice xt (s0 r t).AB.length xt') (.slice xm (s0 r t).AS.length xm') (.slice xh (s0 r t).A9.length xh') (SN) (SN)) (by exact z_n 13) rfl (jla (l:=eSt (s0 r t) wv3 tv3 mv3 thv3 ov3 pv3) (by exact z_n 13) rfl ?_));exact jro (Fu hsf.c hst3 hz) (hK' _ _ _ Ac rfl)
 refine z_V ?_;refine jan [] true (λK' hK'=>?_) (λe cc u ho6 he=>?_)
 ·rw[ho5];exact jtt (jln (jeq (hK' _ _ _ Ac rfl)))
 refine z_V ?_;rw[ho6];exact AV (A:=[]) (hR1.trans (hR2.trans (hR3.trans (hR4.trans (hR5.trans hR6))))) ⟨rfl,rfl⟩
end
end Go.Lf
end
