/- A part of the proof of the given row. Conditions: none. -/
import Derived.Test.YthfhnheigfoioaaGreatHD
set_option linter.unusedVariables false
set_option linter.unusedSimpArgs false
set_option maxRecDepth 100000
section
namespace Go.Lf
open Go Sm
theorem Z9 {p:Nat} {S S' : Sim} {g:Img} {R:RM} (A:Ok R S g) (y:S.work = some S') :
  Fn P Ld [Pt p] R (Ag p S g) (DI p S' λ_=>True):=by
 refine SP λF=>?_
 refine z_1 ?_;unfold Sim.work at y;refine jan [Pt p] ((S.Ae == 1) && (S.col.pc == 1)) (λT G=>?_) (λe c u Q he=>?_)
 .refine jl rfl (jeq (jgA G λD O=>jl rfl (jeq O)))
 refine z_V ?_;rw[Q];refine jif (λhc=>?_) (λhc=>?_)
 .rw[if_pos (by simpa using hc)] at y;refine jcS (Wu A y) λ_ H K j N x=>(Ay j trivial rfl x)
 rw[if_neg (by intro h;simp[h.1,h.2] at hc)] at y;refine jl rfl (jeq (jif (λD=>?_) (λD=>?_)))
 .rw[if_pos (eq_of_beq D)] at y;refine jcS (WF A y) λ_ H K j N x=>(Ay j trivial rfl x)
 rw[if_neg (ne_of_beq_false D)] at y;refine jan [Pt p] ((S.Ae == 2) && (S.col.pc == 5)) (λT G=>?_) (λe c u Q he=>?_)
 .refine jl rfl (jeq (jgA G λD O=>jl rfl (jeq O)))
 refine z_V ?_;rw[Q];refine jif (λhc=>?_) (λhc=>?_)
 .rw[if_pos (by simpa using hc)] at y;refine jcS (ZZ A y) λ_ H K j N x=>(Ay j trivial rfl x)
 rw[if_neg (by intro h;simp[h.1,h.2] at hc)] at y;refine jl rfl (jeq (jif (λD=>?_) (λD=>?_)))
 .rw[if_pos (eq_of_beq D)] at y;refine jcS (XT A y) λ_ H K j N x=>(Ay j trivial rfl x)
 .rw[if_neg (ne_of_beq_false D)] at y;refine jcS (Xk A y) λ_ H K j N x=>(Ay j trivial rfl x)
theorem aB {R:RM} {D G:Chs} {p b c:Nat} {S:Sim} {g:Img} {ms:List Bool} {sp:List Value} {m:M} [w:Fd D p S g G]
  (H:J R (Ag p { S with AM:=ms } { g with mb:=b,mc:=c,msp:=sp } ++ G) m) :
  J R ((b,C Ax (ms.map Value.bool ++ sp)) :: D) (ST 1 (.pointer (some ⟨p,6,none⟩)) (S0 b ms.length c) m):=by
 refine Az ((w.ex.cons _).trans d9.symm) ?_;have j:Ch { S with AM:=ms } { g with mb:=b,mc:=c,msp:=sp } = (Ch S g).set 6 (S0 b ms.length c):=by
  simp[Ch,evV]
 refine js (cs':=Ch { S with AM:=ms } { g with mb:=b,mc:=c,msp:=sp })
  (D':=(p,C CG (Ch { S with AM:=ms } { g with mb:=b,mc:=c,msp:=sp })) :: ((g.wb,C Aa (S.AC.map I ++ g.wsp)) :: (g.tb,C AO (Ad eRg S.AA ++ g.tsp)) :: (g.mb,C Ax (S.AM.map Value.bool ++ g.msp)) :: (g.hb,C Af (Ep S.th g.rv ++ g.hsp)) :: evD S g ++ (b,C Ax (ms.map Value.bool ++ sp)) :: G)) rfl rfl (by simp[Ch]) (by rw[j,show cl (S0 b ms.length c) = [S0 b ms.length c] from rfl,GS (by simp[Ch])]) ?_ (u:=?_)
 .unfold Ag;exact inferInstance
 .refine Al ((p,C CG (Ch { S with AM:=ms } { g with mb:=b,mc:=c,msp:=sp })) :: (g.wb,C Aa (S.AC.map I ++ g.wsp)) :: (g.tb,C AO (Ad eRg S.AA ++ g.tsp)) :: (b,C Ax (ms.map Value.bool ++ sp)) :: (g.hb,C Af (Ep S.th g.rv ++ g.hsp)) :: evD S g) (G:=G) (H)
theorem PI {p:Nat} {S:Sim} {g:Img} {R:RM} (j:Ok R S g) :
  Fn P Iu [Pt p] R (Ag p S g) (DI p { S with AM:=List.replicate S.AM.length false } λ_=>True):=by
 refine O1 λF=>?_
 refine z_1 ?_;have x:=j.ml;refine jl rfl (jln (jms Z Z Z λb=>?_));rw[cG];have e:(List.replicate S.AM.length (cl z4)).flatten = (List.replicate S.AM.length false).map Value.bool ++ []:=by
  rw[dD,List.map_replicate,show cl z4 = [Value.bool false] from rfl,ec]
 rw[e];have:=aB (p:=p) (R:=R) (D:=Ag p S g ++ F) (b:=b) (c:=S.AM.length) (ms:=List.replicate S.AM.length false) (sp:=[]) (m:=Fb R F (DI p { S with AM:=List.replicate S.AM.length false } λ_=>True) (.tuple #[])) ?_
 .rw[cW] at this;exact this
 .exact Ay (RM.le.refl _) trivial rfl (by exact { j with ml:=by simpa using j.ml,mk_:=by simp })
def CM (f:Int->Rg->Rg) (k:Nat) (t:List Rg):List Rg:=t.mapIdx λi x=>if i = 0\/k<=i then x else f i x
theorem I9 {f:Int->Rg->Rg} {t:List Rg}:CM f 1 t = t:=by
 apply eN
 .simp[CM]
 .intro i j x;simp only[CM,fX];rw[if_pos Z]
theorem IC {f:Int->Rg->Rg} {t:List Rg} {k:Nat} (h:t.length<=k):CM f k t = rows f t:=by
 apply eN
 .simp[CM,rows]
 .intro i j x;simp only[CM,rows,fX];simp only[CM,List.length_mapIdx] at j;by_cases c:i = 0
  .rw[if_pos (.inl c),if_pos c]
  .rw[if_neg Z,if_neg c]
@[simp] theorem Cb {f:Int->Rg->Rg} {t:List Rg} {k:Nat}:(CM f k t).length = t.length:=by simp[CM]
theorem IU {f:Int->Rg->Rg} {t:List Rg} {k:Nat} (h:k < t.length):(CM f k t)[k]'(by simpa using h) = t[k]:=by
 simp only[CM,fX];rw[if_pos (.inr (z_n k))]
theorem Ia {f:Int->Rg->Rg} {t:List Rg} {k:Nat} (x:1<=k) (h:k < t.length):(CM f k t).set k (f k t[k]) = CM f (k + 1) t:=by
 apply eN
 .simp[CM]
 .intro i y j;simp only[CM,List.length_mapIdx] at j;rw[List.getElem_set];simp only[CM,fX];by_cases c:k = i
  .subst c;rw[if_pos rfl,if_neg Z]
  .rw[if_neg c];by_cases d:i = 0\/k<=i
   .rw[if_pos d,if_pos Z]
   .rw[if_neg d,if_neg Z]
theorem Vh {p:Nat} {S S' : Sim} {g:Img} {R:RM} (j:Ok R S g) (D:S.idle = some S') :
  Fn P Lt [Pt p] R (Ag p S g) (DI p S' λ_=>True):=by
 refine RI λF=>?_
 refine z_1 ?_;unfold Sim.idle at D;obtain⟨n,hn,D⟩:=AF D;obtain⟨rfl,O⟩:=B9 hn;simp only[cX] at D;have a0:=j.tl;refine jcS (PI j) λ_ W A H hr y=>(jss { S with AM:=List.replicate S.AM.length false,Ae:=0 } A rfl rfl δ τ τ (jl rfl (jbd rfl rfl (jss { S with AM:=List.replicate S.AM.length false,Ae:=0,col:=Da S.col.Ap 0 } { A with AR:=SN } rfl rfl δ τ τ (jl rfl (Cz O (jss { S with AM:=List.replicate S.AM.length false,Ae:=0,col:=Da S.col.Ap 0,BC:=S.BC + 1 } { A with AR:=SN } rfl rfl δ τ τ ?_)))))))
 refine jlp (λm vs T Q=>T = W/\∃k:Nat,1<=k/\k<=S.AA.length + 1/\Q = Ag p { S with AM:=List.replicate S.AM.length false,Ae:=0,col:=Da S.col.Ap 0,BC:=S.BC + 1,AA:=CM (λ_ x=>{ x with AJ:=0 }) k S.AA } { A with AR:=SN } ++ F/\vs = [Pt p,I k]/\m = S.AA.length + 1 - k)
  (n:=S.AA.length) ⟨rfl,1,z_n 1,Z,by rw[I9],rfl,Z⟩ ?_
 rintro m e R2 D2 K ⟨N,k,k0,k1,hD,he,hm⟩ hK;subst N;refine z_W ?_;refine jl rfl (jln (jlt (jif (λhc=>?_) (λhc=>?_))))
 .have hc:k < S.AA.length:=by have:=z_f hc;rw[Cb] at this;omega
  refine jl rfl (C0 (by rw[Cb];exact hc) (Rm (p:=p) (by simpa using hc) ?_));rw[show ({ S with AM:=List.replicate S.AM.length false,Ae:=0,col:=Da S.col.Ap 0,BC:=S.BC + 1,AA:=CM (λ_ x=>{ x with AJ:=0 }) k S.AA }:Sim).AA[k]'(by simpa using hc) = S.AA[k] from IU (f:=λ_ x=>{ x with AJ:=0 }) hc];refine ja λb5=>(js (cs':=eRg (S.AA[k])) rfl rfl V rfl (js (cs':=eRg { S.AA[k] with AJ:=0 }) rfl rfl V rfl (jl rfl (jla V rfl (C0 (by rw[Cb];exact hc) (UQ (p:=p) { S with AM:=List.replicate S.AM.length false,Ae:=0,col:=Da S.col.Ap 0,BC:=S.BC + 1,AA:=CM (λ_ x=>{ x with AJ:=0 }) (k + 1) S.AA } (by simpa using hc) (by rw[<- Ia k0 hc]) (jad (Al (Ag p { S with AM:=List.replicate S.AM.length false,Ae:=0,col:=Da S.col.Ap 0,BC:=S.BC + 1,AA:=CM (λ_ x=>{ x with AJ:=0 }) (k + 1) S.AA } { A with AR:=SN }) (G:=F) (hK (S.AA.length + 1 - (k + 1)) _ _ _ Z ⟨rfl,k + 1,Z,Z,rfl,rfl,rfl⟩)))))))))
 .have hc:S.AA.length<=k:=by have:=z_g hc;rw[Cb] at this;omega
  subst D;refine Ay H trivial (by rw[IC hc]) ?_;exact { y with AR:=.inl ⟨rfl,rfl,rfl⟩,tl:=by simpa [rows] using j.tl,tk:=by simpa [rows] using y.tk,ml:=by simpa using j.ml,mk_:=by simpa using y.mk_ }
def SO (l:List Int) (v:Value) (A:Chs):Prop:=(l = []/\v = SN/\A = [])\/WM l v A
theorem SO.flat {l:List Int} {v:Value} {A:Chs} (h:SO l v A):flat v = true:=by
 rcases h with ⟨_,rfl,_⟩ | ⟨b,c,sp,_,_,rfl,_⟩<;>rfl
theorem SO.sl {l:List Int} {v:Value} {A:Chs} (h:SO l v A):∃a n c,v = .slice a n c:=by
 rcases h with ⟨_,rfl,_⟩ | ⟨b,c,sp,_,_,rfl,_⟩<;>exact⟨_,_,_,rfl⟩
theorem jas {R:RM} {A E:Chs} {l l2:List Int} {v:Value} {T:Option Addr} {m W:Nat} {k:Value->M} (so:SO l v A) (hm:m = l2.length) (hl:l.length + l2.length < 1000000000000) (j:BX R (A ++ E) T (m * 1) (l2.map I))
  (H:∀Q O,SO (l ++ l2) Q O->J R (O ++ E) (k Q)):J R (A ++ E) (AP Aa 1 8 [I 0] v (.slice T m W) k):=by
 subst hm;have K:By (l2.map I) = true:=by
  unfold By;rw[ck];intro x j;obtain⟨y,_,rfl⟩:=cq.1 j;rfl
 have fl:∀n,(List.replicate n [I 0]).flatten.length = n:=λn=>by
  rw[Br (w:=1) (by intro x j;rw[(dQ.1 j).2];rfl)];simp
 rcases so with ⟨rfl,rfl,rfl⟩ | ⟨b,c,sp,hc,hsp,rfl,rfl⟩
 .refine jap j (by rw[fK];exact BX.none_) δ (by simp at hl;omega) (λhc h N=>?_) (λb c hc=>?_)
  .have h0:l2 = []:=dA.1 Z;subst h0;have:=H (SN) [] (.inl ⟨rfl,rfl,rfl⟩) h N;simpa using this
  .have:=H (S0 b l2.length c) [(b,C Aa (l2.map I ++ (List.replicate (c - l2.length) [I 0]).flatten))] (.inr ⟨b,c,(List.replicate (c - l2.length) [I 0]).flatten,by simpa using hc,by rw[fl];simp,V,V⟩);simpa using this
 .refine WZ j (by simp;omega) hc V K δ Z (λh=>?_) (λD G h=>?_)
  .have el:lay (l.map I ++ sp) (l.length * 1) (l2.map I) = (l ++ l2).map I ++ sp.drop l2.length:=by
    rw[HX V];simp[lay]
   rw[el];have:=H (S0 b (l ++ l2).length c) [(b,C Aa ((l ++ l2).map I ++ sp.drop l2.length))] (.inr ⟨b,c,_,by simpa using h,by simp;omega,rfl,rfl⟩);simpa using this
  .refine Az (dh _ _ _) (Bf ?_);have:=H (.slice (some ⟨D,0,none⟩) (l ++ l2).length G) [(D,C Aa ((l ++ l2).map I ++ (List.replicate (G - (l.length + l2.length)) [I 0]).flatten))] (.inr ⟨D,G,_,by simpa using h,by simp[fl],rfl,rfl⟩);rw[dW V,cO V];simpa using this
theorem Dw {R:RM} {A E:Chs} {l:List Int} {v:Value} {m:M} (D:SO l v A) (H:∀j,R.le j->B8 j v l->J j E m):J R (A ++ E) m:=by
 rcases D with ⟨rfl,rfl,rfl⟩ | ⟨b,c,sp,hc,hsp,rfl,rfl⟩
 .exact H R (RM.le.refl _) (.inl ⟨rfl,rfl,rfl⟩)
 .refine BB (t:=⟨dK _⟩) λy x hb=>(H y x (CO hb hc))
theorem jrv {R:RM} {D G:Chs} {p:Nat} {S:Sim} {g:Img} {i:Int} {t:Thr} {k:Value->M} [w:Fd D p S g G] (A:Ok R S g) (W:idx S.th i = some t) (H:∀v,B8 R v t.AD->J R D (k v)) :
  J R D (L1 (.pointer (some ⟨p,17,none⟩)) λx=>IA 17 x (I i) λy=>FO 0 y λz=>L1 z k):=by
 obtain⟨h0,T,K,N⟩:=Av W;have j : i.toNat < g.rv.length:=by have:=A.rvl;omega
 have O:=A.rv i.toNat K j;rw[N] at O;have Q : J R (Ag p S g ++ G) (k (g.rv[i.toNat])):=Az w.ex.symm (H _ O);have l1:J R (Ag p S g ++ G) (L1 (.pointer (some ⟨p,17,none⟩)) λx=>IA 17 x (I i) λy=>FO 0 y λz=>L1 z k):=by
  refine jl rfl (jia h0 T (jl ?_ Q));rw[cg];exact Qq K j (by rw[N];rfl)
 exact Az w.ex l1
theorem YF {l:List Thr} (h:∀t∈l,t.AD.length < 1000000):(l.flatMap λt=>t.AD.filter (·≠0)).length<=1000000 * l.length:=by
 induction l with
 | nil=>simp
 | cons t r y=>
  rw[List.flatMap_cons,cJ,cS];have A:=y λt j=>h t (by simp[j])
  have D:=h t V;have G:=List.length_filter_le (λx=>decide (x≠0)) t.AD;omega
theorem Ri {p:Nat} {S:Sim} {g:Img} {R:RM} (a0:Ok R S g) (a1:S.sz = true) :
  Fn P HG [Pt p] R (Ag p S g) (DI p S.snapshot λ_=>True):=by
 refine L2 λF=>?_
 refine z_1 ?_;have a1:=Gp a1;have e5:=a0.tl;have d1:=a0.hl;have f0:=a0.ml;refine jcS (PI a0) λ_ R1 g1 c9 hr e6=>(jss { S with AM:=List.replicate S.AM.length false,old:=[] } { g1 with old:=SN } rfl rfl δ τ τ (jss { S with AM:=List.replicate S.AM.length false,old:=[],Ae:=1 } { g1 with old:=SN } rfl rfl δ τ τ ?_))
 have D:Ok R1 { S with AM:=List.replicate S.AM.length false,old:=[],Ae:=1 } { g1 with old:=SN }:={ e6 with old:=.inl ⟨rfl,rfl,rfl⟩ };generalize Q:({ S with AM:=List.replicate S.AM.length false,old:=[],Ae:=1 }:Sim) = j at D ⊢;generalize e9:({ g1 with old:=SN }:Img) = g2 at D ⊢;have e1:j.col = S.col:=by rw[<- Q]
 have e2:j.th = S.th:=by rw[<- Q]
 have e3:j.AI = S.AI:=by rw[<- Q]
 have e4:j.AA = S.AA:=by rw[<- Q]
 refine jl rfl (jl rfl (jbd rfl rfl (ja λb=>(Ak (jl rfl jev) (Ak (jl rfl jev) (js rfl rfl (by exact z_n 15) rfl ?_))))));have f2:∀i:Nat,(j.th.take i).flatMap (λt=>t.AD.filter (·≠0)) = (j.th.take i).flatMap (λt=>t.AD.filter (·≠0)):=λ_=>rfl
 have hlen:∀l:List Int,l.length<=1000000 * 1000 + 1000000->l.length + 1 < 1000000000000:=λl h=>Z
 have H:∀t∈j.th,t.AD.length < 1000000:=λt ht=>a1.2.2.2.2 t (e2▸ht)
 have e8:j.th.length<=1000:=by rw[e2];exact d1
 have tk:∀i:Nat,((j.th.take i).flatMap λt=>t.AD.filter (·≠0)).length<=1000000 * 1000:=λi=>by
  have h1:=YF (l:=j.th.take i) λt ht=>H t (dJ ht)
  have h2:(j.th.take i).length<=1000:=by rw[cV];omega
  omega
 refine Ab (λW O D'=>O = R1/\∃v A,SO (j.th.flatMap λt=>t.AD.filter (·≠0)) v A/\D' = A ++ ((b,C BR (BV { Da j.col.Ap j.col.want with pc:=1 } v)) :: (Ag p j g2 ++ F))/\W = [Pt p,Pt b]) (λK hK=>?_) ?_
 .refine jcI hK λK2 b9=>?_
  refine jlp (λm W O D'=>O = R1/\∃(i:Nat) (v:Value) (A:Chs),i<=j.th.length/\SO ((j.th.take i).flatMap λt=>t.AD.filter (·≠0)) v A/\D' = A ++ ((b,C BR (BV { Da j.col.Ap j.col.want with pc:=1 } v)) :: (Ag p j g2 ++ F))/\W = [Pt p,Pt b,I i]/\m = j.th.length - i)
   (n:=j.th.length) ⟨rfl,0,SN,[],Z,.inl ⟨V,rfl,rfl⟩,rfl,rfl,Z⟩ ?_
  rintro m e R2 D2 K3 ⟨a7,i,v,A,hi,y,hD,he,hm⟩ c0;subst a7;refine z_W ?_;refine jl rfl (jln (jlt (jif (λhc=>?_) (λhc=>?_))));rotate_left
  .have hc:=z_g hc;rw[cO (show j.th.length<=i by omega)] at y;exact b9 _ _ _ ⟨rfl,v,A,y,rfl,rfl⟩
  have hc:i < j.th.length:=by have:=z_f hc;omega
  have a9:idx j.th i = some (j.th[i]):=by unfold idx;rw[if_pos Z,cG,cF hc]
  have d4:(j.th.take (i + 1)).flatMap (λt=>t.AD.filter (·≠0)) = (j.th.take i).flatMap (λt=>t.AD.filter (·≠0)) ++ (j.th[i]).AD.filter (·≠0):=by
   rw[cI hc,List.flatMap_append];simp
  have f1:=H _ (cK hc);have e7:∀(K4:List Value->M),(∀v A,SO ((j.th.take (i + 1)).flatMap λt=>t.AD.filter (·≠0)) v A->J R2 (A ++ ((b,C BR (BV { Da j.col.Ap j.col.want with pc:=1 } v)) :: (Ag p j g2 ++ F))) (K4 [Pt p,Pt b,I i]))->True:=λ_ _=>trivial
  refine Ab (λW O D'=>O = R2/\∃v A,SO ((j.th.take (i + 1)).flatMap λt=>t.AD.filter (·≠0)) v A/\D' = A ++ ((b,C BR (BV { Da j.col.Ap j.col.want with pc:=1 } v)) :: (Ag p j g2 ++ F))/\W = [Pt p,Pt b,I i]) (λK4 c4=>?_) ?_;rotate_left
  .rintro e R3 D3 ⟨N,v,A,y,hD,he⟩;subst N;refine z_W ?_;refine jad (c0 (j.th.length - (i + 1)) _ _ _ Z ⟨rfl,i + 1,v,A,Z,y,rfl,rfl,rfl⟩)
  refine jcI c4 λK5 c5=>?_
  refine jcI c5 λK6 c6=>?_
  refine jlp (λm W O D'=>O = R2/\∃(k:Nat) (v:Value) (A:Chs),k<=(j.th[i]).AD.length/\SO ((j.th.take i).flatMap (λt=>t.AD.filter (·≠0)) ++ ((j.th[i]).AD.take k).filter (·≠0)) v A/\D' = A ++ ((b,C BR (BV { Da j.col.Ap j.col.want with pc:=1 } v)) :: (Ag p j g2 ++ F))/\W = [Pt p,Pt b,I i,I k]/\m = (j.th[i]).AD.length - k)
   (n:=(j.th[i]).AD.length) ⟨rfl,0,v,A,Z,by simpa using y,rfl,rfl,Z⟩ ?_
  rintro m e R3 D3 K7 ⟨N,k,v,A,hk,y,hD,he,hm⟩ c7;subst N;refine z_W ?_;refine jrv D a9 λf3 b3=>(Jh b3 (jlt (jif (λhd=>?_) (λhd=>?_))))
  rotate_left
  .have hd:=z_g hd;rw[cO (show (j.th[i]).AD.length<=k by omega),<- d4] at y;exact c6 _ _ _ ⟨rfl,v,A,y,rfl,rfl⟩
  have hd:k < (j.th[i]).AD.length:=by have:=z_f hd;omega
  have b2:((j.th[i]).AD.take (k + 1)).filter (·≠0) = ((j.th[i]).AD.take k).filter (·≠0) ++ (if (j.th[i]).AD[k]≠0 then [(j.th[i]).AD[k]] else []):=by
   rw[cI hd,List.filter_append];congr 1;by_cases c:(j.th[i]).AD[k] = 0<;>simp[c]
  refine Ab (λW O D'=>O = R3/\∃v A,SO ((j.th.take i).flatMap (λt=>t.AD.filter (·≠0)) ++ ((j.th[i]).AD.take (k + 1)).filter (·≠0)) v A/\D' = A ++ ((b,C BR (BV { Da j.col.Ap j.col.want with pc:=1 } v)) :: (Ag p j g2 ++ F))/\W = [Pt p,Pt b,I i,I k]) (λK8 c8=>?_) ?_;rotate_left
  .rintro e R4 D4 ⟨a8,v,A,y,hD,he⟩;subst a8;refine z_W ?_;refine jad (c7 ((j.th[i]).AD.length - (k + 1)) _ _ _ Z ⟨rfl,k + 1,v,A,Z,y,rfl,rfl,rfl⟩)
  refine jcI c8 λK9 b0=>?_
  refine jrv D a9 λf4 b4=>(Bl b4 Z Z ?_)
  have e0:(j.th[i]).AD[((k:Nat):Int).toNat]'(Z) = (j.th[i]).AD[k]:=V
  rw[e0];refine jne (jif (λhz=>?_) (λhz=>?_))
  .have hz:(j.th[i]).AD[k]≠0:=by simpa using hz
   obtain⟨sa,sn,sc,rfl⟩:=y.sl;refine jl rfl (jrv D a9 λf5 b6=>(Bl b6 Z Z ?_));rw[e0];refine jbs rfl rfl λb1=>(Ak (jl rfl jev) (Az d9.symm ?_))
   have hx:BX R3 (A ++ (b1,C 3 [I (j.th[i]).AD[k]]) :: (b,C BR (BV { Da j.col.Ap j.col.want with pc:=1 } (.slice sa sn sc))) :: (Ag p j g2 ++ F)) (some ⟨b1,0,none⟩) (1 * 1) ([(j.th[i]).AD[k]].map I):=BX.held (cs:=[I (j.th[i]).AD[k]]) (z_n 1);refine jas y rfl (by
    have h1:=tk i
    have h2:=List.length_filter_le (λx=>decide (x≠0)) ((j.th[i]).AD.take k)
    have h3:((j.th[i]).AD.take k).length<=(j.th[i]).AD.length:=by rw[cV];omega
    rw[cJ,cr];omega) hx λv' A' T=>?_
   obtain⟨a2,a4,a3,rfl⟩:=T.sl;refine jS (BV { Da j.col.Ap j.col.want with pc:=1 } (.slice a2 a4 a3)) (Al A' (G:=(b,C BR (BV { Da j.col.Ap j.col.want with pc:=1 } (.slice a2 a4 a3))) :: (Ag p j g2 ++ F)) (b0 _ _ _ ⟨rfl,_,A',?_,rfl,rfl⟩));rw[b2,if_pos hz,<- cR];exact T
  .have hz:¬ (j.th[i]).AD[k]≠0:=by simpa using hz
   refine b0 _ _ _ ⟨rfl,v,A,?_,rfl,rfl⟩;rw[b2,if_neg hz,dD];exact y
 .rintro e R2 D2 ⟨a7,v,A,y,hD,he⟩;subst a7;refine z_W ?_;obtain⟨sa,sn,sc,rfl⟩:=y.sl;refine jl rfl (jl rfl ?_);obtain⟨xa,cx,d2,hx⟩:=B8.reads D.AI;rw[d2];refine jas y rfl (by
   have h1:=tk j.th.length
   rw[List.take_length] at h1
   have h2:=a1.2.2.2.1
   rw[e3];omega) hx λv' A' T=>?_
  obtain⟨a2,a4,a3,rfl⟩:=T.sl;refine js rfl rfl (by simp[BV]) rfl (Dw T λR3 N a6=>?_);generalize d3:((j.th.flatMap λt=>t.AD.filter (·≠0)) ++ j.AI) = st at a6;refine Az (D':=(b,C BR (BV { Da j.col.Ap j.col.want with pc:=1,AR:=st } (.slice a2 a4 a3))) :: (Ag p j g2 ++ F)) (dK _) (J6 { j with col:={ Da j.col.Ap j.col.want with pc:=1,AR:=st } } (D.le N) a6 τ λg3 b8=>(Al (Ag p { j with col:={ Da j.col.Ap j.col.want with pc:=1,AR:=st } } g3) (G:=F) ?_));have b7:j.AA.length<=1000:=by rw[e4];exact e5
  refine jlp (λm W O D'=>O = R3/\∃k:Nat,1<=k/\k<=j.AA.length + 1/\D' = Ag p { j with col:={ Da j.col.Ap j.col.want with pc:=1,AR:=st },AA:=CM (λ_ x=>{ x with BA:=x.top,AJ:=0 }) k j.AA } g3 ++ F/\W = [Pt p,I k]/\m = j.AA.length + 1 - k)
   (n:=j.AA.length) ⟨rfl,1,z_n 1,Z,by rw[I9],rfl,Z⟩ ?_
  rintro m e R4 D4 K ⟨a8,k,k0,k1,hD,he,hm⟩ hK;subst a8;refine z_W ?_;refine jl rfl (jln (jlt (jif (λhc=>?_) (λhc=>?_))))
  .have hc:k < j.AA.length:=by have:=z_f hc;rw[Cb] at this;omega
   refine jl rfl (C0 (by rw[Cb];exact hc) (Rm (p:=p) (by simpa using hc) ?_));rw[show ({ j with col:={ Da j.col.Ap j.col.want with pc:=1,AR:=st },AA:=CM (λ_ x=>{ x with BA:=x.top,AJ:=0 }) k j.AA }:Sim).AA[k]'(by simpa using hc) = j.AA[k] from IU (f:=λ_ x=>{ x with BA:=x.top,AJ:=0 }) hc];refine ja λb5=>(js (cs':=eRg (j.AA[k])) rfl rfl V rfl (jl rfl (js (cs':=eRg { j.AA[k] with BA:=(j.AA[k]).top }) rfl rfl V rfl (js (cs':=eRg { j.AA[k] with BA:=(j.AA[k]).top,AJ:=0 }) rfl rfl V rfl (jl rfl (jla V rfl (C0 (by rw[Cb];exact hc) (UQ (p:=p) { j with col:={ Da j.col.Ap j.col.want with pc:=1,AR:=st },AA:=CM (λ_ x=>{ x with BA:=x.top,AJ:=0 }) (k + 1) j.AA } (by simpa using hc) (by rw[<- Ia k0 hc]) (jad (Al (Ag p { j with col:={ Da j.col.Ap j.col.want with pc:=1,AR:=st },AA:=CM (λ_ x=>{ x with BA:=x.top,AJ:=0 }) (k + 1) j.AA } g3) (G:=F) (hK (j.AA.length + 1 - (k + 1)) _ _ _ Z ⟨rfl,k + 1,Z,Z,rfl,rfl,rfl⟩)))))))))))
  .have hc:j.AA.length<=k:=by have:=z_g hc;rw[Cb] at this;omega
   have a5:({ j with col:={ Da j.col.Ap j.col.want with pc:=1,AR:=st },AA:=CM (λ_ x=>{ x with BA:=x.top,AJ:=0 }) k j.AA }:Sim) = S.snapshot:=by
    rw[IC hc,<- d3,<- Q];rfl
   refine Ay (c9.trans N) trivial a5 ?_;rw[<- a5];exact { b8 with tl:=by simpa using b7,tk:=by simpa using b8.tk }
theorem Y8 {R:RM} {D:Chs} {v:Value} {l:List Int} (n:Int) (h:B8 R v l) (hl:l.length < 1000000000000):Ro Nn [v,I n] (.bool (l.contains n)) R D:=by
 refine Uh λF=>?_
 refine z_2 ?_;refine jlp (λm T N H=>N = R/\H = D ++ F/\∃i:Nat,i<=l.length/\T = [v,I n,I i]/\m = l.length - i/\∀k (x:k < l.length),k < i->l[k]≠n)
  (n:=l.length) ⟨rfl,rfl,0,Z,rfl,Z,λk _ h=>Z⟩ ?_
 rintro m e R1 W K ⟨y,hD,i,hi,he,G,Bq⟩ O;subst y;refine z_W ?_;refine Jh h (jlt (jif (λhc=>?_) (λhc=>?_)))
 .have hc:i < l.length:=by have:=z_f hc;omega
  refine Bl h Z Z (jeq (jif (λj=>?_) (λj=>?_)))
  .refine BN ?_;have j:=eq_of_beq j;simp only[cG] at j;have:l.contains n = true:=by rw[List.contains_eq_mem,z_d,<- j];exact cK hc
   rw[this]
  .have j:=ne_of_beq_false j;simp only[cG] at j;refine jad (O (l.length - (i + 1)) _ _ _ Z ⟨rfl,rfl,i + 1,Z,rfl,rfl,λk x Q=>?_⟩);by_cases c:k = i
   .subst c;exact j
   .exact Bq k x Z
 .have hc:¬ i < l.length:=by have:=z_g hc;omega
  refine BN ?_;have:l.contains n = false:=by
   rw[List.contains_eq_mem,decide_eq_false_iff_not];intro G;obtain⟨k,x,A⟩:=d5 G;exact Bq k x Z A
  rw[this]
section choose
variable {t:List Rg} {sp:List Value} {b cap:Nat} {R:RM} {D:Chs}
def InC (t:List Rg) (held:List Int) (AU:Int) (n i:Nat) (left:Int) (fr fe:List Int):Prop:=
 (n = 0->fr = []/\left = AU/\fe ++ DN held i (t.drop i) = DN held 1 t.tail)/\
 (1<=n->fe = DN held 1 t.tail/\fr ++ ((Cj held n i (t.drop i) left).2 ++ Bw t held (16 - n) (n + 1) (Cj held n i (t.drop i) left).1) = Bw t held 16 1 AU)
def OuC (t:List Rg) (held:List Int) (AU:Int) (n:Nat) (left:Int) (fr fe:List Int):Prop:=
 (n = 0->fr = []/\left = AU/\fe = [])/\(1<=n->fe = DN held 1 t.tail/\fr ++ Bw t held (17 - n) n left = Bw t held 16 1 AU)
theorem InC.step {held:List Int} {AU:Int} {n i:Nat} {left:Int} {fr D:List Int} (h:InC t held AU n i left fr D) (K:i < t.length) :
  (C4 held n i t[i] = false->InC t held AU n (i + 1) left fr D)/\(C4 held n i t[i] = true->n = 0->InC t held AU n (i + 1) left fr (D ++ [(i:Int)]))/\
  (C4 held n i t[i] = true->1<=n->(n:Int)<=left->InC t held AU n (i + 1) (left - n) (fr ++ [(i:Int)]) D)/\(1<=n->¬ (n:Int)<=left->InC t held AU n (i + 1) left fr D):=by
 have hd:t.drop i = t[i] :: t.drop (i + 1):=cQ K;obtain⟨h0,H⟩:=h;rw[hd] at h0 H;refine⟨λhc=>⟨λx=>?_,λx=>?_⟩,λhc x=>⟨λ_=>?_,λG=>Z⟩,λhc x hl=>⟨λG=>Z,λ_=>?_⟩,λx hl=>⟨λG=>Z,λ_=>?_⟩⟩
 .obtain⟨y,j,A⟩:=h0 x;subst x;simp only[DN] at A;rw[if_neg (by rw[show C4 held 0 i t[i] = false from hc];decide)] at A;exact⟨y,j,A⟩
 .obtain⟨y,j⟩:=H x;simp only[Cj,hc,dz,d8,if_false] at j;exact⟨y,j⟩
 .obtain⟨y,j,A⟩:=h0 x;subst x;simp only[DN] at A;rw[if_pos (show C4 held 0 i t[i] = true from hc)] at A;exact⟨y,j,by rw[cR];exact A⟩
 .obtain⟨y,j⟩:=H x;simp only[Cj,hc,dR,decide_eq_true hl,if_true] at j;refine⟨y,?_⟩;rw[cR];exact j
 .obtain⟨y,j⟩:=H x;simp only[Cj,decide_eq_false hl,Bool.and_false,d8,if_false] at j;exact⟨y,j⟩
theorem OuC.inner {held:List Int} {AU:Int} {n:Nat} {left:Int} {fr A:List Int} (h:OuC t held AU n left fr A) (H:n<=16):InC t held AU n 1 left fr A:=by
 obtain⟨h0,G⟩:=h;refine⟨λy=>?_,λy=>?_⟩
 .obtain⟨x,j,D⟩:=h0 y;exact⟨x,j,by rw[D,List.drop_one];rfl⟩
 .obtain⟨x,j⟩:=G y;refine⟨x,?_⟩;rw[show 17 - n = (16 - n) + 1 from Z] at j;simp only[Bw] at j;rw[List.drop_one];exact j
theorem InC.outer {held:List Int} {AU:Int} {n i:Nat} {left:Int} {fr y:List Int} (h:InC t held AU n i left fr y) (G:t.length<=i):OuC t held AU (n + 1) left fr y:=by
 obtain⟨h0,A⟩:=h;rw[cT G] at h0 A;refine⟨λH=>Z,λ_=>?_⟩;by_cases c:n = 0
 .obtain⟨x,j,D⟩:=h0 c;subst c;refine⟨by simpa [DN] using D,?_⟩;rw[x,j];rfl
 .obtain⟨x,j⟩:=A Z;refine⟨x,?_⟩;simp only[Cj,zl] at j;rw[show 17 - (n + 1) = 16 - n from Z]
  exact_mod_cast j
end choose
theorem GL (held:List Int) (n:Int):∀(l:List Rg) (i:Nat) (left:Int),(Cj held n i l left).2.length<=l.length
 | [],_,_=>z_n 0
 | x :: r,i,left=>by
  unfold Cj;split
  .simp only[cS];have:=GL held n r (i + 1) (left - n);omega
  .simp only[cS];have:=GL held n r (i + 1) left;omega
theorem FZ (t:List Rg) (held:List Int):∀(k:Nat) (n left:Int),(Bw t held k n left).length<=k * t.length
 | 0,_,_=>by simp[Bw]
 | k + 1,n,left=>by
  unfold Bw;simp only[cJ];have j:=GL held n t.tail 1 left;have x:=FZ t held k (n + 1) (Cj held n 1 t.tail left).1;rw[eT] at j;rw[fd];omega
theorem IJ (held:List Int):∀(l:List Rg) (i:Nat),(DN held i l).length<=l.length
 | [],_=>z_n 0
 | x :: r,i=>by
  unfold DN;have:=IJ held r (i + 1);split<;>simp only[cS]<;>omega
theorem InC.len {t:List Rg} {held:List Int} {AU:Int} {n i:Nat} {left:Int} {fr y:List Int} (h:InC t held AU n i left fr y):fr.length<=16 * t.length/\y.length<=t.length:=by
 obtain⟨h0,D⟩:=h;have f:=IJ held t.tail 1;rw[eT] at f;by_cases c:n = 0
 .obtain⟨j,x,A⟩:=h0 c;have:=congrArg List.length A;rw[cJ] at this;rw[j];constructor
  .simp
  .omega
 .obtain⟨j,x⟩:=D Z;have:=congrArg List.length x;rw[cJ] at this;have g:=FZ t held 16 1 AU;rw[j];constructor<;>omega
def Q2I (l1 l2:List Int) (v:Value) (N:Chs):Prop:=∃v1 v2 A1 A2,SO l1 v1 A1/\SO l2 v2 A2/\v = .tuple #[v1,v2]/\N = A1 ++ A2
theorem Xi {j y D:Chs} (x:Nat × Obj):(x :: (j ++ (y ++ D))).Perm (y ++ (x :: (j ++ D))):=
 (eE x (by rw[<- cR,<- cR];exact List.perm_append_comm.append_right D)).trans d9.symm
theorem YY {j x D:Chs}:(x ++ (j ++ D)).Perm (j ++ (x ++ D)):=by
 rw[<- cR,<- cR];exact List.perm_append_comm.append_right D
section AA
variable {t:List Rg} {sp:List Value} {b cap:Nat} {R:RM} {D:Chs}
theorem NE {held:List Int} {hv:Value} (AU:Int) (hr:inR AU) (hl:t.length < 1000000) (hi:B8 R hv held) (b9:held.length < 1000000000000) [a:At D b (C AO (Ad eRg t ++ sp))] :
  Mk Gm [S0 b t.length cap,I AU,hv] R D (Q2I (Ai t AU held).1 (Ai t AU held).2):=by
 refine Km λF=>?_
 refine z_3 ?_;refine jro (FC hl) ?_;cases a5:BT t with
 | false=>
  refine DM (DS [] ?_);have:Ai t AU held = ([],[]):=by unfold Ai;rw[a5];rfl
  rw[this];exact⟨_,_,[],[],.inl ⟨rfl,rfl,rfl⟩,.inl ⟨rfl,rfl,rfl⟩,rfl,rfl⟩
 | true=>
 have a7:Ai t AU held = (Bw t held 16 1 AU,DN held 1 t.tail):=by unfold Ai;rw[a5];rfl
 have T:=Bi.1 a5;refine CW (Ab (λvs R' D'=>R' = R/\∃N x O y,SO (Bw t held 16 1 AU) N x/\SO (DN held 1 t.tail) O y/\D' = x ++ (y ++ (D ++ F))/\vs = [N,O]) (λK hK=>?_) ?_);rotate_left
 .rintro e R1 D1 ⟨hR,N,x,O,y,A,H,hD,he⟩;subst hR;refine z_W ?_;clear hD;refine Az (D':=(x ++ y) ++ (D ++ F)) (by rw[cR]) (DS (x ++ y) ?_);rw[a7];exact⟨N,O,x,y,A,H,rfl,rfl⟩
 refine jcI hK λK2 a8=>?_
 refine jlp (λm vs R' D'=>R' = R/\∃(n:Nat) (left:Int) (fr Q:List Int) (N O:Value) (x y:Chs),n<=17/\inR left/\OuC t held AU n left fr Q/\SO fr N x/\SO Q O y/\D' = x ++ (y ++ (D ++ F))/\vs = [S0 b t.length cap,hv,N,O,I left,I n]/\m = 17 - n)
  ⟨rfl,0,AU,[],[],SN,SN,[],[],Z,hr,⟨λ_=>⟨rfl,rfl,rfl⟩,λh=>Z⟩,.inl ⟨rfl,rfl,rfl⟩,.inl ⟨rfl,rfl,rfl⟩,rfl,rfl,rfl⟩ ?_
 rintro m e R1 D1 K3 ⟨hR,n,left,fr,Q,N,O,x,y,hn,j,ou,A,H,hD,he,hm⟩ a9;subst hR;refine z_W ?_;clear hD;refine jle (jif (λhc=>?_) (λhc=>?_));rotate_left
 .have hc:n = 17:=by have:=z_g hc;omega
  subst hc;obtain⟨o1,o2⟩:=ou.2 Z;have o2:fr ++ [] = Bw t held 16 1 AU:=o2;rw[dD] at o2;exact a8 _ _ _ ⟨rfl,N,x,O,y,o2▸A,o1▸H,rfl,rfl⟩
 have hc:n<=16:=by have:=z_f hc;omega
 refine Ab (λvs R' D'=>R' = R1/\∃(left:Int) (fr Q:List Int) (N O:Value) (x y:Chs),inR left/\OuC t held AU (n + 1) left fr Q/\SO fr N x/\SO Q O y/\D' = x ++ (y ++ (D ++ F))/\vs = [S0 b t.length cap,hv,N,O,I left,I n]) (λK4 b0=>?_) ?_;rotate_left
 .rintro e R2 D2 ⟨hR,left,fr,Q,N,O,x,y,j,ou,A,H,hD,he⟩;subst hR;refine z_W ?_;clear hD;refine jad (a9 (17 - (n + 1)) _ _ _ Z ⟨rfl,n + 1,left,fr,Q,N,O,x,y,Z,j,ou,A,H,rfl,rfl,rfl⟩)
 refine jcI b0 λK5 b3=>?_
 refine jcI b3 λK6 b4=>?_
 refine jlp (λm vs R' D'=>R' = R1/\∃(i:Nat) (left:Int) (fr Q:List Int) (N O:Value) (x y:Chs),1<=i/\i<=t.length + 1/\inR left/\InC t held AU n i left fr Q/\SO fr N x/\SO Q O y/\D' = x ++ (y ++ (D ++ F))/\vs = [S0 b t.length cap,hv,N,O,I left,I n,I i]/\m = t.length + 1 - i)
  (n:=t.length) ⟨rfl,1,left,fr,Q,N,O,x,y,Z,Z,j,ou.inner hc,A,H,rfl,rfl,Z⟩ ?_
 clear ou A H j;rintro m e R2 D2 K7 ⟨hR,i,left,fr,Q,N,O,x,y,c6,c7,j,ic,A,H,hD,he,hm⟩ b5;subst hR;refine z_W ?_;clear hD;refine jln (jlt (jif (λhd=>?_) (λhd=>?_)));rotate_left
 .have hd:=z_g hd;exact b4 _ _ _ ⟨rfl,left,fr,Q,N,O,x,y,j,ic.outer Z,A,H,rfl,rfl⟩
 have hd:i < t.length:=by have:=z_f hd;omega
 have n1:=T.n1;obtain⟨s1,s2,s3,s4⟩:=ic.step hd;obtain⟨c0,c5⟩:=ic.len;refine Ab (λvs R' D'=>R' = R2/\∃(left:Int) (fr Q:List Int) (N O:Value) (x y:Chs),inR left/\InC t held AU n (i + 1) left fr Q/\SO fr N x/\SO Q O y/\D' = x ++ (y ++ (D ++ F))/\vs = [S0 b t.length cap,hv,N,O,I left,I n,I i]) (λK8 b6=>?_) ?_;rotate_left
 .rintro e R3 D3 ⟨hR,left,fr,Q,N,O,x,y,j,ou,A,H,hD,he⟩;subst hR;refine z_W ?_;clear hD;refine jad (b5 (t.length + 1 - (i + 1)) _ _ _ Z ⟨rfl,i + 1,left,fr,Q,N,O,x,y,Z,Z,j,ou,A,H,rfl,rfl,rfl⟩)
 refine jcI b6 λK9 a2=>?_
 have RR:=T.row i Z Z;have t0:=RR.t0;have t1:=RR.t1;rw[Ea hd] at t0 t1;have b7:=Bj (r:=(i:Int)) Z Z;refine C0 hd (LB hd (ja λb2=>(js rfl rfl V rfl ?_)));refine Ab (λvs R' D'=>R' = R2/\D' = x ++ (y ++ (D ++ F))/\vs = [S0 b t.length cap,hv,N,O,I left,I n,I i,.bool (!C4 held n i t[i])]) (λK10 a1=>?_) ?_;rotate_left
 .rintro e R3 D3 ⟨hR,hD,he⟩;subst hR;refine z_W ?_;clear hD;cases a4:C4 held n i t[i] with
  | false=>exact DM (a2 _ _ _ ⟨rfl,left,fr,Q,N,O,x,y,j,s1 a4,A,H,rfl,rfl⟩)
  | true=>
  refine CW (jeq (jif (λh0=>?_) (λh0=>?_)))
  .have h0:n = 0:=by have:=eq_of_beq h0;omega
   refine jbs rfl rfl λb1=>(Az (Xi _) ?_)
   have hx:BX R3 (y ++ ((b1,C 3 [I i]) :: (x ++ (D ++ F)))) (some ⟨b1,0,none⟩) (1 * 1) ([(i:Int)].map I):=BX.held (cs:=[I i]) (z_n 1);refine jas H rfl (by simp only[cr];omega) hx λv' A' a6=>(Al A' (G:=x ++ (D ++ F)) (Az YY (a2 _ _ _ ⟨rfl,left,fr,Q ++ [(i:Int)],N,v',x,A',j,s2 a4 h0,A,a6,rfl,rfl⟩)))
  .have h0:1<=n:=by have:=ne_of_beq_false h0;omega
   refine jle (jif (λh2=>?_) (λh2=>?_))
   .have h2:=z_f h2;refine jbs rfl rfl λb1=>(Az d9.symm ?_)
    have hx:BX R3 (x ++ ((b1,C 3 [I i]) :: (y ++ (D ++ F)))) (some ⟨b1,0,none⟩) (1 * 1) ([(i:Int)].map I):=BX.held (cs:=[I i]) (z_n 1);refine jas A rfl (by simp only[cr];omega) hx λv' A' a6=>?_
    have a0 : inR (left - n):=by have:=j.1;have:=j.2;constructor<;>omega
    refine RZ a0 (Al A' (G:=y ++ (D ++ F)) (a2 _ _ _ ⟨rfl,left - n,fr ++ [(i:Int)],Q,v',O,A',y,a0,s3 a4 h0 h2,a6,H,rfl,rfl⟩))
   .have h2:=z_g h2;exact a2 _ _ _ ⟨rfl,left,fr,Q,N,O,x,y,j,s4 h0 h2,A,H,rfl,rfl⟩
 refine jor [S0 b t.length cap,hv,N,O,I left,I n,I i,Pt b2] ((t[i].kind != 3) || (t[i].top != t[i].BA)) (λK' a3=>?_) (λe c u ho he=>?_)
 .refine jl rfl (jne (jgO a3 λh1 hN=>jl rfl (jl rfl (jne hN))))
 refine z_V ?_;refine jor [S0 b t.length cap,hv,N,O,I left,I n,I i,Pt b2] ((t[i].kind != 3) || (t[i].top != t[i].BA) || (t[i].AJ != n)) (λK' a3=>?_) (λe c u ho he=>?_)
 .rw[ho];refine jgO a3 λh1 hN=>jl rfl (jne hN)
 refine z_V ?_;generalize b8:((t[i].kind != 3) || (t[i].top != t[i].BA) || (t[i].AJ != n)) = f3 at ho;have W:C4 held n i t[i] = (!f3 && decide (t[i].AJ < t[i].top - AK i) && !(held.contains (i:Int))):=by
  unfold C4;rw[<- b8];simp only[bne,Bool.not_or,Bool.not_not,Bool.and_assoc]
 cases f3 with
 | true=>
  rw[fW,dz,dz] at W;refine Ce ?_;rw[ho];refine jtf (C5 λe he=>?_);refine z_V ?_;refine jtf (Ce (jtf (C5 λe he=>?_)));refine z_V ?_;refine Ce (Ec (jtf (C5 λe he=>?_)));refine z_V ?_;refine Ak (jtf jev) (Ak (jtf jev) (jtf (Ec (Bf (a1 _ _ _ ⟨rfl,rfl,by rw[W];rfl⟩)))))
 | false=>
  rw[Bool.not_false,dR] at W;refine Ce ?_;rw[ho];refine jff (jl rfl (jl rfl (C5 λe he=>?_)));refine z_V ?_;refine jff (jp (BW i) (Ce (jff (jsu (jge (C5 λe he=>?_))))));refine z_V ?_;refine Ce (Et ?_);by_cases c4:t[i].AJ < t[i].top - AK i
  .rw[decide_eq_false (show ¬ t[i].AJ>=t[i].top - AK i by omega)];rw[decide_eq_true c4,dR] at W;refine jff (C5 λe he=>?_);refine z_V ?_;refine Ak (jff (jl rfl jev)) (Ak (jff (jl rfl jev)) (jff (jro (Y8 i hi b9) (Et (Bf (a1 _ _ _ ⟨rfl,rfl,by rw[W,Bool.not_not]⟩))))))
  .rw[decide_eq_true (show t[i].AJ>=t[i].top - AK i by omega)];rw[decide_eq_false c4,dz] at W;refine jtf (C5 λe he=>?_);refine z_V ?_;refine Ak (jff (jl rfl jev)) (Ak (jff (jl rfl jev)) (jtf (Ec (Bf (a1 _ _ _ ⟨rfl,rfl,by rw[W];rfl⟩)))))
end AA
end Go.Lf
end
section
namespace Sm
def shp (w:List Int) (a:Int):Shp:=(AS (wv w (a + 1))).1
def sz (w:List Int) (a:Int):Int:=AG (shp w a)
def BZ (t:List Rg) (a:Int):Prop:=0<=a/\(rv t (a / 16)).kind = 4
theorem UF (v:Int):0<=(AS v).1.refs/\(AS v).1.refs<=4/\0<=(AS v).1.nums/\(AS v).1.nums<=4:=by
 unfold AS;split
 .simp only[];omega
 .simp[V2]
theorem Mm {s:Shp} (h:0<=s.refs/\s.refs<=4/\0<=s.nums/\s.nums<=4):AG s = 2 + s.refs + s.nums:=by
 unfold AG;rw[if_pos (by simp[BM];omega)]
theorem Ft (w:List Int) (a:Int):sz w a = 2 + (shp w a).refs + (shp w a).nums/\0<=(shp w a).refs/\(shp w a).refs<=4/\0<=(shp w a).nums/\(shp w a).nums<=4:=by
 have h:=UF (wv w (a + 1));exact⟨Mm h,h⟩
theorem EH {w w' : List Int} {a:Int} (h:wv w' (a + 1) = wv w (a + 1)):shp w' a = shp w a:=by unfold shp;rw[h]
theorem HU {w w' : List Int} {a:Int} (h:wv w' (a + 1) = wv w (a + 1)):sz w' a = sz w a:=by unfold sz;rw[EH h]
structure Geo (w:List Int) (t:List Rg) (B:Int->Prop):Prop where
 len:(w.length:Int) = 16 * t.length
 ok:TOk t
 at_:∀a,B a->16<=a/\a + sz w a<=(rv t (a / 16)).top/\(AS (wv w (a + 1))).2 = true
 nx:∀a,B a->a + sz w a = (rv t (a / 16)).top\/B (a + sz w a)
 bs:∀r:Int,1<=r->r < t.length->(rv t r).top = 16 * r\/B (16 * r)
 dj:∀a b,B a->B b->a < b->a + sz w a<=b
theorem Geo.inn {w:List Int} {t:List Rg} {B:Int->Prop} (G:Geo w t B) {a:Int} (h:B a):16<=a/\1<=a / 16/\a / 16 < t.length/\a + sz w a<=(rv t (a / 16)).top/\(rv t (a / 16)).top<=16 * (a / 16) + 16/\a + sz w a<=w.length/\2<=sz w a/\sz w a<=10:=by
 obtain⟨x,j,_⟩:=G.at_ a h;have y:=Ft w a;have hl:=G.len;by_cases c:a / 16 < t.length
 .have:=(G.ok.row (a / 16) Z c).t1;exact⟨x,Z,c,j,this,Z,Z,Z⟩
 .rw[Dc Z Z] at j;simp only[Db] at j;omega
structure X where
 w:List Int
 t:List Rg
 m:List Bool
 ph:Int
 sk:List Int
 old:List Int
 AI:List Int
 B:Int->Prop
 L:Int->Prop
 q:Int->Int
 r0:Int->Prop
def X.tm (x:X) (a:Int):Int:=(rv x.t (a / 16)).BA
def Lg (x:X) (v:Int):Prop:=v = 0\/mv x.m v = true\/v∈x.sk\/v∈x.old\/(0<=v/\x.tm v<=v)
open Classical in
noncomputable def cnt (x:X) (r:Int):Nat:=(List.range 16).countP λ(k:Nat)=>decide (∃a,0<=a/\mv x.m a = true/\a<=16 * r + (k:Int)/\16 * r + (k:Int) < a + sz x.w a)
structure Mp (x:X):Prop where
 sk:∀a∈x.sk,x.L a
 old:∀a∈x.old,x.L a
 mn:∀Y:Int->Prop,(∀a,x.r0 a->Y a)->(∀a j,x.L a->a < x.tm a->Y a->0<=j->j < (shp x.w a).refs->x.q (a + 2 + j)≠0->Y (x.q (a + 2 + j)))->∀a,x.L a->a < x.tm a->Y a
 l0:∀a,x.r0 a->x.L a/\a < x.tm a/\Lg x a
 ql:∀a j,x.L a->a < x.tm a->0<=j->j < (shp x.w a).refs->x.q (a + 2 + j)≠0->x.L (x.q (a + 2 + j))/\x.q (a + 2 + j) < x.tm (x.q (a + 2 + j))
 un:∀a j,x.L a->a < x.tm a->0<=j->j < (shp x.w a).refs->wv x.w (a + 2 + j) = x.q (a + 2 + j)\/Lg x (x.q (a + 2 + j))
 cov:∀r:Int,1<=r->r < x.t.length->(rv x.t r).AJ = cnt x r
structure Sh (x:X):Prop where
 g:Geo x.w x.t x.B
 lb:∀a,x.L a->x.B a
 rf:∀a j,x.L a->0<=j->j < (shp x.w a).refs->wv x.w (a + 2 + j)≠0->x.L (wv x.w (a + 2 + j))
 st:∀a,x.B a->¬ BZ x.t a->wv x.w a = a
 fw:∀a,x.B a->BZ x.t a->wv x.w a≠a->x.L (wv x.w a)/\¬ BZ x.t (wv x.w a)/\wv x.w (wv x.w a + 1) = wv x.w (a + 1)
 ml:x.m.length = x.w.length
 mt:∀a,0<=a->mv x.m a = true->x.L a/\a < x.tm a
 ph:0<=x.ph/\x.ph<=3
 nf:x.ph<=1->∀r:Int,0<=r->(rv x.t r).kind≠4
 lm:2<=x.ph->∀a,x.L a->a < x.tm a->mv x.m a = true
 pl:∀a∈x.AI,x.L a/\¬ BZ x.t a
 fm:∀a,x.L a->BZ x.t a->mv x.m a = true
 nb:1<=x.ph->∀a,x.B a->x.tm a<=a->x.L a
 af:x.ph = 3->∀a,x.L a->BZ x.t a->wv x.w a≠a
 mp:x.ph = 1->Mp x
structure Kp (o:Int) (x y:X):Prop where
 wl:y.w.length = x.w.length
 tl:y.t.length = x.t.length
 ph:y.ph = x.ph
 l:∀a,x.L a->y.L a
 b:∀a,x.B a->y.B a
 lf:∀a,y.L a->BZ y.t a->x.L a
 fr:∀r:Int,0<=r->((rv y.t r).kind = 4↔(rv x.t r).kind = 4)
 tm:∀r:Int,0<=r->(rv y.t r).BA = (rv x.t r).BA
 own:∀r:Int,0<=r->(rv x.t r).kind = 2->(rv x.t r).AX≠o->((rv y.t r).kind = 2/\(rv y.t r).AX = (rv x.t r).AX/\(rv y.t r).top = (rv x.t r).top)/\∀z,(rv x.t r).top<=z->z < 16 * r + 16->wv y.w z = wv x.w z
 sh:∀a,x.B a->wv y.w (a + 1) = wv x.w (a + 1)
 bd:∀a z,x.L a->BZ x.t a->a < z->z < a + sz x.w a->wv y.w z = wv x.w z
 fwd:∀a,x.B a->wv x.w a≠a->wv y.w a = wv x.w a
 lg:x.ph = 1->∀v,Lg x v->Lg y v
 q:y.q = x.q
 cl:x.ph = 3->∀a j,y.L a->¬ BZ y.t a->0<=j->j < (shp y.w a).refs->BZ y.t (wv y.w (a + 2 + j))->x.L a/\wv x.w (a + 2 + j) = wv y.w (a + 2 + j)
theorem Kp.refl (o:Int) (x:X):Kp o x x:=
 ⟨rfl,rfl,rfl,λ_ h=>h,λ_ h=>h,λ_ h _=>h,λ_ _=>Iff.rfl,λ_ _=>rfl,λ_ _ h _=>⟨⟨h,rfl,rfl⟩,λ_ _ _=>rfl⟩,λ_ _=>rfl,λ_ _ _ _ _ _=>rfl,λ_ _ _=>rfl,λ_ _ h=>h,rfl,λ_ _ _ h _ _ _ _=>⟨h,rfl⟩⟩
theorem Kp.frm {o:Int} {x y:X} (K:Kp o x y) {a:Int}:BZ y.t a↔BZ x.t a:=
 ⟨λh=>⟨h.1,(K.fr (a / 16) (by have:=h.1;omega)).1 h.2⟩,λh=>⟨h.1,(K.fr (a / 16) (by have:=h.1;omega)).2 h.2⟩⟩
theorem Kp.trans {o:Int} {x y z:X} (K:Kp o x y) (A : Kp o y z) (H:Sh x) (H' : Sh y):Kp o x z where
 wl:=by rw[A.wl,K.wl]
 tl:=by rw[A.tl,K.tl]
 ph:=by rw[A.ph,K.ph]
 l a h:=A.l a (K.l a h)
 b a h:=A.b a (K.b a h)
 lf a h h':=K.lf a (A.lf a h h') (A.frm.1 h')
 fr r h:=(A.fr r h).trans (K.fr r h)
 tm r h:=(A.tm r h).trans (K.tm r h)
 own r h hk ho:=by
  obtain⟨⟨e1,R,T⟩,f⟩:=K.own r h hk ho;obtain⟨⟨N,O,Q⟩,f'⟩:=A.own r h e1 (by rw[R];exact ho);refine⟨⟨N,by rw[O,R],by rw[Q,T]⟩,λu G D=>?_⟩;rw[f' u (by rw[T];exact G) D,f u G D]
 sh a h:=(A.sh a (K.b a h)).trans (K.sh a h)
 bd a u h hf G D:=by
  rw[A.bd a u (K.l a h) (K.frm.2 hf) G (by rw[HU (K.sh a (H.lb a h))];exact D)];exact K.bd a u h hf G D
 fwd a h h':=by
  have e:=K.fwd a h h';rw[A.fwd a (K.b a h) (by rw[e];exact h'),e]
 lg hp v hv:=A.lg (by rw[K.ph];exact hp) v (K.lg hp v hv)
 q:=by rw[A.q,K.q]
 cl hp a j G D h3 h4 h5:=by
  obtain⟨W,g2⟩:=A.cl (by rw[K.ph];exact hp) a j G D h3 h4 h5;have e:=EH (A.sh a (H'.lb a W));rw[e] at h4;rw[<- g2] at h5;obtain⟨f1,f2⟩:=K.cl hp a j W (λh=>D (A.frm.2 h)) h3 h4 (A.frm.1 h5);exact⟨f1,by rw[f2,g2]⟩
end Sm
end
section
namespace Sm
structure Ow (x:X) (o dst size:Int):Prop where
 d0:16<=dst
 k:(rv x.t (dst / 16)).kind = 2
 o:(rv x.t (dst / 16)).AX = o
 top:(rv x.t (dst / 16)).top = dst
 fit:dst + size<=16 * (dst / 16) + 16
theorem Ow.inn {x:X} {o dst size:Int} (O:Ow x o dst size):dst / 16 < x.t.length:=by
 by_cases c:dst / 16 < x.t.length
 .exact c
 .have:=O.k;rw[Dc (by have:=O.d0;omega) Z] at this;cases this
theorem Ow.wl {x:X} {o dst size:Int} (O:Ow x o dst size) (G:Geo x.w x.t x.B):dst + size<=x.w.length:=by
 have j:=O.inn;have y:=G.len;have A:=O.fit;omega
theorem Ow.stable {o p:Int} {x y:X} {dst size:Int} (O:Ow x o dst size) (K:Kp p x y) (H:p≠o):Ow y o dst size/\∀z,dst<=z->z < dst + size->wv y.w z = wv x.w z:=by
 have h0:=O.d0;obtain⟨⟨j,A,D⟩,f⟩:=K.own (dst / 16) Z O.k (by rw[O.o];exact H.symm);refine⟨⟨O.d0,j,by rw[A];exact O.o,by rw[D];exact O.top,O.fit⟩,λz G N=>f z (by rw[O.top];exact G) ?_⟩;have:=O.fit;omega
theorem sep {w:List Int} {t:List Rg} {B:Int->Prop} (G:Geo w t B) {a b k l:Int} (j:B a) (hb:B b) (k0:0<=k) (k1:k < sz w a) (l0:0<=l) (l1:l < sz w b) (h:a + k = b + l):a = b/\k = l:=by
 rcases Int.lt_trichotomy a b with c | c | c
 .have:=G.dj a b j hb c;omega
 .omega
 .have:=G.dj b a hb j c;omega
theorem Ow.sep {x:X} {o dst size z:Int} (O:Ow x o dst size) (G:Geo x.w x.t x.B) (W:dst<=z) (h2:z < dst + size) {a k:Int} (y:x.B a) (k0:0<=k) (k1:k < sz x.w a):a + k≠z:=by
 intro h;obtain⟨D,H,K,j,N,Q,R,T⟩:=G.inn y;have A:=O.fit;have e0:=O.d0;have:a / 16 = dst / 16:=Z
 rw[this,O.top] at j;omega
theorem U5 {x y:X} (G:y.m = x.m) (H:∀a,0<=a->mv x.m a = true->sz y.w a = sz x.w a) (r:Int):cnt y r = cnt x r:=by
 unfold cnt;congr 1;funext k;congr 1;apply propext;constructor
 .rintro⟨a,h0,j,A,D⟩;rw[G] at j;exact⟨a,h0,j,A,by rw[<- H a h0 j];exact D⟩
 .rintro⟨a,h0,j,A,D⟩;exact⟨a,h0,by rw[G];exact j,A,by rw[H a h0 j];exact D⟩
theorem Sh.wr {x:X} {w' : List Int} (H:Sh x) (hl:w'.length = x.w.length) (G:∀a,x.B a->wv w' (a + 1) = wv x.w (a + 1)) (a8:∀a,x.B a->¬ BZ x.t a->wv w' a = a)
  (a5:∀a,x.B a->BZ x.t a->wv w' a≠a->x.L (wv w' a)/\¬ BZ x.t (wv w' a)/\wv x.w (wv w' a + 1) = wv x.w (a + 1))
  (a7:∀a j,x.L a->0<=j->j < (shp x.w a).refs->wv w' (a + 2 + j)≠0->x.L (wv w' (a + 2 + j)))
  (a9:x.ph = 1->∀a j,x.L a->a < x.tm a->0<=j->j < (shp x.w a).refs->wv w' (a + 2 + j) = x.q (a + 2 + j)\/Lg x (x.q (a + 2 + j)))
  (a4:x.ph = 3->∀a,x.L a->BZ x.t a->wv w' a≠a):Sh { x with w:=w' }:=by
 have R:∀a,x.B a->sz w' a = sz x.w a:=λa h=>HU (G a h)
 have Q:∀a,x.B a->shp w' a = shp x.w a:=λa h=>EH (G a h)
 have g:=H.g;refine⟨⟨by rw[hl];exact g.len,g.ok,λa h=>?_,λa h=>?_,g.bs,λa b h h' W=>?_⟩,H.lb,λa j h h0 O T=>?_,a8,λa h hf a6=>?_,by rw[hl];exact H.ml,H.mt,H.ph,H.nf,H.lm,H.pl,H.fm,H.nb,a4,λO=>?_⟩
 .obtain⟨a1,a2,a3⟩:=g.at_ a h;exact⟨a1,by rw[R a h];exact a2,by rw[G a h];exact a3⟩
 .rw[R a h];exact g.nx a h
 .rw[R a h];exact g.dj a b h h' W
 .exact a7 a j h h0 (by rw[<- Q a (H.lb a h)];exact O) T
 .obtain⟨b1,b2,b3⟩:=a5 a h hf a6;refine⟨b1,b2,?_⟩;show wv w' (wv w' a + 1) = wv w' (a + 1);rw[G a h,G _ (H.lb _ b1)];exact b3
 .have M:=H.mp O;refine⟨M.sk,M.old,λb0 T h3=>M.mn b0 T λa j A K hy N D hq=>h3 a j A K hy N (by show j < (shp w' a).refs;rw[Q a (H.lb a A)];exact D) hq,M.l0,λa j A K N D=>M.ql a j A K N (by have D:j < (shp w' a).refs:=D;rw[<- Q a (H.lb a A)];exact D),λa j A K N D=>?_,λr r0 r1=>?_⟩
  .exact a9 O a j A K N (by have D:j < (shp w' a).refs:=D;rw[<- Q a (H.lb a A)];exact D)
  .show (rv x.t r).AJ = _;rw[M.cov r r0 r1,U5 (x:=x) (y:={ x with w:=w' }) rfl λa a0 A=>R a (H.lb a (H.mt a a0 A).1)]
theorem X1 {x:X} {o dst size z v:Int} (H:Sh x) (O:Ow x o dst size) (T:dst<=z) (h2:z < dst + size):Sh { x with w:=AT x.w z v }/\Kp o x { x with w:=AT x.w z v }:=by
 have d0:=O.d0;have wl:=O.wl H.g;have e:∀u,0<=u->wv (AT x.w z v) u = if u = z then v else wv x.w u:=λu hu=>Co Z Z hu
 have Q:∀a k,x.B a->0<=k->k < sz x.w a->wv (AT x.w z v) (a + k) = wv x.w (a + k):=λa k h k0 k1=>by
  have:=(H.g.at_ a h).1;rw[e _ Z,if_neg (O.sep H.g T h2 h k0 k1)]
 have N:∀a,x.B a->wv (AT x.w z v) a = wv x.w a:=λa h=>by
  have:=Q a 0 h Z (by have:=H.g.inn h;omega);rwa [Int.add_zero] at this
 have hs:∀a,x.B a->wv (AT x.w z v) (a + 1) = wv x.w (a + 1):=λa h=>Q a 1 h Z (by have:=H.g.inn h;omega)
 have W:∀a j,x.L a->0<=j->j < (shp x.w a).refs->wv (AT x.w z v) (a + 2 + j) = wv x.w (a + 2 + j):=λa j h D y=>by
  have:=Q a (2 + j) (H.lb a h) Z (by have:=Ft x.w a;omega);rwa [<- Int.add_assoc] at this
 refine⟨H.wr V hs (λa h G=>by rw[N a h];exact H.st a h G) (λa h G K=>by rw[N a h] at K ⊢;exact H.fw a h G K) (λa j h D y=>by rw[W a j h D y];exact H.rf a j h D y) (λT a j h ht D y=>by rw[W a j h D y];exact (H.mp T).un a j h ht D y) (λh3 a h G=>by rw[N a (H.lb a h)];exact H.af h3 a h G),?_⟩;refine⟨V,rfl,rfl,λ_ h=>h,λ_ h=>h,λ_ h _=>h,λ_ _=>Iff.rfl,λ_ _=>rfl,λr r0 A ho=>⟨⟨A,rfl,rfl⟩,λu hu a0=>?_⟩,hs,λa u h G u0 u1=>?_,λa h _=>N a h,λ_ _ h=>h,rfl,λ_ a j h G D y _=>⟨h,?_⟩⟩
 .show wv (AT x.w z v) u = wv x.w u;have K:r≠dst / 16:=λc=>by subst c;exact ho O.o
  by_cases c:0<=u
  .rw[e u c,if_neg];intro c2;subst c2;have:=O.fit;have t0:16 * r<=(rv x.t r).top:=by
    by_cases c3:r < x.t.length
    .by_cases R:1<=r
     .exact (H.g.ok.row r R c3).t0
     .have:r = 0:=Z
      subst this;rw[H.g.ok.e] at A;cases A
    .rw[Dc r0 Z] at A;cases A
   omega
  .by_cases c3:r < x.t.length
   .by_cases R:1<=r
    .have:=(H.g.ok.row r R c3).t0;omega
    .have:r = 0:=Z
     subst this;rw[H.g.ok.e] at A;cases A
   .rw[Dc r0 Z] at A;cases A
 .have:=Q a (u - a) (H.lb a h) Z Z;rwa [show a + (u - a) = u from Z] at this
 .have y:j < (shp (AT x.w z v) a).refs:=y;rw[EH (hs a (H.lb a h))] at y;exact (W a j h D y).symm
theorem Yv {x:X} (H:Sh x) {r:Int} (r0:0<=r) (j:(rv x.t r).kind≠0):1<=r/\r < x.t.length:=by
 by_cases c3:r < x.t.length
 .by_cases y:1<=r
  .exact⟨y,c3⟩
  .have:r = 0:=Z
   subst this;rw[H.g.ok.e] at j;exact absurd rfl j
 .rw[Dc r0 Z] at j;exact absurd rfl j
theorem room {x:X} {t' : List Rg} {o size d:Int} (H:Sh x) (P:Ta x.t o size t' d):Sh { x with t:=t' }/\Kp o x { x with t:=t' }/\Ow { x with t:=t' } o d size:=by
 have G:∀a,BZ t' a↔BZ x.t a:=λa=>⟨λh=>⟨h.1,(P.frm (a / 16) (by have:=h.1;omega)).1 h.2⟩,λh=>⟨h.1,(P.frm (a / 16) (by have:=h.1;omega)).2 h.2⟩⟩
 have g:=H.g;have p0:∀a,x.B a->0<=a / 16:=λa h=>by have:=g.inn h;omega
 have Q:∀a,x.B a->X.tm { x with t:=t' } a = x.tm a:=λa h=>P.BA _ (p0 a h)
 have tm:∀a,x.L a->X.tm { x with t:=t' } a = x.tm a:=λa h=>Q a (H.lb a h)
 have lg:∀v,Lg x v->Lg { x with t:=t' } v:=λv h=>h.imp id λh=>h.imp id λh=>h.imp id λh=>h.imp id λh=>⟨h.1,by have:=P.BA (v / 16) (by have:=h.1;omega);have h2:x.tm v<=v:=h.2;show (rv t' (v / 16)).BA<=v;rw[this];exact h2⟩
 refine⟨⟨⟨by rw[P.len];exact g.len,P.ok,λa h=>?_,λa h=>?_,λr r0 r1=>?_,g.dj⟩,H.lb,H.rf,λa h hn=>H.st a h λc=>hn ((G a).2 c),λa h D a1=>?_,H.ml,λa a0 h=>?_,H.ph,λK r r0 T=>H.nf K r r0 ((P.frm r r0).1 T),λK a h y=>?_,λa h=>⟨(H.pl a h).1,λc=>(H.pl a h).2 ((G a).1 c)⟩,λa h D=>H.fm a h ((G a).1 D),λh1 a h y=>H.nb h1 a h (by rw[<- Q a h];exact y),λh3 a h D=>H.af h3 a h ((G a).1 D),λK=>?_⟩,?_,P.d0,P.dk,P.do_,P.dt,P.fit⟩
 .rw[P.top _ (p0 a h)];exact g.at_ a h
 .rw[P.top _ (p0 a h)];exact g.nx a h
 .rw[P.top r Z];exact g.bs r r0 (by rw[<- P.len];exact r1)
 .obtain⟨R,W,b3⟩:=H.fw a h ((G a).1 D) a1;exact⟨R,λc=>W ((G _).1 c),b3⟩
 .obtain⟨R,W⟩:=H.mt a a0 h;exact⟨R,by rw[tm a R];exact W⟩
 .rw[tm a h] at y;exact H.lm K a h y
 .have M:=H.mp K;refine⟨M.sk,M.old,λa2 h2 h3 a A y=>M.mn a2 h2 (λa j A y hy N O hq=>h3 a j A (by rw[tm a A];exact y) hy N O hq) a A (by rw[tm a A] at y;exact y),λa h=>⟨(M.l0 a h).1,by rw[tm a (M.l0 a h).1];exact (M.l0 a h).2.1,lg a (M.l0 a h).2.2⟩,λa j A y N O hq=>by
   obtain⟨q1,q2⟩:=M.ql a j A (by rw[tm a A] at y;exact y) N O hq
   exact⟨q1,by rw[tm _ q1];exact q2⟩,λa j A y N O=>(M.un a j A (by rw[tm a A] at y;exact y) N O).imp id (lg _),λr r0 r1=>?_⟩
  show (rv t' r).AJ = _;rw[P.AJ r Z];exact M.cov r r0 (by rw[<- P.len];exact r1)
 .refine⟨rfl,P.len,rfl,λ_ h=>h,λ_ h=>h,λ_ h _=>h,P.frm,P.BA,λr r0 T ho=>⟨by rw[show rv ({ x with t:=t' }:X).t r = rv x.t r from P.oth r r0 T ho];exact⟨T,rfl,rfl⟩,λ_ _ _=>rfl⟩,λ_ _=>rfl,λ_ _ _ _ _ _=>rfl,λ_ _ _=>rfl,λ_=>lg,rfl,λ_ a j h _ _ _ _=>⟨h,rfl⟩⟩
def X.pub (x:X) (dst size:Int):X:={ x with t:=AT x.t (dst / 16) { rv x.t (dst / 16) with top:=dst + size },B:=λa=>x.B a\/a = dst,L:=λa=>x.L a\/a = dst }
theorem pub {x:X} {o dst size:Int} (H:Sh x) (O:Ow x o dst size) (hz:sz x.w dst = size) (h2:(AS (wv x.w (dst + 1))).2 = true) (hh:wv x.w dst = dst)
  (hr:∀j,0<=j->j < (shp x.w dst).refs->wv x.w (dst + 2 + j)≠0->x.L (wv x.w (dst + 2 + j)))
  (hc:x.ph = 3->∀j,0<=j->j < (shp x.w dst).refs->¬ BZ x.t (wv x.w (dst + 2 + j))):Sh (x.pub dst size)/\Kp o x (x.pub dst size):=by
 have d0:=O.d0;have inn:=O.inn;have fit:=O.fit;have s2:=Ft x.w dst;have g:=H.g;have R:=g.ok.row (dst / 16) Z inn;have top:=O.top;have e:∀r,0<=r->rv (x.pub dst size).t r = if r = dst / 16 then { rv x.t (dst / 16) with top:=dst + size } else rv x.t r:=λr r0=>DA Z inn r0
 have ek:∀r,0<=r->(rv (x.pub dst size).t r).kind = (rv x.t r).kind:=λr r0=>by
  rw[e r r0];split
  .subst r;rfl
  .rfl
 have et:∀r,0<=r->(rv (x.pub dst size).t r).BA = (rv x.t r).BA:=λr r0=>by
  rw[e r r0];split
  .subst r;rfl
  .rfl
 have el:∀r,0<=r->(rv (x.pub dst size).t r).AJ = (rv x.t r).AJ:=λr r0=>by
  rw[e r r0];split
  .subst r;rfl
  .rfl
 have eo:∀r,0<=r->(rv (x.pub dst size).t r).AX = (rv x.t r).AX:=λr r0=>by
  rw[e r r0];split
  .subst r;rfl
  .rfl
 have ep:∀r,0<=r->(rv (x.pub dst size).t r).top = if r = dst / 16 then dst + size else (rv x.t r).top:=λr r0=>by
  rw[e r r0];split
  .rfl
  .rfl
 have K:∀a,BZ (x.pub dst size).t a↔BZ x.t a:=λa=>⟨λh=>⟨h.1,by have:=h.1;have:=h.2;rw[ek _ Z] at this;exact this⟩,λh=>⟨h.1,by have:=h.1;rw[ek _ Z];exact h.2⟩⟩
 have T:¬ BZ x.t dst:=λc=>by have:=c.2;rw[O.k] at this;cases this
 have lt:x.tm dst<=dst:=by have:=R.s1;rw[top] at this;exact this
 have tm:∀a,0<=a->(x.pub dst size).tm a = x.tm a:=λa h=>et _ Z
 have lg:∀v,Lg x v->Lg (x.pub dst size) v:=λv h=>h.imp id λh=>h.imp id λh=>h.imp id λh=>h.imp id λh=>⟨h.1,by rw[tm v h.1];exact h.2⟩
 have len:(x.pub dst size).t.length = x.t.length:=by simp[X.pub]
 have nb:∀a,x.B a->a / 16 = dst / 16->a + sz x.w a<=dst:=λa h c=>by
  have:=(g.at_ a h).2.1;rw[c,top] at this;exact this
 refine⟨⟨⟨by rw[len];exact g.len,?_,?_,?_,?_,?_⟩,?_,?_,?_,?_,H.ml,?_,H.ph,λW r r0 hk=>H.nf W r r0 (by rw[ek r r0] at hk;exact hk),?_,?_,?_,?_,?_,?_⟩,?_⟩
 .refine TOk.set g.ok Z inn ⟨R.k0,R.k1,?_,?_,R.s0,?_,R.l0,?_,λh=>?_,R.ow,R.o0,R.o1⟩ λs s0 s1 D ho he=>D (g.ok.own s (dst / 16) s0 s1 Z inn (by rw[he];exact ho) he)
  .show 16 * (dst / 16)<=dst + size;omega
  .show dst + size<=_;omega
  .have:=R.s1;show (rv x.t (dst / 16)).BA<=dst + size;omega
  .have:=R.l1;show (rv x.t (dst / 16)).AJ<=dst + size - 16 * (dst / 16);omega
  .exact absurd (O.k.symm.trans h) δ
 .rintro a (h | h)
  .obtain⟨a1,a2,a3⟩:=g.at_ a h;refine⟨a1,?_,a3⟩;rw[ep _ Z];show a + sz x.w a<=_;split
   .have:=nb a h (by assumption);omega
   .exact a2
  .subst h;refine⟨d0,?_,h2⟩;rw[ep _ Z,if_pos rfl];show a + sz x.w a<=_;omega
 .rintro a (h | h)
  .have a1:=(g.at_ a h).1;rw[ep _ Z];show a + sz x.w a = _\/(x.B (a + sz x.w a)\/a + sz x.w a = dst);rcases g.nx a h with c | c
   .split
    .rename_i c2;rw[c2,top] at c;exact .inr (.inr c)
    .exact .inl c
   .exact .inr (.inl c)
  .subst h;left;rw[ep _ Z,if_pos rfl];show a + sz x.w a = _;rw[hz]
 .intro r r0 r1;rw[len] at r1;rw[ep r Z];rcases g.bs r r0 r1 with c | c
  .split
   .rename_i c2;rw[c2,top] at c;right;right;rw[c2];omega
   .exact .inl c
  .exact .inr (.inl c)
 .rintro a b (h | h) (h' | h') a4
  .exact g.dj a b h h' a4
  .subst h';show a + sz x.w a<=b;by_cases c:a / 16 = b / 16
   .exact nb a h c
   .have:=g.inn h;omega
  .subst h;show a + sz x.w a<=b;by_cases c:b / 16 = a / 16
   .have:=nb b h' c;have:=g.inn h';omega
   .omega
  .omega
 .rintro a (h | h)
  .exact .inl (H.lb a h)
  .exact .inr h
 .rintro a j (h | h) N Q D
  .exact .inl (H.rf a j h N Q D)
  .subst h;exact .inl (hr j N Q D)
 .rintro a (h | h) hn
  .exact H.st a h λc=>hn ((K a).2 c)
  .subst h;exact hh
 .rintro a (h | h) y D
  .obtain⟨b1,b2,b3⟩:=H.fw a h ((K a).1 y) D;exact⟨.inl b1,λc=>b2 ((K _).1 c),b3⟩
  .subst h;exact absurd ((K a).1 y) T
 .intro a a0 h;obtain⟨b1,b2⟩:=H.mt a a0 h;exact⟨.inl b1,by rw[tm a a0];exact b2⟩
 .rintro W a (h | h) A
  .rw[tm a (by have:=(g.at_ a (H.lb a h)).1;omega)] at A;exact H.lm W a h A
  .subst h;rw[tm a Z] at A;omega
 .intro a h;exact⟨.inl (H.pl a h).1,λc=>(H.pl a h).2 ((K a).1 c)⟩
 .rintro a (h | h) y
  .exact H.fm a h ((K a).1 y)
  .subst h;exact absurd ((K a).1 y) T
 .rintro h1 a (h | h) A
  .left;rw[tm a (by have:=(g.at_ a h).1;omega)] at A;exact H.nb h1 a h A
  .exact .inr h
 .rintro h3 a (h | h) y
  .exact H.af h3 a h ((K a).1 y)
  .subst h;exact absurd ((K a).1 y) T
 .intro W;have M:=H.mp W;have back:∀a,(x.pub dst size).L a->a < (x.pub dst size).tm a->x.L a/\a < x.tm a:=by
   rintro a (h | h) A
   .rw[tm a (by have:=(g.at_ a (H.lb a h)).1;omega)] at A;exact⟨h,A⟩
   .subst h;rw[tm a Z] at A;omega
  refine⟨λa h=>.inl (M.sk a h),λa h=>.inl (M.old a h),λa5 h2 h3 a G A=>?_,λa h=>⟨.inl (M.l0 a h).1,by rw[tm a (by have:=(g.at_ a (H.lb a (M.l0 a h).1)).1;omega)];exact (M.l0 a h).2.1,lg a (M.l0 a h).2.2⟩,λa j G A N Q hq=>?_,λa j G A N Q=>(M.un a j (back a G A).1 (back a G A).2 N Q).imp id (lg _),λr r0 r1=>?_⟩
  .exact M.mn a5 h2 (λa j G A hy N Q hq=>h3 a j (.inl G) (by rw[tm a (by have:=(g.at_ a (H.lb a G)).1;omega)];exact A) hy N Q hq) a (back a G A).1 (back a G A).2
  .obtain⟨q1,q2⟩:=M.ql a j (back a G A).1 (back a G A).2 N Q hq;have q0:16<=x.q (a + 2 + j):=(g.at_ _ (H.lb _ q1)).1;exact⟨.inl q1,by rw[show (x.pub dst size).tm ((x.pub dst size).q (a + 2 + j)) = x.tm (x.q (a + 2 + j)) from tm (x.q (a + 2 + j)) Z];exact q2⟩
  .rw[el r Z];exact M.cov r r0 (by rw[<- len];exact r1)
 .refine⟨rfl,len,rfl,λ_ h=>.inl h,λ_ h=>.inl h,?_,λr r0=>by rw[ek r r0],et,λr r0 hk ho=>⟨⟨by rw[ek r r0];exact hk,eo r r0,?_⟩,λ_ _ _=>rfl⟩,λ_ _=>rfl,λ_ _ _ _ _ _=>rfl,λ_ _ _=>rfl,λ_=>lg,rfl,?_⟩
  .rintro a (h | h) y
   .exact h
   .subst h;exact absurd ((K a).1 y) T
  .rw[ep r r0,if_neg];intro c;subst c;exact ho O.o
  .rintro W a j (h | h) hn N Q y
   .exact⟨h,rfl⟩
   .subst h;exact absurd ((K _).1 y) (hc W j N Q)
theorem Te {x:X} (H:Sh x) {r z:Int} (r0:0<=r) (A:(rv x.t r).kind = 2) (T:(rv x.t r).top<=z) (W:z < 16 * r + 16):16<=z/\z / 16 = r/\∀a k,x.B a->0<=k->k < sz x.w a->a + k≠z:=by
 obtain⟨c1,c2⟩:=Yv H r0 (by rw[A];decide);have t0:=(H.g.ok.row r c1 c2).t0;refine⟨Z,Z,λa k y k0 k1 h=>?_⟩;obtain⟨D,G,K,j,N,O,Q,R⟩:=H.g.inn y;have:a / 16 = r:=Z
 rw[this] at j;omega
theorem fwd {x:X} {o src dst:Int} (H:Sh x) (T:x.L src) (hf:BZ x.t src) (hw:wv x.w src = src) (hd:x.L dst) (hn:¬ BZ x.t dst) (he:wv x.w (dst + 1) = wv x.w (src + 1)) (h3:x.ph≠3):Sh { x with w:=AT x.w src dst }/\Kp o x { x with w:=AT x.w src dst }:=by
 obtain⟨g1,g2,g3,g4,g5,g6,g7,g8⟩:=H.g.inn (H.lb _ T);have e:∀u,0<=u->wv (AT x.w src dst) u = if u = src then dst else wv x.w u:=λu W=>Co Z Z W
 have Q:∀a k,x.B a->1<=k->k < sz x.w a->wv (AT x.w src dst) (a + k) = wv x.w (a + k):=λa k h k0 k1=>by
  have:=(H.g.at_ a h).1;rw[e _ Z,if_neg];intro c;have:=sep H.g h (H.lb _ T) (k:=k) (l:=0) Z k1 Z Z Z;omega
 have hz:∀a,x.B a->wv (AT x.w src dst) (a + 1) = wv x.w (a + 1):=λa h=>Q a 1 h Z (by have:=H.g.inn h;omega)
 have hr:∀a j,x.L a->0<=j->j < (shp x.w a).refs->wv (AT x.w src dst) (a + 2 + j) = wv x.w (a + 2 + j):=λa j h A D=>by
  have:=Q a (2 + j) (H.lb a h) Z (by have:=Ft x.w a;omega);rwa [<- Int.add_assoc] at this
 have O:∀a,x.B a->a≠src->wv (AT x.w src dst) a = wv x.w a:=λa h c=>by
  have:=(H.g.at_ a h).1;rw[e _ Z,if_neg c]
 refine⟨H.wr V hz (λa h K=>?_) (λa h N y=>?_) (λa j h A D=>by rw[hr a j h A D];exact H.rf a j h A D) (λh1 a j h ht A D=>by rw[hr a j h A D];exact (H.mp h1).un a j h ht A D) (λR=>absurd R h3),?_⟩
 .by_cases c:a = src
  .subst c;exact absurd hf K
  .rw[O a h c];exact H.st a h K
 .by_cases c:a = src
  .subst c;rw[e _ Z,if_pos rfl];exact⟨hd,hn,he⟩
  .rw[O a h c] at y ⊢;exact H.fw a h N y
 .refine⟨V,rfl,rfl,λ_ h=>h,λ_ h=>h,λ_ h _=>h,λ_ _=>Iff.rfl,λ_ _=>rfl,λr r0 G ho=>⟨⟨G,rfl,rfl⟩,λu W a0=>?_⟩,hz,λa u h _ u0 u1=>?_,λa h y=>?_,λ_ _ h=>h,rfl,λR=>absurd R h3⟩
  .obtain⟨c1,_,c3⟩:=Te H r0 G W a0;show wv (AT x.w src dst) u = wv x.w u;rw[e u Z,if_neg];intro c;exact c3 src 0 (H.lb _ T) Z Z Z
  .have:=Q a (u - a) (H.lb a h) Z Z;rwa [show a + (u - a) = u from Z] at this
  .refine O a h λc=>?_
   subst c;exact y hw
theorem X6 {x:X} {a k v:Int} (H:Sh x) (j:x.L a) (k0:2<=k) (k1:k < sz x.w a) :
  (∀b,x.B b->wv (AT x.w (a + k) v) b = wv x.w b)/\(∀b,x.B b->wv (AT x.w (a + k) v) (b + 1) = wv x.w (b + 1))/\
  (∀b l,x.B b->0<=l->l < sz x.w b->wv (AT x.w (a + k) v) (b + l) = if b = a/\l = k then v else wv x.w (b + l))/\
  (∀r u:Int,0<=r->(rv x.t r).kind = 2->(rv x.t r).top<=u->u < 16 * r + 16->wv (AT x.w (a + k) v) u = wv x.w u):=by
 obtain⟨K,N,O,Q,R,T,W,g8⟩:=H.g.inn (H.lb _ j);have e:∀u,0<=u->wv (AT x.w (a + k) v) u = if u = a + k then v else wv x.w u:=λu D=>Co Z Z D
 have y:∀b l,x.B b->0<=l->l < sz x.w b->wv (AT x.w (a + k) v) (b + l) = if b = a/\l = k then v else wv x.w (b + l):=λb l hb l0 l1=>by
  have:=(H.g.at_ b hb).1;rw[e _ Z];by_cases c:b + l = a + k
  .obtain⟨c1,c2⟩:=sep H.g hb (H.lb _ j) l0 l1 Z k1 c;rw[if_pos c,if_pos ⟨c1,c2⟩]
  .rw[if_neg c,if_neg (by rintro⟨rfl,rfl⟩;exact c rfl)]
 refine⟨λb hb=>?_,λb hb=>?_,y,λr u r0 A D G=>?_⟩
 .have:=y b 0 hb Z (by have:=H.g.inn hb;omega);rw[if_neg Z,Int.add_zero] at this;exact this
 .have:=y b 1 hb Z (by have:=H.g.inn hb;omega);rw[if_neg Z] at this;exact this
 .obtain⟨c1,_,c3⟩:=Te H r0 A D G;rw[e u Z,if_neg];intro c;exact c3 a k (H.lb _ j) Z Z c.symm
theorem num {x:X} {o a k v:Int} (H:Sh x) (ha:x.L a) (hn:¬ BZ x.t a) (k0:2 + (shp x.w a).refs<=k) (k1:k < sz x.w a):Sh { x with w:=AT x.w (a + k) v }/\Kp o x { x with w:=AT x.w (a + k) v }:=by
 have s:=Ft x.w a;obtain⟨N,R,T,ho⟩:=X6 (v:=v) H ha Z k1;have O:∀b j,x.L b->0<=j->j < (shp x.w b).refs->wv (AT x.w (a + k) v) (b + 2 + j) = wv x.w (b + 2 + j):=λb j h D y=>by
  have:=T b (2 + j) (H.lb b h) Z (by have:=Ft x.w b;omega);rw[<- Int.add_assoc] at this;rw[this,if_neg];rintro⟨rfl,c⟩;omega
 refine⟨H.wr V R (λb h A=>by rw[N b h];exact H.st b h A) (λb h A K=>by rw[N b h] at K ⊢;exact H.fw b h A K) (λb j h D y=>by rw[O b j h D y];exact H.rf b j h D y) (λW b j h ht D y=>by rw[O b j h D y];exact (H.mp W).un b j h ht D y) (λhp b h A=>by rw[N b (H.lb b h)];exact H.af hp b h A),?_⟩;refine⟨V,rfl,rfl,λ_ h=>h,λ_ h=>h,λ_ h _=>h,λ_ _=>Iff.rfl,λ_ _=>rfl,λr r0 G _=>⟨⟨G,rfl,rfl⟩,λu hu Q=>ho r u r0 G hu Q⟩,R,λb u h A u0 u1=>?_,λb h _=>N b h,λ_ _ h=>h,rfl,λ_ b j h A D y _=>⟨h,?_⟩⟩
 .have:=T b (u - b) (H.lb b h) Z Z;rw[show b + (u - b) = u from Z,if_neg] at this
  .exact this
  .rintro⟨rfl,_⟩;exact hn A
 .have y:j < (shp (AT x.w (a + k) v) b).refs:=y;rw[EH (R b (H.lb b h))] at y;exact (O b j h D y).symm
theorem ref {x:X} {o a j v:Int} (H:Sh x) (ha:x.L a) (hn:¬ BZ x.t a) (j0:0<=j) (j1:j < (shp x.w a).refs) (hv:v≠0->x.L v) (h1:x.ph = 1->a < x.tm a->Lg x (x.q (a + 2 + j))) (h3:x.ph = 3->¬ BZ x.t v) :
  Sh { x with w:=AT x.w (a + 2 + j) v }/\Kp o x { x with w:=AT x.w (a + 2 + j) v }:=by
 have s:=Ft x.w a;rw[Int.add_assoc];obtain⟨N,R,T,ho⟩:=X6 (k:=2 + j) (v:=v) H ha Z Z;have O:∀b i,x.L b->0<=i->i < (shp x.w b).refs->wv (AT x.w (a + (2 + j)) v) (b + 2 + i) = if b = a/\i = j then v else wv x.w (b + 2 + i):=λb i h i0 i1=>by
  have:=T b (2 + i) (H.lb b h) Z (by have:=Ft x.w b;omega);rw[show b + (2 + i) = b + 2 + i from Z] at this;rw[this];by_cases c:b = a/\i = j
  .rw[if_pos c,if_pos ⟨c.1,Z⟩]
  .rw[if_neg c,if_neg (λc'=>c ⟨c'.1,Z⟩)]
 refine⟨H.wr V R (λb h A=>by rw[N b h];exact H.st b h A) (λb h A K=>by rw[N b h] at K ⊢;exact H.fw b h A K) (λb i h i0 i1=>?_) (λD b i h W i0 i1=>?_) (λD b h A=>by rw[N b (H.lb b h)];exact H.af D b h A),?_⟩
 .rw[O b i h i0 i1];split
  .exact hv
  .exact H.rf b i h i0 i1
 .rw[O b i h i0 i1];split
  .rename_i c;obtain⟨rfl,rfl⟩:=c;exact .inr (h1 D W)
  .exact (H.mp D).un b i h W i0 i1
 .refine⟨V,rfl,rfl,λ_ h=>h,λ_ h=>h,λ_ h _=>h,λ_ _=>Iff.rfl,λ_ _=>rfl,λr r0 G _=>⟨⟨G,rfl,rfl⟩,λu hu Q=>ho r u r0 G hu Q⟩,R,λb u h A u0 u1=>?_,λb h _=>N b h,λ_ _ h=>h,rfl,λD b i h A i0 i1 y=>⟨h,?_⟩⟩
  .have:=T b (u - b) (H.lb b h) Z Z;rw[show b + (u - b) = u from Z,if_neg] at this
   .exact this
   .rintro⟨rfl,_⟩;exact hn A
  .have i1:i < (shp (AT x.w (a + (2 + j)) v) b).refs:=i1;rw[EH (R b (H.lb b h))] at i1;have e:=O b i h i0 i1;show wv x.w (b + 2 + i) = wv (AT x.w (a + (2 + j)) v) (b + 2 + i);have y:BZ x.t (wv (AT x.w (a + (2 + j)) v) (b + 2 + i)):=y;rw[e] at y ⊢;split
   .rename_i c;rw[if_pos c] at y;exact absurd y (h3 D)
   .rfl
theorem bf {x:X} {o:Int} {l:List Int} (H:Sh x) (hl:∀v∈l,x.L v) (y:∀v∈x.old,v∈l):Sh { x with old:=l }/\Kp o x { x with old:=l }:=by
 have lg:∀v,Lg x v->Lg { x with old:=l } v:=λv h=>by
  rcases h with h | h | h | h | h
  .exact .inl h
  .exact .inr (.inl h)
  .exact .inr (.inr (.inl h))
  .exact .inr (.inr (.inr (.inl (y v h))))
  .exact .inr (.inr (.inr (.inr h)))
 refine⟨⟨H.g,H.lb,H.rf,H.st,H.fw,H.ml,H.mt,H.ph,H.nf,H.lm,H.pl,H.fm,H.nb,H.af,λA=>?_⟩,?_⟩
 .have M:=H.mp A;exact⟨M.sk,hl,M.mn,λa h=>⟨(M.l0 a h).1,(M.l0 a h).2.1,lg _ (M.l0 a h).2.2⟩,M.ql,λa j h D G K=>(M.un a j h D G K).imp id (lg _),M.cov⟩
 .exact⟨rfl,rfl,rfl,λ_ h=>h,λ_ h=>h,λ_ h _=>h,λ_ _=>Iff.rfl,λ_ _=>rfl,λ_ _ h _=>⟨⟨h,rfl,rfl⟩,λ_ _ _=>rfl⟩,λ_ _=>rfl,λ_ _ _ _ _ _=>rfl,λ_ _ _=>rfl,λ_=>lg,rfl,λ_ _ _ h _ _ _ _=>⟨h,rfl⟩⟩
theorem cA {x:X} {o:Int} {l:List Int} (H:Sh x) (hl:∀v∈l,x.L v/\¬ BZ x.t v):Sh { x with AI:=l }/\Kp o x { x with AI:=l }:=by
 refine⟨⟨H.g,H.lb,H.rf,H.st,H.fw,H.ml,H.mt,H.ph,H.nf,H.lm,hl,H.fm,H.nb,H.af,λj=>?_⟩,?_⟩
 .have M:=H.mp j;exact⟨M.sk,M.old,M.mn,M.l0,M.ql,M.un,M.cov⟩
 .exact⟨rfl,rfl,rfl,λ_ h=>h,λ_ h=>h,λ_ h _=>h,λ_ _=>Iff.rfl,λ_ _=>rfl,λ_ _ h _=>⟨⟨h,rfl,rfl⟩,λ_ _ _=>rfl⟩,λ_ _=>rfl,λ_ _ _ _ _ _=>rfl,λ_ _ _=>rfl,λ_ _ h=>h,rfl,λ_ _ _ h _ _ _ _=>⟨h,rfl⟩⟩
end Sm
end
section
namespace Sm
variable {P:List (List Op)}
structure Bs (x:X) (o:Op) (t:Thr) (pc:Int):Prop where
 p:1<=pc/\pc<=16/\pc≠13
 k:2<=o.kind/\o.kind<=11/\o.kind≠8/\o.kind≠9
 h:t.h≠0->x.L t.h
 g:t.g≠0->x.L t.g
 kk:t.k≠0->x.L t.k
 h0:o.kind≠6->t.h≠0
 nh:2<=pc->¬ BZ x.t t.h
 ng:3<=pc->¬ BZ x.t t.g
 nk:4<=pc->¬ BZ x.t t.k
 s:5<=pc->t.sh = shp x.w t.h/\t.h≠0
 f:5<=pc->0<=o.f/\(o.kind = 4\/o.kind = 5->o.f < t.sh.nums)/\(o.kind≠4->o.kind≠5->o.f < t.sh.refs)
 k5:pc = 5\/pc = 11\/pc = 12->o.kind = 2
 k6:pc = 6\/pc = 7->o.kind = 3
 k8:pc = 8->o.kind = 4
 k9:pc = 9->o.kind = 5
 k10:pc = 10\/pc = 14\/pc = 15\/pc = 16->o.kind = 7
 l7:pc = 7->x.ph = 1->t.h < x.tm t.h->Lg x (x.q (t.h + 2 + o.f))
 l14:pc = 14->x.ph = 1->Lg x t.u
 v:11<=pc->pc≠14->t.v≠0->x.L t.v
 nv:pc = 12\/pc = 16->¬ BZ x.t t.v
 p15:pc = 15\/pc = 16->x.ph≠1
structure Cp (x:X) (o src dst size i word pc:Int):Prop where
 p:20<=pc/\pc<=24
 ls:x.L src
 fs:BZ x.t src
 p2:x.ph = 2
 sz:21<=pc->size = sz x.w src
 ow:21<=pc->Ow x o dst size
 i0:21<=pc->1<=i/\i<=size
 i1:pc = 21\/pc = 22->i < size
 cp:21<=pc->∀j,1<=j->j < i->wv x.w (dst + j) = wv x.w (src + j)
 wd:pc = 22->word = wv x.w (src + i)
 dn:23<=pc->i = size
 hd:pc = 24->wv x.w dst = dst
structure Mg (x:X) (o:Int) (op:Op) (t:Thr):Prop where
 p:30<=t.pc/\t.pc<=33
 k:op.kind = 1
 sh:BM op.sh = true
 sz:31<=t.pc->t.size = AG op.sh
 ow:31<=t.pc->Ow x o t.dst t.size
 i2:31<=t.pc->t.pc<=32->t.i = 2
 i3:t.pc = 33->2<=t.i/\t.i < t.size
 hd:32<=t.pc->wv x.w t.dst = t.dst
 sp:33<=t.pc->wv x.w (t.dst + 1) = AY op.sh
 z:33<=t.pc->∀j,2<=j->j < t.i->wv x.w (t.dst + j) = 0
def Hm (r:Int):Prop:=r = 1\/r = 2\/r = 3\/r = 11\/r = 15
inductive Run (x:X) (i:Int) (o:Op) (t:Thr):Prop
 | bs (h:Bs x o t t.pc)
 | cp (h:Bs x o t t.ret) (r:Hm t.ret) (e:Bv t t.ret = t.src) (c:Cp x i t.src t.dst t.size t.i t.word t.pc)
 | mg (h:Mg x i o t)
structure TI (x:X) (i:Int) (po:Option Op) (t:Thr):Prop where
 rt:∀a∈t.AD,a≠0->x.L a
 rl:t.AD.length<=8
 nx:0<=t.next
 r8:∀o,po = some o->t.pc≠0->o.kind = 1\/o.kind = 2->t.AD.length < 8
 run:(t.pc = 0/\t.g = 0/\t.k = 0)\/∃o,po = some o/\Run x i o t
theorem Kp.shp {o:Int} {x y:X} (K:Kp o x y) {a:Int} (h:x.B a):shp y.w a = shp x.w a:=EH (K.sh a h)
theorem Kp.sz {o:Int} {x y:X} (K:Kp o x y) {a:Int} (h:x.B a):sz y.w a = sz x.w a:=HU (K.sh a h)
theorem Kp.tma {o:Int} {x y:X} (K:Kp o x y) {a:Int} (h:0<=a):y.tm a = x.tm a:=K.tm (a / 16) Z
theorem Bs.stable {p:Int} {x y:X} {o:Op} {t:Thr} {pc:Int} (H:Sh x) (K:Kp p x y) (b:Bs x o t pc):Bs y o t pc:=by
 refine⟨b.p,b.k,λh=>K.l _ (b.h h),λh=>K.l _ (b.g h),λh=>K.l _ (b.kk h),b.h0,λh c=>b.nh h (K.frm.1 c),λh c=>b.ng h (K.frm.1 c),λh c=>b.nk h (K.frm.1 c),λh=>?_,b.f,b.k5,b.k6,b.k8,b.k9,b.k10,λh D G=>?_,λh D=>?_,λh N h0=>K.l _ (b.v h N h0),λh c=>b.nv h (K.frm.1 c),λh=>by rw[K.ph];exact b.p15 h⟩
 .obtain⟨O,A⟩:=b.s h;exact⟨by rw[K.shp (H.lb _ (b.h A))];exact O,A⟩
 .have j : x.ph = 1:=by rw[<- K.ph];exact D
  have A:=(b.s Z).2;have Q:=b.h A;rw[K.tma (by have:=H.g.inn (H.lb _ Q);omega)] at G;rw[K.q];exact K.lg j _ (b.l7 h j G)
 .have j : x.ph = 1:=by rw[<- K.ph];exact D
  exact K.lg j _ (b.l14 h j)
theorem Cp.stable {p o:Int} {x y:X} {src dst size i word pc:Int} (H:Sh x) (K:Kp p x y) (A:p≠o) (c:Cp x o src dst size i word pc):Cp y o src dst size i word pc:=by
 refine⟨c.p,K.l _ c.ls,K.frm.2 c.fs,by rw[K.ph];exact c.p2,λh=>by rw[K.sz (H.lb _ c.ls)];exact c.sz h,λh=>((c.ow h).stable K A).1,c.i0,c.i1,λh j G N=>?_,λh=>?_,c.dn,λh=>?_⟩
 .have D:=c.i0 h;rw[((c.ow h).stable K A).2 (dst + j) Z Z,K.bd src (src + j) c.ls c.fs Z (by have:=c.sz h;omega)];exact c.cp h j G N
 .have D:=c.i0 Z;have O:=c.i1 (.inr h);rw[K.bd src (src + i) c.ls c.fs Z (by have:=c.sz Z;omega)];exact c.wd h
 .have D:=c.i0 Z;rw[((c.ow Z).stable K A).2 dst Z Z];exact c.hd h
theorem Mg.stable {p o:Int} {x y:X} {op:Op} {t:Thr} (K:Kp p x y) (A:p≠o) (c:Mg x o op t):Mg y o op t:=by
 have D:31<=t.pc->2<=t.size:=λh=>by
  rw[c.sz h];have:=c.sh;rw[Mm (by simpa [BM,and_assoc] using this)];simp only[BM,z_b,z_d] at this;omega
 refine⟨c.p,c.k,c.sh,c.sz,λh=>((c.ow h).stable K A).1,c.i2,c.i3,λh=>?_,λh=>?_,λh j G H=>?_⟩
 .rw[((c.ow Z).stable K A).2 t.dst Z (by have:=D Z;omega)];exact c.hd h
 .rw[((c.ow Z).stable K A).2 (t.dst + 1) Z (by have:=D Z;omega)];exact c.sp h
 .have:=c.i3 (by have:=c.p;omega);rw[((c.ow Z).stable K A).2 (t.dst + j) Z Z];exact c.z h j G H
theorem TI.stable {p i:Int} {x y:X} {A:Option Op} {t:Thr} (H:Sh x) (K:Kp p x y) (j:p≠i) (T:TI x i A t):TI y i A t:=by
 refine⟨λa h h0=>K.l a (T.rt a h h0),T.rl,T.nx,T.r8,?_⟩;rcases T.run with h | ⟨o,h,r⟩
 .exact .inl h
 .refine .inr ⟨o,h,?_⟩;cases r with
  | bs b=>exact .bs (b.stable H K)
  | cp b r e c=>exact .cp (b.stable H K) r e (c.stable H K j)
  | mg m=>exact .mg (m.stable K j)
structure C1 (x:X) (c:Col):Prop where
 pc:c.pc = 1\/c.pc = 2
 p2:c.pc = 2->mv x.m c.p = true/\0<=c.p/\c.sh = shp x.w c.p/\0<=c.i/\c.i < c.sh.refs
 sc:∀a j,0<=a->mv x.m a = true->0<=j->j < (shp x.w a).refs->(c.pc = 2/\a = c.p/\c.i<=j)\/Lg x (x.q (a + 2 + j))
structure C2 (x:X) (n:Int) (c:Col):Prop where
 r0:1<=c.r
 r1:c.r<=x.t.length
 p0:16 * c.r<=c.p
 p1:c.p<=16 * c.r + 16
 wk:∀a,x.L a->BZ x.t a->a < c.p->wv x.w a≠a\/(c.pc≠5/\a = c.src)
 pc:c.pc = 5\/Cp x n c.src c.dst c.size c.i c.word c.pc
def lim (x:X) (r:Int):Int:=16 * r + (rv x.t r).AJ
structure C3 (x:X) (c:Col):Prop where
 pc:6<=c.pc/\c.pc<=9
 r0:1<=c.r
 r1:c.r<=x.t.length
 p0:16 * c.r<=c.p
 at_:c.r < x.t.length->c.p < lim x c.r->x.B c.p
 f:7<=c.pc->x.L c.f/\¬ BZ x.t c.f/\c.sh = shp x.w c.f/\0<=c.i/\c.i < c.sh.refs/\c.f < c.p
 v:8<=c.pc->x.L c.v/\BZ x.t c.v
 w:c.pc = 9->c.word = wv x.w c.v
 u:8<=c.pc->BZ x.t (wv x.w (c.f + 2 + c.i))->wv x.w (c.f + 2 + c.i) = c.v
 cl:∀a j,x.L a->¬ BZ x.t a->0<=j->j < (shp x.w a).refs->BZ x.t (wv x.w (a + 2 + j))->(c.p<=a/\a < lim x (a / 16))\/(7<=c.pc/\a = c.f/\c.i<=j)
def Wt (x:X) (want:Int):Prop:=(x.ph = 0/\want = 1)\/(x.ph = 1/\want = 2)\/(x.ph = 2/\want = 3/\∀a,x.L a->BZ x.t a->wv x.w a≠a)\/
 (x.ph = 3/\want = 0/\∀a j,x.L a->¬ BZ x.t a->0<=j->j < (shp x.w a).refs->¬ BZ x.t (wv x.w (a + 2 + j)))
theorem C1.stable {p:Int} {x y:X} {c:Col} (H:Sh x) (K:Kp p x y) (N:y.m = x.m) (Q:x.ph = 1) (C:C1 x c):C1 y c:=by
 have hb:∀a,0<=a->mv x.m a = true->shp y.w a = shp x.w a:=λa A h=>K.shp (H.lb _ (H.mt a A h).1)
 refine⟨C.pc,λh=>?_,λa j A h W O=>?_⟩
 .obtain⟨D,G,R,T⟩:=C.p2 h;exact⟨by rw[N];exact D,G,by rw[hb _ G D];exact R,T⟩
 .rw[N] at h;rw[hb a A h] at O;rcases C.sc a j A h W O with d | d
  .exact .inl d
  .rw[K.q];exact .inr (K.lg Q _ d)
theorem C2.stable {p n:Int} {x y:X} {c:Col} (H:Sh x) (K:Kp p x y) (D:p≠n) (C:C2 x n c):C2 y n c:=by
 refine⟨C.r0,by rw[K.tl];exact C.r1,C.p0,C.p1,λa h A hl=>?_,C.pc.imp id λd=>d.stable H K D⟩;have j:=K.lf a h A;rcases C.wk a j (K.frm.1 A) hl with d | d
 .left;rw[K.fwd a (H.lb _ j) d];exact d
 .exact .inr d
theorem C3.stable {p:Int} {x y:X} {c:Col} (H:Sh x) (K:Kp p x y) (hl:∀r:Int,0<=r->(rv y.t r).AJ = (rv x.t r).AJ) (T:x.ph = 3) (C:C3 x c):C3 y c:=by
 have el:∀r,0<=r->lim y r = lim x r:=λr r0=>by unfold lim;rw[hl r r0]
 refine⟨C.pc,C.r0,by rw[K.tl];exact C.r1,C.p0,λh h'=>K.b _ (C.at_ (by rw[<- K.tl];exact h) (by rw[el _ (by have:=C.r0;omega)] at h';exact h')),λh=>?_,λh=>?_,λh=>?_,λh A=>?_,λa j h hn j0 W A=>?_⟩
 .obtain⟨D,G,N,O⟩:=C.f h;exact⟨K.l _ D,λc=>G (K.frm.1 c),by rw[K.shp (H.lb _ D)];exact N,O⟩
 .exact⟨K.l _ (C.v h).1,K.frm.2 (C.v h).2⟩
 .obtain⟨v1,v2⟩:=C.v Z;rw[K.fwd _ (H.lb _ v1) (H.af T _ v1 v2)];exact C.w h
 .obtain⟨D,G,N,O,f5,_⟩:=C.f Z;obtain⟨_,R⟩:=K.cl T c.f c.i (K.l _ D) (λc=>G (K.frm.1 c)) O (by rw[K.shp (H.lb _ D),<- N];exact f5) A;rw[<- R] at A ⊢;exact C.u h (K.frm.1 A)
 .obtain⟨Q,R⟩:=K.cl T a j h hn j0 W A;rw[K.shp (H.lb _ Q)] at W;rw[<- R] at A;rw[el _ (by have:=H.g.inn (H.lb _ Q);omega)];exact C.cl a j Q (λc=>hn (K.frm.2 c)) j0 W (K.frm.1 A)
theorem Wt.stable {p want:Int} {x y:X} (H:Sh x) (K:Kp p x y) (W:Wt x want):Wt y want:=by
 rcases W with ⟨h,A⟩ | ⟨h,A⟩ | ⟨h,A,G⟩ | ⟨h,A,G⟩
 .exact .inl ⟨by rw[K.ph];exact h,A⟩
 .exact .inr (.inl ⟨by rw[K.ph];exact h,A⟩)
 .refine .inr (.inr (.inl ⟨by rw[K.ph];exact h,A,λa N D=>?_⟩));have R:=K.lf a N D;have:=G a R (K.frm.1 D);rw[K.fwd a (H.lb _ R) this];exact this
 .refine .inr (.inr (.inr ⟨by rw[K.ph];exact h,A,λa j N T j0 O D=>?_⟩));obtain⟨Q,g2⟩:=K.cl h a j N T j0 O D;rw[K.shp (H.lb _ Q)] at O;rw[<- g2] at D;exact G a j Q (λc=>T (K.frm.2 c)) j0 O (K.frm.1 D)
structure Gh where
 B:Int->Prop
 L:Int->Prop
 q:Int->Int
 r0:Int->Prop
@[reducible] def xof (S:Sim) (g:Gh):X:=⟨S.AC,S.AA,S.AM,S.Ae,S.col.AR,S.old,S.AI,g.B,g.L,g.q,g.r0⟩
structure Bd (c:Nat) (S:Sim):Prop where
 ev:S.ev.length<=c
 old:S.old.length<=c
 cy:0<=S.BC/\S.BC<=c
 fu:0<=S.BJ/\S.BJ<=c
 st:S.col.AR.length + S.old.length + 5 * S.AM.countP (λb=>!b) + (if S.col.pc = 2 then (S.col.sh.refs - S.col.i).toNat else 0)<=3000 + c
 pn:S.AI.length<=8
structure IG (P:List (List Op)) (S:Sim) (g:Gh):Prop where
 pg:S.AZ = P
 sh:Sh (xof S g)
 n0:1<=S.th.length
 n1:S.th.length<=3
 pl:S.AZ.length = S.th.length
 pp:∀p∈S.AZ,p.length<=40
 ti:∀i t,idx S.th i = some t->TI (xof S g) i (S.opOf i t) t
 c1:S.Ae = 1->C1 (xof S g) S.col
 c2:S.Ae = 2->C2 (xof S g) S.th.length S.col
 c3:S.Ae = 3->C3 (xof S g) S.col
 wt:S.stop = true->S.full = false->Wt (xof S g) S.col.want
 rs:0<=S.c.AU/\S.c.AU<=100
theorem Yf {α:Type} {l:List α} {i j:Int} {v u:α} (h:idx (AT l i v) j = some u) (x:0<=i):(j = i/\u = v)\/(j≠i/\idx l j = some u):=by
 unfold idx AT at h;split at h
 .rw[eY] at h;split at h
  .split at h
   .left;exact⟨Z,by simpa using h.symm⟩
   .cases h
  .right;refine⟨λc=>by subst c;simp at *,?_⟩;unfold idx;rw[if_pos (by assumption)];exact h
 .cases h
theorem IG.step {S S' : Sim} {g g' : Gh} {i:Int} {t t' : Thr} (I:IG P S g) (ht:idx S.th i = some t) (x:S'.th = AT S.th i t') (R:Sh (xof S' g')) (K:Kp i (xof S g) (xof S' g')) (hc:S'.col = S.col) (hm:S'.AM = S.AM)
  (O:∀r:Int,0<=r->(rv S'.AA r).AJ = (rv S.AA r).AJ) (D:(S'.AZ,S'.c) = (S.AZ,S.c)) (hT:TI (xof S' g') i (S'.opOf i t') t') (T:S'.stop = true->S'.full = false->S.stop = true/\S.full = false):IG P S' g':=by
 have y:S'.AZ = S.AZ:=congrArg Prod.fst D;have H:S'.c = S.c:=congrArg Prod.snd D;obtain⟨i0,i1,_⟩:=Fq t ht;have A:S'.Ae = S.Ae:=K.ph;have N:i≠S.th.length:=Z
 refine⟨by rw[y];exact I.pg,R,by rw[x,DP];exact I.n0,by rw[x,DP];exact I.n1,by rw[x,DP,y];exact I.pl,by rw[y];exact I.pp,λj u G=>?_,λh=>?_,λh=>?_,λh=>?_,λh W=>?_,by rw[H];exact I.rs⟩
 .rw[x] at G;rcases Yf G i0 with ⟨rfl,rfl⟩ | ⟨Q,G⟩
  .exact hT
  .have:S'.opOf j u = S.opOf j u:=by unfold Sim.opOf;rw[y]
   rw[this];exact (I.ti j u G).stable I.sh K Q.symm
 .rw[hc];rw[A] at h;exact (I.c1 h).stable I.sh K hm h
 .rw[hc,x,DP];rw[A] at h;exact (I.c2 h).stable I.sh K N
 .rw[hc];rw[A] at h;exact (I.c3 h).stable I.sh K O h
 .rw[hc];obtain⟨h1,h2⟩:=T h W;exact (I.wt h1 h2).stable I.sh K
end Sm
end
section
namespace Sm
variable {P:List (List Op)}
theorem JP {α:Type} {l:List α} {i:Int} {a b:α}:AT (AT l i a) i b = AT l i b:=by simp[AT]
theorem GH {α:Type} {l:List α} {i:Int} {a u:α} (h:idx l i = some u):idx (AT l i a) i = some a:=by
 obtain⟨h0,j,_⟩:=Fq u h;unfold idx AT;rw[if_pos h0,List.getElem?_set_self Z]
theorem Wp {c:Nat} {S:Sim} (B:Bd c S) (hc:c < 900000) (h:∀t∈S.th,t.AD.length < 1000000):S.sz = true:=by
 have j:=B.ev;have x:=B.old;have y:=B.st;have A:=B.pn;simp only[Sim.sz,z_b,z_d,ck];exact⟨⟨⟨⟨Z,Z⟩,Z⟩,Z⟩,h⟩
theorem OA {α:Type} {l:List α} {t:α} (h:t∈l):∃i:Int,0<=i/\i < l.length/\idx l i = some t:=by
 obtain⟨n,j,rfl⟩:=d5 h;refine⟨n,Z,Z,?_⟩;unfold idx;rw[if_pos Z];simp[j]
theorem IG.AD {S:Sim} {g:Gh} (I:IG P S g):∀t∈S.th,t.AD.length<=8:=λt h=>by
 obtain⟨i,_,_,j⟩:=OA h;exact (I.ti i t j).rl
theorem IG.szok {c:Nat} {S S1:Sim} {g:Gh} (I:IG P S g) (j:S1.th = S.th) (B:Bd c S1) (hc:c < 900000):S1.sz = true:=
 Wp B hc λt h=>by have:=I.AD t (j▸h);omega
theorem IG.next {S:Sim} {g:Gh} {i:Int} {t:Thr} {o:Op} (I:IG P S g) (y:idx S.th i = some t) (j:S.opOf i t = some o):0<=t.next/\t.next < 40:=by
 refine⟨(I.ti i t y).nx,?_⟩;unfold Sim.opOf at j;split at j
 .rename_i p x;obtain⟨_,A,_⟩:=Fq default j;have:p∈S.AZ:=by
   unfold idx at x;split at x
   .exact List.mem_of_getElem? x
   .cases x
  have:=I.pp p this;omega
 .cases j
structure BG (S S1:Sim):Prop where
 th:S1.th = S.th
 col:S1.col = S.col
 AM:S1.AM = S.AM
 pc_:(S1.AZ,S1.c) = (S.AZ,S.c)
 stop:S1.stop = S.stop
 full:S1.full = S.full
 AJ:∀r:Int,0<=r->(rv S1.AA r).AJ = (rv S.AA r).AJ
theorem BG.AZ {S S1:Sim} (E:BG S S1):S1.AZ = S.AZ:=congrArg Prod.fst E.pc_
theorem BG.refl (S:Sim):BG S S:=⟨rfl,rfl,rfl,rfl,rfl,rfl,λ_ _=>rfl⟩
theorem Bd.mono {c d:Nat} {S:Sim} (B:Bd c S) (h:c<=d):Bd d S:=
 ⟨by have:=B.ev;omega,by have:=B.old;omega,⟨B.cy.1,by have:=B.cy.2;omega⟩,⟨B.fu.1,by have:=B.fu.2;omega⟩,by have:=B.st;omega,B.pn⟩
theorem DB {c:Nat} {S S1:Sim} {g g' : Gh} {i:Int} {t t' : Thr} (I:IG P S g) (B:Bd c S1) (x:idx S.th i = some t) (j:Sh (xof S1 g')) (K:Kp i (xof S g) (xof S1 g')) (E:BG S S1) (A:TI (xof S1 g') i (S.opOf i t') t') :
  IG P (S1.setT i t') g'/\Bd c (S1.setT i t')/\idx (S1.setT i t').th i = some t':=by
 refine⟨I.step x (t':=t') (by show AT S1.th i t' = _;rw[E.th]) j K E.col E.AM E.AJ E.pc_ ?_ λh y=>?_,⟨B.ev,B.old,B.cy,B.fu,B.st,B.pn⟩,?_⟩
 .have:(S1.setT i t').opOf i t' = S.opOf i t':=by unfold Sim.opOf Sim.setT;simp only[show S1.AZ = S.AZ from congrArg Prod.fst E.pc_]
  rw[this];exact A
 .rw[<- E.stop,<- E.full];exact⟨h,y⟩
 .show idx (AT S1.th i t') i = _;rw[E.th];exact GH x
def Sim.evd (S:Sim) (i ans code:Int) (t:Thr) (AD:List Int):Sim:={ S with ev:=S.ev ++ [⟨i,t.next,ans,code⟩],th:=AT S.th i (thr0 AD (t.next + 1) 0) }
theorem Ex {S:Sim} {i ans code:Int} {t:Thr} (x:S.sz = true) (j:idx S.th i = some t) (y:0<=t.next/\t.next < 40):S.event i ans code = some (S.evd i ans code t t.AD):=by
 unfold Sim.event;rw[x,j];simp only[fW,d8,if_false,Cg];rw[if_pos Z];rfl
theorem TF {S:Sim} {i a:Int} {t:Thr} (j:S.sz = true) (hl:t.AD.length < 1000) (x:idx S.th i = some t) (y:0<=t.next/\t.next < 40):S.push i a = some (S.evd i 0 0 t (t.AD ++ [a])):=by
 unfold Sim.push;rw[j,x];simp only[fW,d8,if_false];rw[Ex (t:={ t with AD:=t.AD ++ [a] }) ?_ (GH x) y]
 .unfold Sim.evd Sim.setT;simp only[JP]
 .unfold Sim.sz at j ⊢;rw[z_b,ck] at j ⊢;refine⟨j.1,λu A=>?_⟩;rcases dy A with h | h
  .exact j.2 u h
  .subst h;exact decide_eq_true (by simp;omega)
theorem GY {c:Nat} {S S1:Sim} {g g' : Gh} {i ans code:Int} {t:Thr} {o:Op} (I:IG P S g) (B:Bd c S1) (y:idx S.th i = some t) (D:S.opOf i t = some o) (x:Sh (xof S1 g')) (K:Kp i (xof S g) (xof S1 g')) (E:BG S S1) (AD:List Int) (G:∀a∈AD,a≠0->g'.L a) (hl:AD.length<=8) :
  IG P (S1.evd i ans code t AD) g'/\Bd (c + 1) (S1.evd i ans code t AD)/\idx (S1.evd i ans code t AD).th i = some (thr0 AD (t.next + 1) 0):=by
 have H:=I.next y D;refine⟨I.step y (t':=thr0 AD (t.next + 1) 0) (by show AT S1.th i _ = _;rw[E.th]) x K E.col E.AM E.AJ E.pc_ ?_ λh A=>?_,?_,?_⟩
 .exact⟨G,hl,by show 0<=t.next + 1;omega,λ_ _ h=>absurd rfl h,.inl ⟨rfl,rfl,rfl⟩⟩
 .rw[<- E.stop,<- E.full];exact⟨h,A⟩
 .have j:=B.mono (dS c);exact⟨by have:=B.ev;show (S1.ev ++ [_]).length<=c + 1;simp;omega,j.old,j.cy,j.fu,j.st,j.pn⟩
 .show idx (AT S1.th i _) i = _;rw[E.th];exact GH y
theorem Qb {c:Nat} {S S1:Sim} {g:Gh} {i:Int} {t:Thr} (I:IG P S g) (B:Bd c S1) (x:idx S.th i = some t) (y:Sh (xof S1 g)) (K:Kp i (xof S g) (xof S1 g)) (E:BG S S1) :
  ∃j,S1.back i = some j/\IG P j g/\Bd c j/\idx j.th i = some (thr0 t.AD t.next 1):=by
 have T:=I.ti i t x;unfold Sim.back;rw[E.th,x];refine⟨_,rfl,I.step x (t':=thr0 t.AD t.next 1) (by show AT S1.th i _ = _;rw[E.th]) y K E.col E.AM E.AJ E.pc_ ?_ λh A=>?_,⟨B.ev,B.old,B.cy,B.fu,B.st,B.pn⟩,?_⟩
 .exact⟨λa h h0=>K.l a (T.rt a h h0),T.rl,T.nx,λ_ _ h=>absurd rfl h,.inl ⟨rfl,rfl,rfl⟩⟩
 .cases A
 .show idx (AT S1.th i _) i = _;rw[E.th];exact GH x
theorem TI.upd {x y:X} {i:Int} {D:Option Op} {t t' : Thr} {o:Op} (T:TI x i D t) (K:Kp i x y) (A:t'.AD = t.AD) (H:t'.next = t.next) (j:t.pc≠0) (N:D = some o) (R:Run y i o t'):TI y i D t':=
 ⟨λa h h0=>K.l a (T.rt a (A▸h) h0),by rw[A];exact T.rl,by rw[H];exact T.nx,λO h _ G=>by rw[A];exact T.r8 O h j G,.inr ⟨o,N,R⟩⟩
theorem Bs.eqv {x:X} {o:Op} {t t' : Thr} {pc:Int} (b:Bs x o t pc) (h:t'.h = t.h) (g:t'.g = t.g) (k:t'.k = t.k) (u:t'.u = t.u) (v:t'.v = t.v) (s:t'.sh = t.sh):Bs x o t' pc:=by
 refine⟨b.p,b.k,?_,?_,?_,?_,?_,?_,?_,?_,?_,b.k5,b.k6,b.k8,b.k9,b.k10,?_,?_,?_,?_,b.p15⟩
 .rw[h];exact b.h
 .rw[g];exact b.g
 .rw[k];exact b.kk
 .rw[h];exact b.h0
 .rw[h];exact b.nh
 .rw[g];exact b.ng
 .rw[k];exact b.nk
 .rw[h,s];exact b.s
 .rw[s];exact b.f
 .rw[h];exact b.l7
 .rw[u];exact b.l14
 .rw[v];exact b.v
 .rw[v];exact b.nv
theorem Hm.le {r:Int} (h:Hm r):1<=r/\r<=15:=by rcases h with rfl | rfl | rfl | rfl | rfl<;>decide
theorem Bs.held {x:X} {o:Op} {t:Thr} {pc:Int} (b:Bs x o t pc) (r:Hm pc) (h0:Bv t pc≠0):x.L (Bv t pc):=by
 rcases r with rfl | rfl | rfl | rfl | rfl
 .exact b.h h0
 .exact b.g h0
 .exact b.kk h0
 .exact b.v δ δ h0
 .exact b.v δ δ h0
theorem Bs.go {x:X} {o:Op} {t:Thr} {pc:Int} (b:Bs x o t pc) (r:Hm pc) (j:¬ BZ x.t (Bv t pc)):Bs x o t (EQ pc):=by
 rcases r with rfl | rfl | rfl | rfl | rfl
 .exact⟨δ,b.k,b.h,b.g,b.kk,b.h0,λ_=>j,λh=>absurd h δ,λh=>absurd h δ,λh=>absurd h δ,λh=>absurd h δ,λh=>absurd h δ,λh=>absurd h δ,λh=>absurd h δ,λh=>absurd h δ,λh=>absurd h δ,λh=>absurd h δ,λh=>absurd h δ,λh=>absurd h δ,λh=>absurd h δ,λh=>absurd h δ⟩
 .exact⟨δ,b.k,b.h,b.g,b.kk,b.h0,λ_=>b.nh δ,λ_=>j,λh=>absurd h δ,λh=>absurd h δ,λh=>absurd h δ,λh=>absurd h δ,λh=>absurd h δ,λh=>absurd h δ,λh=>absurd h δ,λh=>absurd h δ,λh=>absurd h δ,λh=>absurd h δ,λh=>absurd h δ,λh=>absurd h δ,λh=>absurd h δ⟩
 .exact⟨δ,b.k,b.h,b.g,b.kk,b.h0,λ_=>b.nh δ,λ_=>b.ng δ,λ_=>j,λh=>absurd h δ,λh=>absurd h δ,λh=>absurd h δ,λh=>absurd h δ,λh=>absurd h δ,λh=>absurd h δ,λh=>absurd h δ,λh=>absurd h δ,λh=>absurd h δ,λh=>absurd h δ,λh=>absurd h δ,λh=>absurd h δ⟩
 .exact⟨δ,b.k,b.h,b.g,b.kk,b.h0,λ_=>b.nh δ,λ_=>b.ng δ,λ_=>b.nk δ,λ_=>b.s δ,λ_=>b.f δ,λ_=>b.k5 δ,λh=>absurd h δ,λh=>absurd h δ,λh=>absurd h δ,λh=>absurd h δ,λh=>absurd h δ,λh=>absurd h δ,λ_ _=>b.v δ δ,λ_=>j,λh=>absurd h δ⟩
 .exact⟨δ,b.k,b.h,b.g,b.kk,b.h0,λ_=>b.nh δ,λ_=>b.ng δ,λ_=>b.nk δ,λ_=>b.s δ,λ_=>b.f δ,λh=>absurd h δ,λh=>absurd h δ,λh=>absurd h δ,λh=>absurd h δ,λ_=>b.k10 δ,λh=>absurd h δ,λh=>absurd h δ,λ_ _=>b.v δ δ,λ_=>j,λ_=>b.p15 δ⟩
theorem Bs.hold {x:X} {o:Op} {t:Thr} {pc f:Int} (b:Bs x o t pc) (r:Hm pc) (y:x.L f) (h0:f≠0) (A:¬ BZ x.t f):Bs x o (C7 t pc f) (EQ pc):=by
 rcases r with rfl | rfl | rfl | rfl | rfl
 .have j:Bs x o { t with h:=f } 1:=⟨b.p,b.k,λ_=>y,b.g,b.kk,λ_=>h0,λh=>absurd h δ,λh=>absurd h δ,λh=>absurd h δ,λh=>absurd h δ,λh=>absurd h δ,b.k5,b.k6,b.k8,b.k9,b.k10,λh=>absurd h δ,b.l14,b.v,b.nv,b.p15⟩;exact (j.go (.inl rfl) A).eqv rfl rfl rfl rfl rfl rfl
 .have j:Bs x o { t with g:=f } 2:=⟨b.p,b.k,b.h,λ_=>y,b.kk,b.h0,b.nh,λh=>absurd h δ,λh=>absurd h δ,λh=>absurd h δ,λh=>absurd h δ,b.k5,b.k6,b.k8,b.k9,b.k10,λh=>absurd h δ,b.l14,b.v,b.nv,b.p15⟩;exact (j.go (.inr (.inl rfl)) A).eqv rfl rfl rfl rfl rfl rfl
 .have j:Bs x o { t with k:=f } 3:=⟨b.p,b.k,b.h,b.g,λ_=>y,b.h0,b.nh,b.ng,λh=>absurd h δ,λh=>absurd h δ,λh=>absurd h δ,b.k5,b.k6,b.k8,b.k9,b.k10,λh=>absurd h δ,b.l14,b.v,b.nv,b.p15⟩;exact (j.go (.inr (.inr (.inl rfl))) A).eqv rfl rfl rfl rfl rfl rfl
 .have j:Bs x o { t with v:=f } 11:=⟨b.p,b.k,b.h,b.g,b.kk,b.h0,b.nh,b.ng,b.nk,b.s,b.f,b.k5,b.k6,b.k8,b.k9,b.k10,λh=>absurd h δ,b.l14,λ_ _ _=>y,λh=>absurd h δ,b.p15⟩;exact (j.go (.inr (.inr (.inr (.inl rfl)))) A).eqv rfl rfl rfl rfl rfl rfl
 .have j:Bs x o { t with v:=f } 15:=⟨b.p,b.k,b.h,b.g,b.kk,b.h0,b.nh,b.ng,b.nk,b.s,b.f,b.k5,b.k6,b.k8,b.k9,b.k10,λh=>absurd h δ,b.l14,λ_ _ _=>y,λh=>absurd h δ,b.p15⟩;exact (j.go (.inr (.inr (.inr (.inr rfl)))) A).eqv rfl rfl rfl rfl rfl rfl
theorem JZ (t:Thr) (pc f:Int):(C7 t pc f).AD = t.AD/\(C7 t pc f).next = t.next/\(C7 t pc f).pc = EQ pc:=by
 unfold C7;refine⟨?_,?_,rfl⟩<;>(simp only[];split<;>(try split)<;>(try split)<;>rfl)
theorem Cp.start {x:X} {o src dst size i word:Int} (j:x.L src) (y:BZ x.t src) (A:x.ph = 2):Cp x o src dst size i word 20:=
 ⟨δ,j,y,A,λh=>absurd h δ,λh=>absurd h δ,λh=>absurd h δ,λh=>absurd h δ,λh=>absurd h δ,λh=>absurd h δ,λh=>absurd h δ,λh=>absurd h δ⟩
def rk (pc:Int):Nat:=if pc = 1 then 4 else if pc = 2 then 3 else if pc = 3 then 2 else if pc = 4 then 1 else if pc = 11 then 1 else if pc = 15 then 2 else if pc = 16 then 1 else if pc = 30 then 1 else 0
def ZS (i pc:Int) (S' : Sim):Prop:=S'.used = true\/∃t',idx S'.th i = some t'/\(t'.pc = 0\/rk t'.pc < rk pc)
def Out (P:List (List Op)) (c:Nat) (i pc:Int) (r:Option Sim):Prop:=∃S' g',r = some S'/\IG P S' g'/\Bd (c + 1) S'/\ZS i pc S'
theorem Be {a:Int} (h:0<=a):AN a = a / 16:=by unfold AN;rw[if_neg Z]
theorem IG.in_ {S:Sim} {g:Gh} (I:IG P S g) {a:Int} (h:g.L a):16<=a/\1<=a / 16/\a / 16 < S.AA.length/\a + sz S.AC a<=S.AC.length/\2<=sz S.AC a/\sz S.AC a<=10:=by
 obtain⟨j,x,y,H,K,A,D,G⟩:=I.sh.g.inn (I.sh.lb a h);exact⟨j,x,y,A,D,G⟩
theorem IG.frm {S:Sim} {g:Gh} (I:IG P S g) {a:Int} (h:a≠0->g.L a):∃b,S.from_ a = some b/\(b = true↔BZ S.AA a):=by
 unfold Sim.from_;by_cases c:a = 0
 .subst c;refine⟨false,V,?_⟩;have:=I.sh.g.ok.e;unfold BZ;have e:rv S.AA 0 = Db:=this;rw[show (0:Int) / 16 = 0 from rfl,e];simp[Db]
 .obtain⟨x,y,j,_⟩:=I.in_ (h c);rw[if_neg c,Be Z,Cm Z j];refine⟨_,rfl,?_⟩;unfold BZ;simp only[beq_iff_eq];exact⟨λh=>⟨Z,h⟩,λh=>h.2⟩
theorem CX {S:Sim} {a:Int} (h0:0<=a) (j:a < S.AC.length):S.read a = some (wv S.AC a,{ S with used:=true }):=by
 unfold Sim.read;rw[Va h0 j]
theorem DK {S:Sim} {a v:Int} (h0:0<=a) (j:a < S.AC.length):S.write a v = some { S with used:=true,AC:=AT S.AC a v }:=by
 unfold Sim.write;rw[if_pos ⟨h0,j⟩]
theorem BQ {a b:Int} (h:-1000000<=a + b) (j : a + b<=1000000):Cg a b = some (a + b):=by
 unfold Cg;rw[if_pos Z]
theorem IG.wl {S:Sim} {g:Gh} (I:IG P S g):S.AC.length<=192:=by
 have j:=I.sh.g.len;have x:=I.sh.g.ok.n1;simp only at j x;omega
theorem Y7 {pc:Int} (r:Hm pc):rk (EQ pc) < rk pc:=by rcases r with rfl | rfl | rfl | rfl | rfl<;>decide
theorem RV {c:Nat} {S:Sim} {g:Gh} {i:Int} {t:Thr} {o:Op} (I:IG P S g) (B:Bd c S) (H:idx S.th i = some t) (Q:S.opOf i t = some o) (b:Bs (xof S g) o t t.pc) (r:Hm t.pc):Out P c i t.pc (S.resolve i):=by
 have T:=I.ti i t H;have j:t.pc≠0:=by have:=r.le;omega
 unfold Sim.resolve;rw[H];simp only[cP,z_o];rw[if_neg (by have:=r.le;omega)];obtain⟨d,hd,G⟩:=I.frm (a:=Bv t t.pc) (λh=>b.held r h);rw[hd];simp only[z_o];cases d with
 | false=>
  have hn:¬ BZ S.AA (Bv t t.pc):=λh=>by have:=G.2 h;cases this
  rw[if_pos τ];obtain⟨D,A,x⟩:=DB (t':={ t with pc:=EQ t.pc }) I B H I.sh (Kp.refl i _) (BG.refl S) (T.upd (Kp.refl i _) rfl rfl j Q (.bs ((b.go r hn).eqv rfl rfl rfl rfl rfl rfl)));exact⟨_,g,rfl,D,A.mono (dS c),.inr ⟨_,x,.inr (Y7 r)⟩⟩
 | true=>
  have y:BZ S.AA (Bv t t.pc):=G.1 rfl;have h0:Bv t t.pc≠0:=λh=>by
   rw[h] at y;have:=y.2;have e:rv S.AA 0 = Db:=I.sh.g.ok.e;rw[show (0:Int) / 16 = 0 from rfl,e] at this;cases this
  have K:=b.held r h0;obtain⟨a1,a2,a3,a4,a5,_⟩:=I.in_ K;rw[if_neg V,CX Z Z];simp only[z_o];split
  .rename_i hc;obtain⟨D,A,x⟩:=DB (S1:={ S with used:=true }) (t':={ t with src:=Bv t t.pc,ret:=t.pc,pc:=20 }) I (c:=c) ⟨B.ev,B.old,B.cy,B.fu,B.st,B.pn⟩ H I.sh (Kp.refl i _) ⟨rfl,rfl,rfl,rfl,rfl,rfl,λ_ _=>rfl⟩
    (T.upd (Kp.refl i _) rfl rfl j Q (.cp (b.eqv rfl rfl rfl rfl rfl rfl) r τ (Cp.start K y hc.2)))
   exact⟨_,g,rfl,D,A.mono (dS c),.inl rfl⟩
  .rename_i hc;have O:wv S.AC (Bv t t.pc)≠Bv t t.pc:=λhe=>by
    have h2:S.Ae≠2:=λh=>hc ⟨he,h⟩
    have hp:=I.sh.ph;simp only at hp;by_cases h3:S.Ae = 3
    .exact I.sh.af h3 _ K y he
    .exact I.sh.nf (by show S.Ae<=1;omega) _ Z y.2
   obtain⟨R,W,_⟩:g.L (wv S.AC (Bv t t.pc))/\¬ BZ S.AA (wv S.AC (Bv t t.pc))/\_:=I.sh.fw _ (I.sh.lb _ K) y O;have N:=JZ t t.pc (wv S.AC (Bv t t.pc));obtain⟨D,A,x⟩:=DB (S1:={ S with used:=true }) (t':=C7 t t.pc (wv S.AC (Bv t t.pc))) I (c:=c) ⟨B.ev,B.old,B.cy,B.fu,B.st,B.pn⟩ H I.sh (Kp.refl i _) ⟨rfl,rfl,rfl,rfl,rfl,rfl,λ_ _=>rfl⟩
    (by
     have:S.opOf i (C7 t t.pc (wv S.AC (Bv t t.pc))) = S.opOf i t:=by unfold Sim.opOf;rw[N.2.1]
     rw[this]
     exact T.upd (Kp.refl i _) N.1 N.2.1 j Q (.bs (by rw[N.2.2];exact b.hold r R (by have:=I.in_ R;omega) W)))
   exact⟨_,g,rfl,D,A.mono (dS c),.inl rfl⟩
end Sm
end
section
namespace Sm
variable {P:List (List Op)}
theorem aU {x:X} {o src d word:Int} {t' : List Rg} (H:Sh x) (y:x.L src) (G:BZ x.t src) (D:x.ph = 2) (P:Ta x.t o (sz x.w src) t' d) :
  Sh { x with t:=t' }/\Kp o x { x with t:=t' }/\Cp { x with t:=t' } o src d (sz x.w src) 1 word 21:=by
 obtain⟨A,K,O⟩:=room H P;have g:=H.g.inn (H.lb _ y);refine⟨A,K,⟨δ,y,K.frm.2 G,D,λ_=>rfl,λ_=>O,λ_=>Z,λ_=>Z,λ_ j N Q=>Z,λh=>absurd h δ,λh=>absurd h δ,λh=>absurd h δ⟩⟩
theorem ay {x:X} {o src d size i word:Int} (c:Cp x o src d size i word 21):Cp x o src d size i (wv x.w (src + i)) 22:=
 ⟨δ,c.ls,c.fs,c.p2,λ_=>c.sz δ,λ_=>c.ow δ,λ_=>c.i0 δ,λ_=>c.i1 δ,λ_=>c.cp δ,λ_=>rfl,λh=>absurd h δ,λh=>absurd h δ⟩
theorem al {x:X} {o src d size i word:Int} (H:Sh x) (c:Cp x o src d size i word 22):Sh { x with w:=AT x.w (d + i) word }/\Kp o x { x with w:=AT x.w (d + i) word }/\Cp { x with w:=AT x.w (d + i) word } o src d size (i + 1) word (if i + 1 = size then 23 else 21):=by
 have O:=c.ow δ;have T:=c.i0 δ;have W:=c.i1 (.inr rfl);obtain⟨N,K⟩:=X1 (z:=d + i) (v:=word) H O Z Z;have g:=H.g.inn (H.lb _ c.ls);have Q:=c.sz δ;have wl:=O.wl H.g;have d0:=O.d0;have e:∀u,0<=u->wv (AT x.w (d + i) word) u = if u = d + i then word else wv x.w u:=λu R=>Co Z Z R
 have A:∀j,0<=j->j < sz x.w src->wv (AT x.w (d + i) word) (src + j) = wv x.w (src + j):=λj y G=>by
  rw[e _ Z,if_neg (O.sep H.g Z Z (H.lb _ c.ls) y G)]
 refine⟨N,K,?_⟩;have D:∀q:Int,(q = 21\/q = 23)->(q = 23->i + 1 = size)->(q = 21->i + 1≠size)->Cp { x with w:=AT x.w (d + i) word } o src d size (i + 1) word q:=λq hq h5 h6=>by
  refine⟨Z,c.ls,c.fs,c.p2,λ_=>?_,λ_=>⟨O.d0,O.k,O.o,O.top,O.fit⟩,λ_=>Z,λh=>Z,λ_ j y G=>?_,λh=>Z,λh=>Z,λh=>Z⟩
  .show size = sz (AT x.w (d + i) word) src;rw[HU (A 1 Z Z)];exact Q
  .show wv (AT x.w (d + i) word) (d + j) = wv (AT x.w (d + i) word) (src + j);rw[A j Z Z,e _ Z];by_cases h:j = i
   .subst h;rw[if_pos rfl];exact c.wd rfl
   .rw[if_neg Z];exact c.cp δ j y Z
 split
 .exact D 23 (.inr rfl) (λ_=>by assumption) (λh=>absurd h δ)
 .exact D 21 (.inl rfl) (λh=>absurd h δ) (λ_=>by assumption)
theorem aZ {x:X} {o src d size i word:Int} (H:Sh x) (c:Cp x o src d size i word 23):Sh { x with w:=AT x.w d d }/\Kp o x { x with w:=AT x.w d d }/\Cp { x with w:=AT x.w d d } o src d size i word 24:=by
 have O:=c.ow δ;have G:=c.i0 δ;have N:=c.dn δ;obtain⟨Q,K⟩:=X1 (z:=d) (v:=d) H O Z Z;have g:=H.g.inn (H.lb _ c.ls);have R:=c.sz δ;have wl:=O.wl H.g;have d0:=O.d0;have e:∀u,0<=u->wv (AT x.w d d) u = if u = d then d else wv x.w u:=λu T=>Co Z Z T
 have D:∀j,0<=j->j < sz x.w src->wv (AT x.w d d) (src + j) = wv x.w (src + j):=λj y A=>by
  rw[e _ Z,if_neg (O.sep H.g Z Z (H.lb _ c.ls) y A)]
 refine⟨Q,K,⟨δ,c.ls,c.fs,c.p2,λ_=>?_,λ_=>⟨O.d0,O.k,O.o,O.top,O.fit⟩,λ_=>G,λh=>absurd h δ,λ_ j y A=>?_,λh=>absurd h δ,λ_=>N,λ_=>?_⟩⟩
 .show size = sz (AT x.w d d) src;rw[HU (D 1 Z Z)];exact R
 .show wv (AT x.w d d) (d + j) = wv (AT x.w d d) (src + j);rw[D j Z Z,e _ Z,if_neg Z];exact c.cp δ j y A
 .show wv (AT x.w d d) d = d;rw[e _ Z,if_pos rfl]
theorem azq {x:X} {o src d size i word:Int} (H:Sh x) (c:Cp x o src d size i word 24) (T:wv x.w src = src) :
  Sh { x.pub d size with w:=AT x.w src d }/\Kp o x { x.pub d size with w:=AT x.w src d }/\¬ BZ (x.pub d size).t d/\16<=d/\d≠src:=by
 have O:=c.ow δ;have h1:=c.i0 δ;have h2:=c.dn δ;have g:=H.g.inn (H.lb _ c.ls);have R:=c.sz δ;have d0:=O.d0;have sb:=Ft x.w src;have y:wv x.w (d + 1) = wv x.w (src + 1):=c.cp δ 1 δ Z;have Q:sz x.w d = size:=by
  unfold sz;rw[EH (a:=d) (w:=x.w) (w':=x.w) rfl];have:shp x.w d = shp x.w src:=by unfold shp;rw[y]
  rw[this];exact R.symm
 have N:shp x.w d = shp x.w src:=by unfold shp;rw[y]
 have nd:d≠src:=by
  intro h;have:=O.sep H.g (z:=d) Z Z (H.lb _ c.ls) (k:=0) Z Z;omega
 obtain⟨P,K⟩:=pub H O Q (by rw[y];exact (H.g.at_ _ (H.lb _ c.ls)).2.2) (c.hd rfl) (λj W A=>by
  rw[N] at A
  rw[show d + 2 + j = d + (2 + j) from Z,c.cp δ (2 + j) Z Z,show src + (2 + j) = src + 2 + j from Z]
  exact H.rf src j c.ls W A) (λh=>absurd h (by rw[c.p2];decide))
 have nf:¬ BZ (x.pub d size).t d:=λh=>by
  have:=(K.frm.1 h).2;rw[O.k] at this;cases this
 obtain⟨G,D⟩:=fwd (o:=o) (x:=x.pub d size) P (K.l _ c.ls) (K.frm.2 c.fs) T (.inr rfl) nf y (by rw[K.ph,c.p2];decide);exact⟨G,K.trans D H P,nf,d0,nd⟩
theorem T5 {c:Nat} {S:Sim} {g:Gh} {i:Int} {t:Thr} {o:Op} (I:IG P S g) (B:Bd c S) (H:idx S.th i = some t) (ho:S.opOf i t = some o) (b:Bs (xof S g) o t t.ret) (r:Hm t.ret) (e:Bv t t.ret = t.src) (cp:Cp (xof S g) i t.src t.dst t.size t.i t.word t.pc):Out P c i t.pc (S.copying i):=by
 have T:=I.ti i t H;have p:=cp.p;have G:t.pc≠0:=Z
 have b0:=I.wl;obtain⟨a1,a2,a3,a4,a5,a6⟩:=I.in_ cp.ls;obtain⟨i0,i1,_⟩:=Fq t H;have a9:=I.n1;have B1:Bd c { S with used:=true }:=⟨B.ev,B.old,B.cy,B.fu,B.st,B.pn⟩;unfold Sim.copying;rw[H];simp only[cP,z_o];by_cases a0:t.pc = 20
 .rw[if_pos a0,BQ Z Z];simp only[z_o];rw[CX Z Z];simp only[z_o];have es:AG (AS (wv S.AC (t.src + 1))).1 = sz S.AC t.src:=rfl;rw[es];rcases G6 (o:=i) (size:=sz S.AC t.src) I.sh.g.ok Z Z Z Z with h | ⟨t',d,h,P⟩
  .have h' : BY S.AA i (sz S.AC t.src) = none:=h;simp only[h'];obtain⟨S',R,D,A,y⟩:=Qb (S1:={ S with used:=true }) I B1 H I.sh (Kp.refl i _) ⟨rfl,rfl,rfl,rfl,rfl,rfl,λ_ _=>rfl⟩;exact⟨S',g,R,D,A.mono (dS c),.inr ⟨_,y,.inl rfl⟩⟩
  .have h' : BY S.AA i (sz S.AC t.src) = some (t',d):=h;simp only[h'];obtain⟨R,K,C⟩:=aU (word:=t.word) I.sh cp.ls cp.fs cp.p2 P;obtain⟨D,A,y⟩:=DB (S1:={ S with used:=true,AA:=t' }) (g':=g) (t':={ t with size:=sz S.AC t.src,dst:=d,i:=1,pc:=21 }) I (c:=c) ⟨B.ev,B.old,B.cy,B.fu,B.st,B.pn⟩ H R K ⟨rfl,rfl,rfl,rfl,rfl,rfl,P.AJ⟩
    (T.upd K rfl rfl G ho (.cp ((b.stable I.sh K).eqv rfl rfl rfl rfl rfl rfl) r (by show Bv _ t.ret = t.src;rw[<- e];rfl) C))
   exact⟨_,g,rfl,D,A.mono (dS c),.inl rfl⟩
 rw[if_neg a0];have j0:=cp.i0 Z;have hs:=cp.sz Z;have O:=cp.ow Z;have ow:=O.wl I.sh.g;have d0:=O.d0;simp only at hs ow;by_cases N:t.pc = 21
 .rw[if_pos N];have j1:=cp.i1 (.inl N);rw[BQ Z Z];simp only[z_o];rw[CX Z Z];simp only[z_o];rw[N] at cp;obtain⟨D,A,y⟩:=DB (S1:={ S with used:=true }) (t':={ t with word:=wv S.AC (t.src + t.i),pc:=22 }) I B1 H I.sh (Kp.refl i _) ⟨rfl,rfl,rfl,rfl,rfl,rfl,λ_ _=>rfl⟩
   (T.upd (Kp.refl i _) rfl rfl G ho (.cp (b.eqv rfl rfl rfl rfl rfl rfl) r (by show Bv _ t.ret = t.src;rw[<- e];rfl) (ay cp)))
  exact⟨_,g,rfl,D,A.mono (dS c),.inl rfl⟩
 rw[if_neg N];by_cases Q:t.pc = 22
 .rw[if_pos Q];have j1:=cp.i1 (.inr Q);rw[BQ Z Z];simp only[z_o];rw[DK Z Z];simp only[z_o];rw[BQ Z Z];simp only[z_o];rw[Q] at cp;obtain⟨R,K,C⟩:=al I.sh cp;obtain⟨D,A,y⟩:=DB (S1:={ S with used:=true,AC:=AT S.AC (t.dst + t.i) t.word }) (g':=g) (t':={ t with i:=t.i + 1,pc:=if t.i + 1 = t.size then 23 else 21 }) I (c:=c) ⟨B.ev,B.old,B.cy,B.fu,B.st,B.pn⟩ H R K ⟨rfl,rfl,rfl,rfl,rfl,rfl,λ_ _=>rfl⟩
   (T.upd K rfl rfl G ho (.cp ((b.stable I.sh K).eqv rfl rfl rfl rfl rfl rfl) r (by show Bv _ t.ret = t.src;rw[<- e];rfl) C))
  exact⟨_,g,rfl,D,A.mono (dS c),.inl rfl⟩
 rw[if_neg Q];by_cases W:t.pc = 23
 .rw[if_pos W];rw[DK Z Z];simp only[z_o];rw[W] at cp;obtain⟨R,K,C⟩:=aZ I.sh cp;obtain⟨D,A,y⟩:=DB (S1:={ S with used:=true,AC:=AT S.AC t.dst t.dst }) (g':=g) (t':={ t with pc:=24 }) I (c:=c) ⟨B.ev,B.old,B.cy,B.fu,B.st,B.pn⟩ H R K ⟨rfl,rfl,rfl,rfl,rfl,rfl,λ_ _=>rfl⟩
   (T.upd K rfl rfl G ho (.cp ((b.stable I.sh K).eqv rfl rfl rfl rfl rfl rfl) r (by show Bv _ t.ret = t.src;rw[<- e];rfl) C))
  exact⟨_,g,rfl,D,A.mono (dS c),.inl rfl⟩
 rw[if_neg W,if_pos Z,if_neg (by have:=r.le;omega)];have a8:t.pc = 24:=Z
 rw[a8] at cp;rw[CX Z Z];simp only[z_o];by_cases hw:wv S.AC t.src = t.src
 .rw[if_pos hw,DK (by show (0:Int)<=_;omega) (by show _ < (S.AC.length:Int);omega)];simp only[z_o];obtain⟨R,K,nf,_,_⟩:=azq I.sh cp hw;have a7:Sim.top { S with used:=true,AC:=AT S.AC t.src t.dst } t.dst t.size = some { S with used:=true,AC:=AT S.AC t.src t.dst,AA:=AT S.AA (t.dst / 16) { rv S.AA (t.dst / 16) with top:=t.dst + t.size } }:=by
   unfold Sim.top;rw[Be Z];show (match idx S.AA (t.dst / 16) with | some x=>_ | none=>_) = _;rw[Cm Z O.inn];simp only[];rw[BQ Z Z]
  simp only[a7,z_o];have j:=JZ t t.ret t.dst;obtain⟨D,A,y⟩:=DB (S1:={ S with used:=true,AC:=AT S.AC t.src t.dst,AA:=AT S.AA (t.dst / 16) { rv S.AA (t.dst / 16) with top:=t.dst + t.size } }) (g':={ g with B:=λa=>g.B a\/a = t.dst,L:=λa=>g.L a\/a = t.dst }) (t':=C7 t t.ret t.dst) I (c:=c) ⟨B.ev,B.old,B.cy,B.fu,B.st,B.pn⟩ H R K ⟨rfl,rfl,rfl,rfl,rfl,rfl,λq q0=>by
    show (rv (AT S.AA (t.dst / 16) _) q).AJ = _
    rw[DA Z O.inn q0];split
    .subst q;rfl
    .rfl⟩
   (by
    have:S.opOf i (C7 t t.ret t.dst) = S.opOf i t:=by unfold Sim.opOf;rw[j.2.1]
    rw[this]
    exact T.upd K j.1 j.2.1 G ho (.bs (by rw[j.2.2];exact (b.stable I.sh K).hold r (.inr rfl) Z nf)))
  exact⟨_,_,rfl,D,A.mono (dS c),.inl rfl⟩
 .rw[if_neg hw];obtain⟨f1,f2,_⟩:g.L (wv S.AC t.src)/\¬ BZ S.AA (wv S.AC t.src)/\_:=I.sh.fw _ (I.sh.lb _ cp.ls) cp.fs hw;have j:=JZ t t.ret (wv S.AC t.src);obtain⟨D,A,y⟩:=DB (S1:={ S with used:=true }) (t':=C7 t t.ret (wv S.AC t.src)) I B1 H I.sh (Kp.refl i _) ⟨rfl,rfl,rfl,rfl,rfl,rfl,λ_ _=>rfl⟩
   (by
    have:S.opOf i (C7 t t.ret (wv S.AC t.src)) = S.opOf i t:=by unfold Sim.opOf;rw[j.2.1]
    rw[this]
    exact T.upd (Kp.refl i _) j.1 j.2.1 G ho (.bs (by rw[j.2.2];exact b.hold r f1 (by have:=I.in_ f1;omega) f2)))
  exact⟨_,g,rfl,D,A.mono (dS c),.inl rfl⟩
end Sm
end
section
namespace Sm
variable {P:List (List Op)}
theorem EW {s:Shp} (h:BM s = true):AS (AY s) = (s,true):=by
 have hb:=h;simp only[BM,z_b,z_d] at hb;unfold AY AS;rw[if_pos h];have j:(16 * s.refs + s.nums) / 16 = s.refs:=Z
 have x:(16 * s.refs + s.nums) % 16 = s.nums:=Z
 rw[if_pos Z,j,x]
theorem Zi {x:X} {o dst size:Int} {s:Shp} (H:Sh x) (O:Ow x o dst size) (ok:BM s = true) (G:size = AG s) (hd:wv x.w dst = dst) (sp:wv x.w (dst + 1) = AY s) (K:∀j,2<=j->j < size->wv x.w (dst + j) = 0) :
  Sh (x.pub dst size)/\Kp o x (x.pub dst size):=by
 have e:shp x.w dst = s:=by unfold shp;rw[sp,EW ok]
 have N:=Ft x.w dst;have D:sz x.w dst = size:=by unfold sz;rw[e,G]
 have z:∀j,0<=j->j < (shp x.w dst).refs->wv x.w (dst + 2 + j) = 0:=λj y A=>by
  have:=K (2 + j) Z Z;rwa [<- Int.add_assoc] at this
 refine pub H O D (by rw[sp,EW ok]) hd (λj y A h=>absurd (z j y A) h) (λ_ j y A=>?_);rw[z j y A];intro h;have:=h.2;rw[show (0:Int) / 16 = 0 from rfl,H.g.ok.e] at this;cases this
theorem OX {α:Type} {l:List α} {i:Int} {t:α} (h:idx l i = some t):0<=i/\i < l.length:=by
 obtain⟨h0,j,_⟩:=Fq t h;exact⟨h0,j⟩
theorem WY {S:Sim} {a n:Int} (h0:16<=a) (j:a / 16 < S.AA.length) (x:-1000000<=a + n) (y:a + n<=1000000):S.top a n = some { S with AA:=AT S.AA (a / 16) { rv S.AA (a / 16) with top:=a + n } }:=by
 unfold Sim.top;rw[Be Z,Cm Z j];simp only[];rw[BQ x y]
theorem bH {c:Nat} {S S1:Sim} {g:Gh} {i:Int} {t t' : Thr} {o:Op} (hc:c < 900000) (I:IG P S g) (B:Bd c S1) (G:idx S.th i = some t) (H:S.opOf i t = some o) (hk:o.kind = 1) (N:t.pc≠0) (x:Sh (xof S1 g)) (K:Kp i (xof S g) (xof S1 g)) (E:BG S S1)
  (O:Ow (xof S1 g) i t.dst t.size) (ok:BM o.sh = true) (hs:t.size = AG o.sh) (hd:wv S1.AC t.dst = t.dst) (sp:wv S1.AC (t.dst + 1) = AY o.sh) (hz:∀j,2<=j->j < t.size->wv S1.AC (t.dst + j) = 0)
  (Q:t'.AD = t.AD) (A : t'.next = t.next) (y:t'.dst = t.dst) (R:t'.size = t.size) :
  ∃D,((S1.setT i t').top t'.dst t'.size >>= λS=>S.push i t'.dst) = some D/\(∃g',IG P D g')/\Bd (c + 1) D/\idx D.th i = some (thr0 (t.AD ++ [t.dst]) (t.next + 1) 0):=by
 have T:=I.ti i t G;have hn:=I.next G H;have fit:=O.fit;have d0:=O.d0;have inn:t.dst / 16 < S1.AA.length:=O.inn;have n1:=x.g.ok.n1;simp only at n1;have hl:=T.r8 o H N (.inl hk);have sb:2<=t.size/\t.size<=10:=by
  have hb:=ok;simp only[BM,z_b,z_d] at hb;rw[hs,Mm Z];omega
 rw[y,R,WY d0 (by exact inn) Z Z];simp only[cP,z_o];obtain⟨h1,K1⟩:=Zi x O ok hs hd sp hz;have B2:Bd c { S1 with AA:=AT S1.AA (t.dst / 16) { rv S1.AA (t.dst / 16) with top:=t.dst + t.size } }:=⟨B.ev,B.old,B.cy,B.fu,B.st,B.pn⟩;rw[TF (t:=t') ?_ (by rw[Q];omega) ?_ (by rw[A];exact hn)]
 .obtain⟨I',B',W⟩:=GY (ans:=0) (code:=0) (S1:={ S1 with AA:=AT S1.AA (t.dst / 16) { rv S1.AA (t.dst / 16) with top:=t.dst + t.size } }) (g':={ g with B:=λa=>g.B a\/a = t.dst,L:=λa=>g.L a\/a = t.dst }) I B2 G H h1 (K.trans K1 I.sh x) ⟨E.th,E.col,E.AM,E.pc_,E.stop,E.full,λq q0=>by
    rw[<- E.AJ q q0]
    show (rv (AT S1.AA (t.dst / 16) _) q).AJ = _
    rw[DA Z inn q0];split
    .subst q;rfl
    .rfl⟩ (t.AD ++ [t.dst]) (λa h h0=>by
     rcases cm.1 h with h | h
     .exact .inl (K.l a (T.rt a h h0))
     .simp only[cZ] at h;exact .inr h) (by simp;omega)
  refine⟨_,?_,⟨_,I'⟩,B',W⟩;unfold Sim.evd Sim.setT;simp only[JP,Q,A]
 .refine Wp (c:=c) ⟨B.ev,B.old,B.cy,B.fu,B.st,B.pn⟩ hc λu hu=>?_
  rcases dy (show u∈AT S1.th i t' from hu) with h | h
  .rw[E.th] at h;have:=I.AD u h;omega
  .rw[h,Q];omega
 .show idx (AT S1.th i t') i = _;rw[E.th];exact GH G
theorem VD {c:Nat} {S:Sim} {g:Gh} {i:Int} {t:Thr} {o:Op} (hc:c < 900000) (I:IG P S g) (B:Bd c S) (H:idx S.th i = some t) (W:S.opOf i t = some o) (m:Mg (xof S g) i o t):Out P c i t.pc (S.making i):=by
 have T:=I.ti i t H;have p:=m.p;have G:t.pc≠0:=Z
 have a5:=I.wl;obtain⟨i0,i1⟩:=OX H;have a4:=I.n1;have sb:2<=AG o.sh/\AG o.sh<=10:=by
  have hb:=m.sh;simp only[BM,z_b,z_d] at hb;rw[Mm Z];omega
 unfold Sim.making;rw[H];simp only[cP,z_o];rw[W];simp only[z_o];by_cases a0:t.pc = 30
 .rw[if_pos a0];rcases G6 (o:=i) (size:=AG o.sh) I.sh.g.ok Z Z Z Z with h | ⟨t',d,h,P⟩
  .have h' : BY S.AA i (AG o.sh) = none:=h;simp only[h'];split
   .rw[Ex (I.szok rfl B hc) H (I.next H W)];obtain⟨D,A,x⟩:=GY (ans:=0) (code:=6) I B H W I.sh (Kp.refl i _) (BG.refl S) t.AD T.rt T.rl;exact⟨_,g,rfl,D,A,.inr ⟨_,x,.inl rfl⟩⟩
   .obtain⟨S',N,D,A,x⟩:=Qb I B H I.sh (Kp.refl i _) (BG.refl S);exact⟨S',g,N,D,A.mono (dS c),.inr ⟨_,x,.inl rfl⟩⟩
  .have h' : BY S.AA i (AG o.sh) = some (t',d):=h;simp only[h'];obtain⟨N,K,O⟩:=room I.sh P;obtain⟨D,A,x⟩:=DB (S1:={ S with AA:=t' }) (g':=g) (t':={ t with size:=AG o.sh,dst:=d,i:=2,pc:=31 }) I (c:=c) ⟨B.ev,B.old,B.cy,B.fu,B.st,B.pn⟩ H N K ⟨rfl,rfl,rfl,rfl,rfl,rfl,P.AJ⟩
    (T.upd K rfl rfl G W (.mg ⟨V,m.k,m.sh,λ_=>rfl,λ_=>O,λ_ _=>rfl,V,V,V,V⟩))
   refine⟨_,g,rfl,D,A.mono (dS c),.inr ⟨_,x,.inr ?_⟩⟩;rw[a0];show rk 31 < rk 30;decide
 rw[if_neg a0];have hs:=m.sz Z;have O:=m.ow Z;have ow:t.dst + t.size<=S.AC.length:=O.wl I.sh.g;have d0:=O.d0;by_cases a1:t.pc = 31
 .rw[if_pos a1,DK Z Z];simp only[z_o];obtain⟨N,K⟩:=X1 (z:=t.dst) (v:=t.dst) I.sh O Z Z;obtain⟨D,A,x⟩:=DB (S1:={ S with used:=true,AC:=AT S.AC t.dst t.dst }) (g':=g) (t':={ t with pc:=32 }) I (c:=c) ⟨B.ev,B.old,B.cy,B.fu,B.st,B.pn⟩ H N K ⟨rfl,rfl,rfl,rfl,rfl,rfl,λ_ _=>rfl⟩
   (T.upd K rfl rfl G W (.mg ⟨V,m.k,m.sh,λ_=>hs,λ_=>⟨O.d0,O.k,O.o,O.top,O.fit⟩,λ_ _=>m.i2 Z Z,V,λ_=>by
    show wv (AT S.AC t.dst t.dst) t.dst = t.dst
    rw[Co Z Z Z,if_pos rfl],V,V⟩))
  exact⟨_,g,rfl,D,A.mono (dS c),.inl rfl⟩
 rw[if_neg a1];by_cases a2:t.pc = 32
 .have hi:=m.i2 Z Z;have hd:wv S.AC t.dst = t.dst:=m.hd Z;rw[if_pos a2,BQ Z Z];simp only[z_o];rw[DK Z Z];simp only[z_o];obtain⟨N,K⟩:=X1 (z:=t.dst + 1) (v:=AY o.sh) I.sh O Z Z;have e:∀u,0<=u->wv (AT S.AC (t.dst + 1) (AY o.sh)) u = if u = t.dst + 1 then AY o.sh else wv S.AC u:=λu hu=>Co Z Z hu
  have Q : wv (AT S.AC (t.dst + 1) (AY o.sh)) t.dst = t.dst:=by rw[e _ Z,if_neg Z];exact hd
  have R : wv (AT S.AC (t.dst + 1) (AY o.sh)) (t.dst + 1) = AY o.sh:=by rw[e _ Z,if_pos rfl]
  have O' : Ow (xof { S with used:=true,AC:=AT S.AC (t.dst + 1) (AY o.sh) } g) i t.dst t.size:=⟨O.d0,O.k,O.o,O.top,O.fit⟩;split
  .rename_i y;have y:t.i = t.size:=y;obtain⟨S',e1,⟨g',D⟩,A,x⟩:=bH (S1:={ S with used:=true,AC:=AT S.AC (t.dst + 1) (AY o.sh) }) (t':={ t with pc:=33 }) hc I ⟨B.ev,B.old,B.cy,B.fu,B.st,B.pn⟩ H W m.k G N K ⟨rfl,rfl,rfl,rfl,rfl,rfl,λ_ _=>rfl⟩ O' m.sh hs Q R (λj j0 j1=>Z) rfl rfl rfl rfl;exact⟨S',g',e1,D,A,.inr ⟨_,x,.inl rfl⟩⟩
  .rename_i y;have y:t.i≠t.size:=y;obtain⟨D,A,x⟩:=DB (S1:={ S with used:=true,AC:=AT S.AC (t.dst + 1) (AY o.sh) }) (g':=g) (t':={ t with pc:=33 }) I (c:=c) ⟨B.ev,B.old,B.cy,B.fu,B.st,B.pn⟩ H N K ⟨rfl,rfl,rfl,rfl,rfl,rfl,λ_ _=>rfl⟩
    (T.upd K rfl rfl G W (.mg ⟨V,m.k,m.sh,λ_=>hs,λ_=>O',λ_ h=>absurd h V,λ_=>⟨by show 2<=t.i;omega,by show t.i < t.size;omega⟩,λ_=>Q,λ_=>R,λ_ j j0 j1=>by have j1:j < t.i:=j1;omega⟩))
   exact⟨_,g,rfl,D,A.mono (dS c),.inl rfl⟩
 .have a3:t.pc = 33:=Z
  have hi:=m.i3 a3;have hd:wv S.AC t.dst = t.dst:=m.hd Z;have sp:wv S.AC (t.dst + 1) = AY o.sh:=m.sp Z;have z:∀j,2<=j->j < t.i->wv S.AC (t.dst + j) = 0:=m.z Z;rw[if_neg a2,if_pos a3,BQ Z Z];simp only[z_o];rw[DK Z Z];simp only[z_o];rw[BQ Z Z];simp only[z_o];obtain⟨N,K⟩:=X1 (z:=t.dst + t.i) (v:=0) I.sh O Z Z;have e:∀u,0<=u->wv (AT S.AC (t.dst + t.i) 0) u = if u = t.dst + t.i then 0 else wv S.AC u:=λu hu=>Co Z Z hu
  have Q : wv (AT S.AC (t.dst + t.i) 0) t.dst = t.dst:=by rw[e _ Z,if_neg Z];exact hd
  have R : wv (AT S.AC (t.dst + t.i) 0) (t.dst + 1) = AY o.sh:=by rw[e _ Z,if_neg Z];exact sp
  have z' : ∀j,2<=j->j < t.i + 1->wv (AT S.AC (t.dst + t.i) 0) (t.dst + j) = 0:=λj j0 j1=>by
   rw[e _ Z];split
   .rfl
   .exact z j j0 Z
  have O' : Ow (xof { S with used:=true,AC:=AT S.AC (t.dst + t.i) 0 } g) i t.dst t.size:=⟨O.d0,O.k,O.o,O.top,O.fit⟩;split
  .rename_i y;have y:t.i + 1 = t.size:=y;obtain⟨S',e1,⟨g',D⟩,A,x⟩:=bH (S1:={ S with used:=true,AC:=AT S.AC (t.dst + t.i) 0 }) (t':={ t with i:=t.i + 1,pc:=33 }) hc I ⟨B.ev,B.old,B.cy,B.fu,B.st,B.pn⟩ H W m.k G N K ⟨rfl,rfl,rfl,rfl,rfl,rfl,λ_ _=>rfl⟩ O' m.sh hs Q R (λj j0 j1=>z' j j0 Z) rfl rfl rfl rfl;exact⟨S',g',e1,D,A,.inr ⟨_,x,.inl rfl⟩⟩
  .rename_i y;have y:t.i + 1≠t.size:=y;obtain⟨D,A,x⟩:=DB (S1:={ S with used:=true,AC:=AT S.AC (t.dst + t.i) 0 }) (g':=g) (t':={ t with i:=t.i + 1,pc:=33 }) I (c:=c) ⟨B.ev,B.old,B.cy,B.fu,B.st,B.pn⟩ H N K ⟨rfl,rfl,rfl,rfl,rfl,rfl,λ_ _=>rfl⟩
    (T.upd K rfl rfl G W (.mg ⟨V,m.k,m.sh,λ_=>hs,λ_=>O',λ_ h=>absurd h V,λ_=>⟨by show 2<=t.i + 1;omega,by show t.i + 1 < t.size;omega⟩,λ_=>Q,λ_=>R,λ_ j j0 j1=>z' j j0 j1⟩))
   exact⟨_,g,rfl,D,A.mono (dS c),.inl rfl⟩
theorem TM {c:Nat} {S:Sim} {g:Gh} {i v:Int} (G:S.sz = true) (H:Sh (xof S g)) (B:Bd c S) (D:v≠0->g.L v) :
  ∃j,S.oldV v = some j/\Sh (xof j g)/\Kp i (xof S g) (xof j g)/\BG S j/\Bd (c + 1) j/\j.used = S.used/\j.AC = S.AC/\j.AA = S.AA/\j.Ae = S.Ae/\(S.Ae = 1->Lg (xof j g) v):=by
 unfold Sim.oldV;rw[G];simp only[fW,d8,if_false];by_cases y:S.Ae = 1
 .by_cases h0:v = 0
  .rw[if_neg Z];exact⟨S,rfl,H,Kp.refl i _,BG.refl S,B.mono (dS c),rfl,rfl,rfl,rfl,λ_=>.inl h0⟩
  .rw[if_pos ⟨y,h0⟩];have M:=H.mp y;obtain⟨P,K⟩:=bf (o:=i) (l:=S.old ++ [v]) H (λu A=>by
    rcases cm.1 A with h | h
    .exact M.old u h
    .simp only[cZ] at h;subst h;exact D h0) (λu A=>dC _ A)
   have x:=B.mono (dS c);refine⟨_,rfl,P,K,⟨rfl,rfl,rfl,rfl,rfl,rfl,λ_ _=>rfl⟩,⟨x.ev,?_,x.cy,x.fu,?_,x.pn⟩,rfl,rfl,rfl,rfl,λ_=>.inr (.inr (.inr (.inl (dM _ V))))⟩
   .have:=B.old;show (S.old ++ [v]).length<=c + 1;simp;omega
   .have:=B.st;show S.col.AR.length + (S.old ++ [v]).length + 5 * S.AM.countP (λb=>!b) + (if S.col.pc = 2 then (S.col.sh.refs - S.col.i).toNat else 0)<=3000 + (c + 1);simp only[cJ,cr];omega
 .rw[if_neg Z];exact⟨S,rfl,H,Kp.refl i _,BG.refl S,B.mono (dS c),rfl,rfl,rfl,rfl,λh=>absurd h y⟩
end Sm
end
section
namespace Sm
variable {P:List (List Op)}
theorem IG.usd {S:Sim} {g:Gh} (I:IG P S g) (b:Bool):IG P { S with used:=b } g:=⟨I.pg,I.sh,I.n0,I.n1,I.pl,I.pp,I.ti,I.c1,I.c2,I.c3,I.wt,I.rs⟩
theorem Bd.usd {c:Nat} {S:Sim} (B:Bd c S) (b:Bool):Bd c { S with used:=b }:=⟨B.ev,B.old,B.cy,B.fu,B.st,B.pn⟩
def V9 (P:List (List Op)) (c:Nat) (r:Option Sim):Prop:=∃S' g',r = some S'/\IG P S' g'/\Bd (c + 1) S'/\S'.used = true
theorem V9.out {c:Nat} {i pc:Int} {r:Option Sim} (h:V9 P c r):Out P c i pc r:=by
 obtain⟨j,x,y,A,D,G⟩:=h;exact⟨j,x,y,A,D,.inl G⟩
section
variable {c:Nat} {S:Sim} {g:Gh} {i:Int} {t:Thr} {o:Op}
theorem FQ (hc:c < 900000) (I:IG P S g) (B:Bd c S) (x:idx S.th i = some t) (A:S.opOf i t = some o) (ans code:Int):∃j,S.event i ans code = some j/\IG P j g/\Bd (c + 1) j/\idx j.th i = some (thr0 t.AD (t.next + 1) 0)/\j.used = S.used:=by
 rw[Ex (I.szok rfl B hc) x (I.next x A)];have T:=I.ti i t x;obtain⟨G,D,y⟩:=GY (ans:=ans) (code:=code) I B x A I.sh (Kp.refl i _) (BG.refl S) t.AD T.rt T.rl;exact⟨_,rfl,G,D,y,rfl⟩
theorem Oh (hc:c < 900000) (I:IG P S g) (B:Bd c S) (x:idx S.th i = some t) (A:S.opOf i t = some o) {a:Int} (H:a≠0->g.L a) (hl:t.AD.length < 8):∃j,S.push i a = some j/\IG P j g/\Bd (c + 1) j/\idx j.th i = some (thr0 (t.AD ++ [a]) (t.next + 1) 0)/\j.used = S.used:=by
 rw[TF (I.szok rfl B hc) Z x (I.next x A)];have T:=I.ti i t x;obtain⟨G,D,y⟩:=GY (ans:=0) (code:=0) I B x A I.sh (Kp.refl i _) (BG.refl S) (t.AD ++ [a]) (λb h h0=>by
  rcases cm.1 h with h | h
  .exact T.rt b h h0
  .simp only[cZ] at h;subst h;exact H h0) (by simp;omega)
 exact⟨_,rfl,G,D,y,rfl⟩
theorem YM {v:Int} (hc:c < 900000) (I:IG P S g) (B:Bd c S) (x:idx S.th i = some t) (y:S.opOf i t = some o) (b:Bs (xof S g) o t t.pc) (hp:t.pc = 5\/t.pc = 12) (O:v≠0->g.L v) (N:S.used = true):V9 P c (S.load i v):=by
 have T:=I.ti i t x;have j:t.pc≠0:=Z
 have Q:o.kind = 2:=b.k5 Z;have hl:=T.r8 o y j (.inr Q);unfold Sim.load;rw[x];simp only[cP,z_o];split
 .rename_i h;obtain⟨A,D,G,H,_,K⟩:=Oh (a:=t.v) hc I B x y (b.v Z Z) hl;exact⟨A,g,D,G,H,by rw[K,N]⟩
 .obtain⟨d,hd,a0⟩:=I.frm O;rw[hd];simp only[z_o];cases d with
  | false=>
   rw[if_pos τ];obtain⟨A,D,G,H,_,K⟩:=Oh (a:=v) hc I B x y O hl;exact⟨A,g,D,G,H,by rw[K,N]⟩
  | true=>
   rw[if_neg V];have b1:Bs (xof S g) o { t with u:=v,v:=v } 11:=⟨δ,b.k,b.h,b.g,b.kk,b.h0,λ_=>b.nh Z,λ_=>b.ng Z,λ_=>b.nk Z,λ_=>b.s Z,λ_=>b.f Z,λ_=>Q,λh=>absurd h δ,λh=>absurd h δ,λh=>absurd h δ,λh=>absurd h δ,λh=>absurd h δ,λh=>absurd h δ,λ_ _=>O,λh=>absurd h δ,λh=>absurd h δ⟩;obtain⟨W,R,_⟩:=DB (t':={ t with u:=v,v:=v,pc:=11 }) I B x I.sh (Kp.refl i _) (BG.refl S) (T.upd (Kp.refl i _) rfl rfl j y (.bs (b1.eqv rfl rfl rfl rfl rfl rfl)));exact⟨_,g,rfl,W,R.mono (dS c),N⟩
theorem TE {w:List Int} {t:List Rg} {B:Int->Prop} (G:Geo w t B) {v:Int} (h:BZ t v):v≠0:=by
 intro c;subst c;have:=h.2;rw[show (0:Int) / 16 = 0 from rfl,G.ok.e] at this;cases this
theorem IG.ph2 {v:Int} (I:IG P S g) (h:BZ S.AA v):S.Ae = 2\/S.Ae = 3:=by
 have j:0<=S.Ae/\S.Ae<=3:=I.sh.ph;by_cases c:S.Ae<=1
 .exact absurd h.2 (I.sh.nf c (v / 16) (by have:=h.1;omega))
 .omega
theorem Td {v:Int} (hc:c < 900000) (I:IG P S g) (B:Bd c S) (x:idx S.th i = some t) (A:S.opOf i t = some o) (b:Bs (xof S g) o t t.pc) (hp:t.pc = 10\/t.pc = 16) (hv:v≠0->g.L v) (D:S.used = true):V9 P c (S.swap i v):=by
 have T:=I.ti i t x;have y:t.pc≠0:=Z
 have hk:o.kind = 7:=b.k10 Z;unfold Sim.swap;rw[x];simp only[cP,z_o];split
 .obtain⟨N,Q,R,W,_,h5⟩:=FQ hc I B x A 0 0;exact⟨N,g,Q,R,W,by rw[h5,D]⟩
 .obtain⟨d,hd,a0⟩:=I.frm hv;rw[hd];simp only[z_o];cases d with
  | true=>
   have hf:BZ S.AA v:=a0.1 rfl;rw[if_pos rfl];have O:Bs (xof S g) o { t with u:=v,v:=v } 15:=⟨δ,b.k,b.h,b.g,b.kk,b.h0,λ_=>b.nh Z,λ_=>b.ng Z,λ_=>b.nk Z,λ_=>b.s Z,λ_=>b.f Z,λh=>absurd h δ,λh=>absurd h δ,λh=>absurd h δ,λh=>absurd h δ,λ_=>hk,λh=>absurd h δ,λh=>absurd h δ,λ_ _=>hv,λh=>absurd h δ,λ_=>by show S.Ae≠1;have:=I.ph2 hf;omega⟩;obtain⟨H,G,_⟩:=DB (t':={ t with u:=v,v:=v,pc:=15 }) I B x I.sh (Kp.refl i _) (BG.refl S) (T.upd (Kp.refl i _) rfl rfl y A (.bs (O.eqv rfl rfl rfl rfl rfl rfl)));exact⟨_,g,rfl,H,G.mono (dS c),D⟩
  | false=>
   rw[if_neg δ];split
   .obtain⟨N,Q,R,W,_,h5⟩:=FQ hc I B x A 0 0;exact⟨N,g,Q,R,W,by rw[h5,D]⟩
   .obtain⟨S1,e1,H1,K,E1,B1,u1,w1,t1,p1,l1⟩:=TM (i:=i) (I.szok rfl B hc) I.sh B hv;rw[e1];simp only[z_o];have j:=b.stable I.sh K;have O:Bs (xof S1 g) o { t with u:=v } 14:=⟨δ,j.k,j.h,j.g,j.kk,j.h0,λ_=>j.nh Z,λ_=>j.ng Z,λ_=>j.nk Z,λ_=>j.s Z,λ_=>j.f Z,λh=>absurd h δ,λh=>absurd h δ,λh=>absurd h δ,λh=>absurd h δ,λ_=>hk,λh=>absurd h δ,λ_ hp=>l1 (by rw[<- p1];exact hp),λ_ h=>absurd rfl h,λh=>absurd h δ,λh=>absurd h δ⟩;obtain⟨H,G,_⟩:=DB (t':={ t with u:=v,pc:=14 }) I B1 x H1 K E1 (T.upd K rfl rfl y A (.bs (O.eqv rfl rfl rfl rfl rfl rfl)));exact⟨_,g,rfl,H,G,by show S1.used = true;rw[u1,D]⟩
theorem YI {AI l:List Int} {kind a:Int} (h:GO AI kind a = some l) (x:AI.length<=8):l.length<=8/\∀v∈l,v∈AI\/v = a:=by
 unfold GO at h;split at h
 .split at h
  .cases h
  .cases h;refine⟨by simp;omega,λv j=>?_⟩;simpa using j
 .split at h
  .cases h;refine⟨by simp;omega,λv j=>.inl ?_⟩;rcases cm.1 j with h | h
   .exact dJ h
   .exact eG h
  .cases h
theorem Wr (hc:c < 900000) (I:IG P S g) (B:Bd c S) (y:idx S.th i = some t) (A:S.opOf i t = some o) (b:Bs (xof S g) o t t.pc) (hp:t.pc = 4):Out P c i t.pc (S.shape i):=by
 have T:=I.ti i t y;have a7:t.pc≠0:=Z
 have hk:=b.k;unfold Sim.shape;rw[y];simp only[cP,z_o];rw[I.szok rfl B hc,if_neg δ,A];simp only[z_o];split
 .obtain⟨G,H,N,O,Q,_⟩:=FQ hc I B y A (one (t.h == t.g)) 0;exact⟨G,g,H,N,O,.inr ⟨_,Q,.inl rfl⟩⟩
 .rename_i k6;split
  .rename_i k10;split
   .obtain⟨G,H,N,O,Q,_⟩:=FQ hc I B y A 0 7;exact⟨G,g,H,N,O,.inr ⟨_,Q,.inl rfl⟩⟩
   .rename_i AI D;obtain⟨q1,q2⟩:=YI D B.pn;obtain⟨P,K⟩:=cA (o:=i) (l:=AI) I.sh λv hv=>by
     rcases q2 v hv with h | h
     .exact I.sh.pl v h
     .subst h;exact⟨b.h (b.h0 k6),b.nh Z⟩
    have B1:Bd c { S with AI:=AI }:=⟨B.ev,B.old,B.cy,B.fu,B.st,q1⟩;rw[Ex (S:={ S with AI:=AI }) (I.szok rfl B1 hc) y (I.next y A)];obtain⟨I',B',a9⟩:=GY (ans:=0) (code:=0) (S1:={ S with AI:=AI }) I B1 y A P K ⟨rfl,rfl,rfl,rfl,rfl,rfl,λ_ _=>rfl⟩ t.AD T.rt T.rl;exact⟨_,g,rfl,I',B',.inr ⟨_,a9,.inl rfl⟩⟩
  .rename_i k10;have hh:=b.h0 k6;obtain⟨a1,a2,a3,a4,a5,a6⟩:=I.in_ (b.h hh);have b0:=I.wl;rw[BQ Z Z];simp only[z_o];rw[CX Z Z];simp only[z_o];have es:(AS (wv S.AC (t.h + 1))).1 = shp S.AC t.h:=rfl;rw[es];split
   .obtain⟨G,H,N,O,Q,W⟩:=FQ (S:={ S with used:=true }) hc (I.usd true) (B.usd true) y A 0 4;exact⟨G,g,H,N,O,.inl W⟩
   .rename_i x;have sb:=Ft S.AC t.h;have x:HW o (shp S.AC t.h).refs (shp S.AC t.h).nums = true:=by simpa using x
    have R:0<=o.f/\(o.kind = 4\/o.kind = 5->o.f < (shp S.AC t.h).nums)/\(o.kind≠4->o.kind≠5->o.f < (shp S.AC t.h).refs):=by
     unfold HW at x;split at x
     .rename_i j;simp only[d7,beq_iff_eq] at j;simp only[z_b,z_d] at x;exact⟨x.1,λ_=>x.2,λQ W=>by rcases j with h | h<;>contradiction⟩
     .rename_i j;simp only[d7,beq_iff_eq,not_or] at j;simp only[z_b,z_d] at x;exact⟨x.1,λh=>by rcases h with h | h<;>simp[h] at j,λ_ _=>x.2⟩
    have go:∀q:Int,(q = 5\/q = 6\/q = 7\/q = 8\/q = 9\/q = 10)->(q = 5->o.kind = 2)->(q = 6\/q = 7->o.kind = 3)->(q = 8->o.kind = 4)->(q = 9->o.kind = 5)->(q = 10->o.kind = 7)->(q = 7->S.Ae≠1)->
      V9 P c (some (({ S with used:=true }:Sim).setT i { t with sh:=shp S.AC t.h,pc:=q })):=λq hq W h6 h8 h9 a0 h7=>by
     have b1:Bs (xof S g) o { t with sh:=shp S.AC t.h } q:=⟨Z,b.k,b.h,b.g,b.kk,b.h0,λ_=>b.nh Z,λ_=>b.ng Z,λ_=>b.nk Z,λ_=>⟨rfl,hh⟩,λ_=>R,λh=>W Z,λh=>h6 Z,h8,h9,λh=>a0 Z,λh a8=>absurd a8 (h7 h),λh=>Z,λh=>Z,λh=>Z,λh=>Z⟩;obtain⟨I',B',_⟩:=DB (S1:={ S with used:=true }) (t':={ t with sh:=shp S.AC t.h,pc:=q }) I (B.usd true) y I.sh (Kp.refl i _) ⟨rfl,rfl,rfl,rfl,rfl,rfl,λ_ _=>rfl⟩ (T.upd (Kp.refl i _) rfl rfl a7 A (.bs (b1.eqv rfl rfl rfl rfl rfl rfl)));exact⟨_,g,rfl,I',B'.mono (dS c),rfl⟩
    refine V9.out ?_;by_cases k2:o.kind = 2
    .rw[if_pos k2];exact go 5 Z (λ_=>k2) Z Z Z Z Z
    rw[if_neg k2];by_cases k3:o.kind = 3
    .rw[if_pos k3];split
     .exact go 6 Z Z (λ_=>k3) Z Z Z Z
     .rename_i h;exact go 7 Z Z (λ_=>k3) Z Z Z (λ_=>h)
    rw[if_neg k3];by_cases k4:o.kind = 4
    .rw[if_pos k4];exact go 8 Z Z Z (λ_=>k4) Z Z Z
    rw[if_neg k4];by_cases k5:o.kind = 5
    .rw[if_pos k5];exact go 9 Z Z Z Z (λ_=>k5) Z Z
    rw[if_neg k5,if_pos Z];exact go 10 Z Z Z Z Z (λ_=>Z) Z
end
end Sm
end
section
namespace Sm
variable {P:List (List Op)}
section
variable {c:Nat} {S:Sim} {g:Gh} {i:Int} {t:Thr} {o:Op}
theorem XH (hc:c < 900000) (I:IG P S g) (B:Bd c S) (x:idx S.th i = some t) (H:S.opOf i t = some o) (b:Bs (xof S g) o t t.pc) (hp:5<=t.pc) (b7:t.pc≠11) (b8:t.pc≠15):Out P c i t.pc (S.field i):=by
 have T:=I.ti i t x;have b4:t.pc≠0:=Z
 have c0:=I.wl;have b9:=b.p;obtain⟨j,hh⟩:=b.s hp;have hL:=b.h hh;have hN:=b.nh Z;obtain⟨a1,a2,a3,a4,a5,a6⟩:=I.in_ hL;have sb:=Ft S.AC t.h;simp only at j;obtain⟨f0,fn,fr⟩:=b.f hp;have y : o.kind≠4->o.kind≠5->o.f < (shp S.AC t.h).refs:=λh h'=>by rw[<- j];exact fr h h'
 have b3 : o.kind = 4\/o.kind = 5->o.f < (shp S.AC t.h).nums:=λh=>by rw[<- j];exact fn h
 have B1:=B.usd true;have I1:=I.usd true;have a7:o.kind≠4->o.kind≠5->wv S.AC (t.h + 2 + o.f)≠0->g.L (wv S.AC (t.h + 2 + o.f)):=λh h'=>I.sh.rf t.h o.f hL f0 (y h h')
 have o1:o.f < 5:=by
  by_cases k:o.kind = 4\/o.kind = 5
  .have:=b3 k;omega
  .have:=y (λh=>k (.inl h)) (λh=>k (.inr h));omega
 have a0:({ S with used:=true }:Sim).opOf i t = some o:=H;unfold Sim.field;rw[x];simp only[cP,z_o];rw[H];simp only[z_o];rw[BQ Z Z];simp only[z_o];rw[BQ Z Z];simp only[z_o];rw[BQ (by rw[j];omega) (by rw[j];omega)];simp only[z_o];rw[BQ (by rw[j];omega) (by rw[j];omega)];simp only[z_o];by_cases c5:t.pc = 5\/t.pc = 12
 .have Q:=b.k5 Z;have R:=y Z Z;rw[if_pos c5,CX Z Z];simp only[z_o];exact (YM hc I1 B1 x a0 b c5 (a7 Z Z) rfl).out
 rw[if_neg c5];by_cases c6:t.pc = 6
 .have Q:=b.k6 Z;have R:=y Z Z;rw[if_pos c6,CX Z Z];simp only[z_o];obtain⟨S1,e1,H1,K1,E1,b5,u1,w1,t1,p1,l1⟩:=TM (i:=i) (I1.szok rfl B1 hc) I1.sh B1 (a7 Z Z);rw[e1];simp only[z_o];have O:=b.stable I.sh K1;have b1:Bs (xof S1 g) o t 7:=⟨δ,O.k,O.h,O.g,O.kk,O.h0,λ_=>O.nh Z,λ_=>O.ng Z,λ_=>O.nk Z,λ_=>O.s Z,λ_=>O.f Z,λh=>absurd h δ,λ_=>Q,λh=>absurd h δ,λh=>absurd h δ,λh=>absurd h δ,λ_ A W=>by
    have N : S.Ae = 1:=by rw[<- p1];exact A
    rw[K1.tma (show (0:Int)<=t.h by omega)] at W
    rcases (I.sh.mp N).un t.h o.f hL W f0 R with h | h
    .have:=l1 N
     rw[show (xof S1 g).q (t.h + 2 + o.f) = wv S.AC (t.h + 2 + o.f) from h.symm]
     exact this
    .exact K1.lg N _ h,λh=>absurd h δ,λh=>absurd h δ,λh=>absurd h δ,λh=>absurd h δ⟩
  obtain⟨G,D,_⟩:=DB (t':={ t with pc:=7 }) I b5 x H1 K1 ⟨E1.th,E1.col,E1.AM,E1.pc_,E1.stop,E1.full,E1.AJ⟩ (T.upd K1 rfl rfl b4 H (.bs (b1.eqv rfl rfl rfl rfl rfl rfl)));exact⟨_,g,rfl,G,D,.inl u1⟩
 rw[if_neg c6];by_cases c7:t.pc = 7
 .have Q:=b.k6 Z;have R:=y Z Z;rw[if_pos c7,DK Z Z];simp only[z_o];obtain⟨P,K⟩:=ref (o:=i) (v:=t.g) I.sh hL hN f0 R b.g (b.l7 c7) (λ_=>b.ng Z);have B2:Bd c { S with used:=true,AC:=AT S.AC (t.h + 2 + o.f) t.g }:=⟨B.ev,B.old,B.cy,B.fu,B.st,B.pn⟩;rw[Ex (S:={ S with used:=true,AC:=AT S.AC (t.h + 2 + o.f) t.g }) (I.szok rfl B2 hc) x (I.next x H)];obtain⟨G,D,_⟩:=GY (ans:=0) (code:=0) (S1:={ S with used:=true,AC:=AT S.AC (t.h + 2 + o.f) t.g }) I B2 x H P K ⟨rfl,rfl,rfl,rfl,rfl,rfl,λ_ _=>rfl⟩ t.AD T.rt T.rl;exact⟨_,g,rfl,G,D,.inl rfl⟩
 rw[if_neg c7];by_cases c8:t.pc = 8
 .have Q:=b.k8 c8;have R:=b3 (.inl Q);have e:t.h + 2 + t.sh.refs + o.f = t.h + (2 + (shp S.AC t.h).refs + o.f):=by rw[j];omega
  rw[if_pos c8,e,DK Z Z];simp only[z_o];obtain⟨P,K⟩:=num (o:=i) (v:=o.v) (k:=2 + (shp S.AC t.h).refs + o.f) I.sh hL hN (by show 2 + (shp S.AC t.h).refs<=_;omega) (by show _ < Sm.sz S.AC t.h;omega);have B2:Bd c { S with used:=true,AC:=AT S.AC (t.h + (2 + (shp S.AC t.h).refs + o.f)) o.v }:=⟨B.ev,B.old,B.cy,B.fu,B.st,B.pn⟩;rw[Ex (S:={ S with used:=true,AC:=AT S.AC (t.h + (2 + (shp S.AC t.h).refs + o.f)) o.v }) (I.szok rfl B2 hc) x (I.next x H)];obtain⟨G,D,_⟩:=GY (ans:=0) (code:=0) (S1:={ S with used:=true,AC:=AT S.AC (t.h + (2 + (shp S.AC t.h).refs + o.f)) o.v }) I B2 x H P K ⟨rfl,rfl,rfl,rfl,rfl,rfl,λ_ _=>rfl⟩ t.AD T.rt T.rl;exact⟨_,g,rfl,G,D,.inl rfl⟩
 rw[if_neg c8];by_cases c9:t.pc = 9
 .have Q:=b.k9 c9;have R:=b3 (.inr Q);rw[if_pos c9,CX (by rw[j];omega) (by rw[j];omega)];simp only[z_o];obtain⟨S',h1,h2,h3,h4,h5⟩:=FQ (S:={ S with used:=true }) hc I1 B1 x a0 (wv S.AC (t.h + 2 + t.sh.refs + o.f)) 0;exact⟨S',g,h1,h2,h3,.inl h5⟩
 rw[if_neg c9];have Q:o.kind = 7:=b.k10 Z;have R:=y Z Z;by_cases a8:t.pc = 10
 .rw[if_pos a8,CX Z Z];simp only[z_o];exact (Td hc I1 B1 x a0 b (.inl a8) (a7 Z Z) rfl).out
 rw[if_neg a8];by_cases a9:t.pc = 14
 .rw[if_pos a9,CX Z Z];simp only[z_o];split
  .rename_i hu;rw[DK (S:={ S with used:=true }) Z (by show _ < (S.AC.length:Int);omega)];simp only[z_o];obtain⟨P,K⟩:=ref (o:=i) (v:=t.k) I.sh hL hN f0 R b.kk (λA W=>by
    rcases (I.sh.mp A).un t.h o.f hL W f0 R with h | h
    .have:=b.l14 a9 A
     rw[show (xof S g).q (t.h + 2 + o.f) = wv S.AC (t.h + 2 + o.f) from h.symm,hu]
     exact this
    .exact h) (λ_=>b.nk Z)
   have B2:Bd c { S with used:=true,AC:=AT S.AC (t.h + 2 + o.f) t.k }:=⟨B.ev,B.old,B.cy,B.fu,B.st,B.pn⟩;rw[Ex (S:={ S with used:=true,AC:=AT S.AC (t.h + 2 + o.f) t.k }) (I.szok rfl B2 hc) x (I.next x H)];obtain⟨G,D,_⟩:=GY (ans:=1) (code:=0) (S1:={ S with used:=true,AC:=AT S.AC (t.h + 2 + o.f) t.k }) I B2 x H P K ⟨rfl,rfl,rfl,rfl,rfl,rfl,λ_ _=>rfl⟩ t.AD T.rt T.rl;exact⟨_,g,rfl,G,D,.inl rfl⟩
  .have b1:Bs (xof S g) o t 10:=⟨δ,b.k,b.h,b.g,b.kk,b.h0,λ_=>b.nh Z,λ_=>b.ng Z,λ_=>b.nk Z,λ_=>b.s Z,λ_=>b.f Z,λh=>absurd h δ,λh=>absurd h δ,λh=>absurd h δ,λh=>absurd h δ,λ_=>Q,λh=>absurd h δ,λh=>absurd h δ,λh=>absurd h δ,λh=>absurd h δ,λh=>absurd h δ⟩;obtain⟨G,D,_⟩:=DB (S1:={ S with used:=true }) (t':={ t with pc:=10 }) I B1 x I.sh (Kp.refl i _) ⟨rfl,rfl,rfl,rfl,rfl,rfl,λ_ _=>rfl⟩ (T.upd (Kp.refl i _) rfl rfl b4 H (.bs (b1.eqv rfl rfl rfl rfl rfl rfl)));exact⟨_,g,rfl,G,D.mono (dS c),.inl rfl⟩
 rw[if_neg a9,if_pos Z];have b2:t.pc = 16:=Z
 split
 .have b1:Bs (xof S g) o t 14:=⟨δ,b.k,b.h,b.g,b.kk,b.h0,λ_=>b.nh Z,λ_=>b.ng Z,λ_=>b.nk Z,λ_=>b.s Z,λ_=>b.f Z,λh=>absurd h δ,λh=>absurd h δ,λh=>absurd h δ,λh=>absurd h δ,λ_=>Q,λh=>absurd h δ,λ_ A=>absurd A (b.p15 (.inr b2)),λ_ h=>absurd rfl h,λh=>absurd h δ,λh=>absurd h δ⟩;obtain⟨G,D,b6⟩:=DB (t':={ t with pc:=14 }) I B x I.sh (Kp.refl i _) (BG.refl S) (T.upd (Kp.refl i _) rfl rfl b4 H (.bs (b1.eqv rfl rfl rfl rfl rfl rfl)));refine⟨_,g,rfl,G,D.mono (dS c),.inr ⟨_,b6,.inr ?_⟩⟩;rw[b2];show rk 14 < rk 16;decide
 .rw[CX Z Z];simp only[z_o];exact (Td hc I1 B1 x a0 b (.inr b2) (a7 Z Z) rfl).out
theorem Wg (hc:c < 900000) (I:IG P S g) (B:Bd c S) (j:idx S.th i = some t) (G:t.pc≠0):Out P c i t.pc (S.tstep i):=by
 have T:=I.ti i t j;rcases T.run with ⟨h,_⟩ | ⟨o,x,r⟩
 .exact absurd h G
 unfold Sim.tstep;rw[j];simp only[cP,z_o];cases r with
 | bs b=>
  have A:=b.p;by_cases c1:t.pc<=3\/t.pc = 11\/t.pc = 15
  .rw[if_pos c1];exact RV I B j x b (by unfold Hm;omega)
  rw[if_neg c1];by_cases y:t.pc = 4
  .rw[if_pos y];exact Wr hc I B j x b y
  rw[if_neg y,if_neg Z,if_neg Z];exact XH hc I B j x b Z Z Z
 | cp b r e cp=>
  have D:=cp.p;rw[if_neg Z,if_neg Z,if_neg Z,if_pos Z];exact T5 I B j x b r e cp
 | mg m=>
  have H:=m.p;rw[if_neg Z,if_neg Z,if_pos Z];exact VD hc I B j x m
theorem XA:∀(n c:Nat) (S:Sim) (g:Gh) (t:Thr),c + n < 900000->IG P S g->Bd c S->idx S.th i = some t->(t.pc = 0\/S.used = true\/rk t.pc < n)->∀m,n < m->∃x K,S.tloop m i = some x/\IG P x K/\Bd (c + n) x:=by
 intro n;induction n with
 | zero=>
  intro c S g t hc I B D O m hm;obtain⟨m,rfl⟩:∃k,m = k + 1:=⟨m - 1,Z⟩;refine⟨S,g,?_,I,B⟩;unfold Sim.tloop;rw[D];simp only[cP,z_o];rw[if_pos];rcases O with h | h | h
  .exact .inr h
  .exact .inl h
  .omega
 | succ n ih=>
  intro c S g t hc I B D O m hm;obtain⟨m,rfl⟩:∃k,m = k + 1:=⟨m - 1,Z⟩;unfold Sim.tloop;rw[D];simp only[cP,z_o];by_cases A:S.used = true\/t.pc = 0
  .rw[if_pos A];exact⟨S,g,rfl,I,B.mono Z⟩
  .rw[if_neg A];obtain⟨x,K,h1,G,R,hn⟩:=Wg Z I B D (λh=>A (.inr h));rw[h1];simp only[z_o];have a0 : rk t.pc < n + 1:=by
    rcases O with h | h | h
    .exact absurd (.inr h) A
    .exact absurd (.inl h) A
    .exact h
   have hlen:=(OX D);have Q : ∃j,idx x.th i = some j/\(j.pc = 0\/x.used = true\/rk j.pc < n):=by
    rcases hn with h | ⟨j,y,N⟩
    .have:∃j,idx x.th i = some j:=by
      have e1:=G.pl;have H:=I.pl;rw[G.pg] at e1;rw[I.pg] at H;exact⟨_,OC (d:=t) hlen.1 Z⟩
     obtain⟨j,y⟩:=this;exact⟨j,y,.inr (.inl h)⟩
    .exact⟨j,y,N.imp id λh=>.inr Z⟩
   obtain⟨j,y,N⟩:=Q;obtain⟨S2,g2,H,W,T⟩:=ih (c + 1) x K j Z G R y N m Z;exact⟨S2,g2,H,W,T.mono Z⟩
end
end Sm
end
section
namespace Sm
variable {P:List (List Op)}
theorem QL {o:Op} {AD:List Int} (ok:Sz o = true) (h:Df o AD 0 = 0) :
  (o.kind≠1->o.kind≠8->0<=o.a/\o.a < AD.length)/\(o.kind = 3\/o.kind = 6\/o.kind = 7->0<=o.b/\o.b < AD.length)/\(o.kind = 7->0<=o.c/\o.c < AD.length)/\
  (o.kind≠1->o.kind≠6->o.kind≠8->o.kind≠9->(idx AD o.a).getD 0≠0)/\(o.kind = 1\/o.kind = 2\/o.kind = 9->AD.length≠8):=by
 have j:1<=o.kind/\o.kind<=11:=by
  simp only[Sz,z_b,z_d] at ok;exact ok.1
 unfold Df at h;have hc:o.kind = 1\/o.kind = 2\/o.kind = 3\/o.kind = 4\/o.kind = 5\/o.kind = 6\/o.kind = 7\/o.kind = 8\/o.kind = 9\/o.kind = 10\/o.kind = 11:=Z
 rcases hc with k | k | k | k | k | k | k | k | k | k | k<;>simp only[k] at h ⊢<;>simp[EY,hnd] at h ⊢
 all_goals (first | omega | skip)
section
variable {c:Nat} {S:Sim} {g:Gh} {i:Int} {t:Thr} {o:Op}
theorem Io {α:Type} {l:List α} {i:Int} {a:α} (h:idx l i = some a):a∈l:=by
 unfold idx at h;split at h
 .exact List.mem_of_getElem? h
 .cases h
theorem GN {α:Type} {l:List α} {i:Int} (h:0<=i/\i < l.length):∃a,idx l i = some a/\a∈l:=by
 obtain⟨h0,j⟩:=h;have:idx l i = some (l[i.toNat]'(Z)):=by unfold idx;rw[if_pos h0,cF]
 exact⟨_,this,Io this⟩
theorem XN (hc:c < 900000) (I:IG P S g) (B:Bd c S) (A:idx S.th i = some t) (D:S.opOf i t = some o) (hp:t.pc = 0):∃j W,S.begin_ i = some j/\IG P j W/\Bd (c + 1) j:=by
 have T:=I.ti i t A;have K:t.g = 0/\t.k = 0:=by
  rcases T.run with h | ⟨o',h,r⟩
  .exact h.2
  .exfalso;cases r with
   | bs b=>have:=b.p;omega
   | cp _ _ _ cp=>have:=cp.p;omega
   | mg m=>have:=m.p;omega
 have ev:∀code,∃j W,S.event i 0 code = some j/\IG P j W/\Bd (c + 1) j:=λcode=>by
  obtain⟨j,h1,O,h3,_⟩:=FQ hc I B A D 0 code;exact⟨j,g,h1,O,h3⟩
 unfold Sim.begin_;rw[A];simp only[cP,z_o];rw[D];simp only[z_o];split
 .exact ev 1
 rename_i y;have y:Sz o = true:=by simpa using y
 split
 .exact ev _
 rename_i x;have x:Df o t.AD 0 = 0:=by simpa using x
 have hk:1<=o.kind/\o.kind<=11:=by
  simp only[Sz,z_b,z_d] at y;exact y.1
 obtain⟨fa,fb,fc,fz,f8⟩:=QL y x;have rl:=T.rl;have hL:∀(a:Int) (r:Int),idx t.AD a = some r->r≠0->g.L r:=λa r h h0=>T.rt r (Io h) h0
 split
 .rename_i k8;have hz:=I.szok rfl B hc;have a6:(S.setT i { t with AD:=t.AD.take (t.AD.length - 1) }).sz = true:=by
   refine Wp (c:=c) ⟨B.ev,B.old,B.cy,B.fu,B.st,B.pn⟩ hc λu hu=>?_
   rcases dy (show u∈AT S.th i _ from hu) with h | h
   .have:=I.AD u h;omega
   .rw[h];simp;omega
  rw[Ex a6 (GH A) (by have:=I.next A D;exact this)];obtain⟨R,Q,_⟩:=GY (ans:=0) (code:=0) I B A D I.sh (Kp.refl i _) (BG.refl S) (t.AD.take (t.AD.length - 1)) (λa h=>T.rt a (dJ h)) (by simp;omega);refine⟨_,g,?_,R,Q⟩;unfold Sim.evd Sim.setT;simp only[JP]
 split
 .rename_i k8 k9;obtain⟨a,ha,H⟩:=GN (fa Z Z);rw[ha];simp only[z_o];obtain⟨j,h1,O,h3,_⟩:=Oh hc I B A D (a:=a) (T.rt a H) (by have:=f8 Z;omega);exact⟨j,g,h1,O,h3⟩
 split
 .rename_i k8 k9 k1;obtain⟨R,Q,_⟩:=DB (t':={ t with pc:=30 }) I B A I.sh (Kp.refl i _) (BG.refl S)
   ⟨T.rt,T.rl,T.nx,λo' h' _ _=>by have:=f8 Z;show t.AD.length < 8;omega,.inr ⟨o,D,.mg ⟨V,k1,by
    simp only[Sz,z_b,d7,k1] at y
    simpa using y.2,V,V,V,V,V,V,V⟩⟩⟩
  exact⟨_,g,rfl,R,Q.mono (dS c)⟩
 rename_i k8 k9 k1;obtain⟨a,ha,H⟩:=GN (fa k1 k8);have a2:o.kind≠6->a≠0:=λk6=>by
  have:=fz k1 k6 k8 k9;rw[ha] at this;exact this
 rw[ha];simp only[z_o];have G:∀(N kk:Int),(N≠0->g.L N)->(kk≠0->g.L kk)->∃j W,some (S.setT i { t with pc:=1,h:=a,g:=N,k:=kk }) = some j/\IG P j W/\Bd (c + 1) j:=λN kk hg a4=>by
  have b1:Bs (xof S g) o { t with pc:=1,h:=a,g:=N,k:=kk } 1:=⟨δ,⟨Z,Z,Z,Z⟩,T.rt a H,hg,a4,a2,λh=>absurd h δ,λh=>absurd h δ,λh=>absurd h δ,λh=>absurd h δ,λh=>absurd h δ,λh=>absurd h δ,λh=>absurd h δ,λh=>absurd h δ,λh=>absurd h δ,λh=>absurd h δ,λh=>absurd h δ,λh=>absurd h δ,λh=>absurd h δ,λh=>absurd h δ,λh=>absurd h δ⟩;obtain⟨R,Q,_⟩:=DB (t':={ t with pc:=1,h:=a,g:=N,k:=kk }) I B A I.sh (Kp.refl i _) (BG.refl S)
   ⟨T.rt,T.rl,T.nx,λo' h' _ a1=>by
    have:o' = o:=by
     have O:S.opOf i t = some o':=h'
     rw[D] at O;cases O;rfl
    subst this
    have:=f8 Z;show t.AD.length < 8;omega,.inr ⟨o,D,.bs b1⟩⟩
  exact⟨_,g,rfl,R,Q.mono (dS c)⟩
 by_cases hb:o.kind = 3\/o.kind = 6\/o.kind = 7
 .obtain⟨b,a3,a0⟩:=GN (fb hb);rw[if_pos hb,a3];simp only[z_o];by_cases h7:o.kind = 7
  .obtain⟨k,a1,a5⟩:=GN (fc h7);rw[if_pos h7,a1];simp only[z_o];exact G b k (T.rt b a0) (T.rt k a5)
  .rw[if_neg h7];simp only[z_o];exact G b t.k (T.rt b a0) (λh=>absurd K.2 h)
 .rw[if_neg hb];simp only[z_o];rw[if_neg Z];simp only[z_o];exact G t.g t.k (λh=>absurd K.1 h) (λh=>absurd K.2 h)
theorem ao (pc:Int):rk pc<=4:=by
 unfold rk;split<;>(try split)<;>(try split)<;>(try split)<;>(try split)<;>(try split)<;>(try split)<;>(try split)<;>decide
theorem UN {n:Nat} (hc:c + 5 < 900000) (R:5 < n) (I:IG P S g) (B:Bd c S) (h0:0<=i) (H:i < S.th.length):∃j A,S.thread n i = some j/\IG P j A/\Bd (c + 5) j:=by
 obtain⟨t,y,_⟩:=GN ⟨h0,H⟩;have T:=I.ti i t y;unfold Sim.thread;rw[y];simp only[cP,z_o];split
 .rename_i K;split
  .exact⟨S,g,rfl,I,B.mono Z⟩
  .obtain⟨p,x,a0⟩:=GN (l:=S.AZ) (i:=i) ⟨h0,by rw[I.pl];exact H⟩;rw[x];simp only[z_o];split
   .rename_i D;obtain⟨o,G,_⟩:=GN ⟨T.nx,D⟩;have W:S.opOf i t = some o:=by unfold Sim.opOf;rw[x];exact G
    obtain⟨j,A,N,O,Q⟩:=XN Z I B y W K;exact⟨j,A,N,O,Q.mono Z⟩
   .exact⟨S,g,rfl,I,B.mono Z⟩
 .rename_i K;exact XA 5 c { S with used:=false } g t Z (I.usd false) (B.usd false) y (.inr (.inr (by have:=ao t.pc;omega))) n R
end
end Sm
end
