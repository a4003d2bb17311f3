/- A part of the proof of the given row. Conditions: none. -/
import Derived.Test.YthfhnheigfoioaaGreatRows
import Derived.ProofKit
import Derived.ChangeOld
import Derived.MapKept
import Derived.ChangeMaps4
import Derived.Test.YthfhnheigfoioaaGreatHH
set_option linter.unusedVariables false
set_option linter.unusedSimpArgs false
set_option maxRecDepth 100000
section
namespace Go.Lf
open Go Sm
def sel (l:List Int) (x:Int):Int:=l.getD x.toNat 0
theorem BF (l:List Int) {x:Int} (h0:0<=x) (j:x < l.length):(l.map I)[0 + x.toNat * 1]? = some (I (sel l x)):=by
 have:x.toNat < l.length:=Z
 simp[sel,this]
theorem WW {l:List Int} {x:Int} (h0:0<=x) (j:x < l.length):sel l x∈l:=by
 have:x.toNat < l.length:=Z
 simp[sel,this]
theorem jsb {R:RM} {D:Chs} {v:Value} {w n:Nat} {u:Int} {k:Value->M} (h:Bsl R v n) (h0:0<=u) (N:u<=n) (H:∀A,Bsl R A u.toNat->J R D (k A)):J R D (SL w v none (some (I u)) k):=by
 obtain⟨a,j,rfl,Q,x⟩:=h;intro G K;refine⟨⟨h0,Z⟩,H _ ⟨a,j,rfl,Z,?_⟩ G K⟩;rcases x with y | ⟨b,o,x,y⟩
 .exact .inl Z
 .exact .inr ⟨b,o,x,λi O=>y i Z⟩
theorem Bsl.sl {R:RM} {v:Value} {n:Nat} (h:Bsl R v n):∃a c,v = .slice a n c:=by obtain⟨a,c,j,_⟩:=h;exact⟨a,c,j⟩
theorem bS {R:RM} {D:Chs} {v:Value} {w n:Nat} {j:List Value} {u:Int} {k:Value->M} (h:Fz R v w n j) (h0:0<=u) (T:u<=n) (H:∀K,Fz R K w u.toNat (j.take (u.toNat * w))->J R D (k K)):J R D (SL w v none (some (I u)) k):=by
 rcases h with ⟨rfl,G,O⟩ | ⟨b,o,x,t,N,rfl,G,O,Q,W⟩
 .intro y A;refine⟨⟨h0,Z⟩,H _ ?_ y A⟩;have:u = 0:=Z
  subst this;exact .inl ⟨rfl,rfl,V⟩
 .intro y A;refine⟨⟨h0,Z⟩,H _ ?_ y A⟩;have hm:u.toNat * w<=n * w:=eQ w Z;exact .inr ⟨b,o,x,t,N,rfl,G,Z,by rw[<- Q,fO];congr 1;omega,Z⟩
def Dr (f:Nat) (args:List Value) (R:RM) (rb:Nat) (v:Value) (m c:Int) (q:Value->RM->Prop):Prop:=
 Fn P f args R [(rb,rdO v m)] (λx R' A=>R.le R'/\q x R'/\∃m',m<=m'/\m'<=m + c/\A = [(rb,rdO v m')])
theorem jdr {R:RM} {D E:Chs} {f A:Nat} {j:List Value} {v:Value} {m c:Int} {q:Value->RM->Prop} {k:Value->M} (Q:Dr f j R A v m c q) [t:Tk D A (rdO v m) E] (H:∀x y m',R.le y->q x y->m<=m'->m'<=m + c->J y ((A,rdO v m') :: E) (k x)) :
  J R D (CA P f j k):=by
 refine jc Q ?_;rintro x y _ _ ⟨G,K,m',N,O,rfl⟩;exact H x y m' G K N O
theorem FT {R j : RM} {D E F:Chs} {G:Nat} {v x:Value} {m c:Int} {q:Value->RM->Prop} (m' : Int) [t:Tk D G (rdO v m') E] [s:Sf E F] (y:R.le j) (H:q x j) (K:m<=m') (N:m'<=m + c) :
  J j D (Fb R F (λx j A=>R.le j/\q x j/\∃m',m<=m'/\m'<=m + c/\A = [(G,rdO v m')]) x):=by
 intro h O;exact Ao y ⟨y,H,m',K,N,rfl⟩ h (O.perm t.p)
theorem jk1 {R:RM} {D G F:Chs} {o:Obj} {m:M} (b:Nat) [t:Tk D b o G] [s:Sf G F] (H:J R ((b,o) :: F) m):J R D m:=by
 intro h x;obtain⟨X,j⟩:=s.p;subst j;exact H h (((x.perm t.p).perm d9.symm).drop)
theorem jk2 {R:RM} {D E G F:Chs} {o o' : Obj} {m:M} (b c:Nat) [t:Tk D b o E] [u:Tk E c o' G] [s:Sf G F] (H:J R ((b,o) :: (c,o') :: F) m):J R D m:=by
 intro h y;have j:=(y.perm t.p).perm (u.p.cons _);obtain⟨X,x⟩:=s.p;subst x;have:=db (l₁:=[(b,o),(c,o')]) (l₂:=X);have:=this.append_right F;exact H h (j.perm (by simpa using this)).drop
theorem jk3 {R:RM} {D E G x F:Chs} {o o' j:Obj} {m:M} (b c d:Nat) [t:Tk D b o E] [u:Tk E c o' G] [w:Tk G d j x] [s:Sf x F] (H:J R ((b,o) :: (c,o') :: (d,j) :: F) m):J R D m:=by
 intro h K;have y:=((K.perm t.p).perm (u.p.cons _)).perm ((w.p.cons _).cons _);obtain⟨X,A⟩:=s.p;subst A;have:=db (l₁:=[(b,o),(c,o'),(d,j)]) (l₂:=X);have:=this.append_right F;exact H h (y.perm (by simpa using this)).drop
theorem Vl {R:RM} {v:Value} {n:Nat} (h:Bsl R v n) :
  Fn P Lh [v] R [] (λx G A=>G = R/\∃W y,x = Pt W/\A = [(W,rdO y 0)]/\Byt R y):=by
 refine SX λF=>?_
 refine z_1 ?_;obtain⟨a,O,hv⟩:=h.sl;refine Ab (λvs G D'=>G = R/\D' = [] ++ F/\∃y,Byt R y/\vs = [y]) (λK T=>?_) ?_
 .refine Bo h.sl (jgr (jif (λD=>?_) (λD=>?_)))
  .have D:=z_f D;refine jsb h Z Z λy j=>(T _ _ _ ⟨rfl,rfl,y,?_,rfl⟩)
   obtain⟨H,N,e⟩:=j.sl;exact⟨H,_,N,e,j,δ⟩
  .have D:=z_g D;exact T _ _ _ ⟨rfl,rfl,v,⟨a,n,O,hv,h,Z⟩,rfl⟩
 rintro e R1 D1 ⟨hR,hD,y,j,he⟩;subst hR;refine z_W ?_;obtain⟨H,n',N,Q,-⟩:=id j;subst Q;refine jbd (cs:=[.slice H n' N,I 0]) rfl rfl (ja λb=>(Ao (RM.le.refl _) ⟨rfl,b,_,rfl,rfl,j⟩))
section draws
variable {R:RM} {rb:Nat} {v:Value} {m:Int}
set_option maxHeartbeats 4000000 in
theorem LF (hb:Byt R v) (hm:0<=m/\m < 500000000):Dr Ir [Pt rb] R rb v m 3 (λx y=>y = R/\∃sh:Shp,x = eSh sh):=by
 refine Oz λF=>?_
 refine z_1 ?_;refine ja λb=>(jpk hb ⟨Z,Z⟩ λx1 _ _=>jeq (jif (λ_=>?_) (λ_=>?_)))
 .refine Ab (λvs y O=>y = R/\(∃r n m',m<=m'/\m'<=m + 3/\O = (b,C 68 [I r,I n]) :: (rb,rdO v m') :: F)/\vs = [Pt b]) (λK H=>?_) ?_;rotate_left
  .rintro e R1 D1 ⟨hR,⟨r,n,m',A,D,hD⟩,he⟩;subst hR;refine z_W ?_;clear hD;refine jla (by exact z_n 2) rfl (FT m' (RM.le.refl _) ⟨rfl,⟨r,n⟩,rfl⟩ A D)
  have j:∀(r n m' : Int),m<=m'->m'<=m + 3->J R ((b,C 68 [I r,I n]) :: (rb,rdO v m') :: F) (K [Pt b]):=λr n m' A D=>H _ _ _ ⟨rfl,⟨r,n,m',A,D,rfl⟩,rfl⟩
  clear H;refine F5 ?_ ?_
  .refine jbs rfl rfl λb6=>(F5 ?_ ?_)
   .refine jpk hb ⟨Z,Z⟩ λx7 _ _=>(jia Z Z (jl (BF [4,5,-1,0] Z (by show _ < (4:Int);omega)) (F5 ?_ ?_)))
    .refine jbs rfl rfl λQ=>(Ak (jl (BF [4,5,-1,0] Z (by show _ < (4:Int);omega)) jev) (jpk hb ⟨Z,Z⟩ λb3 _ _=>(jia Z Z (jl (BF [4,5,-1,0] Z (by show _ < (4:Int);omega)) (jbd rfl rfl (Ak (jl (BF [4,5,-1,0] Z (by show _ < (4:Int);omega)) jev) (js rfl rfl (by exact z_n 2) rfl ?_)))))))
     refine jk2 (F:=F) b rb (j _ _ _ Z Z)
    refine E3 (jpk hb ⟨Z,Z⟩ λb4 _ _=>(Ak (jl (BF [4,5,-1,0] Z (by show _ < (4:Int);omega)) jev) (jbs rfl rfl λT=>(jia Z Z (jl (BF [4,5,-1,0] Z (by show _ < (4:Int);omega)) (jbd rfl rfl (Ak (jl (BF [4,5,-1,0] Z (by show _ < (4:Int);omega)) jev) ?_)))))));refine js rfl rfl (by exact z_n 2) rfl (jk2 (F:=F) b rb (j _ _ _ Z Z))
   refine E3 (jbs rfl rfl λW=>(jpk hb ⟨Z,Z⟩ λb5 _ _=>(jia Z Z (jl (BF [4,5,-1,0] Z (by show _ < (4:Int);omega)) (jpk hb ⟨Z,Z⟩ λb7 _ _=>(jia Z Z (jl (BF [4,5,-1,0] Z (by show _ < (4:Int);omega)) ?_)))))));refine jbd rfl rfl (Ak (jl (BF [4,5,-1,0] Z (by show _ < (4:Int);omega)) jev) (js rfl rfl (by exact z_n 2) rfl (jk2 (F:=F) b rb (j _ _ _ Z Z))))
  refine F5 ?_ ?_
  .refine jpk hb ⟨Z,Z⟩ λb8 _ _=>(F5 ?_ ?_)
   .refine jbs rfl rfl λa0=>(jia Z Z (jl (BF [4,5,-1,0] Z (by show _ < (4:Int);omega)) (F5 ?_ ?_)))
    .refine jbs rfl rfl λa1=>(Ak (jl (BF [4,5,-1,0] Z (by show _ < (4:Int);omega)) jev) (jpk hb ⟨Z,Z⟩ λb9 _ _=>(jia Z Z (jl (BF [4,5,-1,0] Z (by show _ < (4:Int);omega)) (jbd rfl rfl (Ak (jl (BF [4,5,-1,0] Z (by show _ < (4:Int);omega)) jev) (js rfl rfl (by exact z_n 2) rfl ?_)))))))
     refine jk2 (F:=F) b rb (j _ _ _ Z Z)
    refine E3 (jpk hb ⟨Z,Z⟩ λc0 _ _=>(Ak (jl (BF [4,5,-1,0] Z (by show _ < (4:Int);omega)) jev) (jbs rfl rfl λa2=>(jia Z Z (jl (BF [4,5,-1,0] Z (by show _ < (4:Int);omega)) (jbd rfl rfl (Ak (jl (BF [4,5,-1,0] Z (by show _ < (4:Int);omega)) jev) ?_)))))));refine js rfl rfl (by exact z_n 2) rfl (jk2 (F:=F) b rb (j _ _ _ Z Z))
   refine F5 ?_ ?_
   .refine jbs rfl rfl λa3=>(F5 ?_ ?_)
    .refine jbs rfl rfl λa4=>(jia Z Z (jl (BF [4,5,-1,0] Z (by show _ < (4:Int);omega)) (jpk hb ⟨Z,Z⟩ λc4 _ _=>(jia Z Z (jl (BF [4,5,-1,0] Z (by show _ < (4:Int);omega)) (jbd rfl rfl (Ak (jl (BF [4,5,-1,0] Z (by show _ < (4:Int);omega)) jev) ?_)))))))
     refine js rfl rfl (by exact z_n 2) rfl (jk2 (F:=F) b rb (j _ _ _ Z Z))
    refine E3 (jpk hb ⟨Z,Z⟩ λc5 _ _=>(jia Z Z (jl (BF [4,5,-1,0] Z (by show _ < (4:Int);omega)) (jbs rfl rfl λa5=>(jia Z Z (jl (BF [4,5,-1,0] Z (by show _ < (4:Int);omega)) (jbd rfl rfl ?_)))))));refine Ak (jl (BF [4,5,-1,0] Z (by show _ < (4:Int);omega)) jev) (js rfl rfl (by exact z_n 2) rfl (jk2 (F:=F) b rb (j _ _ _ Z Z)))
   refine E3 (jpk hb ⟨Z,Z⟩ λc6 _ _=>(F5 ?_ ?_))
   .refine jbs rfl rfl λa6=>(jia Z Z (jl (BF [4,5,-1,0] Z (by show _ < (4:Int);omega)) (jbs rfl rfl λa7=>?_)))
    refine jia Z Z (jl (BF [4,5,-1,0] Z (by show _ < (4:Int);omega)) (jbd rfl rfl (Ak (jl (BF [4,5,-1,0] Z (by show _ < (4:Int);omega)) jev) ?_)));refine js rfl rfl (by exact z_n 2) rfl (jk2 (F:=F) b rb (j _ _ _ Z Z))
   refine E3 (jbs rfl rfl λa8=>(jia Z Z (jl (BF [4,5,-1,0] Z (by show _ < (4:Int);omega)) ?_)));refine jbs rfl rfl λa9=>(jia Z Z (jl (BF [4,5,-1,0] Z (by show _ < (4:Int);omega)) (jbd rfl rfl ?_)))
   refine Ak (jl (BF [4,5,-1,0] Z (by show _ < (4:Int);omega)) jev) (js rfl rfl (by exact z_n 2) rfl (jk2 (F:=F) b rb (j _ _ _ Z Z)))
  refine E3 (jbs rfl rfl λb0=>(F5 ?_ ?_))
  .refine jbs rfl rfl λb1=>(jpk hb ⟨Z,Z⟩ λc7 _ _=>(jia Z Z (jl (BF [4,5,-1,0] Z (by show _ < (4:Int);omega)) ?_)))
   refine jpk hb ⟨Z,Z⟩ λc8 _ _=>(jia Z Z (jl (BF [4,5,-1,0] Z (by show _ < (4:Int);omega)) (jbd rfl rfl ?_)))
   refine Ak (jl (BF [4,5,-1,0] Z (by show _ < (4:Int);omega)) jev) (js rfl rfl (by exact z_n 2) rfl (jk2 (F:=F) b rb (j _ _ _ Z Z)))
  refine E3 (jpk hb ⟨Z,Z⟩ λc9 _ _=>(F5 ?_ ?_))
  .refine jbs rfl rfl λb2=>(jia Z Z (jl (BF [4,5,-1,0] Z (by show _ < (4:Int);omega)) (jpk hb ⟨Z,Z⟩ λd1 _ _=>?_)))
   refine jia Z Z (jl (BF [4,5,-1,0] Z (by show _ < (4:Int);omega)) (jbd rfl rfl (Ak (jl (BF [4,5,-1,0] Z (by show _ < (4:Int);omega)) jev) ?_)));refine js rfl rfl (by exact z_n 2) rfl (jk2 (F:=F) b rb (j _ _ _ Z Z))
  refine E3 (jpk hb ⟨Z,Z⟩ λN _ _=>(jia Z Z (jl (BF [4,5,-1,0] Z (by show _ < (4:Int);omega)) ?_)));refine jbs rfl rfl λG=>(jia Z Z (jl (BF [4,5,-1,0] Z (by show _ < (4:Int);omega)) (jbd rfl rfl ?_)))
  refine Ak (jl (BF [4,5,-1,0] Z (by show _ < (4:Int);omega)) jev) (js rfl rfl (by exact z_n 2) rfl (jk2 (F:=F) b rb (j _ _ _ Z Z)))
 .refine jpk hb ⟨Z,Z⟩ λx2 _ _=>jpk hb ⟨Z,Z⟩ λx3 _ _=>(jbd rfl rfl (js rfl rfl V rfl (jla (by exact z_n 2) rfl (FT _ (RM.le.refl _) ⟨rfl,⟨x2,x3⟩,rfl⟩ Z Z))))
theorem PL (hb:Byt R v) (N:0<=m/\m < 500000000):Dr Hy [Pt rb] R rb v m 3 (λx A=>A = R/\∃c:Cfg,x = .agg #[I c.AH,I c.AB,I c.AU]/\Bg c = true):=by
 refine Mu λF=>?_
 refine z_1 ?_;refine ja λb=>(jpk hb ⟨Z,Z⟩ λD _ _=>jad (jpk hb ⟨Z,Z⟩ λG _ _=>jad (jbs rfl rfl λK=>(jpk hb ⟨Z,Z⟩ λH _ _=>jia Z Z ?_))))
 have j:=WW (l:=[16,32,0,8,100]) Z (by show _ < (5:Int);omega);refine jl (BF [16,32,0,8,100] Z (by show _ < (5:Int);omega)) ?_;generalize sel [16,32,0,8,100] H = y at j;refine jbd rfl rfl (js rfl rfl V rfl (jla (by exact z_n 3) rfl (FT _ (RM.le.refl _) ⟨rfl,⟨4 + D,1 + G,y⟩,rfl,?_⟩ Z Z)));simp only[cU,List.not_mem_nil,or_false] at j;simp only[Bg,z_b,z_d];omega
end draws
def OpB (b b1 rb:Nat) (v:Value) (m c:Int) (F D:Chs):Prop:=∃k a b2 c2 f w r n m',(m<=m'/\-9223372036854775808<=w/\w < 9223372036854775808)/\m'<=m + c/\D = (b,C 86 [I k,I a,I b2,I c2,I f,I w,I r,I n]) :: (b1,C 86 (cl z86)) :: (rb,rdO v m') :: F
section draws
variable {R:RM} {rb:Nat} {v:Value} {m:Int}
theorem XX {n:Int} (hn:0<=n/\n < 1000000) (hb:Byt R v) (hm:0<=m/\m < 400000000):Dr NP [Pt rb,I n] R rb v m 30 (λx G=>G = R/\∃o:Sm.Op,x = .agg (eOp o).toArray/\Rn o.v):=by
 refine UJ λF=>?_
 refine z_2 ?_;refine ja λA=>jad (jpk hb ⟨Z,Z⟩ λx1 _ _=>jad (jpk hb ⟨Z,Z⟩ λx2 _ _=>jad (jpk hb ⟨Z,Z⟩ λx3 _ _=>?_)))
 refine jpk hb ⟨Z,Z⟩ λx4 _ _=>jpk hb ⟨Z,Z⟩ λx5 _ _=>jsu ?_
 refine jbd rfl rfl (ja λb=>?_);refine jS [I 0,I x1,I x2,I x3,I x4,I (x5 - 6),I 0,I 0] ?_;refine Ab (λQ G H=>G = R/\OpB b A rb v m 9 F H/\Q = [Pt rb,Pt A,Pt b]) (λK N=>?_) ?_
 .refine Ab (λQ G H=>G = R/\OpB b A rb v m 6 F H/\∃c u w,GM c u w/\Q = [Pt rb,I n,Pt A,Pt b,c,u]) (λK2 j=>?_) ?_
  .refine jpk hb ⟨Z,Z⟩ λx6 _ _=>jgr (Dv (λD=>jgr ?_) (λD=>?_))<;>refine jk3 (F:=F) b A rb ?_
   .exact j _ _ _ ⟨rfl,⟨_,_,_,_,_,_,_,_,_,Z,Z,rfl⟩,_,_,_,D▸Bx,rfl⟩
   .exact j _ _ _ ⟨rfl,⟨_,_,_,_,_,_,_,_,_,Z,Z,rfl⟩,_,_,_,D▸CB,rfl⟩
  rintro e R1 D1 ⟨O,⟨k,a,T,c2,f,w,r,n',m',D,W,hD⟩,c,u,w',ho,he⟩;subst O;refine z_W ?_;clear hD;rw[ho];refine jif (λ_=>?_) (λ_=>?_)
  .refine jpk hb ⟨Z,Z⟩ λy1 _ _=>js rfl rfl (cN rfl) rfl ?_
   refine jpk hb ⟨Z,Z⟩ λy2 _ _=>js rfl rfl (cN rfl) rfl ?_
   refine jpk hb ⟨Z,Z⟩ λy3 _ _=>js rfl rfl (cN rfl) rfl ?_
   refine jk3 (F:=F) b A rb ?_;exact N _ _ _ ⟨rfl,⟨_,_,_,_,_,_,_,_,_,Z,Z,rfl⟩,rfl⟩
  .exact N _ _ _ ⟨rfl,⟨_,_,_,_,_,_,_,_,_,Z,Z,rfl⟩,rfl⟩
 rintro e R1 D1 ⟨O,⟨k,a,T,c2,f,w,r,n',m',D,W,hD⟩,he⟩;subst O;refine z_W ?_;clear hD;refine jpk hb ⟨Z,Z⟩ λz _ _=>?_
 refine Ab (λQ G H=>G = R1/\OpB b A rb v m 15 F H/\Q = [Pt rb,Pt A,Pt b]) (λK N=>?_) ?_
 .refine jcI N λK2 j=>?_
  refine jlt (jif (λ_=>?_) (λ_=>jlt (jif (λ_=>?_) (λ_=>jlt (jif (λ_=>?_) (λ_=>jeq (jif (λ_=>?_) (λ_=>jeq (jif (λ_=>?_) (λ_=>jeq (jif (λ_=>?_) (λ_=>jeq (jif (λ_=>?_) (λ_=>jlt (jif (λ_=>?_) (λ_=>?_))))))))))))))))
  .refine js rfl rfl (cN rfl) rfl ?_;refine jdr (LF hb ⟨Z,Z⟩) ?_;rintro _ R2 m2 - ⟨a0,sh,rfl⟩ h3 h4;subst a0;refine js rfl rfl (cN rfl) rfl ?_;refine jk3 (F:=F) b A rb ?_;exact j _ _ _ ⟨rfl,⟨_,_,_,_,_,_,_,_,_,Z,Z,rfl⟩,rfl⟩
  .refine js rfl rfl (cN rfl) rfl (jk3 (F:=F) b A rb ?_);exact j _ _ _ ⟨rfl,⟨_,_,_,_,_,_,_,_,_,Z,Z,rfl⟩,rfl⟩
  .refine js rfl rfl (cN rfl) rfl (jk3 (F:=F) b A rb ?_);exact j _ _ _ ⟨rfl,⟨_,_,_,_,_,_,_,_,_,Z,Z,rfl⟩,rfl⟩
  .refine js rfl rfl (cN rfl) rfl (jpk hb ⟨Z,Z⟩ λy _ _=>js rfl rfl (cN rfl) rfl (jk3 (F:=F) b A rb ?_));exact j _ _ _ ⟨rfl,⟨_,_,_,_,_,_,_,_,_,Z,Z,rfl⟩,rfl⟩
  .refine js rfl rfl (cN rfl) rfl (jpk hb ⟨Z,Z⟩ λy _ _=>js rfl rfl (cN rfl) rfl (jk3 (F:=F) b A rb ?_));exact j _ _ _ ⟨rfl,⟨_,_,_,_,_,_,_,_,_,Z,Z,rfl⟩,rfl⟩
  .refine js rfl rfl (cN rfl) rfl (jk3 (F:=F) b A rb ?_);exact j _ _ _ ⟨rfl,⟨_,_,_,_,_,_,_,_,_,Z,Z,rfl⟩,rfl⟩
  .refine js rfl rfl (cN rfl) rfl (jk3 (F:=F) b A rb ?_);exact j _ _ _ ⟨rfl,⟨_,_,_,_,_,_,_,_,_,Z,Z,rfl⟩,rfl⟩
  .refine js rfl rfl (cN rfl) rfl (jk3 (F:=F) b A rb ?_);exact j _ _ _ ⟨rfl,⟨_,_,_,_,_,_,_,_,_,Z,Z,rfl⟩,rfl⟩
  .refine jbs rfl rfl λbt=>jpk hb ⟨Z,Z⟩ λy _ _=>jia Z Z (jl (BF [9,10,11] Z (by show _ < (3:Int);omega)) ?_)
   refine js rfl rfl (cN rfl) rfl (jk3 (F:=F) b A rb ?_);exact j _ _ _ ⟨rfl,⟨_,_,_,_,_,_,_,_,_,Z,Z,rfl⟩,rfl⟩
 clear D W m';rintro e R2 D2 ⟨O,⟨k,a,T,c2,f,w,r,n',m',D,W,hD⟩,he⟩;subst O;refine z_W ?_;clear hD;refine Ab (λQ G H=>G = R2/\OpB b A rb v m 16 F H/\Q = [Pt rb,Pt A,Pt b]) (λK N=>?_) ?_
 .refine jpk hb ⟨Z,Z⟩ λy _ _=>jeq (jif (λ_=>js rfl rfl (cN rfl) rfl ?_) (λ_=>?_))<;>refine jk3 (F:=F) b A rb ?_
  .exact N _ _ _ ⟨rfl,⟨_,_,_,_,_,_,_,_,_,Z,Z,rfl⟩,rfl⟩
  .exact N _ _ _ ⟨rfl,⟨_,_,_,_,_,_,_,_,_,Z,Z,rfl⟩,rfl⟩
 clear D W m';rintro e R3 D3 ⟨O,⟨k,a,T,c2,f,w,r,n',m',D,W,hD⟩,he⟩;subst O;refine z_W ?_;clear hD;refine Ab (λQ G H=>G = R3/\OpB b A rb v m 20 F H/\Q = [Pt A,Pt b]) (λK N=>?_) ?_
 .refine jpk hb ⟨Z,Z⟩ λy _ _=>?_
  refine jcI N λK2 j=>?_
  refine jeq (jif (λ_=>?_) (λ_=>jeq (jif (λ_=>?_) (λ_=>jeq (jif (λ_=>?_) (λ_=>?_))))))
  .refine jbs (cs:=[I 0,I 12,I (-1)]) rfl rfl λbt=>jpk hb ⟨Z,Z⟩ λy _ _=>jia Z Z (jl (BF [0,12,-1] Z (by show _ < (3:Int);omega)) ?_)
   refine js rfl rfl (cN rfl) rfl (jk3 (F:=F) b A rb ?_);exact j _ _ _ ⟨rfl,⟨_,_,_,_,_,_,_,_,_,Z,Z,rfl⟩,rfl⟩
  .refine jbs (cs:=[I (-1),I 8,I 1099511627776]) rfl rfl λbt=>jpk hb ⟨Z,Z⟩ λy _ _=>jia Z Z (jl (BF [-1,8,1099511627776] Z (by show _ < (3:Int);omega)) ?_)
   refine js rfl rfl (cN rfl) rfl (jk3 (F:=F) b A rb ?_);exact j _ _ _ ⟨rfl,⟨_,_,_,_,_,_,_,_,_,Z,Z,rfl⟩,rfl⟩
  .refine jbs (cs:=[I (-1),I 4,I 1099511627776]) rfl rfl λbt=>jpk hb ⟨Z,Z⟩ λy _ _=>jia Z Z (jl (BF [-1,4,1099511627776] Z (by show _ < (3:Int);omega)) ?_)
   refine js rfl rfl (cN rfl) rfl (jk3 (F:=F) b A rb ?_);exact j _ _ _ ⟨rfl,⟨_,_,_,_,_,_,_,_,_,Z,Z,rfl⟩,rfl⟩
  .refine jk3 (F:=F) b A rb ?_;exact j _ _ _ ⟨rfl,⟨_,_,_,_,_,_,_,_,_,Z,Z,rfl⟩,rfl⟩
 clear D W m';rintro e R4 D4 ⟨O,⟨k,a,T,c2,f,w,r,n',m',D,W,hD⟩,he⟩;subst O;refine z_W ?_;clear hD;refine jla (l:=[I k,I a,I T,I c2,I f,I w,I r,I n']) (by exact z_n 8) rfl ?_;refine js rfl rfl (cN rfl) rfl ?_;refine jla (l:=[I k,I a,I T,I c2,I f,I w,I r,I n']) (by exact z_n 8) rfl ?_;exact FT m' (RM.le.refl _) ⟨rfl,⟨k,a,T,c2,f,w,⟨r,n'⟩⟩,rfl,D.2⟩ Z Z
end draws
theorem Q4 {R:RM} {D T A E:Chs} {t w x b m W:Nat} {rows:List (List Value)} {cs:List Value} {v:Value} {zs:List Value} {k:Value->M} (j:List (List Value)) (so:SW t w rows v A) [tk:Tk D b (C t cs) T] [sp:Sp T A E] (N:cs = j.flatten)
  (hw:∀r∈rows,r.length = w) (y:∀r∈j,r.length = w) (hz:zs.length = w) (hf:By j.flatten = true) (O:m = j.length) (hb:x≠0) (hl:x * (2 * (rows.length + j.length) + 200)<=2 ^ 48)
  (H:∀K G,SW t w (rows ++ j) K G->J R (G ++ E) (k K)):J R D (AP t w x zs v (S0 b m W) k):=by
 subst N;intro h hs;have h1:=(hs.perm tk.p).perm ((sp.p.cons _).trans d9.symm);refine jaw so hw y hz hf O hb hl ?_ (λK G Q=>Az d9 (Bf (H K G Q))) h h1;have:=BX.held (R:=R) (D:=A ++ (b,C t j.flatten) :: E) (b:=b) (o:=0) (n:=m * w) (by rw[Br y,O];omega);rw[di,cO (by rw[Br y,O];omega)] at this;exact this
theorem O9 {l:List Sm.Op}:∀r∈l.map eOp,r.length = 8:=by
 intro r j;obtain⟨x,_,rfl⟩:=cq.1 j;rfl
theorem ZI {R:RM} {A E:Chs} {l:List Sm.Op} {v:Value} {m:M} (y:SW 86 8 (l.map eOp) v A) (H:∀j,R.le j->Ops j v l->J j E m):J R (A ++ E) m:=by
 refine jfw y O9 λj x hfz=>H j x ?_
 rw[cM] at hfz;exact hfz
def Vs (l:List Sm.Op):Prop:=∀o∈l,Rn o.v
theorem Vs.app {l l' : List Sm.Op} (h:Vs l) (j : Vs l'):Vs (l ++ l'):=λo x=>(cm.1 x).elim (h o) (j o)
theorem Vs.nil:Vs []:=λo j=>by cases j
theorem Vs.one {o:Sm.Op} (h:Rn o.v):Vs [o]:=λx j=>by rw[cZ.1 j];exact h
def OpP (b rb:Nat) (v:Value) (m c:Int) (F D:Chs):Prop:=∃k a b2 c2 f w r n m',(m<=m'/\-9223372036854775808<=w/\w < 9223372036854775808)/\m'<=m + c/\D = (b,C 86 [I k,I a,I b2,I c2,I f,I w,I r,I n]) :: (rb,rdO v m') :: F
section draws
variable {R:RM} {rb:Nat} {v:Value} {m:Int}
theorem V0 {n:Nat} (hn:n<=1000) (hb:Byt R v) (hm:0<=m/\m < 300000000):Dr Kc [Pt rb,I n] R rb v m (50 * n) (λx j=>∃l:List Sm.Op,(l.length = n/\Vs l)/\Ops j x l):=by
 refine Ph λF=>?_
 refine z_2 ?_;refine Ab (λN j D=>j = R/\∃(l:List Sm.Op) (Q:Value) (A:Chs) (m' : Int),(l.length = n/\Vs l)/\SW 86 8 (l.map eOp) Q A/\m<=m'/\m'<=m + 50 * n/\D = A ++ (rb,rdO v m') :: F/\N = [Q]) (λK hK=>?_) ?_;rotate_left
 .rintro e R1 D1 ⟨H,l,Q,A,m',hl,so,h1,h2,hD,he⟩;subst H;refine z_W ?_;clear hD;exact ZI so λR2 a1 ho=>FT m' a1 ⟨l,hl,ho⟩ h1 h2
 refine jcI hK λK2 a3=>?_
 refine jlp (λmm N j D=>j = R/\∃(i:Nat) (r:Int) (l:List Sm.Op) (Q:Value) (A:Chs) (m' : Int),i<=n/\(l.length = i/\Vs l)/\0<=r/\r<=i + 1/\SW 86 8 (l.map eOp) Q A/\m<=m'/\m'<=m + 50 * i/\D = A ++ (rb,rdO v m') :: F/\N = [Pt rb,I n,Q,I r,I i]/\mm = n - i)
  (n:=n) ⟨rfl,0,1,[],SN,[],m,Z,⟨rfl,Vs.nil⟩,Z,Z,.inl ⟨rfl,rfl,rfl⟩,Z,Z,rfl,rfl,Z⟩ ?_
 rintro mm e R1 D1 K3 ⟨H,i,r,l,Q,A,m',hi,⟨hl,a2⟩,r0,r1,so,h1,h2,hD,he,b0⟩ a4;subst H;refine z_W ?_;clear hD;refine jlt (jif (λhc=>?_) (λhc=>?_));rotate_left
 .have hc:=z_g hc;have:i = n:=Z
  subst this;exact a3 _ _ _ ⟨rfl,l,Q,A,m',⟨hl,a2⟩,so,h1,h2,rfl,rfl⟩
 have hc:i < n:=by have:=z_f hc;omega
 refine jdr (XX ⟨r0,Z⟩ hb ⟨Z,Z⟩) ?_;rintro _ R2 m2 - ⟨a1,o,rfl,a8⟩ h3 h4;subst a1;unfold Rn at a8;refine ja λb=>js rfl rfl (by exact z_n 8) rfl (Ab (λN j D=>j = R2/\OpP b rb v m2 4 (A ++ F) D/\N = [Pt rb,I n,Q,I r,I i,Pt b]) (λK4 W=>?_) ?_)
 .refine Ab (λN j D=>j = R2/\OpP b rb v m2 0 (A ++ F) D/\∃c u w,GM c u w/\N = [Pt rb,I n,Q,I r,I i,Pt b,c,u]) (λK5 O=>?_) ?_
  .refine jle (Dv (λh=>jl rfl (jeq ?_)) (λh=>?_))
   .exact O _ _ _ ⟨rfl,⟨_,_,_,_,_,_,_,_,_,Z,Z,rfl⟩,_,_,_,h▸Bx,rfl⟩
   .exact O _ _ _ ⟨rfl,⟨_,_,_,_,_,_,_,_,_,Z,Z,rfl⟩,_,_,_,h▸CB,rfl⟩
  rintro e Rx Dx ⟨H,⟨k,a,b2,c2,f,w,r',n',T,h5,h6,hD⟩,c,u,w',ho,he⟩;subst H;refine z_W ?_;clear hD;refine Ab (λN j D=>j = Rx/\OpP b rb v m2 1 (A ++ F) D/\∃c u w,GM c u w/\N = [Pt rb,I n,Q,I r,I i,Pt b,c,u]) (λK5 O=>?_) ?_
  .rw[ho];refine Dv (λh=>jpk hb ⟨Z,Z⟩ λy _ _=>jgr ?_) (λh=>?_)<;>refine jk2 (F:=A ++ F) b rb ?_
   .exact O _ _ _ ⟨rfl,⟨_,_,_,_,_,_,_,_,_,Z,Z,rfl⟩,_,_,_,h▸Bx,rfl⟩
   .exact O _ _ _ ⟨rfl,⟨_,_,_,_,_,_,_,_,_,Z,Z,rfl⟩,_,_,_,h▸CB,rfl⟩
  clear h5 h6 T ho;rintro e Ry Dy ⟨H,⟨k,a,b2,c2,f,w,r',n',T,h5,h6,hD⟩,c,u,w',ho,he⟩;subst H;refine z_W ?_;clear hD;rw[ho];refine jif (λh=>?_) (λh=>?_)
  .refine jdr (LF hb ⟨Z,Z⟩) ?_;rintro _ R3 m4 - ⟨a7,sh,rfl⟩ h7 h8;subst a7;refine jbd rfl rfl (js rfl rfl (by exact z_n 8) rfl (jk2 (F:=A ++ F) b rb (W _ _ _ ⟨rfl,⟨_,_,_,_,_,_,_,_,_,Z,Z,rfl⟩,rfl⟩)))
  .exact W _ _ _ ⟨rfl,⟨_,_,_,_,_,_,_,_,_,Z,Z,rfl⟩,rfl⟩
 rintro e Rx Dx ⟨H,⟨k,a,b2,c2,f,w,r',n',T,h5,h6,hD⟩,he⟩;subst H;refine z_W ?_;clear hD;refine Ab (λN j D=>j = Rx/\OpP b rb v m2 4 (A ++ F) D/\N = [Pt rb,I n,Q,I r,I i,Pt b]) (λK4 W=>?_) ?_
 .refine Ab (λN j D=>j = Rx/\OpP b rb v m2 4 (A ++ F) D/\∃c u w,GM c u w/\N = [Pt rb,I n,Q,I r,I i,Pt b,c,u]) (λK5 O=>?_) ?_
  .refine jge (Dv (λh=>?_) (λh=>?_))
   .have hu:∀w' : Bool,J Rx ((b,C 86 [I k,I a,I b2,I c2,I f,I w,I r',I n']) :: (rb,rdO v T) :: (A ++ F)) (K5 [Pt rb,I n,Q,I r,I i,Pt b,.bool (decide (r>=7)),.bool w']):=λw'=>
     O _ _ _ ⟨rfl,⟨_,_,_,_,_,_,_,_,_,Z,Z,rfl⟩,_,_,_,h▸Bx,rfl⟩
    refine jl rfl (jeq (F0 (λh2=>?_) (λh2=>?_)))<;>rw[h2]
    .refine jl rfl (jeq (Et (F0 (λh3=>?_) (λh3=>?_))))<;>rw[h3]
     .exact jl rfl (jeq (Et (hu _)))
     .exact Ec (hu _)
    .exact Ec (jtf (Ec (hu _)))
   .exact O _ _ _ ⟨rfl,⟨_,_,_,_,_,_,_,_,_,Z,Z,rfl⟩,_,_,_,h▸CB,rfl⟩
  clear h5 h6 T;rintro e Ry Dy ⟨H,⟨k,a,b2,c2,f,w,r',n',T,h5,h6,hD⟩,c,u,w',ho,he⟩;subst H;refine z_W ?_;clear hD;rw[ho];refine jif (λh=>?_) (λh=>?_)
  .refine jbd rfl rfl (js rfl rfl (by exact z_n 8) rfl (W _ _ _ ⟨rfl,⟨_,_,_,_,_,_,_,_,_,Z,Z,rfl⟩,rfl⟩))
  .exact W _ _ _ ⟨rfl,⟨_,_,_,_,_,_,_,_,_,Z,Z,rfl⟩,rfl⟩
 clear h5 h6 T;rintro e Ry Dy ⟨H,⟨k,a,b2,c2,f,w,r',n',T,h5,h6,hD⟩,he⟩;subst H;refine z_W ?_;clear hD;refine Ab (λN j D=>j = Ry/\D = (b,C 86 [I k,I a,I b2,I c2,I f,I w,I r',I n']) :: (rb,rdO v T) :: (A ++ F)/\∃r2:Int,0<=r2/\r2<=r + 1/\N = [Pt rb,I n,Q,I r2,I i,Pt b]) (λK6 a5=>?_) ?_
 .refine jl rfl (Ab (λN j D=>j = Ry/\D = (b,C 86 [I k,I a,I b2,I c2,I f,I w,I r',I n']) :: (rb,rdO v T) :: (A ++ F)/\∃r2:Int,0<=r2/\r2<=r + 1/\N = [Pt rb,I n,Q,I r2,I i,Pt b]) (λK7 a0=>?_) ?_);rotate_left
  .rintro e Rz Dz ⟨H,hD,r2,q0,q1,he⟩;refine z_V ?_;exact a5 _ _ _ ⟨H,hD,r2,q0,q1,rfl⟩
  refine Ab (λN j D=>j = Ry/\D = (b,C 86 [I k,I a,I b2,I c2,I f,I w,I r',I n']) :: (rb,rdO v T) :: (A ++ F)/\∃w' : Bool,N = [Pt rb,I n,Q,I r,I i,Pt b,I k,.bool w']) (λK8 a6=>?_) ?_
  .refine jeq (jif (λh=>?_) (λh=>jeq (jif (λh=>?_) (λh=>jeq ?_))))<;>exact a6 _ _ _ ⟨rfl,rfl,_,rfl⟩
  rintro e Rz Dz ⟨H,hD,w',he⟩;subst H;refine z_W ?_;clear hD;refine jif (λh=>jad ?_) (λh=>jeq (jif (λh=>jgr (jif (λh=>jsu ?_) (λh=>?_))) (λh=>?_)))
  .exact a0 _ _ _ ⟨rfl,rfl,r + 1,Z,Z,rfl⟩
  .have h:=z_f h;exact a0 _ _ _ ⟨rfl,rfl,r - 1,Z,Z,rfl⟩
  .exact a0 _ _ _ ⟨rfl,rfl,r,Z,Z,rfl⟩
  .exact a0 _ _ _ ⟨rfl,rfl,r,Z,Z,rfl⟩
 rintro e Rz Dz ⟨H,hD,r2,q0,q1,he⟩;subst H;refine z_W ?_;clear hD;refine jla (by exact z_n 8) rfl (jbs rfl rfl λbs=>?_);refine Q4 [eOp ⟨k,a,b2,c2,f,w,⟨r',n'⟩⟩] so rfl O9 (λq hq=>by rw[cZ.1 hq];rfl) rfl rfl rfl δ (by rw[cM,cr];omega) λv' A' a9=>(jad ?_)
 refine Al A' (G:=(rb,rdO v T) :: F) (a4 (n - (i + 1)) _ _ _ Z ⟨rfl,i + 1,r2,l ++ [⟨k,a,b2,c2,f,w,⟨r',n'⟩⟩],v',A',T,Z,⟨by rw[cJ,hl];rfl,a2.app (Vs.one (by exact h5.2))⟩,q0,Z,by rw[dE];exact a9,Z,Z,rfl,rfl,rfl⟩)
end draws
theorem F7.le {R j : RM} {v:Value} {l:List (List Sm.Op)} (h:R.le j) (H:F7 R v l):F7 j v l:=by
 obtain⟨O,y,A,D⟩:=H;exact⟨O,y.le h,A,λi G=>by obtain⟨x,N,K⟩:=D i G;exact⟨x,N,K.le h⟩⟩
def PrW (R:RM) (rows:List (List Value)) (l:List (List Sm.Op)):Prop:=Rw (λrow p=>∃x,row = [x]/\Ops R x p) rows l
theorem PrW.len {R:RM} {rows:List (List Value)} {l:List (List Sm.Op)} (h:PrW R rows l):∀r∈rows,r.length = 1:=h.all λ_ _ ⟨_,j,_⟩=>by rw[j];rfl
theorem PrW.le {R j : RM} {rows:List (List Value)} {l:List (List Sm.Op)} (D:R.le j) (h:PrW R rows l):PrW j rows l:=h.mono λ_ _ ⟨x,y,A⟩=>⟨x,y,A.le D⟩
theorem Yr:∀{rows:List (List Value)} (_:∀r∈rows,r.length = 1) (i:Nat) (h:i < rows.length),rows.flatten[i]? = (rows[i])[0]?
 | [],_,i,h=>absurd h V
 | a :: r,hw,i,h=>by
  have j:a.length = 1:=hw a V;rw[eP];cases i with
  | zero=>rw[de Z];rfl
  | succ i=>rw[eO Z,j,Nat.add_sub_cancel,Yr (λx y=>hw x (by simp[y])) i (by simpa using h)];rfl
theorem VH {R:RM} {A E:Chs} {t:Nat} {rows:List (List Value)} {l:List (List Sm.Op)} {v:Value} {m:M} (Q:SW t 1 rows v A) (j:PrW R rows l) (H:∀y,R.le y->F7 y v l->J y E m):J R (A ++ E) m:=by
 refine jfw Q j.len λy G hfz=>H y G ⟨rows.flatten,?_,?_,λi K=>?_⟩
 .rw[<- j.1];exact hfz
 .rw[Br j.len,j.1];omega
 .have D : i < rows.length:=by rw[j.1];exact K
  obtain⟨x,N,O⟩:=j.2 i D K;exact⟨x,by rw[Yr j.len i D,N];rfl,O.le G⟩
theorem QP:∀(q:List Sm.Op) (u:Nat),(Ad eOp q).take (u * 8) = Ad eOp (q.take u)
 | [],u=>by simp[Ad]
 | x :: r,0=>by simp[Ad]
 | x :: r,u + 1=>by
  have:=QP r u;unfold Ad at this ⊢;rw[List.take_succ_cons,dO,dO,eP,eP,List.take_append,cO (by show 8<=_;omega),<- this];congr 2;show (u + 1) * 8 - 8 = _;omega
section draws
variable {R:RM} {rb:Nat} {v:Value} {m:Int}
theorem RF {n:Nat} (hn:n<=39) (hb:Byt R v) (hm:0<=m/\m < 300000000):Dr Ie [Pt rb,I n] R rb v m 1000 (λx R'=>∃l:List Sm.Op,(l.length<=40/\Vs l)/\Ops R' x l):=by
 refine Oc λF=>?_
 refine z_2 ?_;have b0:∀(l:List Sm.Op) (O:Value) (A:Chs) (m' : Int),l.length<=40/\Vs l->SW 86 8 (l.map eOp) O A->m<=m'->m'<=m + 1000->J R (A ++ (rb,rdO v m') :: F) (Fb R F (λx R' A=>R.le R'/\(∃l:List Sm.Op,(l.length<=40/\Vs l)/\Ops R' x l)/\∃m',m<=m'/\m'<=m + 1000/\A = [(rb,rdO v m')]) O):=λl O A m' hl so h1 h2=>
  ZI so λR2 a4 ho=>FT m' a4 ⟨l,hl,ho⟩ h1 h2
 refine Ab (λvs R' D'=>R' = R/\∃(l:List Sm.Op) (O:Value) (A:Chs) (m' : Int),(l.length<=40/\Vs l)/\SW 86 8 (l.map eOp) O A/\m<=m'/\m'<=m + 1000/\D' = A ++ (rb,rdO v m') :: F/\vs = [O]) (λK hK=>?_) ?_;rotate_left
 .rintro e R1 D1 ⟨hR,l,O,A,m',hl,so,h1,h2,hD,he⟩;subst hR;refine z_W ?_;exact b0 l O A m' hl so h1 h2
 refine jcI hK λK2 b1=>?_
 refine jlp (λmm vs R' D'=>R' = R/\∃(l:List Sm.Op) (O:Value) (A:Chs) (m' : Int),(l.length<=40/\Vs l)/\SW 86 8 (l.map eOp) O A/\m<=m'/\m'<=m + 10 * l.length/\D' = A ++ (rb,rdO v m') :: F/\vs = [Pt rb,I n,O]/\mm = 40 - l.length)
  ⟨rfl,[],SN,[],m,⟨δ,Vs.nil⟩,.inl ⟨rfl,rfl,rfl⟩,Z,V,rfl,rfl,rfl⟩ ?_
 rintro mm e R1 D1 K3 ⟨hR,l,O,A,m',⟨hl,hv⟩,so,h1,h2,hD,he,c0⟩ b2;subst hR;refine z_W ?_;have a7:=so.sl;rw[cM] at a7;refine Bo a7 (jad (jlt (jif (λhc=>?_) (λhc=>?_))));rotate_left
 .exact b1 _ _ _ ⟨rfl,l,O,A,m',⟨hl,hv⟩,so,h1,Z,rfl,rfl⟩
 have hc:=z_f hc;have b9:l.length<=32:=Z
 refine jpk hb ⟨Z,Z⟩ λy1 _ _=>jad (jpk hb ⟨Z,Z⟩ λy2 _ _=>(jbd rfl rfl (jbd rfl rfl (jbs rfl rfl λbs=>?_))))
 have app:∀{D:Chs} {b cx:Nat} {cs:List Value} {l1:List Sm.Op} {a1:Value} {A1 E D1:Chs} {k:Value->M} (N:List Sm.Op),SW 86 8 (l1.map eOp) a1 A1->Tk D b (C 86 cs) D1->Sp D1 A1 E->cs = (N.map eOp).flatten->l1.length + N.length<=40->
   (∀j T,SW 86 8 ((l1 ++ N).map eOp) j T->J R1 (T ++ E) (k j))->J R1 D (AP 86 8 64 (cl z86) a1 (S0 b N.length cx) k):=λ{D b cx cs l1 a1 A1 E D1 k} N Q tk sp b4 hlen H=>by
  refine Q4 (N.map eOp) Q b4 O9 O9 rfl (PS λr hr=>?_) (by rw[cM]) δ (by rw[cM,cM];omega) λv' A' b7=>H v' A' (by rw[dE];exact b7)
  obtain⟨x,_,rfl⟩:=cq.1 hr;rfl
 refine app [⟨1,0,0,0,0,0,⟨1 + y1,y2⟩⟩] so inferInstance inferInstance rfl (by rw[cr];omega) λa1 A1 Q=>?_
 generalize a5:l ++ [(⟨1,0,0,0,0,0,⟨1 + y1,y2⟩⟩:Sm.Op)] = l1 at Q;have a0:Vs l1:=a5▸hv.app (Vs.one Rn.zero);have b8:l1.length = l.length + 1:=by rw[<- a5];simp
 have a8:=Q.sl;rw[cM] at a8;refine Ab (λvs R' D'=>R' = R1/\∃(N:List Sm.Op) (O:Value) (A:Chs) (m2:Int),l.length < N.length/\N.length<=l.length + 7/\(N.length<=39/\Vs N)/\SW 86 8 (N.map eOp) O A/\m'<=m2/\m2<=m' + 6/\D' = A ++ (rb,rdO v m2) :: F/\vs = [Pt rb,I n,O]) (λK4 b3=>?_) ?_
 .refine jpk hb ⟨Z,Z⟩ λy3 _ _=>(Ab (λvs R' D'=>R' = R1/\∃(N:List Sm.Op) (O:Value) (A:Chs) (m2:Int),l.length < N.length/\N.length<=l.length + 7/\(N.length<=39/\Vs N)/\SW 86 8 (N.map eOp) O A/\m'<=m2/\m2<=m' + 6/\D' = A ++ (rb,rdO v m2) :: F/\vs = [Pt rb,I n,O]) (λK5 W=>?_) ?_)
  rotate_left
  .rintro e Rx Dx ⟨hR,N,O,A,m2,q1,q2,q3,y,q4,q5,hD,he⟩;refine z_V ?_;exact b3 _ _ _ ⟨hR,N,O,A,m2,q1,q2,q3,y,q4,q5,hD,rfl⟩
  refine jeq (jif (λ_=>?_) (λ_=>jeq (jif (λ_=>?_) (λ_=>jeq (jif (λ_=>?_) (λ_=>jeq (jif (λ_=>?_) (λ_=>jeq (jif (λ_=>?_) (λ_=>?_))))))))))
  .refine jbd rfl rfl (jbd rfl rfl (jbd rfl rfl (jbd rfl rfl (jbs rfl rfl λbt=>(app [⟨10,1,0,0,0,0,⟨0,0⟩⟩,⟨3,1,0,0,0,0,⟨0,0⟩⟩,⟨5,1,0,0,0,0,⟨0,0⟩⟩,⟨11,1,0,0,0,0,⟨0,0⟩⟩] Q inferInstance inferInstance rfl (by simp;omega) λj T y=>(W _ _ _ ⟨rfl,_,j,T,_,by simp;omega,by simp;omega,⟨by simp;omega,a0.app (by simp[Vs,Rn]<;>omega)⟩,y,Z,Z,rfl,rfl⟩))))))
  .refine jpk hb ⟨Z,Z⟩ λz1 _ _=>jbd rfl rfl (jbs rfl rfl λbt=>(app [⟨3,0,1,0,z1,0,⟨0,0⟩⟩] Q inferInstance inferInstance rfl (by simp;omega) λj T y=>(W _ _ _ ⟨rfl,_,j,T,_,by simp;omega,by simp;omega,⟨by simp;omega,a0.app (by simp[Vs,Rn]<;>omega)⟩,y,Z,Z,rfl,rfl⟩)))
  .refine jpk hb ⟨Z,Z⟩ λz1 _ _=>jbd rfl rfl (jbd rfl rfl (jpk hb ⟨Z,Z⟩ λz2 _ _=>jbd rfl rfl (jbd rfl rfl (jbs rfl rfl λbt=>(app [⟨2,0,0,0,z1,0,⟨0,0⟩⟩,⟨3,1,2,0,0,0,⟨0,0⟩⟩,⟨3,0,1,0,z2,0,⟨0,0⟩⟩,⟨8,0,0,0,0,0,⟨0,0⟩⟩] Q inferInstance inferInstance rfl (by simp;omega) λj T y=>(W _ _ _ ⟨rfl,_,j,T,_,by simp;omega,by simp;omega,⟨by simp;omega,a0.app (by simp[Vs,Rn]<;>omega)⟩,y,Z,Z,rfl,rfl⟩))))))
  .refine jpk hb ⟨Z,Z⟩ λz1 _ _=>jbd rfl rfl (jbd rfl rfl (jbd rfl rfl (jbd rfl rfl (jbs rfl rfl λbt=>(app [⟨2,0,0,0,z1,0,⟨0,0⟩⟩,⟨7,0,2,1,z1,0,⟨0,0⟩⟩,⟨6,1,2,0,0,0,⟨0,0⟩⟩,⟨8,0,0,0,0,0,⟨0,0⟩⟩] Q inferInstance inferInstance rfl (by simp;omega) λj T y=>(W _ _ _ ⟨rfl,_,j,T,_,by simp;omega,by simp;omega,⟨by simp;omega,a0.app (by simp[Vs,Rn]<;>omega)⟩,y,Z,Z,rfl,rfl⟩))))))
  .refine jpk hb ⟨Z,Z⟩ λz1 _ _=>jbd (cs:=[I 2,I 0,I 0,I 0,I z1,I 0,I 0,I 0]) rfl rfl (jpk hb ⟨Z,Z⟩ λz2 _ _=>jbd rfl rfl (jbd rfl rfl (jbd rfl rfl (jbd rfl rfl (jbd rfl rfl (jbs rfl rfl λbt=>(app [⟨2,0,0,0,z1,0,⟨0,0⟩⟩,⟨4,2,0,0,0,z2,⟨0,0⟩⟩,⟨5,2,0,0,0,0,⟨0,0⟩⟩,⟨2,2,0,0,0,0,⟨0,0⟩⟩,⟨8,0,0,0,0,0,⟨0,0⟩⟩,⟨8,0,0,0,0,0,⟨0,0⟩⟩] Q inferInstance inferInstance rfl (by simp;omega) λj T y=>?_)))))))
   obtain⟨l3,a6,a2⟩:∃l3:List Sm.Op,(l3.length = l1.length + 6/\Vs l3)/\SW 86 8 (l3.map eOp) j T:=⟨_,⟨V,a0.app (by simp[Vs,Rn]<;>omega)⟩,y⟩;obtain⟨a6,a9⟩:=a6;have a3:=a2.sl;rw[cM] at a3;refine Bo a3 (jgr (jif (λhg=>?_) (λhg=>?_)))
   .have hg:=z_f hg;refine ZI a2 λR2 a4 ho=>bS ho δ Z λv' b5=>FT _ a4 ⟨l3.take 38,⟨by rw[cV];omega,λo ho=>a9 o (dJ ho)⟩,?_⟩ Z Z
    unfold Ops;rw[cV,Nat.min_eq_left Z,<- QP];exact b5
   .have hg:=z_g hg;exact W _ _ _ ⟨rfl,l3,j,T,_,Z,Z,⟨Z,a9⟩,a2,Z,Z,rfl,rfl⟩
  .refine Al A1 (G:=(rb,rdO v (m' + 1 + 1 + 1)) :: F) (W _ _ _ ⟨rfl,l1,a1,A1,_,Z,Z,⟨Z,a0⟩,Q,Z,Z,rfl,rfl⟩)
 rintro e Rx Dx ⟨hR,N,O,A,m2,q1,q2,⟨q3,b6⟩,y,q4,q5,hD,he⟩;subst hR;refine z_W ?_;refine jbd rfl rfl (jbs rfl rfl λbt=>(app [⟨8,0,0,0,0,0,⟨0,0⟩⟩] y inferInstance inferInstance rfl (by simp;omega) λj T a2=>(b2 (40 - (N.length + 1)) _ _ _ Z ⟨rfl,_,j,T,_,⟨by simp;omega,b6.app (Vs.one Rn.zero)⟩,a2,Z,by simp;omega,rfl,rfl,V⟩)))
end draws
@[reducible] def eCf (c:Cfg):List Value:=[I c.AH,I c.AB,I c.AU]
theorem SO.sln {l:List Int} {v:Value} {A:Chs} (h:SO l v A):∃a c,v = .slice a l.length c:=by
 rcases h with ⟨rfl,rfl,_⟩ | ⟨b,c,sp,_,_,rfl,_⟩<;>exact⟨_,_,rfl⟩
section draws
variable {R:RM} {rb:Nat} {v:Value} {m:Int}
theorem RA {c:Cfg} (hc:Bg c = true) (hb:Byt R v) (hm:0<=m/\m < 200000000):Dr J4 [Pt rb,.agg #[I c.AH,I c.AB,I c.AU]] R rb v m 10000 (λx O=>∃l:List (List Sm.Op),(l.length:Int) = c.AB/\(∀p∈l,p.length<=40/\Vs p)/\F7 O x l):=by
 refine OL λF=>?_
 refine z_2 ?_;simp only[Bg,z_b,z_d] at hc;obtain⟨n,hn⟩:∃n:Nat,c.AB = n:=⟨c.AB.toNat,Z⟩;refine ja λb=>Az (dh _ _ _) (Ab (λvs O D'=>R.le O/\∃(l:List (List Sm.Op)) (rows:List (List Value)) (N:Value) (A:Chs) (m' : Int),l.length = n/\(∀p∈l,p.length<=40/\Vs p)/\PrW O rows l/\SW 79 1 rows N A/\m<=m'/\m'<=m + 10000/\D' = A ++ (rb,rdO v m') :: (b,C 24 (eCf c)) :: F/\vs = [N]) (λK hK=>?_) ?_)
 rotate_left
 .rintro e R1 D1 ⟨Q,l,rows,N,A,m',hl,T,j,W,h1,h2,hD,he⟩;refine z_W ?_;exact VH W j λR2 G ho=>FT m' (Q.trans G) ⟨l,Z,T,ho⟩ h1 h2
 refine jcI hK λK2 a0=>?_
 refine jlp (λmm vs O D'=>R.le O/\∃(i:Nat) (l:List (List Sm.Op)) (rows:List (List Value)) (N:Value) (A:Chs) (m' : Int),i<=n/\l.length = i/\(∀p∈l,p.length<=40/\Vs p)/\PrW O rows l/\SW 79 1 rows N A/\m<=m'/\m'<=m + 3000 * i/\D' = A ++ (rb,rdO v m') :: (b,C 24 (eCf c)) :: F/\vs = [Pt rb,Pt b,N,I i]/\mm = n - i)
  (n:=n) ⟨RM.le.refl R,0,[],[],SN,[],m,Z,rfl,(λp T=>by cases T),Rw.nil,.inl ⟨rfl,rfl,rfl⟩,Z,Z,rfl,rfl,Z⟩ ?_
 rintro mm e R1 D1 K3 ⟨Q,i,l,rows,N,A,m',hi,hl,T,j,W,h1,h2,hD,he,a4⟩ a1;refine z_W ?_;refine jl rfl (jlt (jif (λh=>?_) (λh=>?_)));rotate_left
 .have h:=z_g h;exact a0 _ _ _ ⟨Q,l,rows,N,A,m',Z,T,j,W,h1,Z,rfl,rfl⟩
 have h:=z_f h;refine jpk (hb.le Q) ⟨Z,Z⟩ λy _ _=>jad ?_
 obtain⟨k,hk⟩:∃k:Nat,4 + y = k:=⟨(4 + y).toNat,Z⟩;rw[hk];refine jdr (V0 Z (hb.le Q) ⟨Z,Z⟩) ?_;rintro x R2 m2 G ⟨q,⟨hq,a2⟩,H⟩ h3 h4;obtain⟨xa,xc,hx⟩:=Fz.sl H;subst hx;refine jbs rfl rfl λbs=>?_
 have a5:=j.1;refine Q4 [[.slice xa q.length xc]] W rfl j.len (λr hr=>by rw[cZ.1 hr];rfl) rfl rfl rfl δ (by rw[cr];omega) λv' A' a3=>(jad (a1 (n - (i + 1)) _ _ _ Z ⟨Q.trans G,i + 1,l ++ [q],_,v',A',m2,Z,by rw[cJ,hl];rfl,λp D=>?_,(j.le G).app (Rw.one ⟨_,rfl,H⟩),a3,Z,Z,rfl,rfl,rfl⟩))
 rcases cm.1 D with D | D
 .exact T p D
 .rw[cZ.1 D];exact⟨Z,a2⟩
def Sml (l:List Int):Prop:=∀a∈l,0<=a/\a<=9
theorem Sml.snoc {l:List Int} {x:Int} (h:Sml l) (h0:0<=x) (y:x<=9):Sml (l ++ [x]):=λa j=>by
 rcases cm.1 j with j | j
 .exact h a j
 .rw[cZ.1 j];exact⟨h0,y⟩
theorem SG {c:Cfg} {n:Nat} (hc:Bg c = true) (hn:n<=4000) (hb:Byt R v) (hm:0<=m/\m < 200000000):Dr If [Pt rb,.agg #[I c.AH,I c.AB,I c.AU],I n] R rb v m 500000 (λx N=>∃l:List Int,l.length = n/\Sml l/\B8 N x l):=by
 refine OD λF=>?_
 refine z_3 ?_;simp only[Bg,z_b,z_d] at hc;refine ja λb=>Az (dh _ _ _) (Ab (λT N O=>N = R/\∃(l:List Int) (j:Value) (A:Chs) (m' : Int),n<=l.length/\Sml l/\SO l j A/\m<=m'/\m'<=m + 500000/\O = A ++ (rb,rdO v m') :: (b,C 24 (eCf c)) :: F/\T = [I n,j]) (λK hK=>?_) ?_)
 rotate_left
 .rintro e R1 D1 ⟨Q,l,j,A,m',hl,hp,D,h1,h2,hD,he⟩;subst Q;refine z_W ?_;clear hD;refine Dw D λR2 b1 hi=>Wd hi Z Z λv' a7=>FT m' b1 ⟨l.take n,by rw[cV];omega,λa ha=>hp a (dJ ha),by rw[cG] at a7;exact a7⟩ h1 h2
 refine jcI hK λK2 a8=>?_
 refine jlp (λmm T N O=>N = R/\∃(l:List Int) (j:Value) (A:Chs) (m' : Int),l.length<=4100/\Sml l/\SO l j A/\m<=m'/\m'<=m + 100 * l.length/\O = A ++ (rb,rdO v m') :: (b,C 24 (eCf c)) :: F/\T = [Pt rb,I n,Pt b,j]/\mm = 4100 - l.length)
  ⟨rfl,[],SN,[],m,δ,(λp hp=>by cases hp),.inl ⟨rfl,rfl,rfl⟩,Z,V,rfl,rfl,rfl⟩ ?_
 rintro mm e R1 D1 K3 ⟨Q,l,j,A,m',hl,hp,D,h1,h2,hD,he,a6⟩ a9;subst Q;refine z_W ?_;clear hD;refine Bo D.sln (jlt (jif (λh=>?_) (λh=>?_)));rotate_left
 .have h:=z_g h;exact a8 _ _ _ ⟨rfl,l,j,A,m',Z,hp,D,h1,Z,rfl,rfl⟩
 have h:=z_f h;refine Ab (λT N O=>N = R1/\∃(H:List Int) (j:Value) (A:Chs) (m2:Int),l.length < H.length/\H.length<=l.length + 80/\Sml H/\SO H j A/\m'<=m2/\m2<=m' + 80/\O = A ++ (rb,rdO v m2) :: (b,C 24 (eCf c)) :: F/\T = [Pt rb,I n,Pt b,j]) (λK4 a5=>?_) ?_;rotate_left
 .rintro e Rx Dx ⟨Q,H,j,A,m2,q1,q2,a2,b2,q3,q4,hD,he⟩;subst Q;refine z_W ?_;clear hD;exact a9 (4100 - H.length) _ _ _ Z ⟨rfl,H,j,A,m2,Z,a2,b2,Z,Z,rfl,rfl,rfl⟩
 refine jpk hb ⟨Z,Z⟩ λk _ _=>jad (jl rfl (jad (jpk hb ⟨Z,Z⟩ λp _ _=>(Ab (λT N O=>N = R1/\∃k p m2:Int,1<=k/\k<=36/\0<=p/\p<=9/\m'<=m2/\m2<=m' + 3/\O = A ++ (rb,rdO v m2) :: (b,C 24 (eCf c)) :: F/\T = [Pt rb,I n,Pt b,j,I k,I p]) (λK5 W=>?_) ?_))))
 .refine jpk hb ⟨Z,Z⟩ λz _ _=>jeq (jif (λ_=>jl rfl (HL ⟨Z,Z⟩ ?_)) (λ_=>?_))<;>refine Al A (G:=(rb,rdO v (m' + 1 + 1 + 1)) :: (b,C 24 (eCf c)) :: F) ?_
  .exact W _ _ _ ⟨rfl,_,_,_,Z,Z,Z,Z,Z,Z,rfl,rfl⟩
  .exact W _ _ _ ⟨rfl,_,_,_,Z,Z,Z,Z,Z,Z,rfl,rfl⟩
 rintro e Rx Dx ⟨Q,k,p,m2,k0,k1,p0,p1,q1,q2,hD,he⟩;subst Q;refine z_W ?_;clear hD;refine Ab (λT N O=>N = Rx/\∃(H:List Int) (j:Value) (A:Chs) (m3:Int),l.length<=H.length/\H.length<=l.length + 1/\Sml H/\SO H j A/\m'<=m3/\m3<=m' + 4/\O = A ++ (rb,rdO v m3) :: (b,C 24 (eCf c)) :: F/\T = [Pt rb,I n,Pt b,j,I k,I p]) (λK5 W=>?_) ?_
 .refine jpk hb ⟨Z,Z⟩ λz _ _=>jeq (jif (λ_=>?_) (λ_=>?_))
  .refine jl rfl (jad (jbs rfl rfl λbs=>Gr D Z λv' A' a1=>(W _ _ _ ⟨rfl,_,v',A',_,V,V,hp.snoc Z Z,a1,Z,Z,rfl,rfl⟩)))
  .refine Al A (G:=(rb,rdO v (m2 + 1)) :: (b,C 24 (eCf c)) :: F) (W _ _ _ ⟨rfl,l,j,A,_,Z,Z,hp,D,Z,Z,rfl,rfl⟩)
 clear D;rintro e Ry Dy ⟨Q,H,j,A,m3,q3,q4,a2,D,q5,q6,hD,he⟩;subst Q;refine z_W ?_;clear hD;refine jpk hb ⟨Z,Z⟩ λz _ _=>jeq (jif (λ_=>?_) (λ_=>?_))<;>refine Al A (G:=(rb,rdO v (m3 + 1)) :: (b,C 24 (eCf c)) :: F) ?_
 .refine jcI a5 λK6 b0=>?_
  refine jcI b0 λK7 a3=>?_
  refine jlp (λmm T N O=>N = Ry/\∃(i:Nat) (l3:List Int) (j:Value) (A:Chs),(i:Int)<=2 * k/\l3.length = H.length + i/\Sml l3/\SO l3 j A/\O = A ++ (rb,rdO v (m3 + 1 + i)) :: (b,C 24 (eCf c)) :: F/\T = [Pt rb,I n,Pt b,j,I k,I i]/\mm = 72 - i)
   ⟨rfl,0,H,j,A,Z,Z,a2,D,by rw[show m3 + 1 + ((0:Nat):Int) = m3 + 1 from Z],rfl,rfl⟩ ?_
  clear D;rintro mm e Rz Dz K8 ⟨Q,i,l3,j,A,i0,i1,a0,D,hD,he,a6⟩ a4;subst Q;refine z_W ?_;clear hD;refine HL ⟨Z,Z⟩ (jlt (jif (λh=>?_) (λh=>?_)))
  .have h:=z_f h;refine jl rfl (jad (jpk hb ⟨Z,Z⟩ λy _ _=>jbs rfl rfl λbs=>Gr D Z λv' A' a1=>jad (a4 (72 - (i + 1)) _ _ _ Z ⟨rfl,i + 1,_,v',A',Z,by simp;omega,a0.snoc Z Z,a1,by rw[show m3 + 1 + ((i + 1:Nat):Int) = m3 + 1 + i + 1 from Z],rfl,rfl⟩)))
  .have h:=z_g h;exact a3 _ _ _ ⟨rfl,l3,j,A,_,Z,Z,a0,D,Z,Z,rfl,rfl⟩
 .refine jcI a5 λK7 a3=>?_
  refine jlp (λmm T N O=>N = Ry/\∃(i:Nat) (l3:List Int) (j:Value) (A:Chs),(i:Int)<=k/\l3.length = H.length + i/\Sml l3/\SO l3 j A/\O = A ++ (rb,rdO v (m3 + 1)) :: (b,C 24 (eCf c)) :: F/\T = [Pt rb,I n,Pt b,j,I k,I p,I i]/\mm = 72 - i)
   ⟨rfl,0,H,j,A,Z,Z,a2,D,rfl,rfl,rfl⟩ ?_
  clear D;rintro mm e Rz Dz K8 ⟨Q,i,l3,j,A,i0,i1,a0,D,hD,he,a6⟩ a4;subst Q;refine z_W ?_;clear hD;refine jlt (jif (λh=>?_) (λh=>?_))
  .have h:=z_f h;refine jbs rfl rfl λbs=>Gr D Z λv' A' a1=>jad (a4 (72 - (i + 1)) _ _ _ Z ⟨rfl,i + 1,_,v',A',Z,by simp;omega,a0.snoc Z Z,a1,rfl,rfl,rfl⟩)
  .have h:=z_g h;exact a3 _ _ _ ⟨rfl,l3,j,A,_,Z,Z,a0,D,Z,Z,rfl,rfl⟩
end draws
end Go.Lf
end
section
namespace Go.Lf
open Go Sm
@[reducible] def FoD (rb b p:Nat) (v:Value) (m:Int) (A F:Chs) (S:Sim) (g:Img) (c:Cfg):Chs:=(rb,rdO v m) :: (A ++ (Ag p S g ++ (b,C 24 (eCf c)) :: F))
def FoC (rb b p:Nat) (v ov:Value) (m' q k:Int) (n:Nat) (A F:Chs) (S:Sim) (g:Img) (c:Cfg) (R:RM) (vs:List Value) (R' : RM) (D' : Chs):Prop:=
 R' = R/\(∃m2,m'<=m2/\m2<=m' + 2/\D' = FoD rb b p v m2 A F S g c)/\∃x u w,GM x u w/\vs = [Pt rb,I n,Pt b,ov,Pt p,I q,I k,x,u]
def FoQ (rb b p:Nat) (v ov:Value) (m' : Int) (n:Nat) (A F:Chs) (S:Sim) (g:Img) (c:Cfg) (R:RM) (vs:List Value) (R' : RM) (D' : Chs):Prop:=
 R' = R/\∃q k m2:Int,0<=q/\q<=9/\1<=k/\k<=9/\m'<=m2/\m2<=m' + 15/\D' = FoD rb b p v m2 A F S g c/\vs = [Pt rb,I n,Pt b,ov,Pt p,I q,I k]
section draws
variable {R:RM} {rb:Nat} {v:Value} {m:Int}
theorem Sr {c:Cfg} {n:Nat} {pv:Value} {AZ:List (List Sm.Op)} (hc:Bg c = true) (b6:(AZ.length:Int) = c.AB) (b0:∀p∈AZ,p.length<=40) (hp:F7 R pv AZ) (hn:n<=2000) (hb:Byt R v) (hm:0<=m/\m < 200000000) :
  Dr Iv [Pt rb,.agg #[I c.AH,I c.AB,I c.AU],pv,I n] R rb v m 500000 (λx Q=>∃l:List Int,l.length = n/\Sml l/\B8 Q x l):=by
 refine P1 λF=>?_
 refine z_4 ?_;have d1:Cx c AZ [] = true:=by
  unfold Cx;simp only[z_b,z_d,ck];exact⟨⟨⟨hc,b6⟩,V⟩,b0⟩
 obtain⟨g0,i0,B0⟩:=Lk hc b6 b0;have c7:=hc;simp only[Bg,z_b,z_d] at hc;refine ja λb=>jla (l:=eCf c) (by exact z_n 3) rfl (jro (Nc hp (picks:=[]) (.inl ⟨rfl,rfl,rfl⟩)) ?_)
 rw[d1];refine CW (jla (by exact z_n 3) rfl ?_);refine jc (Nm c7 hp) ?_;rintro _ R1 _ c4 ⟨p,g,rfl,rfl,ok⟩;refine Az (by
  show (Ag p (Sm.start c AZ) g ++ ((b,C 24 (eCf c)) :: (rb,rdO v m) :: F)).Perm ((rb,rdO v m) :: (Ag p (Sm.start c AZ) g ++ (b,C 24 (eCf c)) :: F))
  exact ((dh _ _ _).append_left _).trans d9) ?_
 refine Ab (λvs Q D'=>R.le Q/\∃(S:Sim) (g:Img) (l:List Int) (G:Value) (A:Chs) (m' : Int),n<=l.length/\Sml l/\SO l G A/\m<=m'/\m'<=m + 500000/\D' = FoD rb b p v m' A F S g c/\vs = [I n,G]) (λK hK=>?_) ?_;rotate_left
 .rintro e R1 D1 ⟨hR,S,g,l,G,A,m',hl,hp,so,h1,h2,hD,he⟩;refine z_W ?_;clear hD;refine Az d9.symm (Dw so λR2 c5 hi=>Wd hi Z Z λv' b7=>FT m' (hR.trans c5) ⟨l.take n,by rw[cV];omega,λa O=>hp a (dJ O),by rw[cG] at b7;exact b7⟩ h1 h2)
 refine jcI hK λK2 b9=>?_
 refine jlp (λmm vs Q D'=>R.le Q/\∃(S:Sim) (g:Img) (gh:Gh) (l:List Int) (G:Value) (A:Chs) (m' : Int),IG AZ S gh/\Bd (5 * l.length) S/\Ok Q S g/\l.length<=2100/\Sml l/\SO l G A/\m<=m'/\m'<=m + 20 * l.length/\D' = FoD rb b p v m' A F S g c/\vs = [Pt rb,I n,Pt b,G,Pt p]/\mm = 2100 - l.length)
  ⟨c4,Sm.start c AZ,g,g0,[],SN,[],m,i0,B0,ok,δ,(λp hp=>by cases hp),.inl ⟨rfl,rfl,rfl⟩,Z,V,rfl,rfl,rfl⟩ ?_
 clear i0 B0 ok;rintro mm e R2 D1 K3 ⟨hR,S,g,gh,l,G,A,m',i0,B0,ok,hl,hs,so,h1,h2,hD,he,c8⟩ b1;refine z_W ?_;clear hD;have W:=hb.le hR;refine Bo so.sln (jlt (jif (λh=>?_) (λh=>?_)));rotate_left
 .have h:=z_g h;exact b9 _ _ _ ⟨hR,S,g,l,G,A,m',Z,hs,so,h1,Z,rfl,rfl⟩
 have h:=z_f h;refine Ab (λvs Q D'=>R2.le Q/\∃(S:Sim) (g:Img) (gh:Gh) (T:List Int) (G:Value) (A:Chs) (N:Int),IG AZ S gh/\Bd (5 * T.length) S/\Ok Q S g/\l.length < T.length/\T.length<=l.length + 9/\Sml T/\SO T G A/\m'<=N/\N<=m' + 15/\D' = FoD rb b p v N A F S g c/\vs = [Pt rb,I n,Pt b,G,Pt p]) (λK4 b2=>?_) ?_;rotate_left
 .rintro e Rx Dx ⟨D,S,g,gh,T,G,A,N,i0,B0,ok,q1,q2,c9,d4,q3,q4,hD,he⟩;refine z_W ?_;clear hD;exact b1 (2100 - T.length) _ _ _ Z ⟨hR.trans D,S,g,gh,T,G,A,N,i0,B0,ok,Z,c9,d4,Z,Z,rfl,rfl,rfl⟩
 refine jl rfl (jad (jpk W ⟨Z,Z⟩ λq0 _ _=>(Ab (FoQ rb b p v G m' n A F S g c R2) (λK5 b3=>?_) ?_)))
 .refine jcI b3 λK6 b4=>?_
  have a0:∀q k N:Int,0<=q->q<=9->1<=k->k<=9->m'<=N->N<=m' + 15->J R2 (FoD rb b p v N A F S g c) (K6 [Pt rb,I n,Pt b,G,Pt p,I q,I k]):=λq k N a1 a2 a3 a4 a5 a6=>b4 _ _ _ ⟨rfl,q,k,N,a1,a2,a3,a4,a5,a6,rfl,rfl⟩
  clear b1 b2 b3 b4;have H:∀(m0:Int) (K:List Value->M),(∀vs Q D',FoC rb b p v G m0 q0 1 n A F S g c R2 vs Q D'->J Q D' (K vs))->∀N,m0<=N->N<=m0 + 2->∀x u w,GM x u w->J R2 (FoD rb b p v N A F S g c) (K [Pt rb,I n,Pt b,G,Pt p,I q0,I 1,x,u]):=λm0 K hK N a1 a2 x u w O=>hK _ _ _ ⟨rfl,⟨N,a1,a2,rfl⟩,x,u,w,O,rfl⟩
  refine Ab (FoC rb b p v G (m' + 1) q0 1 n A F S g c R2) (λK7 j=>?_) ?_
  .refine jl rfl (jeq (Dv (λh=>jl rfl ?_) (λh=>?_)))
   .exact H _ _ j _ Z Z _ _ _ (h▸Bx)
   .exact H _ _ j _ Z Z _ _ _ (h▸CB)
  rintro e Rx Dx ⟨D,⟨N,a1,a2,hD⟩,x,u,w,O,he⟩;subst D;refine z_W ?_;clear hD;refine Ab (FoC rb b p v G N q0 1 n A F S g c Rx) (λK7 j=>?_) ?_
  .rw[O];refine Dv (λh=>jl rfl ?_) (λh=>?_)
   .exact H _ _ j _ Z Z _ _ _ (h▸Bx)
   .exact H _ _ j _ Z Z _ _ _ (h▸CB)
  clear O;rintro e Ry Dx ⟨D,⟨m3,a3,a4,hD⟩,x,u,w,O,he⟩;subst D;refine z_W ?_;clear hD;refine Ab (FoC rb b p v G m3 q0 1 n A F S g c Ry) (λK7 j=>?_) ?_
  .rw[O];refine Dv (λh=>jpk W ⟨Z,Z⟩ λy _ _=>jeq ?_) (λh=>?_)
   .exact H _ _ j _ Z Z _ _ _ (h▸Bx)
   .exact H _ _ j _ Z Z _ _ _ (h▸CB)
  clear O;rintro e Rx Dx ⟨D,⟨m4,a5,a6,hD⟩,x,u,w,O,he⟩;subst D;refine z_W ?_;clear hD;rw[O];refine jif (λh=>jl rfl (jad ?_)) (λh=>?_)
  .exact a0 _ _ _ Z Z Z Z Z Z
  clear O;refine Ab (FoC rb b p v G m4 q0 1 n A F S g c Rx) (λK7 j=>?_) ?_
  .refine jl rfl (jeq (Dv (λh=>jl rfl ?_) (λh=>?_)))
   .exact H _ _ j _ Z Z _ _ _ (h▸Bx)
   .exact H _ _ j _ Z Z _ _ _ (h▸CB)
  rintro e Ry Dx ⟨D,⟨m5,a7,a8,hD⟩,x,u,w,O,he⟩;subst D;refine z_W ?_;clear hD;rw[O];refine jif (λh=>jpk W ⟨Z,Z⟩ λy _ _=>jad ?_) (λh=>?_)
  .exact a0 _ _ _ Z Z Z Z Z Z
  clear O;refine Ab (FoC rb b p v G m5 q0 1 n A F S g c Ry) (λK7 j=>?_) ?_
  .refine jl rfl (jeq (Dv (λh=>jpk W ⟨Z,Z⟩ λy _ _=>jgr ?_) (λh=>?_)))
   .exact H _ _ j _ Z Z _ _ _ (h▸Bx)
   .exact H _ _ j _ Z Z _ _ _ (h▸CB)
  rintro e Rx Dx ⟨D,⟨m6,a9,e1,hD⟩,x,u,w,O,he⟩;subst D;refine z_W ?_;clear hD;rw[O];refine jif (λh=>jl rfl (jpk W ⟨Z,Z⟩ λy _ _=>jad ?_)) (λh=>?_)
  .exact a0 _ _ _ Z Z Z Z Z Z
  clear O;refine Ab (FoC rb b p v G m6 q0 1 n A F S g c Rx) (λK7 j=>?_) ?_
  .refine jl rfl (Dv (λh=>jpk W ⟨Z,Z⟩ λy _ _=>jeq ?_) (λh=>?_))
   .exact H _ _ j _ Z Z _ _ _ (h▸Bx)
   .exact H _ _ j _ Z Z _ _ _ (h▸CB)
  rintro e Ry Dx ⟨D,⟨m7,e2,e3,hD⟩,x,u,w,O,he⟩;subst D;refine z_W ?_;clear hD;rw[O];refine jif (λh=>jl rfl ?_) (λh=>?_)
  .exact a0 _ _ _ Z Z Z Z Z Z
  .exact a0 _ _ _ Z Z Z Z Z Z
 rintro e Rx Dx ⟨D,q,k,N,q1,q2,q3,q4,q5,q6,hD,he⟩;subst D;refine z_W ?_;clear hD;refine jcI b2 λK7 j=>?_
 refine jlp (λmm vs Q D'=>Rx.le Q/\∃(i:Nat) (S:Sim) (g:Img) (gh:Gh) (T:List Int) (G:Value) (A:Chs),(i:Int)<=k/\IG AZ S gh/\Bd (5 * T.length) S/\Ok Q S g/\T.length = l.length + i/\Sml T/\SO T G A/\D' = FoD rb b p v N A F S g c/\vs = [Pt rb,I n,Pt b,G,Pt p,I q,I k,I i]/\mm = 9 - i)
  ⟨RM.le.refl _,0,S,g,gh,l,G,A,Z,i0,B0,ok,Z,hs,so,rfl,rfl,rfl⟩ ?_
 clear i0 B0 ok so hs;rintro mm e Ry Dy K8 ⟨b5,i,S,g,gh,T,G,A,hi,i0,B0,ok,e4,hs,so,hD,he,c8⟩ c0;refine z_W ?_;clear hD;refine jlt (jif (λh=>?_) (λh=>?_));rotate_left
 .have h:=z_g h;exact j _ _ _ ⟨b5,S,g,gh,T,G,A,N,i0,B0,ok,Z,Z,hs,so,Z,Z,rfl,rfl⟩
 have h:=z_f h;obtain⟨S2,b8,i2,B2,-,ht⟩:=Xq (a:=q) i0 B0 Z ⟨Z,Z⟩;refine jcS (ht _ _ ok) λ_ R3 g3 c6 _ d2=>(Az (d9.trans ((eK _ _ _).cons _)) (jbs rfl rfl λbs=>Gr so Z λv' A' d3=>jad (Az d9 (c0 (9 - (i + 1)) _ _ _ Z ⟨b5.trans c6,i + 1,S2,g3,b8,_,v',A',Z,i2,?_,d2,by simp;omega,hs.snoc Z Z,d3,rfl,rfl,rfl⟩))))
 rw[cJ,cr,Nat.mul_add];exact B2
end draws
section draws
variable {R:RM} {rb:Nat} {v:Value} {m:Int}
def Zq (x:Value) (R:RM):Prop:=∃(c:Cfg) (AZ:List (List Sm.Op)) (picks:List Int) (pv kv:Value),x = .tuple #[.agg #[I c.AH,I c.AB,I c.AU],pv,kv]/\(Cx c AZ picks = true/\∀p∈AZ,Vs p)/\Sml picks/\F7 R pv AZ/\B8 R kv picks
theorem PY {c:Cfg} {AZ:List (List Sm.Op)} {picks:List Int} (hc:Bg c = true) (hl:(AZ.length:Int) = c.AB) (x:∀p∈AZ,p.length<=40) (j:picks.length<=4000):Cx c AZ picks = true:=by
 unfold Cx;simp only[z_b,z_d,ck];exact⟨⟨⟨hc,hl⟩,j⟩,x⟩
theorem F7.sl {v:Value} {l:List (List Sm.Op)} (H:F7 R v l):∃a c,v = .slice a l.length c:=by
 obtain⟨j,h,_⟩:=H;exact h.sl
theorem Ur (hb:Byt R v) (hm:0<=m/\m < 150000000):Dr KG [Pt rb] R rb v m 1000000 Zq:=by
 refine PQ λF=>?_
 refine z_1 ?_;refine ja λb1=>jpk hb ⟨Z,Z⟩ λy1 _ _=>jad (jpk hb ⟨Z,Z⟩ λy2 _ _=>jad (jbs rfl rfl λb6=>jpk hb ⟨Z,Z⟩ λy3 _ _=>jia Z Z ?_))
 have h3:=WW (l:=[32,48,100,16]) Z (by show _ < (4:Int);omega);refine jl (BF [32,48,100,16] Z (by show _ < (4:Int);omega)) ?_;generalize sel [32,48,100,16] y3 = y at h3;simp only[cU,List.not_mem_nil,or_false] at h3;obtain⟨c,T⟩:∃c:Cfg,c = ⟨5 + y1,1 + y2,y⟩:=⟨_,rfl⟩;have hc:Bg c = true:=by
  rw[T];simp only[Bg,z_b,z_d];omega
 refine jbd (cs:=eCf c) rfl (by rw[T];rfl) (ja λb=>js rfl rfl (by exact z_n 3) rfl ?_);obtain⟨n,hn⟩:∃n:Nat,c.AB = n:=⟨c.AB.toNat,by rw[T];show 1 + y2 = ((1 + y2).toNat:Int);omega⟩;have a4:=hc;simp only[Bg,z_b,z_d] at a4;refine jk3 (F:=F) rb b b1 (Ab (λvs W D'=>R.le W/\∃(l:List (List Sm.Op)) (rows:List (List Value)) (H:Value) (A:Chs) (m' : Int),l.length = n/\(∀p∈l,p.length<=40/\Vs p)/\PrW W rows l/\SW 79 1 rows H A/\m<=m'/\m'<=m + 10000/\D' = A ++ (rb,rdO v m') :: (b,C 24 (eCf c)) :: (b1,C 24 (cl z24)) :: F/\vs = [Pt rb,Pt b1,Pt b,H]) (λK hK=>?_) ?_)
 .refine jcI hK λK2 a2=>?_
  refine jlp (λmm vs W D'=>R.le W/\∃(i:Nat) (l:List (List Sm.Op)) (rows:List (List Value)) (H:Value) (A:Chs) (m' : Int),i<=n/\l.length = i/\(∀p∈l,p.length<=40/\Vs p)/\PrW W rows l/\SW 79 1 rows H A/\m<=m'/\m'<=m + 10 + 1100 * i/\D' = A ++ (rb,rdO v m') :: (b,C 24 (eCf c)) :: (b1,C 24 (cl z24)) :: F/\vs = [Pt rb,Pt b1,Pt b,H,I i]/\mm = n - i)
   (n:=n) ⟨RM.le.refl R,0,[],[],SN,[],m + 1 + 1 + 1,Z,rfl,(λp O=>by cases O),Rw.nil,.inl ⟨rfl,rfl,rfl⟩,Z,Z,rfl,rfl,Z⟩ ?_
  rintro mm e R1 D1 K3 ⟨Q,i,l,rows,H,A,m',hi,hl,O,j,so,h1,h2,hD,he,a7⟩ a3;refine z_W ?_;refine jl rfl (jlt (jif (λh=>?_) (λh=>?_)));rotate_left
  .have h:=z_g h;exact a2 _ _ _ ⟨Q,l,rows,H,A,m',Z,O,j,so,h1,Z,rfl,rfl⟩
  have h:=z_f h;refine jpk (hb.le Q) ⟨Z,Z⟩ λz _ _=>jad ?_
  obtain⟨k,hk⟩:∃k:Nat,20 + z = k:=⟨(20 + z).toNat,Z⟩;rw[hk];refine jdr (RF Z (hb.le Q) ⟨Z,Z⟩) ?_;rintro x R2 m2 D ⟨q,⟨hq,a5⟩,N⟩ h5 h6;obtain⟨xa,xc,hx⟩:=Fz.sl N;subst hx;refine jbs rfl rfl λbs=>?_
  have a8:=j.1;refine Q4 [[.slice xa q.length xc]] so rfl j.len (λr hr=>by rw[cZ.1 hr];rfl) rfl rfl rfl δ (by rw[cr];omega) λv' A' a6=>(jad (a3 (n - (i + 1)) _ _ _ Z ⟨Q.trans D,i + 1,l ++ [q],_,v',A',m2,Z,by rw[cJ,hl];rfl,λp G=>?_,(j.le D).app (Rw.one ⟨_,rfl,N⟩),a6,Z,Z,rfl,rfl,rfl⟩))
  rcases cm.1 G with G | G
  .exact O p G
  .rw[cZ.1 G];exact⟨hq,a5⟩
 rintro e R1 D1 ⟨Q,l,rows,H,A,m',hl,O,j,so,h1,h2,hD,he⟩;refine z_W ?_;refine VH so j λR2 D ho=>?_
 have a1:=hb.le (Q.trans D);refine jla (by exact z_n 3) rfl (jla (by exact z_n 3) rfl (jpk a1 ⟨Z,Z⟩ λz _ _=>jad (Ak (jla (by exact z_n 3) rfl jev) (Ak (jla (by exact z_n 3) rfl jev) ?_))));obtain⟨k,hk⟩:∃k:Nat,150 + z = k:=⟨(150 + z).toNat,Z⟩;rw[hk];refine jdr (Sr hc Z (λp h=>(O p h).1) ho Z a1 ⟨Z,Z⟩) ?_;rintro x R3 m3 a0 ⟨q,hq,hs,hi⟩ h5 h6;refine Ak (jla (by exact z_n 3) rfl jev) (js rfl rfl (by exact z_n 3) rfl (jla (by exact z_n 3) rfl (FT m3 ((Q.trans D).trans a0) ⟨c,l,q,H,x,rfl,⟨PY hc Z (λp h=>(O p h).1) Z,λp h=>(O p h).2⟩,hs,ho.le a0,hi⟩ Z Z)))
end draws
structure StB (r:Nat) (s:Sm.Ah):Prop where
 wr:∀x∈s.AC,Rn x
 wl:s.AC.length = 16 * s.AA.length
 t0:2<=s.AA.length
 t1:s.AA.length<=12
 tp:∀x∈s.AA,-100 * (r:Int)<=x.top/\x.top<=100 * r
 n0:1<=s.AB.length
 n1:s.AB.length<=3
 rl:∀t∈s.AB,t.AD.length<=r
 pl:s.AI.length<=8
 pv:∀a∈s.AI,0<=a/\a<=1000
 ol:s.old.length<=100000
 ml:s.AM.length = s.AC.length
 cy:0<=s.BC/\s.BC<=100000
 fu:0<=s.BJ/\s.BJ<=10000 * r
theorem Xh {x:Cfg} {AZ:List (List Sm.Op)} {picks:List Int} {S' : Sim} (j:Cx x AZ picks = true) (N:∀p∈AZ,Vs p) (h:Sim.picks picks (Sm.start x AZ) = some S'):RS S':=by
 obtain⟨G,H,O,K⟩:=KR j;obtain⟨D,A,y⟩:=Lk G H K;exact Pv picks 0 _ S' D Z A y (WD N) h
theorem ZY {N:List (List Sm.Op)} {S:Sim} {A:Gh} (i0:IG N S A) (B:Bd 20000 S) (W:RS S):StB 8 S.view:=by
 have T:=i0.sh.g.ok;have n0:=T.n0;have n1:=T.n1;have hl:=i0.sh.g.len;have hl:(S.AC.length:Int) = 16 * S.AA.length:=hl;have wl:=i0.wl;refine⟨W.w,by show S.AC.length = 16 * S.AA.length;omega,n0,n1,λx y=>?_,by show 1<=(S.th.map _).length;rw[cM];exact i0.n0,by show (S.th.map _).length<=3;rw[cM];exact i0.n1,λt ht=>?_,B.pn,λa R=>?_,by have:=B.old;show S.old.length<=_;omega,i0.sh.ml,⟨B.cy.1,by have:=B.cy.2;show S.BC<=_;omega⟩,⟨B.fu.1,by have:=B.fu.2;show S.BJ<=_;omega⟩⟩
 .have y:x∈S.AA:=y;have n1:S.AA.length<=12:=n1;obtain⟨k,H,rfl⟩:=d5 y;by_cases h0:k = 0
  .subst h0;have:=T.e;rw[show (0:Int) = ((0:Nat):Int) from rfl] at this;have e:=(Ea (t:=S.AA) H).symm.trans this;rw[e];decide
  .have r:=T.row k Z (by show (k:Int) < S.AA.length;omega);have e:=Ea (t:=S.AA) H;have t0:=r.t0;have t1:=r.t1;have O : rv (xof S A).t k = S.AA[k]:=e;rw[O] at t0 t1;omega
 .obtain⟨K,j,rfl⟩:=cq.1 ht;have:=i0.AD K j;show K.AD.length<=8;omega
 .have Q:=i0.sh.pl a R;obtain⟨h4,_,_,_,_,D,G,_⟩:=i0.sh.g.inn (i0.sh.lb a Q.1);have D:a + sz S.AC a<=S.AC.length:=D;have G:2<=sz S.AC a:=G;omega
theorem StB.mono2 {s:Sm.Ah} (h:StB 9 s):StB 10 s:={ h with rl:=λt j=>(by have:=h.rl t j;omega),tp:=λx y=>(by have:=h.tp x y;omega),fu:=(by have:=h.fu;omega) }
theorem StB.mono {s:Sm.Ah} (h:StB 8 s):StB 9 s:={ h with fu:=(by have:=h.fu;omega),rl:=λt j=>(by have:=h.rl t j;omega),tp:=λx y=>(by have:=h.tp x y;omega) }
theorem StB.row {s:Sm.Ah} (h:StB 8 s) (k:Nat) {x:Rg} (h0:-900<=x.top) (A:x.top<=900):StB 9 { s with AA:=s.AA.set k x }:=
 { h.mono with wl:=by simpa using h.wl,t0:=by simpa using h.t0,t1:=by simpa using h.t1,tp:=λy j=>(by
   rcases dy j with j | j
   .exact h.mono.tp y j
   .subst j;omega) }
def StQ (rl rb b16 b1:Nat) (v:Value) (m c:Int) (F:Chs) (R:RM) (D:Chs):Prop:=
 ∃(s:Sm.Ah) (rows:List (List Value)) (thv mv ov pv:Value) (A:Chs) (wb nw wc:Nat) (wsp:List Value) (tb nt tc:Nat) (tsp:List Value) (m' : Int),
  StB rl s/\s.AC.length = nw/\nw<=wc/\s.AA.length = nt/\nt<=tc/\Rw (Cd R) rows s.AB/\SW 117 4 rows thv A/\Bls R mv s.AM/\B8 R ov s.old/\B8 R pv s.AI/\m<=m'/\m'<=m + c/\
  D = (rb,rdO v m') :: (b16,C AW (eSt s (S0 wb nw wc) (S0 tb nt tc) mv thv ov pv)) :: (A ++ (wb,C Aa (s.AC.map I ++ wsp)) :: (tb,C AO (Ad eRg s.AA ++ tsp)) :: (b1,C AW (cl z50)) :: F)
def DSt (R:RM) (rb:Nat) (v:Value) (m c:Int) (x:Value) (R' : RM) (A:Chs):Prop:=
 ∃(s:Sm.Ah) (wv mv thv ov pv:Value) (tb tc:Nat) (tsp:List Value) (m' : Int),StB 9 s/\B8 R' wv s.AC/\Bls R' mv s.AM/\Ths R' thv s.AB/\B8 R' ov s.old/\B8 R' pv s.AI/\s.AA.length<=tc/\m<=m'/\m'<=m + c/\
  x = .agg (eSt s wv (S0 tb s.AA.length tc) mv thv ov pv).toArray/\A = [(rb,rdO v m'),(tb,C AO (Ad eRg s.AA ++ tsp))]
theorem Tu {s:Sm.Ah} {mv A pv j:Value} {x:Option Addr} {y:Option Addr} {l q l2 q2:Nat} (D:flat mv = true) (G:flat j = true) (H:flat A = true) (K:flat pv = true):By (eSt s (.slice x l q) (.slice y l2 q2) mv j A pv) = true:=by
 show (true && (true && (flat mv && (true && (true && (true && (true && (true && (flat j && (flat A && (flat pv && (true && (true && true))))))))))))) = true;rw[D,G,H,K];rfl
theorem Ei {R:RM} {D E:Chs} {o:Obj} {m:M} (b:Nat) [t:Tk D b o E] (H:J R ((b,o) :: E) m):J R D m:=λh j=>H h (j.perm t.p)
theorem SW.flat {t w:Nat} {rows:List (List Value)} {v:Value} {A:Chs} (h:SW t w rows v A):flat v = true:=by
 obtain⟨a,c,e⟩:=h.sl;rw[e];rfl
theorem bP {R:RM} {X D E:Chs} {m:M} (j:D.Perm (X ++ E)) (H:J R E m):J R D m:=λh x=>H h ((x.perm j).drop)
theorem th0 {R:RM} {rows:List (List Value)} {l:List Th} {x:Value} {A:Chs} (j:Rw (Cd R) rows l) (T:SW 117 4 rows x A) (Q:1<=l.length):∃t y rv rr b c sp,l = t :: y/\rows = [rv,I t.next,.bool t.busy,I t.Am] :: rr/\B8 R rv t.AD/\Rw (Cd R) rr y/\
  rows.length<=c/\sp.length = (c - rows.length) * 4/\x = S0 b rows.length c/\A = [(b,C 117 (rows.flatten ++ sp))]:=by
 cases l with
 | nil=>simp at Q
 | cons t y=>
  cases rows with
  | nil=>have:=j.1;simp at this
  | cons r0 rr=>
   obtain⟨rv,e,D⟩:=j.2 0 V V;simp only[List.getElem_cons_zero] at e D;subst e;rcases T with ⟨h,_,_⟩ | ⟨b,c,sp,H,K,N,O⟩
   .cases h
   .refine⟨t,y,rv,rr,b,c,sp,rfl,rfl,D,⟨by have:=j.1;simpa using this,λi h G=>?_⟩,H,K,N,O⟩;have:=j.2 (i + 1) (by simpa using h) (by simpa using G);simpa using this
section draws
variable {R:RM} {rb:Nat} {v:Value} {m:Int}
theorem RH (hb:Byt R v) (hm:0<=m/\m < 100000000):Fn P Ip [Pt rb] R [(rb,rdO v m)] (DSt R rb v m 2000000):=by
 refine OS λF=>?_
 refine z_1 ?_;refine ja λb1=>jdr (PL hb ⟨Z,Z⟩) ?_
 rintro _ R1 m1 - ⟨h5,c,rfl,hc⟩ g1 g2;subst h5;refine ja λb3=>jS (eCf c) (jla (l:=eCf c) (by exact z_n 3) rfl ?_)
 refine jdr (RA hc hb ⟨Z,Z⟩) ?_;rintro pv R2 m2 f4 ⟨AZ,b9,b8,hp⟩ g3 g4;have c7:=hb.le f4;refine jla (l:=eCf c) (by exact z_n 3) rfl (jpk c7 ⟨Z,Z⟩ λz _ _=>jad (Ak (jla (l:=eCf c) (by exact z_n 3) rfl jev) ?_));obtain⟨n,hn⟩:∃n:Nat,40 + z = n:=⟨(40 + z).toNat,Z⟩;rw[hn];refine jdr (SG hc (n:=n) Z c7 ⟨Z,Z⟩) ?_;rintro kv R3 m3 e7 ⟨picks,O,f8,hk⟩ g5 g6;have e9:=c7.le e7;refine jk3 (F:=F) rb b3 b1 ?_;refine Ab (λvs R' D'=>R3.le R'/\∃(c:Cfg) (AZ:List (List Sm.Op)) (picks:List Int) (pv kv:Value) (m4:Int),(Cx c AZ picks = true/\∀p∈AZ,Vs p)/\Sml picks/\F7 R' pv AZ/\B8 R' kv picks/\m<=m4/\m4<=m + 1600000/\D' = (rb,rdO v m4) :: (b3,C 24 (eCf c)) :: (b1,C AW (cl z50)) :: F/\vs = [Pt rb,Pt b1,Pt b3,pv,kv]) (λK hK=>?_) ?_
 .refine jpk e9 ⟨Z,Z⟩ λy _ _=>jgr (jif (λ_=>?_) (λ_=>?_))
  .refine jdr (Ur e9 ⟨Z,Z⟩) ?_;rintro _ R4 m4 e8 ⟨c',d1,c9,j2,j1,rfl,c8,i8,i6,i5⟩ g7 g8;refine jex rfl (jex rfl (jex rfl (jS (eCf c') ?_)));exact hK _ _ _ ⟨e8,c',d1,c9,j2,j1,m4,c8,i8,i6,i5,Z,Z,rfl,rfl⟩
  .exact hK _ _ _ ⟨RM.le.refl _,c,AZ,picks,pv,kv,_,⟨PY hc b9 (λp h=>(b8 p h).1) Z,λp h=>(b8 p h).2⟩,f8,hp.le e7,hk,Z,Z,rfl,rfl⟩
 have f2:=f4.trans e7;clear hp hk f8 hc b9 b8 O c7 hn;rintro e R4 D4 ⟨e8,c,AZ,picks,pv,kv,m4,⟨c8,i9⟩,hs,hp,hk,g7,g8,hD,he⟩;refine z_W ?_;clear hD;obtain⟨S,gh,i0,B0,i7,b9⟩:=Yy c8 λa ha=>⟨by have:=(hs a ha).1;omega,by have:=(hs a ha).2;omega⟩
 refine jla (l:=eCf c) (by exact z_n 3) rfl (jc (A:=[]) (b9 R4 pv kv hp hk) ?_);rintro _ R5 _ h6 ⟨p,g,rows,j,A,ok,D,so,rfl,rfl⟩;have f6:=ZY i0 B0 (Xh c8 i9 i7);refine jex rfl (jex rfl ?_);unfold Ag;refine bP (X:=(p,C CG (Ch S g)) :: (g.hb,C Af (Ep S.th g.rv ++ g.hsp)) :: evD S g) (E:=(A ++ [(g.wb,C Aa (S.AC.map I ++ g.wsp)),(g.tb,C AO (Ad eRg S.AA ++ g.tsp)),(g.mb,C Ax (S.AM.map Value.bool ++ g.msp))]) ++ ((rb,rdO v m4) :: (b3,C 24 (eCf c)) :: (b1,C AW (cl z50)) :: F)) ?_ ?_
 .refine (fB _ d9).trans (eE _ ?_);have:=eK (A ++ [(g.wb,C Aa (S.AC.map I ++ g.wsp)),(g.tb,C AO (Ad eRg S.AA ++ g.tsp)),(g.mb,C Ax (S.AM.map Value.bool ++ g.msp))]) ((g.hb,C Af (Ep S.th g.rv ++ g.hsp)) :: evD S g) ((rb,rdO v m4) :: (b3,C 24 (eCf c)) :: (b1,C AW (cl z50)) :: F);simpa using this
 refine BB (b:=g.mb) λR6 c4 g0=>?_
 have b4:=RK g0 ok.mk_;have d2:=(e8.trans h6).trans c4;have N:=e9.le d2;have W:=ok.old.le c4;have b0:=ok.AI.le c4;have D:=D.mono λ_ _=>Cd.le c4
 obtain⟨j4,j5,h3⟩:=so.sl;refine ja λH=>js (cs':=eSt S.view (wS S g) (tS S g) (mS S g) j g.old g.AI) rfl (Tu rfl so.flat (Fz.flat W) (Fz.flat b0)) (by exact z_n 13) rfl ?_
 have h0:StQ 8 rb H b1 v m 1600000 F R6 ((rb,rdO v m4) :: (H,C AW (eSt S.view (wS S g) (tS S g) (mS S g) j g.old g.AI)) :: (A ++ (g.wb,C Aa (S.AC.map I ++ g.wsp)) :: (g.tb,C AO (Ad eRg S.AA ++ g.tsp)) :: (b1,C AW (cl z50)) :: F)):=
  ⟨S.view,rows,j,mS S g,g.old,g.AI,A,g.wb,S.AC.length,g.wc,g.wsp,g.tb,S.AA.length,g.tc,g.tsp,m4,f6,rfl,ok.wk,rfl,ok.tk,D,so,b4,W,b0,Z,Z,rfl⟩
 refine Ei H (Ei rb (Ei b3 (Bf ?_)));simp only[cR,zc,zl];generalize (rb,rdO v m4) :: (H,C AW (eSt S.view (wS S g) (tS S g) (mS S g) j g.old g.AI)) :: (A ++ (g.wb,C Aa (S.AC.map I ++ g.wsp)) :: (g.tb,C AO (Ad eRg S.AA ++ g.tsp)) :: (b1,C AW (cl z50)) :: F) = D6 at h0 ⊢;have f3:=f2.trans d2;clear g0 b4 W b0 D so b9 ok f6;refine Ab (λvs R' D'=>R6.le R'/\StQ 9 rb H b1 v m 1600010 F R' D'/\vs = [Pt b1,Pt H]) (λK hK=>?_) ?_;rotate_left
 .rintro e R7 D7 ⟨b7,⟨s,rows,j,mv,ov,pv,A,wb,nw,wc,wsp,tb,nt,tc,tsp,m',G,w1,w2,w3,w4,D,so,b4,W,b0,h1,h2,hD⟩,he⟩;refine z_W ?_;clear hD;subst w1 w3;obtain⟨j4,j5,h3⟩:=so.sl;have i4:=Tu (s:=s) (x:=some ⟨wb,0,none⟩) (y:=some ⟨tb,0,none⟩) (l:=s.AC.length) (q:=wc) (l2:=s.AA.length) (q2:=tc) (Fz.flat b4) so.flat (Fz.flat W) (Fz.flat b0);refine jla (l:=eSt s (S0 wb s.AC.length wc) (S0 tb s.AA.length tc) mv j ov pv) (by exact z_n 13) rfl ?_;refine js (cs':=eSt s (S0 wb s.AC.length wc) (S0 tb s.AA.length tc) mv j ov pv) rfl i4 (by exact z_n 13) rfl ?_;refine jla (l:=eSt s (S0 wb s.AC.length wc) (S0 tb s.AA.length tc) mv j ov pv) (by exact z_n 13) rfl ?_;refine Ei H (Bf (Ei wb (BB (b:=wb) λR8 c6 j0=>Ei rb (Az d9.symm (jfw so (D.all λ_ _=>Cd.len) λR9 f5 hfz=>?_)))));have T:=c6.trans f5;exact Ao (A:=[(rb,rdO v m'),(tb,C AO (Ad eRg s.AA ++ tsp))]) ((f3.trans b7).trans T) ⟨s,_,mv,j,ov,pv,tb,tc,tsp,m',G,(CO j0 w2).le f5,Fz.le T b4,⟨rows,D.mono λ_ _=>Cd.le T,hfz⟩,W.le T,b0.le T,w4,h1,Z,rfl,rfl⟩
 obtain⟨s,rows,j,mv,ov,pv,A,wb,nw,wc,wsp,tb,nt,tc,tsp,m',G,w1,w2,w3,w4,D,so,b4,W,b0,h1,h2,hD⟩:=h0;rw[hD];clear hD;have wl:=G.wl;have t0:=G.t0;have t1:=G.t1;refine jpk N ⟨Z,Z⟩ λy _ _=>?_
 refine jcI hK λK2 f1=>?_
 have b2:∀(s' : Sm.Ah) (m2:Int) (b6 : Value) (Q : List (List Value)) (A' : Chs) (R' : RM),R6.le R'->StB 9 s'->s'.AC.length = nw->s'.AA.length = nt->s'.AM = s.AM->s'.old = s.old->s'.AI = s.AI->Rw (Cd R') Q s'.AB->SW 117 4 Q b6 A'->m<=m2->m2<=m' + 8->
   J R' ((rb,rdO v m2) :: (H,C AW (eSt s' (S0 wb nw wc) (S0 tb nt tc) mv b6 ov pv)) :: (A' ++ (wb,C Aa (s'.AC.map I ++ wsp)) :: (tb,C AO (Ad eRg s'.AA ++ tsp)) :: (b1,C AW (cl z50)) :: F)) (K2 [Pt b1,Pt H]):=λs' m2 b6 Q A' R' a0 a1 a2 a3 a4 a5 a6 a7 a8 a9 j6=>
  f1 _ _ _ ⟨a0,⟨s',Q,b6,mv,ov,pv,A',wb,nw,wc,wsp,tb,nt,tc,tsp,m2,a1,a2,w2,a3,w4,a7,a8,by rw[a4];exact Fz.le a0 b4,by rw[a5];exact W.le a0,by rw[a6];exact b0.le a0,a9,Z,rfl⟩,rfl⟩
 clear hK f1;refine jeq (jif (λ_=>?_) (λ_=>jeq (jif (λ_=>?_) (λ_=>jeq (jif (λ_=>?_) (λ_=>jeq (jif (λ_=>?_) (λ_=>jeq (jif (λ_=>?_) (λ_=>jeq (jif (λ_=>?_) (λ_=>?_))))))))))))
 .refine jl (v:=S0 wb nw wc) rfl (jl (v:=S0 wb nw wc) rfl (jln (jpk N ⟨Z,Z⟩ λi _ _=>Ak (jl (v:=S0 wb nw wc) rfl jev) (jpk N ⟨Z,Z⟩ λx _ _=>jia Z Z (Ak (jl (v:=S0 wb nw wc) rfl jev) ?_)))));refine jsi (l:=s.AC) Z ?_;exact b2 { s with AC:=s.AC.set i.toNat x } _ j rows A R6 (RM.le.refl _) { G.mono with wl:=by simpa using G.wl,ml:=by simpa using G.ml,wr:=λy hy=>(dy hy).elim (G.wr y) λe=>by rw[e];unfold Rn;omega } (by simpa using w1) w3 rfl rfl rfl D so Z Z
 .obtain⟨t,ts,rv,rr,bt,ct,sp,e1,e2,c0,f0,q1,q2,e3,e4⟩:=th0 D so G.n0;subst e2 e3 e4;obtain⟨ra,rc,e5⟩:=c0.sl;subst e5;have h8:=G.rl t (by rw[e1];simp);refine jl (v:=S0 bt _ ct) rfl (jia Z V (jla (l:=[.slice ra t.AD.length rc,I t.next,.bool t.busy,I t.Am]) V rfl ?_));refine ja λd3=>jS [.slice ra t.AD.length rc,I t.next,.bool t.busy,I t.Am] ?_
  refine jl (v:=.slice ra t.AD.length rc) rfl (jl (v:=S0 wb nw wc) rfl (jln ?_));refine jc (A:=[]) (CY c0 Z) ?_;rintro _ R7 _ b7 ⟨b5,c5,h4,h9,g9,rfl,rfl⟩;have h7:=N.le b7;refine Ak (jl (v:=S0 wb nw wc) rfl jev) (jpk h7 ⟨Z,Z⟩ λx _ _=>jbs (cs:=[I x]) rfl rfl λbs=>?_);refine Gr (l:=t.AD) (A:=[(b5,C Aa (t.AD.map I ++ h4))]) (.inr ⟨b5,c5,h4,h9,g9,rfl,rfl⟩) Z λv' A' j3=>Dw j3 λR8 c6 hi=>?_
  obtain⟨xa,xc,e6⟩:=hi.sl;subst e6;refine js (cs':=[.slice xa (t.AD ++ [x]).length xc,I t.next,.bool t.busy,I t.Am]) rfl rfl V rfl ?_;refine jl (v:=S0 bt _ ct) rfl (jla (l:=[.slice xa (t.AD ++ [x]).length xc,I t.next,.bool t.busy,I t.Am]) (by exact z_n 4) rfl (jia Z V ?_));refine js (cs':=([.slice xa (t.AD ++ [x]).length xc,I t.next,.bool t.busy,I t.Am] :: rr).flatten ++ sp) rfl rfl V rfl ?_;refine Ei d3 (Bf ?_);refine b2 { s with AB:={ t with AD:=t.AD ++ [x] } :: ts } _ (S0 bt _ ct) ([.slice xa (t.AD ++ [x]).length xc,I t.next,.bool t.busy,I t.Am] :: rr) [(bt,C 117 (([.slice xa (t.AD ++ [x]).length xc,I t.next,.bool t.busy,I t.Am] :: rr).flatten ++ sp))] R8 (b7.trans c6) { G.mono with n0:=V,n1:=by have:=G.n1;rw[e1] at this;simpa using this,rl:=λu hu=>?_ } w1 w3 rfl rfl rfl ?_ (.inr ⟨bt,ct,sp,q1,q2,rfl,rfl⟩) Z Z
  .rcases cU.1 hu with hu | hu
   .subst hu;show (t.AD ++ [x]).length<=9;rw[cJ];simp;omega
   .exact G.mono.rl u (by rw[e1];exact ce _ hu)
  .exact Rw.app (r1:=[_]) (l1:=[_]) (Rw.one ⟨_,rfl,hi⟩) (f0.mono λ_ _=>Cd.le (b7.trans c6))
 .refine jl (v:=S0 tb nt tc) rfl (jln (jsu (jpk N ⟨Z,Z⟩ λi _ _=>jad ?_)));obtain⟨k,hk⟩:∃k:Nat,1 + i = k:=⟨(1 + i).toNat,Z⟩;rw[hk];have O:k < s.AA.length:=Z
  obtain⟨p0,p1⟩:=G.tp _ (cK O);refine jl (v:=S0 tb nt tc) rfl (C0 Z (LB O (ja λd4=>jS (eRg s.AA[k]) ?_)));refine jl (v:=I (s.AA[k]).top) rfl (jpk N ⟨Z,Z⟩ λz _ _=>jad (jsu (Ak (jl (v:=I (s.AA[k]).top) rfl jev) ?_)));refine js (cs':=eRg { s.AA[k] with top:=(s.AA[k]).top + z - 1 }) rfl rfl V rfl ?_;refine jl (v:=S0 tb nt tc) rfl (jla (l:=eRg { s.AA[k] with top:=(s.AA[k]).top + z - 1 }) (by exact z_n 5) rfl (C0 Z ?_));refine Ge (x:={ s.AA[k] with top:=(s.AA[k]).top + z - 1 }) O ?_;refine Ei d4 (Bf ?_);exact b2 { s with AA:=s.AA.set k { s.AA[k] with top:=(s.AA[k]).top + z - 1 } } _ j rows A R6 (RM.le.refl _) (G.row k (by show -900<=(s.AA[k]).top + z - 1;omega) (by show (s.AA[k]).top + z - 1<=900;omega)) w1 (by simpa using w3) rfl rfl rfl D so Z Z
 .refine jbs (cs:=[I (-1),I 4,I 2]) rfl rfl λbt=>jpk N ⟨Z,Z⟩ λz _ _=>jia Z Z (jl (BF [-1,4,2] Z (by show _ < (3:Int);omega)) ?_)
  refine jS (eSt { s with Ae:=sel [-1,4,2] z } (S0 wb nw wc) (S0 tb nt tc) mv j ov pv) (Ei bt (Bf ?_));exact b2 { s with Ae:=sel [-1,4,2] z } _ j rows A R6 (RM.le.refl _) { G.mono with } w1 w3 rfl rfl rfl D so Z Z
 .obtain⟨t,ts,rv,rr,bt,ct,sp,e1,e2,c0,f0,q1,q2,e3,e4⟩:=th0 D so G.n0;subst e2 e3 e4;obtain⟨ra,rc,e5⟩:=c0.sl;subst e5;refine jl (v:=S0 bt _ ct) rfl (jia Z V (jla (l:=[.slice ra t.AD.length rc,I t.next,.bool t.busy,I t.Am]) V rfl ?_));refine ja λd3=>jS [.slice ra t.AD.length rc,I t.next,.bool t.busy,I t.Am] ?_
  refine jl (v:=.bool t.busy) rfl (js (cs':=[.slice ra t.AD.length rc,I t.next,.bool (!t.busy),I t.Am]) rfl rfl V rfl ?_);refine jl (v:=S0 bt _ ct) rfl (jla (l:=[.slice ra t.AD.length rc,I t.next,.bool (!t.busy),I t.Am]) (by exact z_n 4) rfl (jia Z V ?_));refine js (cs':=([.slice ra t.AD.length rc,I t.next,.bool (!t.busy),I t.Am] :: rr).flatten ++ sp) rfl rfl V rfl ?_;refine Ei d3 (Bf ?_);refine b2 { s with AB:={ t with busy:=!t.busy } :: ts } _ (S0 bt _ ct) ([.slice ra t.AD.length rc,I t.next,.bool (!t.busy),I t.Am] :: rr) [(bt,C 117 (([.slice ra t.AD.length rc,I t.next,.bool (!t.busy),I t.Am] :: rr).flatten ++ sp))] R6 (RM.le.refl _) { G.mono with n0:=V,n1:=by have:=G.n1;rw[e1] at this;simpa using this,rl:=λu hu=>?_ } w1 w3 rfl rfl rfl ?_ (.inr ⟨bt,ct,sp,q1,q2,rfl,rfl⟩) Z Z
  .rcases cU.1 hu with hu | hu
   .subst hu;exact G.mono.rl t (by rw[e1];simp)
   .exact G.mono.rl u (by rw[e1];exact ce _ hu)
  .exact Rw.app (r1:=[_]) (l1:=[_]) (Rw.one ⟨_,rfl,c0⟩) f0
 .refine jl (v:=S0 tb nt tc) rfl (jln (jsu (jpk N ⟨Z,Z⟩ λi _ _=>jad ?_)));obtain⟨k,hk⟩:∃k:Nat,1 + i = k:=⟨(1 + i).toNat,Z⟩;rw[hk];have O:k < s.AA.length:=Z
  refine jl (v:=S0 tb nt tc) rfl (C0 Z (LB O (ja λd4=>jS (eRg s.AA[k]) ?_)));refine jpk N ⟨Z,Z⟩ λz _ _=>js (cs':=eRg { s.AA[k] with kind:=z }) rfl rfl V rfl ?_
  refine jl (v:=S0 tb nt tc) rfl (jla (l:=eRg { s.AA[k] with kind:=z }) (by exact z_n 5) rfl (C0 Z ?_));refine Ge (x:={ s.AA[k] with kind:=z }) O ?_;refine Ei d4 (Bf ?_);obtain⟨p0,p1⟩:=G.tp _ (cK O);exact b2 { s with AA:=s.AA.set k { s.AA[k] with kind:=z } } _ j rows A R6 (RM.le.refl _) (G.row k (by show -900<=(s.AA[k]).top;omega) (by show (s.AA[k]).top<=900;omega)) w1 (by simpa using w3) rfl rfl rfl D so Z Z
 .exact b2 s _ j rows A R6 (RM.le.refl _) G.mono w1 w3 rfl rfl rfl D so Z Z
end draws
section draws
variable {R:RM} {rb:Nat} {v:Value} {m:Int}
end draws
theorem Ve (a:Addr) (n c:Nat) (w:World):(Builtin.clear_ #[30] 0 #[.slice (some a) (n + 1) c]).run P w = (do storeCells a (Builtin.zeroCells #[I 0] (n + 1)).toList;pure (.tuple #[]):Sem Value).run P w:=by
 kernel_rfl
theorem aK (x y:Operand) (a:Addr) (n c:Nat) (w:World):(do eqGuard .eql 30 x y (.slice (some a) n c) (SN);binOp .eql 30 (.slice (some a) n c) (SN):Sem Value).run P w = .ok (.bool false) w:=by kernel_rfl
theorem Yt (x y:Operand) (w:World):(do eqGuard .eql 30 x y (SN) (SN);binOp .eql 30 (SN) (SN):Sem Value).run P w = .ok (.bool true) w:=by kernel_rfl
theorem YB (a b:Addr) (n c m d:Nat) (w:World):(Builtin.copy_ #[30,30] 3 #[.slice (some a) n c,.slice (some b) m d]).run P w = (do let cells <- loadCells b (Nat.min m n * 1);storeCells a cells.toList;pure (goInt (Nat.min m n)):Sem Value).run P w:=by
 kernel_rfl
theorem Sk (n:Nat):(Builtin.zeroCells #[I 0] n).toList = List.replicate n (I 0):=by
 unfold Builtin.zeroCells;rw[fZ];apply eN
 .simp
 .intro i j x;simp[Nat.mod_one]
section rules
variable {R:RM} {D:Chs} {k:Value->M}
theorem jX {s:Sem Value} (H:∀h,St h R D->∀w:World,w.heap = h->∃v j,s.run P w = .ok v j/\BG w j/\k v j.heap):J R D (X P s k):=λh A w G=>by
 obtain⟨v,j,e,x,y⟩:=H h A w G;rw[e];exact⟨x,y⟩
theorem Zc {b o n c t:Nat} {cs cs' : List Value} {D' : Chs} (hn:0 < n) [a:At D b (C t cs)] (Q:o + n<=cs.length) (hc:lay cs o (List.replicate n (I 0)) = cs') [u:Up D b (C t cs) (C t cs') D'] (H:J R D' (k (.tuple #[]))) :
  J R D (X P (Builtin.clear_ #[30] 0 #[.slice (some ⟨b,o,none⟩) n c]) k):=by
 have O:∀h,St h R D->∀w:World,w.heap = h->∃v j,(Builtin.clear_ #[30] 0 #[.slice (some ⟨b,o,none⟩) n c]).run P w = .ok v j/\BG w j/\k v j.heap:=by
  intro h G w T;subst T;obtain⟨n,rfl⟩:∃m,n = m + 1:=⟨n - 1,Z⟩;obtain⟨A,w1,w2,w3⟩:=G7 (List.replicate (n + 1) (I 0)) o (G.at_ b _ a.m).1 (by rw[cW];exact Q) (by unfold By;rw[ck];intro x W;rw[(dQ.1 W).2];rfl);obtain⟨j,K,y,N⟩:=Eg (P:=P) b (List.replicate (n + 1) (I 0)) o 0 w A w1;refine⟨.tuple #[],j,?_,y,?_⟩
  .rw[Ve,Sk];simp only[d6,K,cY];rfl
  .rw[N];exact H A (G.turn (by rw[w2,hc]) w3)
 exact @jX _ _ _ _ O
theorem bE {b o n c t m d:Nat} {x:Addr} {l cs cs' : List Value} {D' : Chs} (hx:BX R D (some x) (Nat.min m n * 1) l) (hl:l.length = Nat.min m n) (Q:By l = true) [a:At D b (C t cs)] (W:o + l.length<=cs.length) (hc:lay cs o l = cs') [u:Up D b (C t cs) (C t cs') D']
  (H:J R D' (k (I (Nat.min m n:Nat)))):J R D (X P (Builtin.copy_ #[30,30] 3 #[.slice (some ⟨b,o,none⟩) n c,.slice (some x) m d]) k):=by
 have T:∀h,St h R D->∀w:World,w.heap = h->∃v j,(Builtin.copy_ #[30,30] 3 #[.slice (some ⟨b,o,none⟩) n c,.slice (some x) m d]).run P w = .ok v j/\BG w j/\k v j.heap:=by
  intro h A w hw;subst hw;obtain⟨K,w1,w2,w3⟩:=G7 l o (A.at_ b _ a.m).1 W Q;obtain⟨j,N,G,O⟩:=Eg (P:=P) b l o 0 w K w1;have y:rdS w.heap (some x) (Nat.min m n * 1) = some l:=hx _ A;obtain⟨xb,xo,xs⟩:=x;cases xs with
  | some _=>cases y
  | none=>
  have y:rd w.heap xb xo (Nat.min m n * 1) = some l:=y;refine⟨I (Nat.min m n:Nat),j,?_,G,?_⟩
  .rw[YB];simp only[d6,I6 y,cY,N];rfl
  .rw[O];exact H K (A.turn (by rw[w2,hc]) w3)
 exact @jX _ _ _ _ T
theorem ax {v:Value} {w n:Nat} {j:List Value} {x y:Operand} (h:Fz R v w n j) (H:v = SN->n = 0->j = []->J R D (k (.bool true))) (K:J R D (k (.bool false))):J R D (X P (do eqGuard .eql 30 x y v (SN);binOp .eql 30 v (SN)) k):=by
 rcases h with ⟨rfl,O,Q⟩ | ⟨b,o,N,t,T,rfl,_⟩
 .intro h A w G;rw[Yt];subst G;exact⟨BG.refl _,H rfl O Q _ A⟩
 .intro h A w G;rw[aK];subst G;exact⟨BG.refl _,K _ A⟩
theorem ah {v:Value} {l:List Int} {lo u:Int} (h:B8 R v l) (h0:0<=lo) (O:lo<=u) (W:u<=l.length) (H:∀Q,B8 R Q ((l.take u.toNat).drop lo.toNat)->J R D (k Q)):J R D (SL 1 v (some (I lo)) (some (I u)) k):=by
 rcases h with ⟨rfl,y,_⟩ | ⟨b,o,j,t,N,rfl,y,h4,T,h6⟩
 .intro G K;refine⟨⟨h0,O,Z⟩,H _ ?_ G K⟩;have e:l = []:=dA.1 y;have A:u = 0:=Z
  have x:lo = 0:=Z
  rw[e,A,x];exact .inl ⟨rfl,V,V⟩
 .intro G K;refine⟨⟨h0,O,Z⟩,H _ ?_ G K⟩;by_cases c:j = lo.toNat
  .have hl:l.length = lo.toNat:=Z
   have A:u.toNat = lo.toNat:=Z
   have x:((l.take u.toNat).drop lo.toNat).length = 0:=by rw[dN,cV];omega
   refine .inr ⟨b,o,j - lo.toNat,t,N,?_,y,?_,?_,?_⟩
   .rw[if_pos c,x,A,Nat.sub_self]
   .rw[x];omega
   .rw[dA.1 x];simp
   .rw[x];omega
  .refine .inr ⟨b,o + lo.toNat * 1,j - lo.toNat,t,N,?_,y,?_,?_,?_⟩
   .rw[if_neg c];simp;omega
   .simp only[dN,cV];omega
   .simp only[dN,cV];rw[List.map_drop,List.map_take,<- T,fO,fI,fP];congr 1
    .omega
    .congr 1;omega
   .simp only[dN,cV];omega
theorem bU {v:Value} {l:List Int} (h:B8 R v l) (hl:l.length < 1000000) (H:∀G b c sp,l.length<=c->sp.length = c - l.length->G = S0 b l.length c->J R ((b,C Aa (l.map I ++ sp)) :: D) (k G)) :
  J R D (BS 3 0 (ZR 0 z3) [] λx=>AP 3 1 8 (cl z3) x v k):=by
 obtain⟨a,N,rfl,Q⟩:=Fz.reads h;refine jbs (cs:=[]) rfl rfl λy=>(W6 (new:=l.map I) ?_ δ Z (λ_=>rfl) (λh0=>?_) (λK c hc=>Az (dh _ _ _) (Bf ?_)))
 .intro O j;exact Q O (St.drop (A:=[(y,C 3 [])]) (by simpa using j))
 .have:l = []:=dA.1 h0;subst this;exact H _ y 0 [] V V rfl
 .exact H _ K c _ hc (by rw[Br (w:=1) (by intro x T;rw[(dQ.1 T).2];rfl)];simp) rfl
end rules
theorem Dk {R:RM} {v:Value} {l:List Int} (h:B8 R v l) (hl:l.length < 1000000):Fn P Fl [v] R [] (λx y A=>y = R/\SO l x A/\(0 < l.length->WM l x A)):=by
 refine Ib λF=>?_
 refine z_1 ?_;refine ax h (λ_ h0 _=>DM ?_) (CW ?_)
 .have:l = []:=dA.1 h0;subst this;exact Ao (RM.le.refl R) ⟨rfl,.inl ⟨rfl,rfl,rfl⟩,V⟩
 .refine bU h hl λD b c sp hc hsp j=>(Ao (RM.le.refl R) ⟨rfl,.inr ⟨b,c,sp,hc,hsp,j,rfl⟩,λ_=>⟨b,c,sp,hc,hsp,j,rfl⟩⟩)
theorem CZ (r:Int):Pu HK [I r] (I (AK r)):=λR=>MV λF=>JJ r R F
theorem H3 (s:Shp):Pu KK [eSh s] (.bool (BM s)):=λR=>Pf λF=>Nf s R F
theorem N8 (s:Shp):Pu Hu [eSh s] (I (AY s)):=by
 intro R;refine N3 λF=>?_
 refine z_1 ?_;refine ja λb=>jla (l:=[I s.refs,I s.nums]) V rfl (jp (H3 s) (jif (λh=>?_) (λh=>?_)))
 .refine Ao (A:=[]) (RM.le.refl _) ?_;simp only[cz] at h;simp[AY,h]
 .simp only[dL] at h;obtain⟨h0,j,x,y⟩:=EK.1 h;refine jl rfl (HL ⟨Z,Z⟩ (jl rfl (jad (Ao (A:=[]) (RM.le.refl _) ?_))));simp[AY,h]
theorem Hk (s:Shp):Pu Hx [eSh s] (I (AG s)):=by
 intro R;refine NL λF=>?_
 refine z_1 ?_;refine ja λb=>jla (l:=[I s.refs,I s.nums]) V rfl (jp (H3 s) (jif (λh=>?_) (λh=>?_)))
 .refine Ao (A:=[]) (RM.le.refl _) ?_;simp only[cz] at h;simp[AG,h]
 .simp only[dL] at h;obtain⟨h0,j,x,y⟩:=EK.1 h;refine jl rfl (jad (jl rfl (jad (Ao (A:=[]) (RM.le.refl _) ?_))));simp[AG,h]
theorem Qw {w:Int} (H:inR w):Pu KF [I w] (.tuple #[eSh (AS w).1,.bool (AS w).2]):=by
 intro R;refine Pl λF=>?_
 refine z_1 ?_;refine ja λb=>jlt (jif (λh=>?_) (λh=>?_))
 .have h:=z_f h;refine jbd rfl rfl (js (cs':=[I 0,I 0]) rfl rfl V rfl (jla V rfl (Ao (A:=[]) (RM.le.refl _) ?_)));unfold AS;rw[if_neg Z];rfl
 .have h:=z_g h;have x:w.tdiv 16 = w / 16:=dv Z;have y:w.tmod 16 = w % 16:=fC Z;refine Oq δ (by rw[x];constructor<;>omega) (Pc δ ?_);rw[x,y];refine jbd rfl rfl (ja λG=>js (cs':=[I (w / 16),I (w % 16)]) rfl rfl V rfl (jla (l:=[I (w / 16),I (w % 16)]) V rfl (jp (H3 ⟨w / 16,w % 16⟩) ?_)));have D:BM ⟨w / 16,w % 16⟩ = decide (0<=w/\w / 16<=4/\w % 16<=4):=by
   rw[dX,EK,z_d];show 0<=w / 16/\w / 16<=4/\0<=w % 16/\w % 16<=4↔_;omega
  rw[D];refine jif (λj=>?_) (λj=>?_)
  .have j:¬ (0<=w/\w / 16<=4/\w % 16<=4):=by
    rw[cz,decide_eq_false_iff_not] at j;exact j
   refine jbd rfl rfl (js (cs':=[I 0,I 0]) rfl rfl V rfl (jla V rfl (Ao (A:=[]) (RM.le.refl _) ?_)));unfold AS;rw[if_neg j];rfl
  .have j:0<=w/\w / 16<=4/\w % 16<=4:=by simpa using j
   refine jla V rfl (js (cs':=[I (w / 16),I (w % 16)]) rfl rfl V rfl (jla (l:=[I (w / 16),I (w % 16)]) V rfl (Ao (A:=[]) (RM.le.refl _) ?_)));unfold AS;rw[if_pos j]
theorem HF (a:Option Addr) (n c:Nat) (O:n < 1000000000000):Pu Jt [.slice a n c] (.bool (BL n)):=by
 intro R;refine PP λF=>?_
 refine z_1 ?_;have H:(n:Int).tmod 16 = (n % 16:Nat):=by rw[fC Z];omega
 refine jan [.slice a n c] (((n:Int).tmod 16 == 0) && (decide ((n:Int)>=32))) (λG j=>?_) (λe c u y he=>?_)
 .refine jln (Pc δ (jeq (jgA j λD x=>jln (jge x))))
 refine z_V ?_;refine jan [] ((((n:Int).tmod 16 == 0) && decide ((n:Int)>=32)) && (decide ((n:Int)<=192))) (λG j=>?_) (λe c u y he=>?_)
 .rw[y];refine jgA j λD x=>jln (jle x)
 refine z_V ?_;rw[y];refine Ao (A:=[]) (RM.le.refl R) ?_;congr 1;unfold BL;rw[H,dX];simp only[z_b,z_d,beq_iff_eq];constructor<;>rintro⟨⟨D,K⟩,N⟩<;>exact⟨⟨Z,Z⟩,Z⟩
theorem Qc (x:Option Addr) (n H:Nat) (a size:Int) (hn:n < 1000000000000) (h0:1<=size) (j:size<=16):Pu Q6 [.slice x n H,I a,I size] (.bool (fits n a size)):=by
 intro R;refine Wv λF=>?_
 refine z_3 ?_;refine jan [.slice x n H,I a,I size] (BL n && decide (a>=16)) (λQ y=>?_) (λe c u D he=>?_)
 .refine jp (HF x n H hn) (Dv (λj=>jge (y _ _ _ (j▸Bx) (by rw[j,dR]))) (λj=>y _ _ _ (j▸CB) (by rw[j,dz])))
 refine z_V ?_;refine jan [I a,I size] ((BL n && decide (a>=16)) && decide (a < n)) (λQ y=>?_) (λe c u D he=>?_)
 .rw[D];exact Dv (λj=>jln (jlt (y _ _ _ (j▸Bx) (by rw[j,dR])))) (λj=>y _ _ _ (j▸CB) (by rw[j,dz]))
 refine z_V ?_;refine jan [] (((BL n && decide (a>=16)) && decide (a < n)) && decide (a.tmod 16 + size<=16)) (λQ y=>?_) (λe c u D he=>?_)
 .rw[D];refine Dv (λj=>Pc δ ?_) (λj=>y _ _ _ (j▸CB) (by rw[j,dz]));have h2:=j;simp only[z_b,z_d] at h2;have W:a.tmod 16 = a % 16:=fC Z;exact Cz (by rw[W];constructor<;>omega) (jle (y _ _ _ (j▸Bx) (by rw[j,dR])))
 refine z_V ?_;rw[D];refine Ao (A:=[]) (RM.le.refl R) ?_;congr 1;unfold fits;rw[dX];simp only[z_b,z_d,beq_iff_eq];have T:16<=a->(AN a = AN (a + size - 1)↔a.tmod 16 + size<=16):=λha=>by
  rw[fC Z];unfold AN;rw[if_neg Z,if_neg Z];omega
 constructor
 .rintro⟨⟨⟨K,G⟩,N⟩,O⟩;exact⟨⟨⟨⟨⟨K,Z⟩,j⟩,G⟩,N⟩,(T G).2 O⟩
 .rintro⟨⟨⟨⟨⟨K,_⟩,_⟩,G⟩,N⟩,O⟩;exact⟨⟨⟨K,G⟩,N⟩,(T G).1 O⟩
theorem Pz {R:RM} {wv:Value} {w:List Int} (a:Int) (h:B8 R wv w) (hl:w.length < 1000000) (G:inR (w.getD (a.toNat + 1) 0)) :
  Fn P Ke [wv,I a] R [] (λv R' A=>A = []/\∃x,ThV R' x (As w a).1/\v = .tuple #[x,.bool (As w a).2]):=by
 refine PW λF=>?_
 refine z_2 ?_;obtain⟨wa,wc,y⟩:=h.sl;have D:ThV R (.agg (eTh EZ (SN) (SN)).toArray) EZ:=⟨_,_,rfl,.inl ⟨rfl,rfl,rfl⟩,.inl ⟨rfl,rfl,rfl⟩⟩;refine ja λb1=>?_
 have h':=h;rw[y];refine jp (Qc wa w.length wc a 2 Z δ δ) ?_;rw[<- y];refine jif (λh0=>?_) (λh0=>?_)
 .have h0:fits w.length a 2 = false:=by simpa using h0
  have e:As w a = (EZ,false):=by unfold As;rw[h0];rfl
  refine jbd rfl rfl (js rfl rfl (by exact z_n 6) rfl (jla (by exact z_n 6) rfl ?_));rw[e];exact Ao (RM.le.refl _) ⟨rfl,_,D,rfl⟩
 have h0:fits w.length a 2 = true:=by simpa using h0
 obtain⟨a0,a1,-,-⟩:=FA h0;obtain⟨n,rfl⟩:∃n:Nat,a = n:=⟨a.toNat,Z⟩;refine jad (Bl h Z Z ?_);have e1:w[((n:Int) + 1).toNat]'(Z) = w.getD (n + 1) 0:=by
  have:((n:Int) + 1).toNat = n + 1:=Z
  simp only[this];rw[cH,cF Z];rfl
 rw[e1];simp only[cG] at G;generalize Q:w.getD (n + 1) 0 = wd at G ⊢;refine jp (Qw G) (jex rfl (jex rfl (ja λa2=>jS [I (AS wd).1.refs,I (AS wd).1.nums] (jor [wv,I n,Pt b1,Pt a2] (!((AS wd).2 && fits w.length n (AG (AS wd).1))) (λK' H=>?_) (λe c u ho he=>?_)))))
 .refine F0 (λj=>?_) (λj=>?_)
  .have j:(AS wd).2 = true:=by simpa using j
   obtain⟨q0,q1,q2,q3,q4⟩:=G8 j;refine jla (l:=[I (AS wd).1.refs,I (AS wd).1.nums]) V rfl (jp (Hk _) ?_);rw[y];refine jp (Qc wa w.length wc n _ Z Z Z) ?_;rw[<- y,j];exact H _ _ _ CH (by rw[j,dR])
  .have j:(AS wd).2 = false:=by simpa using j
   rw[j];exact H _ _ true DL (by rw[j];rfl)
 refine z_V ?_;rw[ho];refine jif (λj=>?_) (λj=>?_)
 .have j:((AS wd).2 && fits w.length n (AG (AS wd).1)) = false:=by rw[cz] at j;exact j
  have e:As w n = (EZ,false):=by
   unfold As;rw[if_pos h0,cG,Q];simp only[j];rfl
  refine jbd rfl rfl (js rfl rfl (by exact z_n 6) rfl (jla (by exact z_n 6) rfl ?_));rw[e];exact Ao (RM.le.refl _) ⟨rfl,_,D,rfl⟩
 have j:((AS wd).2 && fits w.length n (AG (AS wd).1)) = true:=by simpa using j
 have et:As w n = (⟨n,w.getD n 0,(AS wd).1,seg w (n + 2) (AS wd).1.refs,seg w (n + 2 + (AS wd).1.refs) (AS wd).1.nums⟩,true):=by
  unfold As;rw[if_pos h0,cG,Q];simp only[j];rfl
 simp only[z_b] at j;obtain⟨q0,q1,q2,q3,q4⟩:=G8 j.1;obtain⟨-,q5,-,-⟩:=FA j.2;rw[et];generalize (AS wd).1 = sh at q0 q1 q2 q3 q4 q5 ⊢;rw[q4] at q5;have en:w[(n:Int).toNat]'(Z) = w.getD n 0:=by
  simp only[cG];rw[cH,cF Z];rfl
 refine jad (jl rfl (jad (Wy h Z Z λq hq=>?_)));rw[en] at hq;refine hq _ _ (jla V rfl (ah h Z Z Z λv1 N=>(jl rfl (jad (ah h Z Z Z λv2 O=>?_)))));have l1:((w.take ((n:Int) + 2 + sh.refs).toNat).drop ((n:Int) + 2).toNat) = seg w (n + 2) sh.refs:=by
  unfold seg;rw[fI];congr 1;omega
 have l2:((w.take ((n:Int) + 2 + sh.refs + sh.nums).toNat).drop ((n:Int) + 2 + sh.refs).toNat) = seg w (n + 2 + sh.refs) sh.nums:=by
  unfold seg;rw[fI];congr 1;omega
 rw[l1] at N;rw[l2] at O;have a8:(seg w (n + 2) sh.refs).length < 1000000:=by unfold seg;rw[cV,dN];omega
 have a9:(seg w (n + 2 + sh.refs) sh.nums).length < 1000000:=by unfold seg;rw[cV,dN];omega
 refine jc (Dk N a8) ?_;rintro x1 R1 A1 _ ⟨a3,T,-⟩;subst a3;refine Ak (hq _ _ jev) (Ak (jla V rfl jev) (Ak (jl rfl jev) (jc (Dk O a9) ?_)));rintro x2 R2 A2 _ ⟨a4,W,-⟩;subst a4;obtain⟨b0,b3,e1⟩:=T.sln;obtain⟨b2,b4,e2⟩:=W.sln;subst e1 e2;refine jbd (cs:=[I n,I (w.getD n 0),I sh.refs,I sh.nums,.slice b0 (seg w (n + 2) sh.refs).length b3,.slice b2 (seg w (n + 2 + sh.refs) sh.nums).length b4]) rfl rfl (Ak (hq _ _ jev) (Ak (jla V rfl jev) (js rfl rfl (by exact z_n 6) rfl (jla (by exact z_n 6) rfl (Dw W λR3 a5 a7=>Dw T λR4 K a6=>(Ao (a5.trans K) ⟨rfl,_,⟨_,_,rfl,a6,a7.le K⟩,rfl⟩))))))
end Go.Lf
end
section
namespace Go.Lf
open Go Sm
theorem G4 {R:RM} {D:Chs} {A G:Value} {j lb:List Int} (y:B8 R A j) (hb:B8 R G lb) (h1:j.length < 1000000) (h2:lb.length < 1000000):Ro MM [A,G] (.bool (j == lb)) R D:=by
 refine Sj λF=>?_
 refine z_2 ?_;refine Bo y.sl (Bo hb.sl (jne (jif (λh=>?_) (λh=>?_))))
 .have h:(j.length:Int)≠lb.length:=by simpa using h
  refine BN ?_;congr 1;rw[eq_comm,beq_eq_false_iff_ne];intro e;rw[e] at h;exact h rfl
 have hl:j.length = lb.length:=by
  have:((j.length:Int) != lb.length) = false:=h;rw[bne_eq_false_iff_eq] at this;omega
 refine jlp (λm T N H=>N = R/\H = D ++ F/\∃i:Nat,i<=j.length/\T = [A,G,I i]/\j.take i = lb.take i/\m = j.length - i) (n:=j.length) ⟨rfl,rfl,0,Z,rfl,V,Z⟩ ?_;rintro m e R1 W K ⟨Q,hD,i,hi,he,x,hm⟩ O;subst Q;refine z_W ?_;refine Bo y.sl (jlt (jif (λhc=>?_) (λhc=>?_)));rotate_left
 .have hc:=z_g hc;refine BN ?_;rw[cO Z,cO Z] at x;rw[x];simp
 have hc:i < j.length:=by have:=z_f hc;omega
 refine Bl y Z Z (Bl hb Z Z (jne ?_));simp only[cG];refine jif (λhd=>?_) (λhd=>?_)
 .have hd:j[i]≠lb[i]:=by simpa using hd
  refine BN ?_;congr 1;rw[eq_comm,beq_eq_false_iff_ne];intro e;subst e;exact hd rfl
 .have hd:j[i] = lb[i]:=by simpa using hd
  refine jad (O (j.length - (i + 1)) _ _ _ Z ⟨rfl,rfl,i + 1,Z,rfl,?_,rfl⟩);rw[cI hc,cI (by omega:i < lb.length),x,hd]
theorem Xt:(P.fieldsOf 68).toList.map (λf=>(f.name != "_",f.type,f.offset)) = [(true,Aa,0),(true,Aa,1)]:=by kernel_rfl
def Cod (R:RM) (v:Value):Prop:=∃n,Bsl R v n
theorem bF {a b:Shp} {x y:Operand} {R:RM} {D:Chs} {k:Value->M} (H:J R D (k (.bool (!(a == b))))):J R D (X P (do eqGuard .neq 68 x y (.agg #[I a.refs,I a.nums]) (.agg #[I b.refs,I b.nums]);binOp .neq 68 (.agg #[I a.refs,I a.nums]) (.agg #[I b.refs,I b.nums])) k):=by
 intro h A w G;have j:=Xt;rw[d6,run_eqGuard_agg _ _ _ _ _ _ _ (by kernel_rfl)];simp only[cY];rw[run_neq_struct,run_equalIn_struct w 9999 68 _ _ (by kernel_rfl) (by kernel_rfl),Q3 9998 w [I a.refs,I a.nums] [I b.refs,I b.nums] _ [0,1] [a.refs,a.nums] [b.refs,b.nums] j rfl rfl];simp only[cY];have:([a.refs,a.nums] == [b.refs,b.nums]) = (a == b):=by
  rw[dX];obtain⟨K,N⟩:=a;obtain⟨O,Q⟩:=b;simp
 rw[this];subst G;exact⟨BG.refl _,H _ A⟩
structure Blk (w w' : World):Prop where
 same:BG w w'
 block:∀k,k < w.heap.size->w'.heap[k]? = w.heap[k]?
theorem Blk.frame {W w' : World} (h:Blk W w') (j:MemPlace->Prop):W.keptBut w' j:=by
 refine⟨h.same.1,h.same.2,λi x=>?_⟩;rw[h.block i x];split<;>simp_all
theorem Blk.at_ {W w' : World} (h:Blk W w') {p:MemPlace} (j:p.block < W.heap.size):W.sameAt w' p:=by
 cases p with
 | cell b o=>exact World.cell?_of_block (w:=W) (h.block b j)
 | map b=>exact h.block b j
def XD (w:World) (a:Option Addr) (len cap:Nat) (zs:List Int):Prop:=
 (a = none/\len = 0/\cap = 0/\zs = [])\/
 ∃x,a = some x/\len<=cap/\zs.length = cap/\(∀i,i < zs.length->w.cell? (x.add i) = some (.int .u8 (zs.getD i 0)))/\∀n∈zs,(Lit.int .u8 n).wf = true
theorem aA {w:World} {a:Option Addr} {len y:Nat} {zs:List Int} (h:XD w a len y zs):Cod (λb=>w.heap[b]?) (.slice a len y):=by
 rcases h with ⟨rfl,rfl,rfl,rfl⟩ | ⟨x,rfl,hl,hz,j,K⟩
 .exact⟨0,none,0,rfl,z_n _,.inl rfl⟩
 .by_cases h0:len = 0
  .exact⟨len,some x,y,rfl,hl,.inl h0⟩
  .obtain⟨b,D,H⟩:=x;have hc:=j 0 Z;have A:H = none:=by simpa [Addr.add] using World.cell?_spot hc
   subst A;refine⟨len,_,y,rfl,hl,.inr ⟨b,D,rfl,λi W=>?_⟩⟩;have G : i < zs.length:=Z
   have hc:=j i G;have T:=K (zs.getD i 0) (by simp[List.getD,G]);rw[show (⟨b,D,none⟩:Addr).add i = ⟨b,D + i,none⟩ by simp[Addr.add],Tv] at hc;unfold Go.Lf.hc at hc;split at hc
   .rename_i N t fz hb;refine⟨t,N,fz,_,hb,hc,?_⟩;have R:∀n:Int,(Lit.int .u8 n).wf = true->0<=n/\n < 256:=λn Q=>by
     have O:(decide (0<=n) && decide (n<=255)) = true:=Q;simp only[z_b,z_d] at O;omega
    exact R _ T
   .cases hc
theorem Wk {f:Nat} (Q:∀(R:RM) (v:Value),Cod R v->Fn P f [v] R [] (λx _ A=>x = .bool true/\A = [])) {w:World} {a:Option Addr} {len j:Nat} {zs:List Int} (h:XD w a len j zs) :
  Calls P f #[.slice a len j] w λe D=>e = .returned (.bool true)/\Blk w D:=by
 have G:=Q _ _ (aA h) [] w.heap ⟨λb o hb=>hb,(λb o N=>by cases N),List.nodup_nil⟩ w rfl;refine G.mono ?_;rintro e D ⟨v,rfl,O,W,T,H,K,rfl,h4⟩;refine⟨rfl,O,λk y=>?_⟩;have:=K.rd k _ (H k _ (fG y));rw[this,fG y]
theorem TG:P.underlying 160 = some (.map 3 4):=by kernel_rfl
theorem F6:P.underlying 3 = some (.int .i64):=by kernel_rfl
theorem cD (w:World):(zeroValue 4).run P w = .ok (.bool false) w:=by kernel_rfl
def MpI (o:Obj) (q:Int->Prop):Prop:=∃es clock,o = .map es clock/\(∀e∈es.toList,∃x,e.key = I x/\q x/\e.val = .bool true)/\∀x,q x->∃e∈es.toList,e.key = I x
section rules
variable {R:RM} {D:Chs} {k:Value->M}
theorem jXr {s:Sem Value} (H:∀h,St h R D->∀w:World,w.heap = h->∃v j,s.run P w = .ok v j/\BG w j/\∃x,St j.heap R x/\J R x (k v)):J R D (X P s k):=by
 intro h K w N;have:=H h K w N;generalize s.run P w = r at this;obtain⟨v,j,rfl,y,x,A,G⟩:=this;exact⟨y,G _ A⟩
theorem Zn (H:∀b o,MpI o (λ_=>False)->J R ((b,o) :: D) (k (.map (some b)))):J R D (X P (Instr.makeMap 160 none) k):=by
 intro h j w x;rw[show (Instr.makeMap 160 none).run P w = .ok (.map (some w.heap.size)) (w.alloc (.map #[] 0)) from rfl];subst x;exact⟨⟨rfl,rfl⟩,H _ _ ⟨#[],0,rfl,V,λ_ y=>y.elim⟩ _ j.push⟩
theorem TY {j:Array MapEntry} {q:Int->Prop} (h:∀e∈j.toList,∃x,e.key = I x/\q x/\e.val = .bool true):∀e∈j.toList,MapKept.IsKey (.int .i64) e.key:=λe he=>by
 obtain⟨x,y,_⟩:=h e he;rw[y];rfl
theorem ZO {w:World} {b:Nat} {o:Obj} {q:Int->Prop} {x:Int} {t:Bool} (hb:w.heap[b]? = some o) (T:MpI o q) (ht:q x↔t = true):(Instr.lookup 160 (.map (some b)) (I x) false).run P w = .ok (.bool t) w:=by
 obtain⟨O,A,rfl,N,R⟩:=T;have H:MapKept.IsKey (.int .i64) (I x):=rfl;have run:∃c,(Instr.lookup 160 (.map (some b)) (I x) false).run P w = .ok (.bool c) w/\(c = true↔q x):=by
  rcases MapKept.findNow_spec H O.toList 0 (TY N) with ⟨D,G⟩ | ⟨j,e0,D,G,Q⟩
  .refine⟨false,?_,⟨(λh=>by cases h),λK=>?_⟩⟩
   .simp[Instr.lookup,run_underlying TG,MapKept.run_getObj_map hb,MapKept.run_checkKey F6 H,MapKept.run_findKey F6 D,cD,Result.andThen]
   .obtain⟨e,he,hx⟩:=R x K;exact absurd hx (G e he)
  .obtain⟨y,hy,K,hv⟩:=N e0 (List.mem_of_getElem? G);have:y = x:=by
    have:=hy.symm.trans Q;exact (Value.int.inj this).2
   subst this;refine⟨true,?_,⟨λ_=>K,λ_=>rfl⟩⟩;simp[Instr.lookup,run_underlying TG,MapKept.run_getObj_map hb,MapKept.run_checkKey F6 H,MapKept.run_findKey F6 D,hv,Result.andThen]
 obtain⟨c,W,hc⟩:=run;have:c = t:=by
  have:=hc.trans ht;cases c<;>cases t<;>simp_all
 subst this;exact W
theorem jlk {b:Nat} {o:Obj} {q:Int->Prop} {x:Int} {t:Bool} [a:At D b o] (A:MpI o q) (G:q x↔t = true) (H:J R D (k (.bool t))):J R D (X P (Instr.lookup 160 (.map (some b)) (I x) false) k):=
 @jXr R D k _ λh j w y=>⟨_,_,ZO (by rw[y];exact (j.at_ b _ a.m).1) A G,BG.refl _,D,by rw[y];exact j,H⟩
theorem ZF {w:World} {b:Nat} {o:Obj} {q:Int->Prop} {x:Int} (hb:w.heap[b]? = some o) (hm:MpI o q):∃o',MpI o' (λy=>q y\/y = x)/\(do Instr.mapUpdate 160 (.map (some b)) (I x) (.bool true);pure undef).run P w = .ok U (ChangeMaps.setBlock w b o')/\(∀b',b'≠b->(ChangeMaps.setBlock w b o').heap[b']? = w.heap[b']?)/\(ChangeMaps.setBlock w b o').heap[b]? = some o':=by
 obtain⟨Q,D,rfl,h1,h2⟩:=hm;have hk:MapKept.IsKey (.int .i64) (I x):=rfl;have run:∃H A,(Instr.mapUpdate 160 (.map (some b)) (I x) (.bool true)).run P w = .ok () (ChangeMaps.setBlock w b (.map H A))/\MpI (.map H A) (λy=>q y\/y = x):=by
  rcases MapKept.findNow_spec hk Q.toList 0 (TY h1) with ⟨f1,f2⟩ | ⟨j,e0,f1,f2,f3⟩
  .refine⟨Q.push ⟨I x,.bool true,D⟩,D + 1,?_,_,_,rfl,?_,?_⟩
   .simp[Instr.mapUpdate,run_underlying TG,MapKept.run_getObj_map hb,MapKept.run_checkKey F6 hk,MapKept.run_findKey F6 f1,MapKept.run_setObj_map _ hb,Result.andThen,ChangeMaps.setBlock]
   .intro e he;simp only[Array.toList_push,cm,cZ] at he;rcases he with he | rfl
    .obtain⟨y,N,a2,a3⟩:=h1 e he;exact⟨y,N,.inl a2,a3⟩
    .exact⟨x,rfl,.inr rfl,rfl⟩
   .rintro y (O | rfl)
    .obtain⟨e,he,N⟩:=h2 y O;exact⟨e,by simp only[Array.toList_push,cm];exact .inl he,N⟩
    .exact⟨⟨I y,.bool true,D⟩,V,rfl⟩
  .have R:Q[j]? = some e0:=by rw[<- dg];exact f2
   have a4:j < Q.size:=(eM.1 R).1;obtain⟨x0,W,a0,a5⟩:=h1 e0 (List.mem_of_getElem? f2);have hx:x0 = x:=(Value.int.inj (W.symm.trans f3)).2;subst hx;refine⟨Q.modify j (λe=>{ e with key:=I x0,val:=.bool true }),D,?_,_,_,rfl,?_,?_⟩
   .simp[Instr.mapUpdate,run_underlying TG,MapKept.run_getObj_map hb,MapKept.run_checkKey F6 hk,MapKept.run_findKey F6 f1,R,f3,MapKept.run_keyThatStays hk,MapKept.run_setObj_map _ hb,Result.andThen,ChangeMaps.setBlock]
   .intro e he;obtain⟨i,G⟩:=List.mem_iff_getElem?.1 he;rw[dg,eX] at G;split at G
    .rename_i K;subst K;rw[R] at G;cases G;exact⟨x0,rfl,.inr rfl,rfl⟩
    .obtain⟨y,N,a2,a3⟩:=h1 e (by rw[<- dg] at G;exact List.mem_of_getElem? G);exact⟨y,N,.inl a2,a3⟩
   .intro y O;have O:q y:=by rcases O with O | rfl;exact O;exact a0
    obtain⟨e,he,N⟩:=h2 y O;obtain⟨i,G⟩:=List.mem_iff_getElem?.1 he;rw[dg] at G;by_cases K:j = i
    .subst K;rw[R] at G;cases G;exact⟨{ e0 with key:=I x0,val:=.bool true },List.mem_of_getElem? (by rw[dg,eX,if_pos rfl,R];rfl),by show I x0 = I y;rw[<- W];exact N⟩
    .exact⟨e,List.mem_of_getElem? (by rw[dg,eX,if_neg K];exact G),N⟩
 obtain⟨H,A,hr,hq⟩:=run;have T:=MapKept.heap_set (o':=.map H A) hb;exact⟨_,hq,by rw[d6,hr];rfl,T.2,T.1⟩
theorem jmu {b:Nat} {o:Obj} {E:Chs} {q:Int->Prop} {x:Int} [t:Tk D b o E] (K:MpI o q) (H:∀j,MpI j (λy=>q y\/y = x)->J R ((b,j) :: E) (k U)):J R D (X P (do Instr.mapUpdate 160 (.map (some b)) (I x) (.bool true);pure undef) k):=
 @jXr R D k _ λh A w G=>(ZF (by rw[G];exact ((A.perm t.p).at_ b _ (.head _)).1) K).elim λj h=>⟨U,_,h.2.1,⟨rfl,rfl⟩,_,(A.perm t.p).turn h.2.2.2 (by rw[<- G];exact h.2.2.1),H _ h.1⟩
end rules
def lk (l:List (Int × Value)) (x:Int):Option Value:=(l.find? λp=>p.1 == x).map Prod.snd
def up (l:List (Int × Value)) (x:Int) (v:Value):List (Int × Value):=if (lk l x).isSome then l.map λp=>if p.1 = x then (x,v) else p else l ++ [(x,v)]
def pr (e:MapEntry):Value × Value:=(e.key,e.val)
def pk (p:Int × Value):Value × Value:=(I p.1,p.2)
def Mg (o:Obj) (l:List (Int × Value)):Prop:=∃es clock,o = .map es clock/\MapKept.Stamped es clock/\es.toList.map pr = l.map pk
theorem TD {y:List MapEntry} {l:List (Int × Value)} (h:y.map pr = l.map pk) {j:Nat} {e:MapEntry} (he:y[j]? = some e):∃p,l[j]? = some p/\e.key = I p.1/\e.val = p.2:=by
 have x:(y.map pr)[j]? = some (pr e):=by rw[dH,he];rfl
 rw[h,dH] at x;cases hl:l[j]? with
 | none=>rw[hl] at x;cases x
 | some p=>
  rw[hl] at x;have x:pk p = pr e:=da x;exact⟨p,rfl,(congrArg Prod.fst x).symm,(congrArg Prod.snd x).symm⟩
theorem Zo {x:List MapEntry} {l:List (Int × Value)} (h:x.map pr = l.map pk) {e:MapEntry} (he:e∈x):∃p,p∈l/\e.key = I p.1/\e.val = p.2:=by
 obtain⟨j,D⟩:=List.mem_iff_getElem?.1 he;obtain⟨p,y,A⟩:=TD h D;exact⟨p,List.mem_of_getElem? y,A⟩
theorem Tn {j:List MapEntry} {l:List (Int × Value)} (h:j.map pr = l.map pk) {p:Int × Value} (A:p∈l):∃e,e∈j/\e.key = I p.1/\e.val = p.2:=by
 have:pk p∈j.map pr:=by rw[h];exact dm A
 obtain⟨e,y,x⟩:=cq.1 this;exact⟨e,y,congrArg Prod.fst x,congrArg Prod.snd x⟩
theorem TR {j:Array MapEntry} {l:List (Int × Value)} (h:j.toList.map pr = l.map pk):∀e∈j.toList,MapKept.IsKey (.int .i64) e.key:=λe he=>by
 obtain⟨p,_,x,_⟩:=Zo h he;rw[x];rfl
theorem VO {x:Array MapEntry} {j:Nat} {l:List (Int × Value)} (G:MapKept.Stamped x j) (h:x.toList.map pr = l.map pk):(l.map Prod.fst).Nodup:=by
 have A:=((MapKept.stamped_iff _ _).1 G).2.2;have y:(x.toList.map (·.key)).Nodup:=fV.2 A;have D:x.toList.map (·.key) = (l.map Prod.fst).map I:=by
  have:=congrArg (List.map Prod.fst) h;simpa [fA,Function.comp_def,pr,pk] using this
 rw[D] at y;exact (fV.1 y).imp λh e=>h (by rw[e])
theorem Mg.nd {o:Obj} {l:List (Int × Value)} (h:Mg o l):(l.map Prod.fst).Nodup:=by
 obtain⟨y,j,_,x,h⟩:=h;exact VO x h
theorem On {l:List (Int × Value)} {x:Int}:lk l x = none↔∀p∈l,p.1≠x:=by
 unfold lk;rw[Option.map_eq_none_iff,List.find?_eq_none];simp
theorem OJ:∀{l:List (Int × Value)},(l.map Prod.fst).Nodup->∀{p:Int × Value},p∈l->lk l p.1 = some p.2
 | a :: l,hn,p,j=>by
  rw[dO,dp] at hn;unfold lk;rcases cU.1 j with rfl | j
  .rw[fM V];rfl
  .have:a.1≠p.1:=λe=>hn.1 (e▸dm j)
   rw[fD (by simpa using this)];exact OJ hn.2 j
def Li (R:RM) (D:Chs) (b:Nat) (o:Obj):Prop:=∀h,St h R D->h[b]? = some o
theorem Li.fz {R:RM} {D:Chs} {b:Nat} {o:Obj} (h:R b = some o):Li R D b o:=λ_ j=>j.rd _ _ h
theorem Li.at {R:RM} {D:Chs} {b:Nat} {o:Obj} [a:At D b o]:Li R D b o:=λ_ j=>(j.at_ _ _ a.m).1
section rules
variable {R:RM} {D:Chs} {k:Value->M}
theorem Vj {t:Nat} (x:∀w,(Instr.makeMap t none).run P w = .ok (.map (some w.heap.size)) (w.alloc (.map #[] 0))) (H:∀b o,Mg o []->J R ((b,o) :: D) (k (.map (some b)))):J R D (X P (Instr.makeMap t none) k):=by
 intro h j w y;rw[x];subst y;exact⟨⟨rfl,rfl⟩,H _ _ ⟨#[],0,rfl,MapKept.stamped_empty 0,rfl⟩ _ j.push⟩
theorem Xo {w:World} {t e b:Nat} {o:Obj} {l:List (Int × Value)} {x:Int} {z:Value} (c:Bool) (N:P.underlying t = some (.map 3 e)) (hz:∀w,(zeroValue e).run P w = .ok z w) (hb:w.heap[b]? = some o) (W:Mg o l) :
  (Instr.lookup t (.map (some b)) (I x) c).run P w = .ok (if c then .tuple #[(lk l x).getD z,.bool (lk l x).isSome] else (lk l x).getD z) w:=by
 obtain⟨Q,y,rfl,hs,hl⟩:=W;have K:MapKept.IsKey (.int .i64) (I x):=rfl;rcases MapKept.findNow_spec K Q.toList 0 (TR hl) with ⟨A,D⟩ | ⟨j,e0,A,D,R⟩
 .have:lk l x = none:=On.2 λp hp e=>by
   obtain⟨O,G,H,_⟩:=Tn hl hp;exact D O G (by rw[H,e])
  rw[this];cases c<;>simp[Instr.lookup,run_underlying N,MapKept.run_getObj_map hb,MapKept.run_checkKey F6 K,MapKept.run_findKey F6 A,hz,Result.andThen]
 .obtain⟨p,G,H,T⟩:=TD hl D;have hx:p.1 = x:=(Value.int.inj (H.symm.trans R)).2;have:lk l x = some e0.val:=by
   rw[<- hx,T];exact OJ (VO hs hl) (List.mem_of_getElem? G)
  rw[this];cases c<;>simp[Instr.lookup,run_underlying N,MapKept.run_getObj_map hb,MapKept.run_checkKey F6 K,MapKept.run_findKey F6 A,Result.andThen]
theorem Ua {t e b:Nat} {o:Obj} {l:List (Int × Value)} {x:Int} {z:Value} (c:Bool) (a:Li R D b o) (G:P.underlying t = some (.map 3 e)) (K:∀w,(zeroValue e).run P w = .ok z w) (A:Mg o l)
  (H:J R D (k (if c then .tuple #[(lk l x).getD z,.bool (lk l x).isSome] else (lk l x).getD z))):J R D (X P (Instr.lookup t (.map (some b)) (I x) c) k):=
 @jXr R D k _ λh j w y=>⟨_,_,Xo c G K (by rw[y];exact a _ j) A,BG.refl _,D,by rw[y];exact j,H⟩
theorem Ya {w:World} {t e b:Nat} {o:Obj} {l:List (Int × Value)} {x:Int} {v:Value} (ht:P.underlying t = some (.map 3 e)) (hb:w.heap[b]? = some o) (hm:Mg o l) :
  ∃o',Mg o' (up l x v)/\(do Instr.mapUpdate t (.map (some b)) (I x) v;pure undef).run P w = .ok U (ChangeMaps.setBlock w b o')/\(∀W,W≠b->(ChangeMaps.setBlock w b o').heap[W]? = w.heap[W]?)/\(ChangeMaps.setBlock w b o').heap[b]? = some o':=by
 obtain⟨K,D,rfl,hs,hl⟩:=hm;have T:MapKept.IsKey (.int .i64) (I x):=rfl;have run:∃G A,(Instr.mapUpdate t (.map (some b)) (I x) v).run P w = .ok () (ChangeMaps.setBlock w b (.map G A))/\Mg (.map G A) (up l x v):=by
  rcases MapKept.findNow_spec T K.toList 0 (TR hl) with ⟨f1,N⟩ | ⟨j,e0,f1,N,f3⟩
  .have hn:lk l x = none:=On.2 λp hp e=>by
    obtain⟨R,O,h2,_⟩:=Tn hl hp;exact N R O (by rw[h2,e])
   refine⟨K.push ⟨I x,v,D⟩,D + 1,?_,_,_,rfl,MapKept.stamped_push hs (λy hy=>N y hy),?_⟩
   .simp[Instr.mapUpdate,run_underlying ht,MapKept.run_getObj_map hb,MapKept.run_checkKey F6 T,MapKept.run_findKey F6 f1,MapKept.run_setObj_map _ hb,Result.andThen,ChangeMaps.setBlock]
   .unfold up;rw[if_neg (by rw[hn];simp),Array.toList_push,dE,dE,hl];rfl
  .have hj:K[j]? = some e0:=by rw[<- dg];exact N
   have hf:∀e,K[j]? = some e->({ e with key:=I x,val:=v }:MapEntry).key = e.key:=λe h=>by
    rw[hj] at h;cases h;exact f3.symm
   obtain⟨p,O,h2,h3⟩:=TD hl N;have hx:p.1 = x:=(Value.int.inj (h2.symm.trans f3)).2;have nd:=VO hs hl;have a3:(lk l x).isSome:=by rw[<- hx,OJ nd (List.mem_of_getElem? O)];rfl
   refine⟨K.modify j (λe=>{ e with key:=I x,val:=v }),D,?_,_,_,rfl,MapKept.stamped_modify hs j _ (λe _=>rfl) (λe _ h=>hf e h),?_⟩
   .simp[Instr.mapUpdate,run_underlying ht,MapKept.run_getObj_map hb,MapKept.run_checkKey F6 T,MapKept.run_findKey F6 f1,hj,f3,MapKept.run_keyThatStays T,MapKept.run_setObj_map _ hb,Result.andThen,ChangeMaps.setBlock]
   .unfold up;rw[if_pos a3];apply List.ext_getElem?;intro i;rw[dH,dg,eX,dH,dH];by_cases H:j = i
    .subst H;rw[if_pos rfl,hj,O];simp only[eS,if_pos hx];rfl
    .rw[if_neg H,<- dg];have R:=congrArg (λz=>z[i]?) hl;simp only[dH] at R;rw[R];cases a0:l[i]? with
     | none=>rfl
     | some q=>
      have:q.1≠x:=λe=>by
       have a1:(l.map Prod.fst)[i]? = some x:=by rw[dH,a0,<- e];rfl
       have a2:(l.map Prod.fst)[j]? = some x:=by rw[dH,O,<- hx];rfl
       have l1:=(dF.1 a1).1;exact H ((List.getElem?_inj l1 nd).1 (a1.trans a2.symm)).symm
      simp only[eS,if_neg this]
 obtain⟨G,A,hr,hq⟩:=run;have Q:=MapKept.heap_set (o':=.map G A) hb;exact⟨_,hq,by rw[d6,hr];rfl,Q.2,Q.1⟩
theorem Xm {t e b:Nat} {o:Obj} {E:Chs} {l:List (Int × Value)} {x:Int} {v:Value} [tk:Tk D b o E] (K:P.underlying t = some (.map 3 e)) (G:Mg o l) (H:∀j,Mg j (up l x v)->J R ((b,j) :: E) (k U)):J R D (X P (do Instr.mapUpdate t (.map (some b)) (I x) v;pure undef) k):=
 @jXr R D k _ λh y w A=>(Ya K (by rw[A];exact ((y.perm tk.p).at_ b _ (.head _)).1) G).elim λj h=>⟨U,_,h.2.1,⟨rfl,rfl⟩,_,(y.perm tk.p).turn h.2.2.2 (by rw[<- A];exact h.2.2.1),H _ h.1⟩
def ItG (m:Nat) (o it:Obj) (rem:List (Int × Value)) (cur:Option (Int × Value)):Prop:=
 ∃es clock seen,o = .map es clock/\it = .mapIter (some m) clock seen clock/\(es.toList.filter λe=>!seen.contains e.born).map pr = rem.map pk/\
  match cur with | none=>True | some p=>∃e∈es.toList,seen.back? = some e.born/\e.key = I p.1/\e.val = p.2
theorem bO {t e b:Nat} {o:Obj} {l:List (Int × Value)} (a:Li R D b o) (O:P.underlying t = some (.map 3 e)) (N:Mg o l)
  (H:∀G K,ItG b o K l none->J R ((G,K) :: D) (k (Pt G))):J R D (X P (Instr.range t (.map (some b))) k):=by
 obtain⟨y,j,rfl,Q,hl⟩:=N;refine @jXr R D k _ λh x w A=>⟨.pointer (some ⟨w.heap.size,0,none⟩),w.alloc (.mapIter (some b) j #[] j),?_,⟨rfl,rfl⟩,_,?_,H _ _ ⟨y,j,#[],rfl,rfl,?_,trivial⟩⟩
 .have hb:w.heap[b]? = some (.map y j):=by rw[A];exact a _ x
  simp[Instr.range,run_underlying O,MapKept.run_getObj_map hb,Result.andThen]
 .subst A;exact x.push
 .rw[<- hl,List.filter_eq_self.2 V]
theorem JR {w:World} {r:Nat} {m x j:Nat} {y:Array Nat} (hb:w.heap[r]? = some (.mapIter (some m) x y j)):(getObj r).run P w = .ok (.mapIter (some m) x y j) w:=by
 simp only[getObj,Sem.run,hb]
theorem U4 {w:World} {r:Nat} {m x j:Nat} {y:Array Nat} (o:Obj) (hb:w.heap[r]? = some (.mapIter (some m) x y j)):(setObj r o).run P w = .ok () { w with heap:=w.heap.setIfInBounds r o }:=by
 simp only[setObj,Sem.run,hb]
theorem TH {α:Type}:∀(l:List α) (i:Nat) (h:i < l.length),l.Perm (l[i] :: l.eraseIdx i)
 | a :: l,0,_=>V
 | a :: l,i + 1,h=>by
  rw[fL,List.eraseIdx_cons_succ];exact ((TH l i (by simpa using h)).cons a).trans (dh _ _ _)
theorem RW {α β:Type} (f:α->β):∀(l:List α) (i:Nat),(l.eraseIdx i).map f = (l.map f).eraseIdx i
 | [],i=>V
 | a :: l,0=>V
 | a :: l,i + 1=>by simp[RW f l i]
theorem ar {b ib:Nat} {o it:Obj} {E:Chs} {l A:List (Int × Value)} {a9:Option (Int × Value)} [tk:Tk D ib it E] (a:Li R D b o) (hm:Mg o l) (G:ItG b o it A a9)
  (H0:A = []->J R D (k (.tuple #[.bool false])))
  (H1:∀p a0 a7,A.Perm (p :: a0)->ItG b o a7 a0 (some p)->J R ((ib,a7) :: E) (k (.tuple #[.bool true,I p.1,p.2]))):J R D (X P (Instr.next (Pt ib) false 0) k):=by
 obtain⟨H,j,y,rfl,rfl,hr,_⟩:=G;obtain⟨b9,a8,he,hs,hl⟩:=hm;cases he;intro h O w hw;subst hw;have hb:=a _ O;have N:=((O.perm tk.p).at_ ib _ (.head _)).1;have a6:(!y.isEmpty && !H.isEmpty && H.all (λx=>decide (x.born>=j))) = false:=by
  cases b2:H.isEmpty with
  | true=>simp
  | false=>
   have b5:H≠#[]:=by simpa using b2
   have b7:0 < H.size:=Array.size_pos_iff.2 b5;have:H.all (λx=>decide (x.born>=j)) = false:=by
    rw[eI];intro Bq;have h1:=Array.all_eq_true.1 Bq 0 b7;have h2:=hs.1 H[0] V;have h1:=z_f h1;omega
   simp[this]
 have hold:∀x∈(H.filter λe=>!y.contains e.born).toList,x.born < j:=λx W=>by
  rw[Array.toList_filter] at W;exact hs.1 x (dV.1 W).1
 generalize hL:H.filter (λe=>!y.contains e.born) = L at hold;have K : L.toList = H.toList.filter λe=>!y.contains e.born:=by rw[<- hL,Array.toList_filter]
 have e1:L.filter (λx=>decide (x.born < j)) = L:=by
  apply Array.toList_inj.1;rw[Array.toList_filter,List.filter_eq_self];exact λx W=>decide_eq_true (hold x W)
 have e2:L.filter (λx=>decide (x.born>=j)) = #[]:=by
  apply Array.toList_inj.1;rw[Array.toList_filter,List.filter_eq_nil_iff.2];intro x W;have:=hold x W;simp;omega
 by_cases h0:L = #[]
 .have b6:A = []:=by
   rw[<- K,h0] at hr;exact List.map_eq_nil_iff.1 hr.symm
  have run:(Instr.next (Pt ib) false 0).run P w = .ok (.tuple #[.bool false]) w:=by
   simp only[Instr.next,d6,JR N,Result.andThen,MapKept.run_getObj_map hb,a6,hL,e1,e2];subst h0;simp[choose,Sem.run,Question.forced]
  rw[run];exact⟨BG.refl _,H0 b6 w.heap O⟩
 .have Q:0 < L.size:=Array.size_pos_iff.2 h0;have run:∃i,∃G:i < L.size,∃d,(Instr.next (Pt ib) false 0).run P w = .ok (.tuple #[.bool true,L[i].key,L[i].val]) { w with drawn:=d,heap:=w.heap.setIfInBounds ib (.mapIter (some b) j (y.push L[i].born) j) }:=by
   have a2:L.isEmpty = false:=by simpa using h0
   have b1:∃i,i < L.size/\∃d,(choose (.mapNext L.size)).run P w = .ok i { w with drawn:=d }:=by
    by_cases hf:L.size<=1
    .exact⟨0,Q,w.drawn,by simp[choose,Sem.run,Question.forced,hf]⟩
    .exact⟨(w.tape w.drawn (.mapNext L.size)) % L.size,Nat.mod_lt _ Q,w.drawn + 1,by simp[choose,Sem.run,Question.forced,hf,Question.cut]⟩
   obtain⟨i,G,d,hc⟩:=b1;refine⟨i,G,d,?_⟩;have a3 : ({ w with drawn:=d }:World).heap[ib]? = some (.mapIter (some b) j y j):=N;simp only[Instr.next,d6,JR N,Result.andThen,MapKept.run_getObj_map hb,a6,hL,e1,e2,a2,d8,if_false,Array.append_empty,Array.empty_append,Array.size_map,hc];have hg:(L.map some)[i]? = some (some L[i]):=by simp[G]
   simp only[hg,d6,U4 _ a3,Result.andThen];rfl
  obtain⟨i,G,d,a5⟩:=run;rw[a5];have a4:L[i]∈H.toList:=by
   have:L[i]∈L.toList:=V
   rw[K] at this;exact (dV.1 this).1
  have b0:L.toList[i]? = some L[i]:=by rw[dg,fG G]
  rw[<- K] at hr;obtain⟨p,p1,p2,p3⟩:=TD hr b0;have T:=MapKept.heap_set (o':=.mapIter (some b) j (y.push L[i].born) j) N;have b3:i < A.length:=(dF.1 p1).1;have b4:A[i] = p:=(dF.1 p1).2;have a1:A.Perm (p :: A.eraseIdx i):=by
   have:=TH A i b3;rwa [b4] at this
  refine⟨⟨rfl,rfl⟩,?_⟩;rw[p2,p3];refine H1 p (A.eraseIdx i) _ a1 ⟨H,j,y.push L[i].born,rfl,rfl,?_,L[i],a4,V,p2,p3⟩ _ ((O.perm tk.p).turn T.1 T.2);have e3:(H.toList.filter λe=>!(y.push L[i].born).contains e.born) = L.toList.eraseIdx i:=by
   have nb:(L.toList.map (·.born)).Nodup:=by
    rw[K];exact (List.Sublist.map _ List.filter_sublist).nodup hs.2.1
   have:(H.toList.filter λe=>!(y.push L[i].born).contains e.born) = L.toList.filter λe=>!(e.born == L[i].born):=by
    rw[K,List.filter_filter];congr 1;funext e;simp only[Array.contains_push];cases (y.contains e.born)<;>cases h:(e.born == L[i].born)<;>simp_all
   rw[this];have b8:∀(M:List MapEntry) (i:Nat) (G:i < M.length),(M.map (·.born)).Nodup->(M.filter λe=>!(e.born == (M[i]).born)) = M.eraseIdx i:=by
    intro M;induction M with
    | nil=>intro i G;cases G
    | cons a M ih=>
     intro i G hn;rw[dO,dp] at hn;cases i with
     | zero=>
      rw[List.filter_cons_of_neg V];simp only[List.getElem_cons_zero,List.eraseIdx_zero,List.tail_cons];rw[List.filter_eq_self];intro x W;have:x.born≠a.born:=λe=>hn.1 (e▸dm W)
      simpa using this
     | succ i=>
      simp only[fL,List.eraseIdx_cons_succ];have G:i < M.length:=by simpa using G
      have:a.born≠(M[i]).born:=λe=>hn.1 (e▸dm (cK G))
      rw[List.filter_cons_of_pos (by simpa using this),ih i G hn.2]
   have:=b8 L.toList i (by simpa using G) nb;simpa using this
  rw[e3,RW,RW,hr]
theorem aa {b O:Nat} {o it:Obj} {l T:List (Int × Value)} {p:Int × Value} [ai:At D O it] (a:Li R D b o) (y:Mg o l) (hi:ItG b o it T (some p)) (H:J R D (k (.tuple #[I p.1,p.2]))):J R D (X P (Instr.entry (Pt O)) k):=by
 obtain⟨es,G,a0,rfl,rfl,hr,e,e1,e2,e3,e4⟩:=hi;obtain⟨a1,A,he,hs,hl⟩:=y;cases he;refine @jXr R D k _ λh j w W=>⟨_,w,?_,BG.refl _,D,by rw[W];exact j,H⟩
 subst W;have hb:=a _ j;have K:=(j.at_ O _ ai.m).1;have hf:es.find? (λx=>x.born == e.born) = some e:=by
  rw[<- Array.find?_toList];have Q:∀(M:List MapEntry),(M.map (·.born)).Nodup->e∈M->M.find? (λx=>x.born == e.born) = some e:=by
   intro M;induction M with
   | nil=>intro _ h;cases h
   | cons a M ih=>
    intro N y;rw[dO,dp] at N;rcases cU.1 y with rfl | y
    .rw[fM V]
    .have:a.born≠e.born:=λx=>N.1 (x▸dm y)
     rw[fD (by simpa using this),ih N.2 y]
  exact Q _ hs.2.1 e1
 simp[Instr.entry,JR K,e2,MapKept.run_getObj_map hb,hf,e3,e4,Result.andThen]
end rules
set_option maxHeartbeats 1000000 in
theorem N7 (x:Rg) {r:Int} (r0:0<=r) (r1:r < 12):Pu Hn [.agg (eRg x).toArray,I r] (.bool (JK r x)):=by
 intro R;refine NH λF=>?_
 refine z_2 ?_;have hb:AK r = 16 * r:=Bj r0 r1;refine ja λb=>jp (CZ r) ?_
 rw[hb];have a1:JK r x = true↔(¬ x.kind < 1/\¬ x.kind > 4/\¬ x.top < 16 * r/\¬ x.top > 16 * r + 16/\¬ x.BA < 16 * r/\¬ x.BA > x.top/\¬ x.AJ < 0/\¬ x.AJ > x.top - 16 * r/\¬ (x.kind = 1/\x.top≠16 * r))/\(if x.kind = 2 then 0<=x.AX/\x.AX<=3 else x.AX = -1):=by
  unfold JK;rw[hb];simp only[z_b,d7,cz,z_d,beq_iff_eq,beq_eq_false_iff_ne];by_cases H:x.kind = 2
  .rw[if_pos H,H];simp;omega
  .rw[if_neg H,show (x.kind == 2) = false from beq_eq_false_iff_ne.2 H];by_cases y:0<=x.AX
   .simp[y];omega
   .simp[y];omega
 have K:∀{c:Bool} {D:Chs} [Sf D F],c = JK r x->J R D (Fb R F (λv' _ _=>v' = .bool (JK r x)) (.bool c)):=λ{c D} _ hc=>Ao (A:=[]) (RM.le.refl R) (by rw[hc])
 refine jor [Pt b,I (16 * r)] ((decide (x.kind < 1)) || (decide (x.kind > 4))) (λK' j=>?_) (λe c u y he=>?_)
 .refine jl rfl (jlt (jgO j λN G=>jl rfl (jgr G)))
 refine z_V ?_;obtain⟨B1,a3⟩:∃B1,B1 = (decide (x.kind < 1) || decide (x.kind > 4)):=⟨_,rfl⟩;rw[<- a3] at y;refine jor [Pt b,I (16 * r)] ((B1) || (decide (x.top < 16 * r))) (λK' j=>?_) (λe c u y he=>?_)
 .rw[y];refine jgO j λN G=>jl rfl (jlt G)
 refine z_V ?_;obtain⟨B2,O⟩:∃B2,B2 = (B1 || decide (x.top < 16 * r)):=⟨_,rfl⟩;rw[<- O] at y;refine jor [Pt b,I (16 * r)] ((B2) || (decide (x.top > 16 * r + 16))) (λK' j=>?_) (λe c u y he=>?_)
 .rw[y];refine jgO j λN G=>jl rfl (jad (jgr G))
 refine z_V ?_;obtain⟨B3,Q⟩:∃B3,B3 = (B2 || decide (x.top > 16 * r + 16)):=⟨_,rfl⟩;rw[<- Q] at y;refine jor [Pt b,I (16 * r)] ((B3) || (decide (x.BA < 16 * r))) (λK' j=>?_) (λe c u y he=>?_)
 .rw[y];refine jgO j λN G=>jl rfl (jlt G)
 refine z_V ?_;obtain⟨B4,T⟩:∃B4,B4 = (B3 || decide (x.BA < 16 * r)):=⟨_,rfl⟩;rw[<- T] at y;refine jor [Pt b,I (16 * r)] ((B4) || (decide (x.BA > x.top))) (λK' j=>?_) (λe c u y he=>?_)
 .rw[y];refine jgO j λN G=>jl rfl (jl rfl (jgr G))
 refine z_V ?_;obtain⟨B5,W⟩:∃B5,B5 = (B4 || decide (x.BA > x.top)):=⟨_,rfl⟩;rw[<- W] at y;refine jor [Pt b,I (16 * r)] ((B5) || (decide (x.AJ < 0))) (λK' j=>?_) (λe c u y he=>?_)
 .rw[y];refine jgO j λN G=>jl rfl (jlt G)
 refine z_V ?_;obtain⟨B6,a0⟩:∃B6,B6 = (B5 || decide (x.AJ < 0)):=⟨_,rfl⟩;rw[<- a0] at y;have a2:B6 = false->inR (x.top - 16 * r):=λh=>by
  rw[a0,W,T,Q,O] at h;simp only[ci,decide_eq_false_iff_not] at h;constructor<;>omega
 refine jor [Pt b,I (16 * r)] ((B6) || (decide (x.AJ > x.top - 16 * r))) (λK' j=>?_) (λe c u y he=>?_)
 .rw[y];refine jgO j λN G=>jl rfl (jl rfl (RZ (a2 N) (jgr G)))
 refine z_V ?_;rw[y];refine jif (λh=>K ?_) (λh=>?_)
 .symm;rw[eI];intro hk;obtain⟨⟨k1,k2,k3,k4,k5,k6,k7,k8,k9⟩,k10⟩:=a1.1 hk;rw[a0,W,T,Q,O,a3] at h;simp only[d7,z_d] at h;omega
 rw[a0,W,T,Q,O,a3] at h;simp only[ci,decide_eq_false_iff_not] at h;obtain⟨⟨⟨⟨⟨⟨⟨k1,k2⟩,k3⟩,k4⟩,k5⟩,k6⟩,k7⟩,k8⟩:=h;clear y a2;refine jan [Pt b] ((x.kind == 1) && (x.top != 16 * r)) (λK' j=>?_) (λe c u y he=>?_)
 .refine jl rfl (jeq (jgA j λN G=>jl rfl (jne G)))
 refine z_V ?_;rw[y];refine jif (λh=>K ?_) (λh=>?_)
 .symm;rw[eI];intro hk;simp only[z_b,beq_iff_eq,bne_iff_ne] at h;exact (a1.1 hk).1.2.2.2.2.2.2.2.2 h
 have k9:¬ (x.kind = 1/\x.top≠16 * r):=λhh=>by
  rw[show (x.kind == 1) = true from beq_iff_eq.2 hh.1,show (x.top != 16 * r) = true from bne_iff_ne.2 hh.2] at h;cases h
 refine jl rfl (jeq (jif (λH=>?_) (λH=>?_)))
 .have H:=eq_of_beq H;refine jan [] ((decide (x.AX>=0)) && (decide (x.AX<=3))) (λK' j=>?_) (λe c u y he=>?_)
  .refine jl rfl (jge (jgA j λN G=>jl rfl (jle G)))
  refine z_V ?_;rw[y];refine K ?_;rw[dX,a1,if_pos H];simp only[z_b,z_d];exact⟨λh=>⟨⟨k1,k2,k3,k4,k5,k6,k7,k8,k9⟩,h⟩,λh=>h.2⟩
 .have H:=ne_of_beq_false H;refine jl rfl (jeq (K ?_));rw[dX,a1,if_neg H];exact⟨λh=>⟨⟨k1,k2,k3,k4,k5,k6,k7,k8,k9⟩,eq_of_beq h⟩,λh=>beq_iff_eq.2 h.2⟩
theorem Wl:Pu QT [] (.agg (eRg Db).toArray):=by
 intro R;refine Vo λF=>?_
 refine z_0 ?_;refine ja λb=>jbd rfl rfl (js rfl rfl (by exact z_n 5) rfl (jla (by exact z_n 5) rfl (Ao (A:=[]) (RM.le.refl R) rfl)))
theorem WJ (r:Int):Pu Qo [I r] (.agg (eRg ⟨1,-1,AK r,AK r,0⟩).toArray):=by
 intro R;refine XQ λF=>?_
 refine z_1 ?_;refine ja λb=>jp (CZ r) (jbd rfl rfl (js rfl rfl (by exact z_n 5) rfl (jla (by exact z_n 5) rfl (Ao (A:=[]) (RM.le.refl R) rfl))))
theorem MpI.iff {o:Obj} {q j : Int->Prop} (h:MpI o q) (e:∀x,q x↔j x):MpI o j:=by
 have:q = j:=funext λx=>propext (e x)
 rw[<- this];exact h
section
variable {R:RM} {D:Chs} {t:List Rg} {sp:List Value} {b cap:Nat}
set_option maxHeartbeats 1000000 in
theorem QR (hl:t.length < 1000000) [a:At D b (C AO (Ad eRg t ++ sp))]:Ro Jm [S0 b t.length cap] (.bool (BT t)) R D:=by
 refine PZ λF=>?_
 refine z_1 ?_;have a9:(TOk t->False)->Value.bool false = Value.bool (BT t):=λh=>by
  cases hh:BT t
  .rfl
  .exact (h (Bi.1 hh)).elim
 refine Ab (λvs R' D'=>R' = R/\D' = D ++ F/\vs = [S0 b t.length cap,.bool ((decide ((t.length:Int) < 2) || decide ((t.length:Int) > 12)) || !(rv t 0 == Db))]) (λK hK=>?_) ?_
 .refine jor [S0 b t.length cap] ((decide ((t.length:Int) < 2)) || (decide ((t.length:Int) > 12))) (λK' Q=>?_) (λe c u ho he=>?_)
  .refine jln (jlt (jgO Q λj hN=>jln (jgr hN)))
  refine z_V ?_;refine Ab (λvs R' D'=>R' = R/\D' = D ++ F/\(((decide ((t.length:Int) < 2) || decide ((t.length:Int) > 12)) = false/\∃h:0 < t.length,vs = [S0 b t.length cap,.bool false,.pointer (some ⟨b,0 + (0:Int).toNat * 5,none⟩),.agg (eRg (t[0])).toArray])\/((decide ((t.length:Int) < 2) || decide ((t.length:Int) > 12)) = true/\vs = [S0 b t.length cap,.bool true,U,U]))) (λK2 a0=>?_) ?_
  .rw[ho];refine F0 (λj=>?_) (λj=>?_)
   .have b1:=j;simp only[ci,decide_eq_false_iff_not] at b1;have h0:0 < t.length:=Z
    refine jia Z Z (jla (Fj h0) (DY (w:=5) (λ_=>rfl) h0) (a0 _ _ _ ⟨rfl,rfl,.inl ⟨j,h0,by rw[j]⟩⟩))
   .exact a0 _ _ _ ⟨rfl,rfl,.inr ⟨j,by rw[j]⟩⟩
  rintro e2 R2 D2 ⟨hR,hD,h⟩;subst hR;rw[hD];clear hD;rcases h with ⟨j,h0,he⟩ | ⟨j,he⟩
  .refine z_V ?_;refine jff (jp Wl (Ak (jla (Fj h0) (DY (w:=5) (λ_=>rfl) h0) jev) (@Zh (t[0]) Db _ _ _ _ _ (Et (hK _ _ _ ⟨rfl,rfl,?_⟩)))));rw[j,dU,show rv t 0 = t[0] from Ea h0]
  .refine z_V ?_;refine jtf (Ak jev (Ec (hK _ _ _ ⟨rfl,rfl,?_⟩)));rw[j,eL]
 rintro e R2 D2 ⟨hR,hD,he⟩;subst hR;refine z_W ?_;clear hD;refine jif (λh0=>?_) (λh0=>?_)
 .refine BN (a9 λT=>?_);have n0:=T.n0;have n1:=T.n1;have e:=T.e;simp only[d7,z_d,cz,beq_eq_false_iff_ne] at h0;rcases h0 with (h | h) | h
  .omega
  .omega
  .exact h e
 simp only[ci,decide_eq_false_iff_not,dL,beq_iff_eq] at h0;obtain⟨⟨n0,n1⟩,a1⟩:=h0;refine @Zn _ _ _ λmb o hm=>jln ?_
 refine jlp (λn vs R' D'=>R' = R2/\∃(i:Nat) (o:Obj),D' = (mb,o) :: (D ++ F)/\i<=t.length/\vs = [.map (some mb),S0 b t.length cap,I t.length,I i]/\n = t.length - i/\MpI o (λy=>∃k:Nat,1<=k/\k < i/\(rv t k).AX = y)/\(∀k:Nat,1<=k->k < i->Kk k (rv t k)/\∀m:Nat,1<=m->m < k->0<=(rv t k).AX->(rv t m).AX≠(rv t k).AX))
  ⟨rfl,0,o,rfl,Z,rfl,rfl,hm.iff λx=>⟨λh=>h.elim,λ⟨k,_,h,_⟩=>Z⟩,λk j A=>Z⟩ ?_
 clear hm;rintro n e R' D' K ⟨hR,i,o,hD,hi,he,hn,hm,H⟩ hK;subst hR;refine z_W ?_;clear hD;refine jlt (jif (λhc=>?_) (λhc=>?_));rotate_left
 .have hc:=z_g hc;refine Al [] (G:=D ++ F) (BN ?_);rw[Bi.2 ⟨Z,Z,a1,λq q0 q1=>?_,λq s q0 q1 s0 s1 a8 W=>?_⟩]
  .have:=(H q.toNat Z Z).1;rwa [show ((q.toNat:Nat):Int) = q from Z] at this
  .have j:=(H q.toNat Z Z).2 s.toNat Z;have A:=(H s.toNat Z Z).2 q.toNat Z;rw[show ((q.toNat:Nat):Int) = q from Z,show ((s.toNat:Nat):Int) = s from Z] at j A;rcases Int.lt_trichotomy q s with c | c | c
   .exact absurd W (A Z (by rw[<- W];exact a8))
   .exact c
   .exact absurd W.symm (j Z a8)
 have hc:=z_f hc;have a2:i < t.length:=Z
 have N:=Ea a2;refine Ab (λvs R3 D3=>R3 = R'/\∃o',D3 = (mb,o') :: (D ++ F)/\MpI o' (λy=>∃k:Nat,1<=k/\k < i + 1/\(rv t k).AX = y)/\(∀k:Nat,1<=k->k < i + 1->Kk k (rv t k)/\∀m:Nat,1<=m->m < k->0<=(rv t k).AX->(rv t m).AX≠(rv t k).AX)/\vs = [.map (some mb),S0 b t.length cap,I t.length,I i]) (λK2 a0=>?_) ?_;rotate_left
 .rintro e3 R3 D3 ⟨hR,o',hD,a4,a3,he⟩;subst hR;refine z_W ?_;clear hD;exact jad (hK (t.length - (i + 1)) _ _ _ Z ⟨rfl,i + 1,o',rfl,Z,rfl,rfl,a4,a3⟩)
 refine jcI a0 λK3 a7=>?_
 refine C0 a2 (LB a2 (ja λb0=>js rfl rfl (by exact z_n 5) rfl (jeq (jif (λhz=>?_) (λhz=>?_)))))
 .have hz:=eq_of_beq hz;have hz:i = 0:=Z
  refine jk1 (F:=D ++ F) mb (a7 _ _ _ ⟨rfl,o,rfl,hm.iff λy=>⟨λ⟨k,j,A,h3⟩=>Z,λ⟨k,j,A,h3⟩=>Z⟩,λk j A=>Z,rfl⟩)
 have hz:=ne_of_beq_false hz;have b2:1<=i:=Z
 obtain⟨sb,a5⟩:∃sb:Bool,((∃k:Nat,1<=k/\k < i/\(rv t k).AX = (t[i]).AX)↔sb = true):=by
  by_cases h:∃k:Nat,1<=k/\k < i/\(rv t k).AX = (t[i]).AX
  .exact⟨true,by simp[h]⟩
  .exact⟨false,by simp[h]⟩
 refine jor [.map (some mb),Pt b0,S0 b t.length cap,I t.length,I i] (!JK i (t[i]) || (decide ((t[i]).AX>=0) && sb)) (λK' Q=>?_) (λe c u ho he=>?_)
 .refine jla (l:=eRg (t[i])) (by exact z_n 5) rfl (jp (N7 (t[i]) Z Z) (F0 (λj=>?_) (λj=>?_)))
  .refine jl rfl (jge (Dv (λA=>?_) (λA=>?_)))
   .refine jl rfl (@jlk _ _ _ mb o _ _ sb _ hm a5 ?_);rw[A];exact Ec (Q _ _ _ (j▸CH) (by rw[j,A];rfl))
   .rw[A];exact Et (Q _ _ _ (j▸CH) (by rw[j,A];rfl))
  .exact Q _ _ _ (j▸DL) (by rw[j];rfl)
 refine z_V ?_;rw[ho];refine jif (λhv=>?_) (λhv=>?_)
 .refine Al [] (G:=D ++ F) (BN (a9 λT=>?_));simp only[d7,cz,z_b,z_d] at hv;rcases hv with hv | ⟨a6,O⟩
  .have:=(JU Z Z).2 (T.row i Z Z);rw[N,hv] at this;cases this
  .obtain⟨k,k1,k2,k3⟩:=a5.2 O;have:=T.own i k Z Z Z Z (by rw[N];exact a6) (by rw[N,k3]);omega
 .simp only[ci,dL,fH,decide_eq_false_iff_not] at hv;obtain⟨a6,O⟩:=hv;refine jl rfl (@jmu _ _ _ mb o _ _ _ _ hm λo' a4=>(jk1 (F:=D ++ F) mb (a7 _ _ _ ⟨rfl,o',rfl,a4.iff λy=>⟨?_,?_⟩,λk j A=>?_,rfl⟩)))
  .rintro (⟨k,j,A,h3⟩ | rfl)
   .exact⟨k,j,Z,h3⟩
   .exact⟨i,b2,Z,by rw[N]⟩
  .rintro⟨k,j,A,h3⟩;by_cases hk:k = i
   .subst hk;rw[N] at h3;exact .inr h3.symm
   .exact .inl ⟨k,j,Z,h3⟩
  .by_cases hk:k = i
   .subst hk;rw[N];refine⟨(JU Z Z).1 a6,λm m1 m2 h0 W=>?_⟩;rcases O with O | O
    .omega
    .have:=a5.1 ⟨m,m1,m2,W⟩;rw[O] at this;cases this
   .exact H k j Z
end
theorem Xp {cs:List Value} {o:Nat} {v:Value} (h:o < cs.length):lay cs o [v] = cs.set o v:=by
 unfold lay;rw[List.set_eq_take_append_cons_drop,if_pos h];simp
theorem Zj {cs:List Value} {o f n:Nat} (h:o + n<=cs.length) (A:f < n) (v:Value):lay cs (o + f) [v] = lay cs o (((cs.drop o).take n).set f v):=by
 rw[Xp Z];unfold lay;have hl:(((cs.drop o).take n).set f v).length = n:=by simp;omega
 apply List.ext_getElem?;intro i;rw[hl,eY,cR];by_cases x:i < o
 .rw[de (by simp;omega),dw,if_pos x,if_neg Z]
 .rw[eO (by simp;omega)];have e:(cs.take o).length = o:=by simp;omega
  rw[e];by_cases y:i < o + n
  .rw[de (by rw[hl];omega),eY,dw,dY];by_cases j:o + f = i
   .rw[if_pos j,if_pos Z,if_pos Z,if_pos (by simp;omega)]
   .rw[if_neg j,if_neg Z,if_pos Z];congr 1;omega
  .rw[eO (by rw[hl];omega),hl,dY,if_neg Z];congr 1;omega
section
variable {R:RM} {D:Chs} {t:List Rg} {sp:List Value} {b cap:Nat}
end
theorem bV {f:Nat} {j:List Value} {v:Value} {R:RM} {D F:Chs} {k:Value->M} (G:Ro f j v R D) (H:J R (D ++ F) (k v)):J R (D ++ F) (CA P f j k):=by
 intro h K;refine Fi ?_ (G F h K);rintro Q x ⟨O,N,y,A,rfl,rfl⟩;exact H x (A.le y)
section
variable {R:RM} {D:Chs} {t:List Rg} {sp:List Value} {b cap:Nat}
end
section
variable {R:RM} {D:Chs} {t:List Rg} {sp:List Value} {b cap:Nat}
end
theorem getD_some {w:List Int} {j:Nat} (h:j < w.length):w[j]? = some (w.getD j 0):=by
 rw[cH,cF h];rfl
theorem Xd {w q:List Int} {sp:List Value} {m z:Nat} (j:q.length = z) (x:m + z<=w.length):lay (w.map I ++ sp) (0 + m * 1) (q.map I) = (w.take m ++ q ++ w.drop (m + z)).map I ++ sp:=by
 unfold lay;rw[cg,dx,cM,j,dW (by rw[cM];omega),List.drop_append_of_le_length (by rw[cM];omega)];simp[dE,List.map_take,List.map_drop]
theorem FP {R:RM} {D:Chs} {v:Value} {t:AQ} {k:Value->M} (h:ThV R v t) (H:J R D (k (I (AG t.sh)))):J R D (CA P HC [v] k):=by
 refine jro (LJ λF=>?_) H;refine z_1 ?_;obtain⟨rv,nv,rfl,x,j⟩:=h;refine ja λb=>jfo (jla (l:=[I t.sh.refs,I t.sh.nums]) (cN rfl) rfl (jp (Hk t.sh) (Al [] (G:=D ++ F) (BN rfl))))
end Go.Lf
end
section
namespace Go.Lf
open Go Sm
theorem bC {f:Nat} {G:List Value} {v:Value} {R:RM} {D:Chs} {b:Nat} {o:Obj} {k:Value->M} (hb:R b = some o) (hF:∀Q : RM,Q.le R->Ro f G v Q [(b,o)]) (H:J R D (k v)):J R D (CA P f G k):=by
 intro h K;have N:∀c j,(c,j)∈D->c≠b:=λc j x e=>by
  have:=(K.at_ c j x).2;rw[e,hb] at this;cases this
 have le:RM.le (λc=>if c = b then none else R c) R:=λc j h=>by
  have h:(if c = b then none else R c) = some j:=h;split at h
  .cases h
  .exact h
 have O:St h (λc=>if c = b then none else R c) ((b,o) :: D):=by
  refine⟨λc j h=>K.rd c j (le c j h),λc j x=>?_,?_⟩
  .rcases cU.1 x with e | x
   .cases e;exact⟨K.rd _ _ hb,if_pos rfl⟩
   .have:=K.at_ c j x;exact⟨this.1,(if_neg (N c j x)).trans this.2⟩
  .rw[dO,dp];refine⟨λx=>?_,K.nd⟩;obtain⟨⟨c,j⟩,W,h2⟩:=cq.1 x;exact N c j W h2
 refine Fi ?_ (hF _ le D h O);rintro v' T ⟨R2,A,hR,y,rfl,rfl⟩;refine H T ⟨λc j hc=>?_,λc j x=>⟨(y.at_ c j (ce _ x)).1,(K.at_ c j x).2⟩,?_⟩
 .by_cases e:c = b
  .subst e;rw[hb] at hc;cases hc;exact (y.at_ _ _ (.head _)).1
  .exact y.rd c j (hR c j ((if_neg e).trans hc))
 .have:=y.nd;exact (dp.1 this).2
set_option maxHeartbeats 1000000 in
theorem OO {R:RM} {wv:Value} {w:List Int} (r top:Int) (h:B8 R wv w) (hl:w.length < 1000000) (a6:∀x∈w,Rn x) :
  Fn P Iz [wv,I r,I top] R [] (λv T A=>A = []/\QTs (BU w r top) v T):=by
 refine Og λF=>?_
 refine z_3 ?_;have inn:∀a:Int,inR (w.getD (a.toNat + 1) 0):=λa=>by
  rw[cH];cases hx:w[a.toNat + 1]? with
  | none=>exact⟨δ,δ⟩
  | some x=>exact a6 x (List.mem_of_getElem? hx)
 obtain⟨wa,wc,a1⟩:=h.sl;have eq:(w.length:Int).tdiv 16 = (w.length / 16:Nat):=by rw[dv Z];omega
 rw[a1];have br:0<=AK r/\AK r<=176:=by unfold AK;split<;>omega
 refine jor [.slice wa w.length wc,I r,I top] ((!BL w.length) || (decide (r < 1))) (λK' j=>?_) (λe c u ho he=>?_)
 .refine jp (HF wa w.length wc Z) (jgO j λh1 W=>jlt W)
 refine z_V ?_;refine jor [.slice wa w.length wc,I r,I top] ((!BL w.length || decide (r < 1)) || (decide (r>=(w.length:Int).tdiv 16))) (λK' j=>?_) (λe c u ho he=>?_)
 .rw[ho];refine jgO j λh1 W=>jln (Oq δ ⟨Z,Z⟩ (jge W))
 refine z_V ?_;refine jor [.slice wa w.length wc,I r,I top] ((!BL w.length || decide (r < 1) || decide (r>=(w.length:Int).tdiv 16)) || (decide (top < AK r))) (λK' j=>?_) (λe c u ho he=>?_)
 .rw[ho];refine jgO j λh1 W=>jp (CZ r) (jlt W)
 refine z_V ?_;refine jor [.slice wa w.length wc,I r,I top] ((!BL w.length || decide (r < 1) || decide (r>=(w.length:Int).tdiv 16) || decide (top < AK r)) || (decide (top > AK r + 16))) (λK' j=>?_) (λe c u ho he=>?_)
 .rw[ho];refine jgO j λh1 W=>jp (CZ r) (jad (jgr W))
 refine z_V ?_;rw[ho];refine jif (λh0=>?_) (λh0=>?_)
 .refine Ao (RM.le.refl R) ⟨rfl,?_⟩;have:BU w r top = none:=by
   unfold BU;rw[if_neg];intro hh;simp only[d7,cz,z_d,z_b] at h0 hh;rw[eq] at h0;obtain⟨⟨⟨⟨g1,g2⟩,g3⟩,g4⟩,g5⟩:=hh;rw[g1] at h0;rcases h0 with (((h0 | h0) | h0) | h0) | h0
   .exact absurd h0 δ
   all_goals omega
  rw[this];exact rfl
 simp only[ci,dL,decide_eq_false_iff_not] at h0;rw[eq] at h0;obtain⟨⟨⟨⟨g1,g2⟩,g3⟩,g4⟩,g5⟩:=h0;have et:BU w r top = Au w 16 (AK r) top:=by
  unfold BU;rw[if_pos];simp only[z_b,z_d];exact⟨⟨⟨⟨g1,Z⟩,Z⟩,Z⟩,Z⟩
 rw[<- a1];refine Ab (λvs T D'=>R.le T/\∃l H A,BU w r top = some l/\(∃rows,Rw (ThC T) rows l/\SW BK 6 rows H A)/\D' = A ++ ([] ++ F)/\vs = [H]) (λK hK=>?_) ?_;rotate_left
 .rintro e R1 D1 ⟨hR,l,H,A,hl,⟨rows,D,so⟩,hD,he⟩;refine z_W ?_;refine jfw so (D.all λ_ _=>ThC.len) λR2 N hfz=>(Ao (hR.trans N) ⟨rfl,?_⟩)
  rw[hl];exact⟨H,⟨rows,D.mono λ_ _=>ThC.le N,hfz⟩,rfl⟩
 refine jp (CZ r) (Ab (λvs T D'=>R.le T/\∃l H A,BU w r top = some l/\(∃rows,Rw (ThC T) rows l/\SW BK 6 rows H A)/\D' = A ++ ([] ++ F)/\vs = [H]) (λK2 a4=>?_) ?_);rotate_left
 .rintro e R1 D1 ⟨hR,l,H,A,hl,so,hD,he⟩;refine z_W ?_;exact hK _ _ _ ⟨hR,l,H,A,hl,so,rfl,rfl⟩
 refine jlp (λm vs T D'=>R.le T/\∃(a:Int) (l:List AQ) (H:Value) (A:Chs) (rows:List (List Value)),m<=16/\AK r + 2 * (16 - m)<=a/\a<=top/\l.length<=16 - m/\(match Au w m a top with | none=>none | some l2=>some (l ++ l2)) = BU w r top/\Rw (ThC T) rows l/\SW BK 6 rows H A/\D' = A ++ ([] ++ F)/\vs = [wv,I top,H,I a])
  (n:=16) ⟨RM.le.refl R,AK r,[],SN,[],[],Z,Z,Z,V,by rw[et];cases Au w 16 (AK r) top<;>rfl,Rw.nil,.inl ⟨rfl,rfl,rfl⟩,rfl,rfl⟩ ?_
 rintro m e R1 D1 K3 ⟨hR,a,l,H,A,rows,hm,ha,a8,a9,y,D,so,hD,he⟩ a5;refine z_W ?_;have h1:=h.le hR;refine jlt (jif (λhc=>?_) (λhc=>?_));rotate_left
 .have hc:=z_g hc;refine a4 _ _ _ ⟨hR,l,H,A,?_,⟨rows,D,so⟩,rfl,rfl⟩;rw[<- y];cases m<;>(unfold Au;rw[if_neg hc];simp)
 have hc:=z_f hc;obtain⟨m,rfl⟩:∃k,m = k + 1:=⟨m - 1,Z⟩;unfold Au at y;rw[if_pos hc] at y;dsimp only at y;obtain⟨a2,a3⟩:=GG (As w a).1.sh;have a0:=@IW w a;refine jc (Pz a h1 hl (inn a)) ?_;rintro _ R2 _ N ⟨rfl,x,⟨rv,nv,rfl,Q,O⟩,rfl⟩;generalize As w a = t at y Q O a2 a3 a0 ⊢;obtain⟨t,tb⟩:=t;dsimp only at y Q O a2 a3 a0 ⊢;obtain⟨ra,rc,rfl⟩:=Q.sl;obtain⟨na,nc,rfl⟩:=O.sl;refine jex rfl (jex rfl (ja λb=>(js rfl rfl (by exact z_n 6) rfl (jor [wv,I top,H,I a,Pt b] ((!tb) || (decide (a + AG t.sh > top))) (λK' j=>?_) (λe c u ho he=>?_)))))
 .refine jgO j λh1 W=>jla (by exact z_n 6) rfl (FP ⟨_,_,rfl,Q,O⟩ (jad (jgr W)))
 refine z_V ?_;rw[ho];refine jif (λh0=>?_) (λh0=>?_)
 .refine Ao (hR.trans N) ⟨rfl,?_⟩;have:BU w r top = none:=by
   rw[<- y,if_neg];intro hh;simp only[d7,cz,z_d,z_b] at h0 hh;rcases h0 with h0 | h0
   .rw[h0] at hh;exact absurd hh.1 δ
   .omega
  rw[this];exact rfl
 simp only[ci,dL,decide_eq_false_iff_not] at h0;obtain⟨h2,h3⟩:=h0;rw[if_pos (by rw[h2];simp;omega)] at y;have a0:=a0 h2;refine jla (by exact z_n 6) rfl (jbs rfl rfl λb4=>(Az (D':=(b4,C BK (eTh t (.slice ra t.refs.length rc) (.slice na t.nums.length nc))) :: ((b,C BK (eTh t (.slice ra t.refs.length rc) (.slice na t.nums.length nc))) :: (A ++ ([] ++ F)))) (dK _) (Al A (G:=(b4,C BK (eTh t (.slice ra t.refs.length rc) (.slice na t.nums.length nc))) :: (b,C BK (eTh t (.slice ra t.refs.length rc) (.slice na t.nums.length nc))) :: ([] ++ F)) ?_)));have hx:BX R2 (A ++ ((b4,C BK (eTh t (.slice ra t.refs.length rc) (.slice na t.nums.length nc))) :: (b,C BK (eTh t (.slice ra t.refs.length rc) (.slice na t.nums.length nc))) :: ([] ++ F))) (some ⟨b4,0,none⟩) (1 * 6) [eTh t (.slice ra t.refs.length rc) (.slice na t.nums.length nc)].flatten:=BX.held (cs:=eTh t (.slice ra t.refs.length rc) (.slice na t.nums.length nc)) (z_n 6);have b0:=D.1;refine jaw so (D.all λ_ _=>ThC.len) (by intro r hr;rw[cZ.1 hr];rfl) rfl rfl rfl δ (by rw[cr];omega) hx λv' A' a7=>(jla (by exact z_n 6) rfl (FP ⟨_,_,rfl,Q,O⟩ (jad (Al A' (G:=[] ++ F) (a5 m _ _ _ Z ⟨hR.trans N,a + AG t.sh,l ++ [t],v',A',rows ++ [eTh t (.slice ra t.refs.length rc) (.slice na t.nums.length nc)],Z,Z,Z,by rw[cJ,cr];omega,?_,(D.mono λ_ _=>ThC.le N).app (Rw.one ⟨_,_,rfl,Q,O⟩),a7,rfl,rfl⟩)))))
 rw[<- y];cases Au w m (a + AG t.sh) top with
 | none=>rfl
 | some l2=>simp
end Go.Lf
end
