/- A part of the proof of the given row: the walk of the law and of all that it calls. Conditions: none. -/
import Derived.Test.YtlagojobcbkpdaaGreatRows
import Derived.ProofKit
import Derived.ChangeOld
import Derived.MapKept
import Derived.ChangeMaps4
import Derived.Test.YtlagojobcbkpdaaGreatDL
set_option linter.unusedVariables false
set_option linter.unusedSimpArgs false
set_option maxRecDepth 100000
section
namespace Go.Lf
open Go Sm
def sel (l:List Int) (x:Int):Int:=l.getD x.toNat 0
theorem BH (l:List Int) {x:Int} (h0:0≤x) (h1:x < l.length):(l.map I)[0 + x.toNat * 1]? = some (I (sel l x)):=by
 have:x.toNat < l.length:=ω
 simp[sel,this]
theorem TL {l:List Int} {x:Int} (h0:0≤x) (h1:x < l.length):sel l x∈l:=by
 have:x.toNat < l.length:=ω
 simp[sel,this]
theorem jsb {R:RM} {D:Chs} {v:Value} {w n:Nat} {u:Int} {k:Value→M} (h:Bsl R v n) (h0:0≤u) (h1:u≤n) (H:∀v',Bsl R v' u.toNat→J R D (k v')):J R D (SL w v none (some (I u)) k):=by
 obtain⟨a,cap,rfl,hn,h2⟩:=h;intro h' hs;refine⟨⟨h0,ω⟩,H _ ⟨a,cap,rfl,ω,?_⟩ h' hs⟩;rcases h2 with h3 | ⟨b,o,h2,h3⟩
 ·exact .inl ω
 ·exact .inr ⟨b,o,h2,λi hi=>h3 i ω⟩
theorem Bsl.sl {R:RM} {v:Value} {n:Nat} (h:Bsl R v n):∃a c,v = .slice a n c:=by obtain⟨a,c,h1,_⟩:=h;exact⟨a,c,h1⟩
theorem YO {R:RM} {D:Chs} {v:Value} {w n:Nat} {cells:List Value} {u:Int} {k:Value→M} (h:Fz R v w n cells) (h0:0≤u) (h1:u≤n) (H:∀v',Fz R v' w u.toNat (cells.take (u.toNat * w))→J R D (k v')):J R D (SL w v none (some (I u)) k):=by
 rcases h with ⟨rfl,h2,h3⟩ | ⟨b,o,cap,t,cs,rfl,h2,h3,h4,h5⟩
 ·intro h' hs;refine⟨⟨h0,ω⟩,H _ ?_ h' hs⟩;have:u = 0:=ω
  subst this;exact .inl ⟨rfl,rfl,σ⟩
 ·intro h' hs;refine⟨⟨h0,ω⟩,H _ ?_ h' hs⟩;have hm:u.toNat * w≤n * w:=aH w ω;exact .inr ⟨b,o,cap,t,cs,rfl,h2,ω,by rw[← h4,ah];congr 1;omega,ω⟩
def Dr (f:Nat) (args:List Value) (R:RM) (rb:Nat) (v:Value) (m c:Int) (q:Value→RM→Prop):Prop:=
 Fn P f args R [(rb,rdO v m)] (λx R' A=>R.le R'∧q x R'∧∃m',m≤m'∧m'≤m + c∧A = [(rb,rdO v m')])
theorem jdr {R:RM} {D E:Chs} {f rb:Nat} {args:List Value} {v:Value} {m c:Int} {q:Value→RM→Prop} {k:Value→M} (hF:Dr f args R rb v m c q) [t:Tk D rb (rdO v m) E] (H:∀x R' m',R.le R'→q x R'→m≤m'→m'≤m + c→J R' ((rb,rdO v m') :: E) (k x)) :
  J R D (CA P f args k):=by
 refine jc (A:=[(rb,rdO v m)]) (F:=E) (s:=⟨t.p⟩) hF ?_;rintro x R' _ _ ⟨h1,h2,m',h3,h4,rfl⟩;exact H x R' m' h1 h2 h3 h4
theorem Eo {R R' : RM} {D E F:Chs} {rb:Nat} {v x:Value} {m c:Int} {q:Value→RM→Prop} (m' : Int) [t:Tk D rb (rdO v m') E] [s:Sf E F] (h1:R.le R') (h2:q x R') (h3:m≤m') (h4:m'≤m + c) :
  J R' D (Ey R F (λx R' A=>R.le R'∧q x R'∧∃m',m≤m'∧m'≤m + c∧A = [(rb,rdO v m')]) x):=by
 intro h hs;exact B9 (D:=(rb,rdO v m') :: E) (A:=[(rb,rdO v m')]) h1 ⟨h1,h2,m',h3,h4,rfl⟩ h (hs.perm t.p)
theorem jk1 {R:RM} {D G F:Chs} {o:Obj} {m:M} (b:Nat) [t:Tk D b o G] [s:Sf G F] (H:J R ((b,o) :: F) m):J R D m:=by
 intro h hs;obtain⟨X,hX⟩:=s.p;subst hX;exact H h (((hs.perm t.p).perm ZH.symm).drop)
theorem jk2 {R:RM} {D E G F:Chs} {o o' : Obj} {m:M} (b c:Nat) [t:Tk D b o E] [u:Tk E c o' G] [s:Sf G F] (H:J R ((b,o) :: (c,o') :: F) m):J R D m:=by
 intro h hs;have h1:=(hs.perm t.p).perm (u.p.cons _);obtain⟨X,hX⟩:=s.p;subst hX;have:=Zv (l₁:=[(b,o),(c,o')]) (l₂:=X);have:=this.append_right F;exact H h (h1.perm (by simpa using this)).drop
theorem jk3 {R:RM} {D E G H' F:Chs} {o o' o2:Obj} {m:M} (b c d:Nat) [t:Tk D b o E] [u:Tk E c o' G] [w:Tk G d o2 H'] [s:Sf H' F] (H:J R ((b,o) :: (c,o') :: (d,o2) :: F) m):J R D m:=by
 intro h hs;have h1:=((hs.perm t.p).perm (u.p.cons _)).perm ((w.p.cons _).cons _);obtain⟨X,hX⟩:=s.p;subst hX;have:=Zv (l₁:=[(b,o),(c,o'),(d,o2)]) (l₂:=X);have:=this.append_right F;exact H h (h1.perm (by simpa using this)).drop
theorem TX {R:RM} {v:Value} {n:Nat} (h:Bsl R v n) :
  Fn P KL [v] R [] (λx R' A=>R' = R∧∃rb v',x = Pt rb∧A = [(rb,rdO v' 0)]∧Byt R v'):=by
 refine QW λF=>?_
 refine z_1 ?_;obtain⟨a,cap,hv⟩:=h.sl;refine AR (λvs R' D'=>R' = R∧D' = [] ++ F∧∃v',Byt R v'∧vs = [v']) (λK hK=>?_) ?_
 ·refine C4 h.sl (jgr (jif (λh1=>?_) (λh1=>?_)))
  ·have h1:=z_f h1;refine jsb h ω ω λv' hv'=>?_
   refine hK _ _ _ ⟨rfl,rfl,v',?_,rfl⟩;obtain⟨a',c',e⟩:=hv'.sl;exact⟨a',_,c',e,hv',δ⟩
  ·have h1:=z_g h1;exact hK _ _ _ ⟨rfl,rfl,v,⟨a,n,cap,hv,h,ω⟩,rfl⟩
 rintro e R1 D1 ⟨hR,hD,v',hv',he⟩;subst hR;refine z_W ?_;obtain⟨a',n',c',hv2,-⟩:=id hv';subst hv2;refine jbd (cs:=[.slice a' n' c',I 0]) rfl rfl ?_;refine ja λb=>?_
 exact B9 (A:=[(b,rdO (.slice a' n' c') 0)]) (RM.le.refl _) ⟨rfl,b,_,rfl,rfl,hv'⟩
section draws
variable {R:RM} {rb:Nat} {v:Value} {m:Int}
set_option maxHeartbeats 4000000 in
theorem L8 (hb:Byt R v) (hm:0≤m∧m < 500000000):Dr II [Pt rb] R rb v m 3 (λx R'=>R' = R∧∃sh:Shp,x = eSh sh):=by
 refine Me λF=>?_
 refine z_1 ?_;refine ja λb=>?_
 refine jpk hb ⟨ω,ω⟩ λx1 _ _=>jeq (jif (λ_=>?_) (λ_=>?_))
 ·refine AR (λvs R' D'=>R' = R∧(∃r n m',m≤m'∧m'≤m + 3∧D' = (b,C 60 [I r,I n]) :: (rb,rdO v m') :: F)∧vs = [Pt b]) (λK hK=>?_) ?_;rotate_left
  ·rintro e R1 D1 ⟨hR,⟨r,n,m',h1,h2,hD⟩,he⟩;subst hR;refine z_W ?_;clear hD;refine jla (l:=[I r,I n]) (by exact z_n 2) rfl ?_;exact Eo m' (RM.le.refl _) ⟨rfl,⟨r,n⟩,rfl⟩ h1 h2
  have fin:∀(r n m' : Int),m≤m'→m'≤m + 3→J R ((b,C 60 [I r,I n]) :: (rb,rdO v m') :: F) (K [Pt b]):=λr n m' h1 h2=>hK _ _ _ ⟨rfl,⟨r,n,m',h1,h2,rfl⟩,rfl⟩
  clear hK;refine EP ?_ ?_
  ·refine jbs (cs:=[I 4,I 5,I (-1),I 0]) rfl rfl λb6=>?_
   refine EP ?_ ?_
   ·refine jpk hb ⟨ω,ω⟩ λx7 _ _=>?_
    refine jia ω ω ?_;refine jl (BH [4,5,-1,0] ω (by show _ < (4:Int);omega)) ?_;refine EP ?_ ?_
    ·refine jbs (cs:=[I 4,I 5,I (-1),I 0]) rfl rfl λb10=>?_
     refine Af (jl (BH [4,5,-1,0] ω (by show _ < (4:Int);omega)) jev) ?_;refine jpk hb ⟨ω,ω⟩ λx12 _ _=>?_
     refine jia ω ω ?_;refine jl (BH [4,5,-1,0] ω (by show _ < (4:Int);omega)) ?_;refine jbd (cs:=[I _,I _]) rfl rfl ?_;refine Af (jl (BH [4,5,-1,0] ω (by show _ < (4:Int);omega)) jev) ?_;refine jS [I _,I _] ?_;refine jk2 (F:=F) b rb ?_;exact fin _ _ _ ω ω
    refine Dk ?_;refine jpk hb ⟨ω,ω⟩ λx17 _ _=>?_
    refine Af (jl (BH [4,5,-1,0] ω (by show _ < (4:Int);omega)) jev) ?_;refine jbs (cs:=[I 4,I 5,I (-1),I 0]) rfl rfl λb19=>?_
    refine jia ω ω ?_;refine jl (BH [4,5,-1,0] ω (by show _ < (4:Int);omega)) ?_;refine jbd (cs:=[I _,I _]) rfl rfl ?_;refine Af (jl (BH [4,5,-1,0] ω (by show _ < (4:Int);omega)) jev) ?_;refine jS [I _,I _] ?_;refine jk2 (F:=F) b rb ?_;exact fin _ _ _ ω ω
   refine Dk ?_;refine jbs (cs:=[I 4,I 5,I (-1),I 0]) rfl rfl λb24=>?_
   refine jpk hb ⟨ω,ω⟩ λx25 _ _=>?_
   refine jia ω ω ?_;refine jl (BH [4,5,-1,0] ω (by show _ < (4:Int);omega)) ?_;refine jpk hb ⟨ω,ω⟩ λx28 _ _=>?_
   refine jia ω ω ?_;refine jl (BH [4,5,-1,0] ω (by show _ < (4:Int);omega)) ?_;refine jbd (cs:=[I _,I _]) rfl rfl ?_;refine Af (jl (BH [4,5,-1,0] ω (by show _ < (4:Int);omega)) jev) ?_;refine jS [I _,I _] ?_;refine jk2 (F:=F) b rb ?_;exact fin _ _ _ ω ω
  refine EP ?_ ?_
  ·refine jpk hb ⟨ω,ω⟩ λx33 _ _=>?_
   refine EP ?_ ?_
   ·refine jbs (cs:=[I 4,I 5,I (-1),I 0]) rfl rfl λb34=>?_
    refine jia ω ω ?_;refine jl (BH [4,5,-1,0] ω (by show _ < (4:Int);omega)) ?_;refine EP ?_ ?_
    ·refine jbs (cs:=[I 4,I 5,I (-1),I 0]) rfl rfl λb37=>?_
     refine Af (jl (BH [4,5,-1,0] ω (by show _ < (4:Int);omega)) jev) ?_;refine jpk hb ⟨ω,ω⟩ λx39 _ _=>?_
     refine jia ω ω ?_;refine jl (BH [4,5,-1,0] ω (by show _ < (4:Int);omega)) ?_;refine jbd (cs:=[I _,I _]) rfl rfl ?_;refine Af (jl (BH [4,5,-1,0] ω (by show _ < (4:Int);omega)) jev) ?_;refine jS [I _,I _] ?_;refine jk2 (F:=F) b rb ?_;exact fin _ _ _ ω ω
    refine Dk ?_;refine jpk hb ⟨ω,ω⟩ λx44 _ _=>?_
    refine Af (jl (BH [4,5,-1,0] ω (by show _ < (4:Int);omega)) jev) ?_;refine jbs (cs:=[I 4,I 5,I (-1),I 0]) rfl rfl λb46=>?_
    refine jia ω ω ?_;refine jl (BH [4,5,-1,0] ω (by show _ < (4:Int);omega)) ?_;refine jbd (cs:=[I _,I _]) rfl rfl ?_;refine Af (jl (BH [4,5,-1,0] ω (by show _ < (4:Int);omega)) jev) ?_;refine jS [I _,I _] ?_;refine jk2 (F:=F) b rb ?_;exact fin _ _ _ ω ω
   refine EP ?_ ?_
   ·refine jbs (cs:=[I 4,I 5,I (-1),I 0]) rfl rfl λb51=>?_
    refine EP ?_ ?_
    ·refine jbs (cs:=[I 4,I 5,I (-1),I 0]) rfl rfl λb52=>?_
     refine jia ω ω ?_;refine jl (BH [4,5,-1,0] ω (by show _ < (4:Int);omega)) ?_;refine jpk hb ⟨ω,ω⟩ λx55 _ _=>?_
     refine jia ω ω ?_;refine jl (BH [4,5,-1,0] ω (by show _ < (4:Int);omega)) ?_;refine jbd (cs:=[I _,I _]) rfl rfl ?_;refine Af (jl (BH [4,5,-1,0] ω (by show _ < (4:Int);omega)) jev) ?_;refine jS [I _,I _] ?_;refine jk2 (F:=F) b rb ?_;exact fin _ _ _ ω ω
    refine Dk ?_;refine jpk hb ⟨ω,ω⟩ λx60 _ _=>?_
    refine jia ω ω ?_;refine jl (BH [4,5,-1,0] ω (by show _ < (4:Int);omega)) ?_;refine jbs (cs:=[I 4,I 5,I (-1),I 0]) rfl rfl λb63=>?_
    refine jia ω ω ?_;refine jl (BH [4,5,-1,0] ω (by show _ < (4:Int);omega)) ?_;refine jbd (cs:=[I _,I _]) rfl rfl ?_;refine Af (jl (BH [4,5,-1,0] ω (by show _ < (4:Int);omega)) jev) ?_;refine jS [I _,I _] ?_;refine jk2 (F:=F) b rb ?_;exact fin _ _ _ ω ω
   refine Dk ?_;refine jpk hb ⟨ω,ω⟩ λx68 _ _=>?_
   refine EP ?_ ?_
   ·refine jbs (cs:=[I 4,I 5,I (-1),I 0]) rfl rfl λb69=>?_
    refine jia ω ω ?_;refine jl (BH [4,5,-1,0] ω (by show _ < (4:Int);omega)) ?_;refine jbs (cs:=[I 4,I 5,I (-1),I 0]) rfl rfl λb72=>?_
    refine jia ω ω ?_;refine jl (BH [4,5,-1,0] ω (by show _ < (4:Int);omega)) ?_;refine jbd (cs:=[I _,I _]) rfl rfl ?_;refine Af (jl (BH [4,5,-1,0] ω (by show _ < (4:Int);omega)) jev) ?_;refine jS [I _,I _] ?_;refine jk2 (F:=F) b rb ?_;exact fin _ _ _ ω ω
   refine Dk ?_;refine jbs (cs:=[I 4,I 5,I (-1),I 0]) rfl rfl λb77=>?_
   refine jia ω ω ?_;refine jl (BH [4,5,-1,0] ω (by show _ < (4:Int);omega)) ?_;refine jbs (cs:=[I 4,I 5,I (-1),I 0]) rfl rfl λb80=>?_
   refine jia ω ω ?_;refine jl (BH [4,5,-1,0] ω (by show _ < (4:Int);omega)) ?_;refine jbd (cs:=[I _,I _]) rfl rfl ?_;refine Af (jl (BH [4,5,-1,0] ω (by show _ < (4:Int);omega)) jev) ?_;refine jS [I _,I _] ?_;refine jk2 (F:=F) b rb ?_;exact fin _ _ _ ω ω
  refine Dk ?_;refine jbs (cs:=[I 4,I 5,I (-1),I 0]) rfl rfl λb85=>?_
  refine EP ?_ ?_
  ·refine jbs (cs:=[I 4,I 5,I (-1),I 0]) rfl rfl λb86=>?_
   refine jpk hb ⟨ω,ω⟩ λx87 _ _=>?_
   refine jia ω ω ?_;refine jl (BH [4,5,-1,0] ω (by show _ < (4:Int);omega)) ?_;refine jpk hb ⟨ω,ω⟩ λx90 _ _=>?_
   refine jia ω ω ?_;refine jl (BH [4,5,-1,0] ω (by show _ < (4:Int);omega)) ?_;refine jbd (cs:=[I _,I _]) rfl rfl ?_;refine Af (jl (BH [4,5,-1,0] ω (by show _ < (4:Int);omega)) jev) ?_;refine jS [I _,I _] ?_;refine jk2 (F:=F) b rb ?_;exact fin _ _ _ ω ω
  refine Dk ?_;refine jpk hb ⟨ω,ω⟩ λx95 _ _=>?_
  refine EP ?_ ?_
  ·refine jbs (cs:=[I 4,I 5,I (-1),I 0]) rfl rfl λb96=>?_
   refine jia ω ω ?_;refine jl (BH [4,5,-1,0] ω (by show _ < (4:Int);omega)) ?_;refine jpk hb ⟨ω,ω⟩ λx99 _ _=>?_
   refine jia ω ω ?_;refine jl (BH [4,5,-1,0] ω (by show _ < (4:Int);omega)) ?_;refine jbd (cs:=[I _,I _]) rfl rfl ?_;refine Af (jl (BH [4,5,-1,0] ω (by show _ < (4:Int);omega)) jev) ?_;refine jS [I _,I _] ?_;refine jk2 (F:=F) b rb ?_;exact fin _ _ _ ω ω
  refine Dk ?_;refine jpk hb ⟨ω,ω⟩ λx104 _ _=>?_
  refine jia ω ω ?_;refine jl (BH [4,5,-1,0] ω (by show _ < (4:Int);omega)) ?_;refine jbs (cs:=[I 4,I 5,I (-1),I 0]) rfl rfl λb107=>?_
  refine jia ω ω ?_;refine jl (BH [4,5,-1,0] ω (by show _ < (4:Int);omega)) ?_;refine jbd (cs:=[I _,I _]) rfl rfl ?_;refine Af (jl (BH [4,5,-1,0] ω (by show _ < (4:Int);omega)) jev) ?_;refine jS [I _,I _] ?_;refine jk2 (F:=F) b rb ?_;exact fin _ _ _ ω ω
 ·refine jpk hb ⟨ω,ω⟩ λx2 _ _=>jpk hb ⟨ω,ω⟩ λx3 _ _=>?_
  refine jbd (cs:=[I x2,I x3]) rfl rfl (js (cs':=[I x2,I x3]) rfl rfl σ rfl ?_);refine jla (l:=[I x2,I x3]) (by exact z_n 2) rfl ?_;exact Eo _ (RM.le.refl _) ⟨rfl,⟨x2,x3⟩,rfl⟩ ω ω
theorem OZ (hb:Byt R v) (hm:0≤m∧m < 500000000):Dr Gw [Pt rb] R rb v m 3 (λx R'=>R' = R∧∃c:Cfg,x = .agg #[I c.AB,I c.A6,I c.AS]∧Bf c = true):=by
 refine Ll λF=>?_
 refine z_1 ?_;refine ja λb=>?_
 refine jpk hb ⟨ω,ω⟩ λx1 _ _=>jad (jpk hb ⟨ω,ω⟩ λx2 _ _=>jad ?_)
 refine jbs (cs:=[I 16,I 32,I 0,I 8,I 100]) rfl rfl λb6=>?_
 refine jpk hb ⟨ω,ω⟩ λx3 _ _=>jia ω ω ?_
 have h3:=TL (l:=[16,32,0,8,100]) (x:=x3) ω (by show _ < (5:Int);omega);refine jl (BH [16,32,0,8,100] ω (by show _ < (5:Int);omega)) ?_;generalize sel [16,32,0,8,100] x3 = y at h3;refine jbd (cs:=[I (4 + x1),I (1 + x2),I y]) rfl rfl (js (cs':=[I (4 + x1),I (1 + x2),I y]) rfl rfl σ rfl ?_);refine jla (l:=[I (4 + x1),I (1 + x2),I y]) (by exact z_n 3) rfl ?_;refine Eo _ (RM.le.refl _) ⟨rfl,⟨4 + x1,1 + x2,y⟩,rfl,?_⟩ ω ω;simp only[Yx,List.not_mem_nil,or_false] at h3;simp only[Bf,z_b,z_d];omega
end draws
def OpB (b b1 rb:Nat) (v:Value) (m c:Int) (F D:Chs):Prop:=∃k a b2 c2 f w r n m',(m≤m'∧-9223372036854775808≤w∧w < 9223372036854775808)∧m'≤m + c∧D = (b,C 183 [I k,I a,I b2,I c2,I f,I w,I r,I n]) :: (b1,C 183 (cl z183)) :: (rb,rdO v m') :: F
section draws
variable {R:RM} {rb:Nat} {v:Value} {m:Int}
theorem VR {n:Int} (hn:0≤n∧n < 1000000) (hb:Byt R v) (hm:0≤m∧m < 400000000):Dr MA [Pt rb,I n] R rb v m 30 (λx R'=>R' = R∧∃o:Sm.Op,x = .agg (eOp o).toArray∧Rn o.v):=by
 refine SK λF=>?_
 refine z_2 ?_;refine ja λb1=>jad (jpk hb ⟨ω,ω⟩ λx1 _ _=>jad (jpk hb ⟨ω,ω⟩ λx2 _ _=>jad (jpk hb ⟨ω,ω⟩ λx3 _ _=>?_)))
 refine jpk hb ⟨ω,ω⟩ λx4 _ _=>jpk hb ⟨ω,ω⟩ λx5 _ _=>jsu ?_
 refine jbd (cs:=[I 0,I x1,I x2,I x3,I x4,I (x5 - 6),I 0,I 0]) rfl rfl (ja λb=>?_);refine jS [I 0,I x1,I x2,I x3,I x4,I (x5 - 6),I 0,I 0] ?_;refine AR (λvs R' D'=>R' = R∧OpB b b1 rb v m 9 F D'∧vs = [Pt rb,Pt b1,Pt b]) (λK hK=>?_) ?_
 ·refine AR (λvs R' D'=>R' = R∧OpB b b1 rb v m 6 F D'∧∃c u w,GY c u w∧vs = [Pt rb,I n,Pt b1,Pt b,c,u]) (λK2 hK2=>?_) ?_
  ·refine jpk hb ⟨ω,ω⟩ λx6 _ _=>jgr (Bt (λh1=>jgr ?_) (λh1=>?_))<;>refine jk3 (F:=F) b b1 rb ?_
   ·exact hK2 _ _ _ ⟨rfl,⟨_,_,_,_,_,_,_,_,_,ω,ω,rfl⟩,_,_,_,h1▸Ax,rfl⟩
   ·exact hK2 _ _ _ ⟨rfl,⟨_,_,_,_,_,_,_,_,_,ω,ω,rfl⟩,_,_,_,h1▸BB,rfl⟩
  rintro e R1 D1 ⟨hR,⟨k,a,b2,c2,f,w,r,n',m',h1,h2,hD⟩,c,u,w',ho,he⟩;subst hR;refine z_W ?_;clear hD;rw[ho];refine jif (λ_=>?_) (λ_=>?_)
  ·refine jpk hb ⟨ω,ω⟩ λy1 _ _=>js rfl rfl (Z0 rfl) rfl ?_
   refine jpk hb ⟨ω,ω⟩ λy2 _ _=>js rfl rfl (Z0 rfl) rfl ?_
   refine jpk hb ⟨ω,ω⟩ λy3 _ _=>js rfl rfl (Z0 rfl) rfl ?_
   refine jk3 (F:=F) b b1 rb ?_;exact hK _ _ _ ⟨rfl,⟨_,_,_,_,_,_,_,_,_,ω,ω,rfl⟩,rfl⟩
  ·exact hK _ _ _ ⟨rfl,⟨_,_,_,_,_,_,_,_,_,ω,ω,rfl⟩,rfl⟩
 rintro e R1 D1 ⟨hR,⟨k,a,b2,c2,f,w,r,n',m',h1,h2,hD⟩,he⟩;subst hR;refine z_W ?_;clear hD;refine jpk hb ⟨ω,ω⟩ λz _ _=>?_
 refine AR (λvs R' D'=>R' = R1∧OpB b b1 rb v m 15 F D'∧vs = [Pt rb,Pt b1,Pt b]) (λK hK=>?_) ?_
 ·refine AR (λvs R' D'=>R' = R1∧OpB b b1 rb v m 15 F D'∧vs = [Pt rb,Pt b1,Pt b]) (λK2 hK2=>?_) ?_;rotate_left
  ·rintro e R2 D2 ⟨hR,hD,he⟩;refine z_V ?_;exact hK _ _ _ ⟨hR,hD,rfl⟩
  refine jlt (jif (λ_=>?_) (λ_=>jlt (jif (λ_=>?_) (λ_=>jlt (jif (λ_=>?_) (λ_=>jeq (jif (λ_=>?_) (λ_=>jeq (jif (λ_=>?_) (λ_=>jeq (jif (λ_=>?_) (λ_=>jeq (jif (λ_=>?_) (λ_=>jlt (jif (λ_=>?_) (λ_=>?_))))))))))))))))
  ·refine js rfl rfl (Z0 rfl) rfl ?_;refine jdr (L8 hb ⟨ω,ω⟩) ?_;rintro _ R2 m2 - ⟨hR2,sh,rfl⟩ h3 h4;subst hR2;refine js rfl rfl (Z0 rfl) rfl ?_;refine jk3 (F:=F) b b1 rb ?_;exact hK2 _ _ _ ⟨rfl,⟨_,_,_,_,_,_,_,_,_,ω,ω,rfl⟩,rfl⟩
  ·refine js rfl rfl (Z0 rfl) rfl (jk3 (F:=F) b b1 rb ?_);exact hK2 _ _ _ ⟨rfl,⟨_,_,_,_,_,_,_,_,_,ω,ω,rfl⟩,rfl⟩
  ·refine js rfl rfl (Z0 rfl) rfl (jk3 (F:=F) b b1 rb ?_);exact hK2 _ _ _ ⟨rfl,⟨_,_,_,_,_,_,_,_,_,ω,ω,rfl⟩,rfl⟩
  ·refine js rfl rfl (Z0 rfl) rfl (jpk hb ⟨ω,ω⟩ λy _ _=>js rfl rfl (Z0 rfl) rfl (jk3 (F:=F) b b1 rb ?_));exact hK2 _ _ _ ⟨rfl,⟨_,_,_,_,_,_,_,_,_,ω,ω,rfl⟩,rfl⟩
  ·refine js rfl rfl (Z0 rfl) rfl (jpk hb ⟨ω,ω⟩ λy _ _=>js rfl rfl (Z0 rfl) rfl (jk3 (F:=F) b b1 rb ?_));exact hK2 _ _ _ ⟨rfl,⟨_,_,_,_,_,_,_,_,_,ω,ω,rfl⟩,rfl⟩
  ·refine js rfl rfl (Z0 rfl) rfl (jk3 (F:=F) b b1 rb ?_);exact hK2 _ _ _ ⟨rfl,⟨_,_,_,_,_,_,_,_,_,ω,ω,rfl⟩,rfl⟩
  ·refine js rfl rfl (Z0 rfl) rfl (jk3 (F:=F) b b1 rb ?_);exact hK2 _ _ _ ⟨rfl,⟨_,_,_,_,_,_,_,_,_,ω,ω,rfl⟩,rfl⟩
  ·refine js rfl rfl (Z0 rfl) rfl (jk3 (F:=F) b b1 rb ?_);exact hK2 _ _ _ ⟨rfl,⟨_,_,_,_,_,_,_,_,_,ω,ω,rfl⟩,rfl⟩
  ·refine jbs (cs:=[I 9,I 10,I 11]) rfl rfl λbt=>jpk hb ⟨ω,ω⟩ λy _ _=>jia ω ω (jl (BH [9,10,11] ω (by show _ < (3:Int);omega)) ?_)
   refine js rfl rfl (Z0 rfl) rfl (jk3 (F:=F) b b1 rb ?_);exact hK2 _ _ _ ⟨rfl,⟨_,_,_,_,_,_,_,_,_,ω,ω,rfl⟩,rfl⟩
 clear h1 h2 m';rintro e R2 D2 ⟨hR,⟨k,a,b2,c2,f,w,r,n',m',h1,h2,hD⟩,he⟩;subst hR;refine z_W ?_;clear hD;refine AR (λvs R' D'=>R' = R2∧OpB b b1 rb v m 16 F D'∧vs = [Pt rb,Pt b1,Pt b]) (λK hK=>?_) ?_
 ·refine jpk hb ⟨ω,ω⟩ λy _ _=>jeq (jif (λ_=>js rfl rfl (Z0 rfl) rfl ?_) (λ_=>?_))<;>refine jk3 (F:=F) b b1 rb ?_
  ·exact hK _ _ _ ⟨rfl,⟨_,_,_,_,_,_,_,_,_,ω,ω,rfl⟩,rfl⟩
  ·exact hK _ _ _ ⟨rfl,⟨_,_,_,_,_,_,_,_,_,ω,ω,rfl⟩,rfl⟩
 clear h1 h2 m';rintro e R3 D3 ⟨hR,⟨k,a,b2,c2,f,w,r,n',m',h1,h2,hD⟩,he⟩;subst hR;refine z_W ?_;clear hD;refine AR (λvs R' D'=>R' = R3∧OpB b b1 rb v m 20 F D'∧vs = [Pt b1,Pt b]) (λK hK=>?_) ?_
 ·refine jpk hb ⟨ω,ω⟩ λy _ _=>?_
  refine AR (λvs R' D'=>R' = R3∧OpB b b1 rb v m 20 F D'∧vs = [Pt b1,Pt b]) (λK2 hK2=>?_) ?_;rotate_left
  ·rintro e R4 D4 ⟨hR,hD,he⟩;refine z_V ?_;exact hK _ _ _ ⟨hR,hD,rfl⟩
  refine jeq (jif (λ_=>?_) (λ_=>jeq (jif (λ_=>?_) (λ_=>jeq (jif (λ_=>?_) (λ_=>?_))))))
  ·refine jbs (cs:=[I 0,I 12,I (-1)]) rfl rfl λbt=>jpk hb ⟨ω,ω⟩ λy _ _=>jia ω ω (jl (BH [0,12,-1] ω (by show _ < (3:Int);omega)) ?_)
   refine js rfl rfl (Z0 rfl) rfl (jk3 (F:=F) b b1 rb ?_);exact hK2 _ _ _ ⟨rfl,⟨_,_,_,_,_,_,_,_,_,ω,ω,rfl⟩,rfl⟩
  ·refine jbs (cs:=[I (-1),I 8,I 1099511627776]) rfl rfl λbt=>jpk hb ⟨ω,ω⟩ λy _ _=>jia ω ω (jl (BH [-1,8,1099511627776] ω (by show _ < (3:Int);omega)) ?_)
   refine js rfl rfl (Z0 rfl) rfl (jk3 (F:=F) b b1 rb ?_);exact hK2 _ _ _ ⟨rfl,⟨_,_,_,_,_,_,_,_,_,ω,ω,rfl⟩,rfl⟩
  ·refine jbs (cs:=[I (-1),I 4,I 1099511627776]) rfl rfl λbt=>jpk hb ⟨ω,ω⟩ λy _ _=>jia ω ω (jl (BH [-1,4,1099511627776] ω (by show _ < (3:Int);omega)) ?_)
   refine js rfl rfl (Z0 rfl) rfl (jk3 (F:=F) b b1 rb ?_);exact hK2 _ _ _ ⟨rfl,⟨_,_,_,_,_,_,_,_,_,ω,ω,rfl⟩,rfl⟩
  ·refine jk3 (F:=F) b b1 rb ?_;exact hK2 _ _ _ ⟨rfl,⟨_,_,_,_,_,_,_,_,_,ω,ω,rfl⟩,rfl⟩
 clear h1 h2 m';rintro e R4 D4 ⟨hR,⟨k,a,b2,c2,f,w,r,n',m',h1,h2,hD⟩,he⟩;subst hR;refine z_W ?_;clear hD;refine jla (l:=[I k,I a,I b2,I c2,I f,I w,I r,I n']) (by exact z_n 8) rfl ?_;refine js rfl rfl (Z0 rfl) rfl ?_;refine jla (l:=[I k,I a,I b2,I c2,I f,I w,I r,I n']) (by exact z_n 8) rfl ?_;exact Eo m' (RM.le.refl _) ⟨rfl,⟨k,a,b2,c2,f,w,⟨r,n'⟩⟩,rfl,h1.2⟩ ω ω
end draws
theorem VP {R:RM} {D D1 A E:Chs} {t w by_ b m cx:Nat} {rows:List (List Value)} {cs:List Value} {v:Value} {zs:List Value} {k:Value→M} (rows2:List (List Value)) (so:SW t w rows v A) [tk:Tk D b (C t cs) D1] [sp:Sp D1 A E] (hcs:cs = rows2.flatten)
  (hw:∀r∈rows,r.length = w) (hw2:∀r∈rows2,r.length = w) (hz:zs.length = w) (hf:Br rows2.flatten = true) (hm:m = rows2.length) (hb:by_≠0) (hl:by_ * (2 * (rows.length + rows2.length) + 200)≤2 ^ 48)
  (H:∀v' A',SW t w (rows ++ rows2) v' A'→J R (A' ++ E) (k v')):J R D (AP t w by_ zs v (S0 b m cx) k):=by
 subst hcs;intro h hs;have h1:=(hs.perm tk.p).perm ((sp.p.cons _).trans ZH.symm);refine jaw (E:=(b,C t rows2.flatten) :: E) so hw hw2 hz hf hm hb hl ?_ (λv' A' so'=>BI ZH (Bn (H v' A' so'))) h h1;have:=BY.held (R:=R) (D:=A ++ (b,C t rows2.flatten) :: E) (b:=b) (o:=0) (n:=m * w) (t:=t) (cs:=rows2.flatten) (a:=inferInstance) (by rw[Bw hw2,hm];omega);rw[Zr,Ys (by rw[Bw hw2,hm];omega)] at this;exact this
theorem N6 {l:List Sm.Op}:∀r∈l.map eOp,r.length = 8:=by
 intro r hr;obtain⟨x,_,rfl⟩:=ZK.1 hr;rfl
theorem WS {R:RM} {A E:Chs} {l:List Sm.Op} {v:Value} {m:M} (so:SW 183 8 (l.map eOp) v A) (H:∀R',R.le R'→Ops R' v l→J R' E m):J R (A ++ E) m:=by
 refine jfw so N6 λR' hR hfz=>H R' hR ?_
 rw[Z1] at hfz;exact hfz
def Vs (l:List Sm.Op):Prop:=∀o∈l,Rn o.v
theorem Vs.app {l l' : List Sm.Op} (h:Vs l) (h' : Vs l'):Vs (l ++ l'):=λo ho=>(ZB.1 ho).elim (h o) (h' o)
theorem Vs.nil:Vs []:=λo ho=>by cases ho
theorem Vs.one {o:Sm.Op} (h:Rn o.v):Vs [o]:=λx hx=>by rw[Z8.1 hx];exact h
def OpP (b rb:Nat) (v:Value) (m c:Int) (F D:Chs):Prop:=∃k a b2 c2 f w r n m',(m≤m'∧-9223372036854775808≤w∧w < 9223372036854775808)∧m'≤m + c∧D = (b,C 183 [I k,I a,I b2,I c2,I f,I w,I r,I n]) :: (rb,rdO v m') :: F
section draws
variable {R:RM} {rb:Nat} {v:Value} {m:Int}
theorem SR {n:Nat} (hn:n≤1000) (hb:Byt R v) (hm:0≤m∧m < 300000000):Dr JG [Pt rb,I n] R rb v m (50 * n) (λx R'=>∃l:List Sm.Op,(l.length = n∧Vs l)∧Ops R' x l):=by
 refine OY λF=>?_
 refine z_2 ?_;refine AR (λvs R' D'=>R' = R∧∃(l:List Sm.Op) (ov:Value) (A:Chs) (m' : Int),(l.length = n∧Vs l)∧SW 183 8 (l.map eOp) ov A∧m≤m'∧m'≤m + 50 * n∧D' = A ++ (rb,rdO v m') :: F∧vs = [ov]) (λK hK=>?_) ?_;rotate_left
 ·rintro e R1 D1 ⟨hR,l,ov,A,m',hl,so,h1,h2,hD,he⟩;subst hR;refine z_W ?_;clear hD;exact WS so λR2 hR2 ho=>Eo m' hR2 ⟨l,hl,ho⟩ h1 h2
 refine AR (λvs R' D'=>R' = R∧∃(l:List Sm.Op) (ov:Value) (A:Chs) (m' : Int),(l.length = n∧Vs l)∧SW 183 8 (l.map eOp) ov A∧m≤m'∧m'≤m + 50 * n∧D' = A ++ (rb,rdO v m') :: F∧vs = [ov]) (λK2 hK2=>?_) ?_;rotate_left
 ·rintro e R1 D1 ⟨hR,l,ov,A,m',hl,so,h1,h2,hD,he⟩;refine z_V ?_;exact hK _ _ _ ⟨hR,l,ov,A,m',hl,so,h1,h2,hD,rfl⟩
 refine jlp (λmm vs R' D'=>R' = R∧∃(i:Nat) (r:Int) (l:List Sm.Op) (ov:Value) (A:Chs) (m' : Int),i≤n∧(l.length = i∧Vs l)∧0≤r∧r≤i + 1∧SW 183 8 (l.map eOp) ov A∧m≤m'∧m'≤m + 50 * i∧D' = A ++ (rb,rdO v m') :: F∧vs = [Pt rb,I n,ov,I r,I i]∧mm = n - i)
  (n:=n) ⟨rfl,0,1,[],SN,[],m,ω,⟨rfl,Vs.nil⟩,ω,ω,.inl ⟨rfl,rfl,rfl⟩,ω,ω,rfl,rfl,ω⟩ ?_
 rintro mm e R1 D1 K3 ⟨hR,i,r,l,ov,A,m',hi,⟨hl,hvs⟩,r0,r1,so,h1,h2,hD,he,hmm⟩ hK3;subst hR;refine z_W ?_;clear hD;refine jlt (jif (λhc=>?_) (λhc=>?_));rotate_left
 ·have hc:=z_g hc;have:i = n:=ω
  subst this;exact hK2 _ _ _ ⟨rfl,l,ov,A,m',⟨hl,hvs⟩,so,h1,h2,rfl,rfl⟩
 have hc:i < n:=by have:=z_f hc;omega
 refine jdr (VR (n:=r) ⟨r0,ω⟩ hb ⟨ω,ω⟩) ?_;rintro _ R2 m2 - ⟨hR2,o,rfl,hov⟩ h3 h4;subst hR2;unfold Rn at hov;refine ja λb=>jS (eOp o) ?_
 refine AR (λvs R' D'=>R' = R2∧OpP b rb v m2 4 (A ++ F) D'∧vs = [Pt rb,I n,ov,I r,I i,Pt b]) (λK4 hK4=>?_) ?_
 ·refine AR (λvs R' D'=>R' = R2∧OpP b rb v m2 0 (A ++ F) D'∧∃c u w,GY c u w∧vs = [Pt rb,I n,ov,I r,I i,Pt b,c,u]) (λK5 hK5=>?_) ?_
  ·refine jle (Bt (λh=>jl (v:=I o.kind) rfl (jeq ?_)) (λh=>?_))
   ·exact hK5 _ _ _ ⟨rfl,⟨_,_,_,_,_,_,_,_,_,ω,ω,rfl⟩,_,_,_,h▸Ax,rfl⟩
   ·exact hK5 _ _ _ ⟨rfl,⟨_,_,_,_,_,_,_,_,_,ω,ω,rfl⟩,_,_,_,h▸BB,rfl⟩
  rintro e Rx Dx ⟨hR,⟨k,a,b2,c2,f,w,r',n',m3,h5,h6,hD⟩,c,u,w',ho,he⟩;subst hR;refine z_W ?_;clear hD;refine AR (λvs R' D'=>R' = Rx∧OpP b rb v m2 1 (A ++ F) D'∧∃c u w,GY c u w∧vs = [Pt rb,I n,ov,I r,I i,Pt b,c,u]) (λK5 hK5=>?_) ?_
  ·rw[ho];refine Bt (λh=>jpk hb ⟨ω,ω⟩ λy _ _=>jgr ?_) (λh=>?_)<;>refine jk2 (F:=A ++ F) b rb ?_
   ·exact hK5 _ _ _ ⟨rfl,⟨_,_,_,_,_,_,_,_,_,ω,ω,rfl⟩,_,_,_,h▸Ax,rfl⟩
   ·exact hK5 _ _ _ ⟨rfl,⟨_,_,_,_,_,_,_,_,_,ω,ω,rfl⟩,_,_,_,h▸BB,rfl⟩
  clear h5 h6 m3 ho;rintro e Ry Dy ⟨hR,⟨k,a,b2,c2,f,w,r',n',m3,h5,h6,hD⟩,c,u,w',ho,he⟩;subst hR;refine z_W ?_;clear hD;rw[ho];refine jif (λh=>?_) (λh=>?_)
  ·refine jdr (L8 hb ⟨ω,ω⟩) ?_;rintro _ R3 m4 - ⟨hR3,sh,rfl⟩ h7 h8;subst hR3;refine jbd (cs:=[I 1,I 0,I 0,I 0,I 0,I 0,I sh.refs,I sh.nums]) rfl rfl ?_;refine jS [I 1,I 0,I 0,I 0,I 0,I 0,I sh.refs,I sh.nums] ?_;refine jk2 (F:=A ++ F) b rb ?_;exact hK4 _ _ _ ⟨rfl,⟨_,_,_,_,_,_,_,_,_,ω,ω,rfl⟩,rfl⟩
  ·exact hK4 _ _ _ ⟨rfl,⟨_,_,_,_,_,_,_,_,_,ω,ω,rfl⟩,rfl⟩
 rintro e Rx Dx ⟨hR,⟨k,a,b2,c2,f,w,r',n',m3,h5,h6,hD⟩,he⟩;subst hR;refine z_W ?_;clear hD;refine AR (λvs R' D'=>R' = Rx∧OpP b rb v m2 4 (A ++ F) D'∧vs = [Pt rb,I n,ov,I r,I i,Pt b]) (λK4 hK4=>?_) ?_
 ·refine AR (λvs R' D'=>R' = Rx∧OpP b rb v m2 4 (A ++ F) D'∧∃c u w,GY c u w∧vs = [Pt rb,I n,ov,I r,I i,Pt b,c,u]) (λK5 hK5=>?_) ?_
  ·refine jge (Bt (λh=>?_) (λh=>?_))
   ·have hu:∀w' : Bool,J Rx ((b,C 183 [I k,I a,I b2,I c2,I f,I w,I r',I n']) :: (rb,rdO v m3) :: (A ++ F)) (K5 [Pt rb,I n,ov,I r,I i,Pt b,.bool (decide (r≥7)),.bool w']):=λw'=>
     hK5 _ _ _ ⟨rfl,⟨_,_,_,_,_,_,_,_,_,ω,ω,rfl⟩,_,_,_,h▸Ax,rfl⟩
    refine jl (v:=I k) rfl (jeq (BR (λh2=>?_) (λh2=>?_)))<;>rw[h2]
    ·refine jl (v:=I k) rfl (jeq (EI (BR (λh3=>?_) (λh3=>?_))))<;>rw[h3]
     ·exact jl (v:=I k) rfl (jeq (EI (hu _)))
     ·exact EA (hu _)
    ·exact EA (jtf (EA (hu _)))
   ·exact hK5 _ _ _ ⟨rfl,⟨_,_,_,_,_,_,_,_,_,ω,ω,rfl⟩,_,_,_,h▸BB,rfl⟩
  clear h5 h6 m3;rintro e Ry Dy ⟨hR,⟨k,a,b2,c2,f,w,r',n',m3,h5,h6,hD⟩,c,u,w',ho,he⟩;subst hR;refine z_W ?_;clear hD;rw[ho];refine jif (λh=>?_) (λh=>?_)
  ·refine jbd (cs:=[I 8,I 0,I 0,I 0,I 0,I 0,I 0,I 0]) rfl rfl ?_;refine jS [I 8,I 0,I 0,I 0,I 0,I 0,I 0,I 0] ?_;exact hK4 _ _ _ ⟨rfl,⟨_,_,_,_,_,_,_,_,_,ω,ω,rfl⟩,rfl⟩
  ·exact hK4 _ _ _ ⟨rfl,⟨_,_,_,_,_,_,_,_,_,ω,ω,rfl⟩,rfl⟩
 clear h5 h6 m3;rintro e Ry Dy ⟨hR,⟨k,a,b2,c2,f,w,r',n',m3,h5,h6,hD⟩,he⟩;subst hR;refine z_W ?_;clear hD;refine AR (λvs R' D'=>R' = Ry∧D' = (b,C 183 [I k,I a,I b2,I c2,I f,I w,I r',I n']) :: (rb,rdO v m3) :: (A ++ F)∧∃r2:Int,0≤r2∧r2≤r + 1∧vs = [Pt rb,I n,ov,I r2,I i,Pt b]) (λK6 hK6=>?_) ?_
 ·refine jl (v:=I k) rfl ?_;refine AR (λvs R' D'=>R' = Ry∧D' = (b,C 183 [I k,I a,I b2,I c2,I f,I w,I r',I n']) :: (rb,rdO v m3) :: (A ++ F)∧∃r2:Int,0≤r2∧r2≤r + 1∧vs = [Pt rb,I n,ov,I r2,I i,Pt b]) (λK7 hK7=>?_) ?_;rotate_left
  ·rintro e Rz Dz ⟨hR,hD,r2,q0,q1,he⟩;refine z_V ?_;exact hK6 _ _ _ ⟨hR,hD,r2,q0,q1,rfl⟩
  refine AR (λvs R' D'=>R' = Ry∧D' = (b,C 183 [I k,I a,I b2,I c2,I f,I w,I r',I n']) :: (rb,rdO v m3) :: (A ++ F)∧∃w' : Bool,vs = [Pt rb,I n,ov,I r,I i,Pt b,I k,.bool w']) (λK8 hK8=>?_) ?_
  ·refine jeq (jif (λh=>?_) (λh=>jeq (jif (λh=>?_) (λh=>jeq ?_))))<;>exact hK8 _ _ _ ⟨rfl,rfl,_,rfl⟩
  rintro e Rz Dz ⟨hR,hD,w',he⟩;subst hR;refine z_W ?_;clear hD;refine jif (λh=>jad ?_) (λh=>jeq (jif (λh=>jgr (jif (λh=>jsu ?_) (λh=>?_))) (λh=>?_)))
  ·exact hK7 _ _ _ ⟨rfl,rfl,r + 1,ω,ω,rfl⟩
  ·have h:=z_f h;exact hK7 _ _ _ ⟨rfl,rfl,r - 1,ω,ω,rfl⟩
  ·exact hK7 _ _ _ ⟨rfl,rfl,r,ω,ω,rfl⟩
  ·exact hK7 _ _ _ ⟨rfl,rfl,r,ω,ω,rfl⟩
 rintro e Rz Dz ⟨hR,hD,r2,q0,q1,he⟩;subst hR;refine z_W ?_;clear hD;refine jla (l:=[I k,I a,I b2,I c2,I f,I w,I r',I n']) (by exact z_n 8) rfl ?_;refine jbs (cs:=[I k,I a,I b2,I c2,I f,I w,I r',I n']) rfl rfl λbs=>?_
 refine VP [eOp ⟨k,a,b2,c2,f,w,⟨r',n'⟩⟩] so rfl N6 (λq hq=>by rw[Z8.1 hq];rfl) rfl rfl rfl δ (by rw[Z1,Z7];omega) λv' A' so'=>?_
 refine jad ?_;refine Aw A' (G:=(rb,rdO v m3) :: F) ?_;exact hK3 (n - (i + 1)) _ _ _ ω ⟨rfl,i + 1,r2,l ++ [⟨k,a,b2,c2,f,w,⟨r',n'⟩⟩],v',A',m3,ω,⟨by rw[Yk,hl];rfl,hvs.app (Vs.one (by exact h5.2))⟩,q0,ω,by rw[Zf];exact so',ω,ω,rfl,rfl,rfl⟩
end draws
theorem EY.le {R R' : RM} {v:Value} {l:List (List Sm.Op)} (h:R.le R') (H:EY R v l):EY R' v l:=by
 obtain⟨vs,h1,h2,h3⟩:=H;exact⟨vs,h1.le h,h2,λi hi=>by obtain⟨x,hx,ho⟩:=h3 i hi;exact⟨x,hx,ho.le h⟩⟩
def PrW (R:RM) (rows:List (List Value)) (l:List (List Sm.Op)):Prop:=Rw (λrow p=>∃x,row = [x]∧Ops R x p) rows l
theorem PrW.len {R:RM} {rows:List (List Value)} {l:List (List Sm.Op)} (h:PrW R rows l):∀r∈rows,r.length = 1:=h.all λ_ _ ⟨_,hx,_⟩=>by rw[hx];rfl
theorem PrW.le {R R' : RM} {rows:List (List Value)} {l:List (List Sm.Op)} (hr:R.le R') (h:PrW R rows l):PrW R' rows l:=h.mono λ_ _ ⟨x,h1,h2⟩=>⟨x,h1,h2.le hr⟩
theorem WB:∀{rows:List (List Value)} (_:∀r∈rows,r.length = 1) (i:Nat) (h:i < rows.length),rows.flatten[i]? = (rows[i])[0]?
 | [],_,i,h=>absurd h σ
 | a :: r,hw,i,h=>by
  have ha:a.length = 1:=hw a σ;rw[Zz];cases i with
  | zero=>rw[Zg ω];rfl
  | succ i=>rw[Zy ω,ha,Nat.add_sub_cancel,WB (λx hx=>hw x (by simp[hx])) i (by simpa using h)];rfl
theorem Tl {R:RM} {A E:Chs} {t:Nat} {rows:List (List Value)} {l:List (List Sm.Op)} {v:Value} {m:M} (so:SW t 1 rows v A) (hp:PrW R rows l) (H:∀R',R.le R'→EY R' v l→J R' E m):J R (A ++ E) m:=by
 refine jfw so hp.len λR' hR hfz=>H R' hR ⟨rows.flatten,?_,?_,λi hi=>?_⟩
 ·rw[← hp.1];exact hfz
 ·rw[Bw hp.len,hp.1];omega
 ·have hi' : i < rows.length:=by rw[hp.1];exact hi
  obtain⟨x,h1,h2⟩:=hp.2 i hi' hi;exact⟨x,by rw[WB hp.len i hi',h1];rfl,h2.le hR⟩
theorem Oe:∀(q:List Sm.Op) (u:Nat),(Ac eOp q).take (u * 8) = Ac eOp (q.take u)
 | [],u=>by simp[Ac]
 | x :: r,0=>by simp[Ac]
 | x :: r,u + 1=>by
  have:=Oe r u;unfold Ac at this ⊢;rw[List.take_succ_cons,ZX,ZX,Zz,Zz,List.take_append,Ys (by show 8≤_;omega),← this];congr 2;show (u + 1) * 8 - 8 = _;omega
section draws
variable {R:RM} {rb:Nat} {v:Value} {m:Int}
theorem QI {n:Nat} (hn:n≤39) (hb:Byt R v) (hm:0≤m∧m < 300000000):Dr ID [Pt rb,I n] R rb v m 1000 (λx R'=>∃l:List Sm.Op,(l.length≤40∧Vs l)∧Ops R' x l):=by
 refine NS λF=>?_
 refine z_2 ?_;have fin:∀(l:List Sm.Op) (ov:Value) (A:Chs) (m' : Int),l.length≤40∧Vs l→SW 183 8 (l.map eOp) ov A→m≤m'→m'≤m + 1000→J R (A ++ (rb,rdO v m') :: F) (Ey R F (λx R' A=>R.le R'∧(∃l:List Sm.Op,(l.length≤40∧Vs l)∧Ops R' x l)∧∃m',m≤m'∧m'≤m + 1000∧A = [(rb,rdO v m')]) ov):=λl ov A m' hl so h1 h2=>
  WS so λR2 hR2 ho=>Eo m' hR2 ⟨l,hl,ho⟩ h1 h2
 refine AR (λvs R' D'=>R' = R∧∃(l:List Sm.Op) (ov:Value) (A:Chs) (m' : Int),(l.length≤40∧Vs l)∧SW 183 8 (l.map eOp) ov A∧m≤m'∧m'≤m + 1000∧D' = A ++ (rb,rdO v m') :: F∧vs = [ov]) (λK hK=>?_) ?_;rotate_left
 ·rintro e R1 D1 ⟨hR,l,ov,A,m',hl,so,h1,h2,hD,he⟩;subst hR;refine z_W ?_;exact fin l ov A m' hl so h1 h2
 refine AR (λvs R' D'=>R' = R∧∃(l:List Sm.Op) (ov:Value) (A:Chs) (m' : Int),(l.length≤40∧Vs l)∧SW 183 8 (l.map eOp) ov A∧m≤m'∧m'≤m + 1000∧D' = A ++ (rb,rdO v m') :: F∧vs = [ov]) (λK2 hK2=>?_) ?_;rotate_left
 ·rintro e R1 D1 ⟨hR,l,ov,A,m',hl,so,h1,h2,hD,he⟩;refine z_V ?_;exact hK _ _ _ ⟨hR,l,ov,A,m',hl,so,h1,h2,hD,rfl⟩
 refine jlp (λmm vs R' D'=>R' = R∧∃(l:List Sm.Op) (ov:Value) (A:Chs) (m' : Int),(l.length≤40∧Vs l)∧SW 183 8 (l.map eOp) ov A∧m≤m'∧m'≤m + 10 * l.length∧D' = A ++ (rb,rdO v m') :: F∧vs = [Pt rb,I n,ov]∧mm = 40 - l.length)
  (n:=40) ⟨rfl,[],SN,[],m,⟨δ,Vs.nil⟩,.inl ⟨rfl,rfl,rfl⟩,ω,σ,rfl,rfl,rfl⟩ ?_
 rintro mm e R1 D1 K3 ⟨hR,l,ov,A,m',⟨hl,hv⟩,so,h1,h2,hD,he,hmm⟩ hK3;subst hR;refine z_W ?_;have hsl:=so.sl;rw[Z1] at hsl;refine C4 hsl (jad (jlt (jif (λhc=>?_) (λhc=>?_))));rotate_left
 ·exact hK2 _ _ _ ⟨rfl,l,ov,A,m',⟨hl,hv⟩,so,h1,ω,rfl,rfl⟩
 have hc:=z_f hc;have hl32:l.length≤32:=ω
 refine jpk hb ⟨ω,ω⟩ λy1 _ _=>jad (jpk hb ⟨ω,ω⟩ λy2 _ _=>?_)
 refine jbd (cs:=[I (1 + y1),I y2]) rfl rfl (jbd (cs:=[I 1,I 0,I 0,I 0,I 0,I 0,I (1 + y1),I y2]) rfl rfl ?_);refine jbs (cs:=[I 1,I 0,I 0,I 0,I 0,I 0,I (1 + y1),I y2]) rfl rfl λbs=>?_
 have app:∀{D:Chs} {b cx:Nat} {cs:List Value} {l1:List Sm.Op} {ov1:Value} {A1 E D1:Chs} {k:Value→M} (l2:List Sm.Op),SW 183 8 (l1.map eOp) ov1 A1→Tk D b (C 183 cs) D1→Sp D1 A1 E→cs = (l2.map eOp).flatten→l1.length + l2.length≤40→
   (∀ov2 A2,SW 183 8 ((l1 ++ l2).map eOp) ov2 A2→J R1 (A2 ++ E) (k ov2))→J R1 D (AP 183 8 64 (cl z183) ov1 (S0 b l2.length cx) k):=λ{D b cx cs l1 ov1 A1 E D1 k} l2 so1 tk sp hcs hlen H=>by
  refine VP (tk:=tk) (sp:=sp) (l2.map eOp) so1 hcs N6 N6 rfl (Om λr hr=>?_) (by rw[Z1]) δ (by rw[Z1,Z1];omega) λv' A' so'=>H v' A' (by rw[Zf];exact so')
  obtain⟨x,_,rfl⟩:=ZK.1 hr;rfl
 refine app [⟨1,0,0,0,0,0,⟨1 + y1,y2⟩⟩] so inferInstance inferInstance rfl (by rw[Z7];omega) λov1 A1 so1=>?_
 generalize hl1:l ++ [(⟨1,0,0,0,0,0,⟨1 + y1,y2⟩⟩:Sm.Op)] = l1 at so1;have hv1:Vs l1:=hl1▸hv.app (Vs.one (by exact Rn.zero));have hl1l:l1.length = l.length + 1:=by rw[← hl1];simp
 have hsl1:=so1.sl;rw[Z1] at hsl1;refine AR (λvs R' D'=>R' = R1∧∃(l2:List Sm.Op) (ov:Value) (A:Chs) (m2:Int),l.length < l2.length∧l2.length≤l.length + 7∧(l2.length≤39∧Vs l2)∧SW 183 8 (l2.map eOp) ov A∧m'≤m2∧m2≤m' + 6∧D' = A ++ (rb,rdO v m2) :: F∧vs = [Pt rb,I n,ov]) (λK4 hK4=>?_) ?_
 ·refine jpk hb ⟨ω,ω⟩ λy3 _ _=>?_
  refine AR (λvs R' D'=>R' = R1∧∃(l2:List Sm.Op) (ov:Value) (A:Chs) (m2:Int),l.length < l2.length∧l2.length≤l.length + 7∧(l2.length≤39∧Vs l2)∧SW 183 8 (l2.map eOp) ov A∧m'≤m2∧m2≤m' + 6∧D' = A ++ (rb,rdO v m2) :: F∧vs = [Pt rb,I n,ov]) (λK5 hK5=>?_) ?_;rotate_left
  ·rintro e Rx Dx ⟨hR,l2,ov,A,m2,q1,q2,q3,so2,q4,q5,hD,he⟩;refine z_V ?_;exact hK4 _ _ _ ⟨hR,l2,ov,A,m2,q1,q2,q3,so2,q4,q5,hD,rfl⟩
  refine jeq (jif (λ_=>?_) (λ_=>jeq (jif (λ_=>?_) (λ_=>jeq (jif (λ_=>?_) (λ_=>jeq (jif (λ_=>?_) (λ_=>jeq (jif (λ_=>?_) (λ_=>?_))))))))))
  ·refine jbd (cs:=[I 10,I 1,I 0,I 0,I 0,I 0,I 0,I 0]) rfl rfl (jbd (cs:=[I 3,I 1,I 0,I 0,I 0,I 0,I 0,I 0]) rfl rfl (jbd (cs:=[I 5,I 1,I 0,I 0,I 0,I 0,I 0,I 0]) rfl rfl (jbd (cs:=[I 11,I 1,I 0,I 0,I 0,I 0,I 0,I 0]) rfl rfl ?_)));refine jbs (cs:=(([⟨10,1,0,0,0,0,⟨0,0⟩⟩,⟨3,1,0,0,0,0,⟨0,0⟩⟩,⟨5,1,0,0,0,0,⟨0,0⟩⟩,⟨11,1,0,0,0,0,⟨0,0⟩⟩]:List Sm.Op).map eOp).flatten) rfl rfl λbt=>?_
   refine app [⟨10,1,0,0,0,0,⟨0,0⟩⟩,⟨3,1,0,0,0,0,⟨0,0⟩⟩,⟨5,1,0,0,0,0,⟨0,0⟩⟩,⟨11,1,0,0,0,0,⟨0,0⟩⟩] so1 inferInstance inferInstance rfl (by simp;omega) λov2 A2 so2=>?_
   exact hK5 _ _ _ ⟨rfl,_,ov2,A2,_,by simp;omega,by simp;omega,⟨by simp;omega,hv1.app (by simp[Vs,Rn]<;>omega)⟩,so2,ω,ω,rfl,rfl⟩
  ·refine jpk hb ⟨ω,ω⟩ λz1 _ _=>jbd (cs:=[I 3,I 0,I 1,I 0,I z1,I 0,I 0,I 0]) rfl rfl ?_
   refine jbs (cs:=[I 3,I 0,I 1,I 0,I z1,I 0,I 0,I 0]) rfl rfl λbt=>?_
   refine app [⟨3,0,1,0,z1,0,⟨0,0⟩⟩] so1 inferInstance inferInstance rfl (by simp;omega) λov2 A2 so2=>?_
   exact hK5 _ _ _ ⟨rfl,_,ov2,A2,_,by simp;omega,by simp;omega,⟨by simp;omega,hv1.app (by simp[Vs,Rn]<;>omega)⟩,so2,ω,ω,rfl,rfl⟩
  ·refine jpk hb ⟨ω,ω⟩ λz1 _ _=>jbd (cs:=[I 2,I 0,I 0,I 0,I z1,I 0,I 0,I 0]) rfl rfl (jbd (cs:=[I 3,I 1,I 2,I 0,I 0,I 0,I 0,I 0]) rfl rfl (jpk hb ⟨ω,ω⟩ λz2 _ _=>jbd (cs:=[I 3,I 0,I 1,I 0,I z2,I 0,I 0,I 0]) rfl rfl (jbd (cs:=[I 8,I 0,I 0,I 0,I 0,I 0,I 0,I 0]) rfl rfl ?_)))
   refine jbs (cs:=(([⟨2,0,0,0,z1,0,⟨0,0⟩⟩,⟨3,1,2,0,0,0,⟨0,0⟩⟩,⟨3,0,1,0,z2,0,⟨0,0⟩⟩,⟨8,0,0,0,0,0,⟨0,0⟩⟩]:List Sm.Op).map eOp).flatten) rfl rfl λbt=>?_
   refine app [⟨2,0,0,0,z1,0,⟨0,0⟩⟩,⟨3,1,2,0,0,0,⟨0,0⟩⟩,⟨3,0,1,0,z2,0,⟨0,0⟩⟩,⟨8,0,0,0,0,0,⟨0,0⟩⟩] so1 inferInstance inferInstance rfl (by simp;omega) λov2 A2 so2=>?_
   exact hK5 _ _ _ ⟨rfl,_,ov2,A2,_,by simp;omega,by simp;omega,⟨by simp;omega,hv1.app (by simp[Vs,Rn]<;>omega)⟩,so2,ω,ω,rfl,rfl⟩
  ·refine jpk hb ⟨ω,ω⟩ λz1 _ _=>jbd (cs:=[I 2,I 0,I 0,I 0,I z1,I 0,I 0,I 0]) rfl rfl (jbd (cs:=[I 7,I 0,I 2,I 1,I z1,I 0,I 0,I 0]) rfl rfl (jbd (cs:=[I 6,I 1,I 2,I 0,I 0,I 0,I 0,I 0]) rfl rfl (jbd (cs:=[I 8,I 0,I 0,I 0,I 0,I 0,I 0,I 0]) rfl rfl ?_)))
   refine jbs (cs:=(([⟨2,0,0,0,z1,0,⟨0,0⟩⟩,⟨7,0,2,1,z1,0,⟨0,0⟩⟩,⟨6,1,2,0,0,0,⟨0,0⟩⟩,⟨8,0,0,0,0,0,⟨0,0⟩⟩]:List Sm.Op).map eOp).flatten) rfl rfl λbt=>?_
   refine app [⟨2,0,0,0,z1,0,⟨0,0⟩⟩,⟨7,0,2,1,z1,0,⟨0,0⟩⟩,⟨6,1,2,0,0,0,⟨0,0⟩⟩,⟨8,0,0,0,0,0,⟨0,0⟩⟩] so1 inferInstance inferInstance rfl (by simp;omega) λov2 A2 so2=>?_
   exact hK5 _ _ _ ⟨rfl,_,ov2,A2,_,by simp;omega,by simp;omega,⟨by simp;omega,hv1.app (by simp[Vs,Rn]<;>omega)⟩,so2,ω,ω,rfl,rfl⟩
  ·refine jpk hb ⟨ω,ω⟩ λz1 _ _=>jbd (cs:=[I 2,I 0,I 0,I 0,I z1,I 0,I 0,I 0]) rfl rfl (jpk hb ⟨ω,ω⟩ λz2 _ _=>jbd (cs:=[I 4,I 2,I 0,I 0,I 0,I z2,I 0,I 0]) rfl rfl (jbd (cs:=[I 5,I 2,I 0,I 0,I 0,I 0,I 0,I 0]) rfl rfl (jbd (cs:=[I 2,I 2,I 0,I 0,I 0,I 0,I 0,I 0]) rfl rfl (jbd (cs:=[I 8,I 0,I 0,I 0,I 0,I 0,I 0,I 0]) rfl rfl (jbd (cs:=[I 8,I 0,I 0,I 0,I 0,I 0,I 0,I 0]) rfl rfl ?_)))))
   refine jbs (cs:=(([⟨2,0,0,0,z1,0,⟨0,0⟩⟩,⟨4,2,0,0,0,z2,⟨0,0⟩⟩,⟨5,2,0,0,0,0,⟨0,0⟩⟩,⟨2,2,0,0,0,0,⟨0,0⟩⟩,⟨8,0,0,0,0,0,⟨0,0⟩⟩,⟨8,0,0,0,0,0,⟨0,0⟩⟩]:List Sm.Op).map eOp).flatten) rfl rfl λbt=>?_
   refine app [⟨2,0,0,0,z1,0,⟨0,0⟩⟩,⟨4,2,0,0,0,z2,⟨0,0⟩⟩,⟨5,2,0,0,0,0,⟨0,0⟩⟩,⟨2,2,0,0,0,0,⟨0,0⟩⟩,⟨8,0,0,0,0,0,⟨0,0⟩⟩,⟨8,0,0,0,0,0,⟨0,0⟩⟩] so1 inferInstance inferInstance rfl (by simp;omega) λov2 A2 so2=>?_
   obtain⟨l3,hl3,so3⟩:∃l3:List Sm.Op,(l3.length = l1.length + 6∧Vs l3)∧SW 183 8 (l3.map eOp) ov2 A2:=⟨_,⟨σ,hv1.app (by simp[Vs,Rn]<;>omega)⟩,so2⟩;obtain⟨hl3,hv3⟩:=hl3;have hsl2:=so3.sl;rw[Z1] at hsl2;refine C4 hsl2 (jgr (jif (λhg=>?_) (λhg=>?_)))
   ·have hg:=z_f hg;refine WS so3 λR2 hR2 ho=>YO ho δ ω λv' hv'=>Eo _ hR2 ⟨l3.take 38,⟨by rw[Z5];omega,λo ho=>hv3 o (ZO ho)⟩,?_⟩ ω ω
    unfold Ops;rw[Z5,Nat.min_eq_left ω,← Oe];exact hv'
   ·have hg:=z_g hg;exact hK5 _ _ _ ⟨rfl,l3,ov2,A2,_,ω,ω,⟨ω,hv3⟩,so3,ω,ω,rfl,rfl⟩
  ·refine Aw A1 (G:=(rb,rdO v (m' + 1 + 1 + 1)) :: F) ?_;exact hK5 _ _ _ ⟨rfl,l1,ov1,A1,_,ω,ω,⟨ω,hv1⟩,so1,ω,ω,rfl,rfl⟩
 rintro e Rx Dx ⟨hR,l2,ov,A,m2,q1,q2,⟨q3,hv2⟩,so2,q4,q5,hD,he⟩;subst hR;refine z_W ?_;refine jbd (cs:=[I 8,I 0,I 0,I 0,I 0,I 0,I 0,I 0]) rfl rfl (jbs (cs:=[I 8,I 0,I 0,I 0,I 0,I 0,I 0,I 0]) rfl rfl λbt=>?_);refine app [⟨8,0,0,0,0,0,⟨0,0⟩⟩] so2 inferInstance inferInstance rfl (by simp;omega) λov2 A2 so3=>?_
 exact hK3 (40 - (l2.length + 1)) _ _ _ ω ⟨rfl,_,ov2,A2,_,⟨by simp;omega,hv2.app (Vs.one (by exact Rn.zero))⟩,so3,ω,by simp;omega,rfl,rfl,σ⟩
end draws
end Go.Lf
end
section
namespace Go.Lf
open Go Sm
@[reducible] def eCf (c:Cfg):List Value:=[I c.AB,I c.A6,I c.AS]
theorem SO.sln {l:List Int} {v:Value} {A:Chs} (h:SO l v A):∃a c,v = .slice a l.length c:=by
 rcases h with ⟨rfl,rfl,_⟩ | ⟨b,c,sp,_,_,rfl,_⟩<;>exact⟨_,_,rfl⟩
section draws
variable {R:RM} {rb:Nat} {v:Value} {m:Int}
theorem PE {c:Cfg} (hc:Bf c = true) (hb:Byt R v) (hm:0≤m∧m < 200000000):Dr Hk [Pt rb,.agg #[I c.AB,I c.A6,I c.AS]] R rb v m 10000 (λx R'=>∃l:List (List Sm.Op),(l.length:Int) = c.A6∧(∀p∈l,p.length≤40∧Vs p)∧EY R' x l):=by
 refine N5 λF=>?_
 refine z_2 ?_;simp only[Bf,z_b,z_d] at hc;obtain⟨n,hn⟩:∃n:Nat,c.A6 = n:=⟨c.A6.toNat,ω⟩;refine ja λb=>BI (D':=(rb,rdO v m) :: (b,C 33 (eCf c)) :: F) (aI _ _ _) ?_
 refine AR (λvs R' D'=>R.le R'∧∃(l:List (List Sm.Op)) (rows:List (List Value)) (ov:Value) (A:Chs) (m' : Int),l.length = n∧(∀p∈l,p.length≤40∧Vs p)∧PrW R' rows l∧SW 158 1 rows ov A∧m≤m'∧m'≤m + 10000∧D' = A ++ (rb,rdO v m') :: (b,C 33 (eCf c)) :: F∧vs = [ov]) (λK hK=>?_) ?_;rotate_left
 ·rintro e R1 D1 ⟨hR,l,rows,ov,A,m',hl,hp,hrw,so,h1,h2,hD,he⟩;refine z_W ?_;exact Tl so hrw λR2 hR2 ho=>Eo m' (hR.trans hR2) ⟨l,ω,hp,ho⟩ h1 h2
 refine AR (λvs R' D'=>R.le R'∧∃(l:List (List Sm.Op)) (rows:List (List Value)) (ov:Value) (A:Chs) (m' : Int),l.length = n∧(∀p∈l,p.length≤40∧Vs p)∧PrW R' rows l∧SW 158 1 rows ov A∧m≤m'∧m'≤m + 10000∧D' = A ++ (rb,rdO v m') :: (b,C 33 (eCf c)) :: F∧vs = [ov]) (λK2 hK2=>?_) ?_;rotate_left
 ·rintro e R1 D1 ⟨hR,l,rows,ov,A,m',hl,hp,hrw,so,h1,h2,hD,he⟩;refine z_V ?_;exact hK _ _ _ ⟨hR,l,rows,ov,A,m',hl,hp,hrw,so,h1,h2,hD,rfl⟩
 refine jlp (λmm vs R' D'=>R.le R'∧∃(i:Nat) (l:List (List Sm.Op)) (rows:List (List Value)) (ov:Value) (A:Chs) (m' : Int),i≤n∧l.length = i∧(∀p∈l,p.length≤40∧Vs p)∧PrW R' rows l∧SW 158 1 rows ov A∧m≤m'∧m'≤m + 3000 * i∧D' = A ++ (rb,rdO v m') :: (b,C 33 (eCf c)) :: F∧vs = [Pt rb,Pt b,ov,I i]∧mm = n - i)
  (n:=n) ⟨RM.le.refl R,0,[],[],SN,[],m,ω,rfl,(λp hp=>by cases hp),Rw.nil,.inl ⟨rfl,rfl,rfl⟩,ω,ω,rfl,rfl,ω⟩ ?_
 rintro mm e R1 D1 K3 ⟨hR,i,l,rows,ov,A,m',hi,hl,hp,hrw,so,h1,h2,hD,he,hmm⟩ hK3;refine z_W ?_;refine jl (v:=I c.A6) rfl (jlt (jif (λh=>?_) (λh=>?_)));rotate_left
 ·have h:=z_g h;exact hK2 _ _ _ ⟨hR,l,rows,ov,A,m',ω,hp,hrw,so,h1,ω,rfl,rfl⟩
 have h:=z_f h;refine jpk (hb.le hR) ⟨ω,ω⟩ λy _ _=>jad ?_
 obtain⟨k,hk⟩:∃k:Nat,4 + y = k:=⟨(4 + y).toNat,ω⟩;rw[hk];refine jdr (SR (n:=k) ω (hb.le hR) ⟨ω,ω⟩) ?_;rintro x R2 m2 hR2 ⟨q,⟨hq,hqv⟩,hops⟩ h3 h4;obtain⟨xa,xc,hx⟩:=Fz.sl hops;subst hx;refine jbs (cs:=[.slice xa q.length xc]) rfl rfl λbs=>?_
 have hrl:=hrw.1;refine VP [[.slice xa q.length xc]] so rfl hrw.len (λr hr=>by rw[Z8.1 hr];rfl) rfl rfl rfl δ (by rw[Z7];omega) λv' A' so'=>?_
 refine jad ?_;refine hK3 (n - (i + 1)) _ _ _ ω ⟨hR.trans hR2,i + 1,l ++ [q],_,v',A',m2,ω,by rw[Yk,hl];rfl,λp hp'=>?_,(hrw.le hR2).app (Rw.one ⟨_,rfl,hops⟩),so',ω,ω,rfl,rfl,rfl⟩;rcases ZB.1 hp' with hp' | hp'
 ·exact hp p hp'
 ·rw[Z8.1 hp'];exact⟨ω,hqv⟩
def Sml (l:List Int):Prop:=∀a∈l,0≤a∧a≤9
theorem Sml.snoc {l:List Int} {x:Int} (h:Sml l) (h0:0≤x) (h1:x≤9):Sml (l ++ [x]):=λa ha=>by
 rcases ZB.1 ha with ha | ha
 ·exact h a ha
 ·rw[Z8.1 ha];exact⟨h0,h1⟩
theorem Q7 {c:Cfg} {n:Nat} (hc:Bf c = true) (hn:n≤4000) (hb:Byt R v) (hm:0≤m∧m < 200000000):Dr Hm [Pt rb,.agg #[I c.AB,I c.A6,I c.AS],I n] R rb v m 500000 (λx R'=>∃l:List Int,l.length = n∧Sml l∧BG R' x l):=by
 refine NE λF=>?_
 refine z_3 ?_;simp only[Bf,z_b,z_d] at hc;refine ja λb=>BI (D':=(rb,rdO v m) :: (b,C 33 (eCf c)) :: F) (aI _ _ _) ?_
 refine AR (λvs R' D'=>R' = R∧∃(l:List Int) (ov:Value) (A:Chs) (m' : Int),n≤l.length∧Sml l∧SO l ov A∧m≤m'∧m'≤m + 500000∧D' = A ++ (rb,rdO v m') :: (b,C 33 (eCf c)) :: F∧vs = [I n,ov]) (λK hK=>?_) ?_;rotate_left
 ·rintro e R1 D1 ⟨hR,l,ov,A,m',hl,hp,so,h1,h2,hD,he⟩;subst hR;refine z_W ?_;clear hD;refine FG so λR2 hR2 hi=>TT hi ω ω λv' hv'=>Eo m' hR2 ⟨l.take n,by rw[Z5];omega,λa ha=>hp a (ZO ha),by rw[Yj] at hv';exact hv'⟩ h1 h2
 refine AR (λvs R' D'=>R' = R∧∃(l:List Int) (ov:Value) (A:Chs) (m' : Int),n≤l.length∧Sml l∧SO l ov A∧m≤m'∧m'≤m + 500000∧D' = A ++ (rb,rdO v m') :: (b,C 33 (eCf c)) :: F∧vs = [I n,ov]) (λK2 hK2=>?_) ?_;rotate_left
 ·rintro e R1 D1 ⟨hR,l,ov,A,m',hl,hp,so,h1,h2,hD,he⟩;refine z_V ?_;exact hK _ _ _ ⟨hR,l,ov,A,m',hl,hp,so,h1,h2,hD,rfl⟩
 refine jlp (λmm vs R' D'=>R' = R∧∃(l:List Int) (ov:Value) (A:Chs) (m' : Int),l.length≤4100∧Sml l∧SO l ov A∧m≤m'∧m'≤m + 100 * l.length∧D' = A ++ (rb,rdO v m') :: (b,C 33 (eCf c)) :: F∧vs = [Pt rb,I n,Pt b,ov]∧mm = 4100 - l.length)
  (n:=4100) ⟨rfl,[],SN,[],m,δ,(λp hp=>by cases hp),.inl ⟨rfl,rfl,rfl⟩,ω,σ,rfl,rfl,rfl⟩ ?_
 rintro mm e R1 D1 K3 ⟨hR,l,ov,A,m',hl,hp,so,h1,h2,hD,he,hmm⟩ hK3;subst hR;refine z_W ?_;clear hD;refine C4 so.sln (jlt (jif (λh=>?_) (λh=>?_)));rotate_left
 ·have h:=z_g h;exact hK2 _ _ _ ⟨rfl,l,ov,A,m',ω,hp,so,h1,ω,rfl,rfl⟩
 have h:=z_f h;refine AR (λvs R' D'=>R' = R1∧∃(l2:List Int) (ov:Value) (A:Chs) (m2:Int),l.length < l2.length∧l2.length≤l.length + 80∧Sml l2∧SO l2 ov A∧m'≤m2∧m2≤m' + 80∧D' = A ++ (rb,rdO v m2) :: (b,C 33 (eCf c)) :: F∧vs = [Pt rb,I n,Pt b,ov]) (λK4 hK4=>?_) ?_;rotate_left
 ·rintro e Rx Dx ⟨hR,l2,ov,A,m2,q1,q2,hp2,so2,q3,q4,hD,he⟩;subst hR;refine z_W ?_;clear hD;exact hK3 (4100 - l2.length) _ _ _ ω ⟨rfl,l2,ov,A,m2,ω,hp2,so2,ω,ω,rfl,rfl,rfl⟩
 refine jpk hb ⟨ω,ω⟩ λk _ _=>jad (jl (v:=I c.A6) rfl (jad (jpk hb ⟨ω,ω⟩ λp _ _=>?_)))
 refine AR (λvs R' D'=>R' = R1∧∃k p m2:Int,1≤k∧k≤36∧0≤p∧p≤9∧m'≤m2∧m2≤m' + 3∧D' = A ++ (rb,rdO v m2) :: (b,C 33 (eCf c)) :: F∧vs = [Pt rb,I n,Pt b,ov,I k,I p]) (λK5 hK5=>?_) ?_
 ·refine jpk hb ⟨ω,ω⟩ λz _ _=>jeq (jif (λ_=>jl (v:=I c.A6) rfl (GX ⟨ω,ω⟩ ?_)) (λ_=>?_))<;>refine Aw A (G:=(rb,rdO v (m' + 1 + 1 + 1)) :: (b,C 33 (eCf c)) :: F) ?_
  ·exact hK5 _ _ _ ⟨rfl,_,_,_,ω,ω,ω,ω,ω,ω,rfl,rfl⟩
  ·exact hK5 _ _ _ ⟨rfl,_,_,_,ω,ω,ω,ω,ω,ω,rfl,rfl⟩
 rintro e Rx Dx ⟨hR,k,p,m2,k0,k1,p0,p1,q1,q2,hD,he⟩;subst hR;refine z_W ?_;clear hD;refine AR (λvs R' D'=>R' = Rx∧∃(l2:List Int) (ov:Value) (A:Chs) (m3:Int),l.length≤l2.length∧l2.length≤l.length + 1∧Sml l2∧SO l2 ov A∧m'≤m3∧m3≤m' + 4∧D' = A ++ (rb,rdO v m3) :: (b,C 33 (eCf c)) :: F∧vs = [Pt rb,I n,Pt b,ov,I k,I p]) (λK5 hK5=>?_) ?_
 ·refine jpk hb ⟨ω,ω⟩ λz _ _=>jeq (jif (λ_=>?_) (λ_=>?_))
  ·refine jl (v:=I c.A6) rfl (jad (jbs (cs:=[I (c.A6 + 1)]) rfl rfl λbs=>IC so ω λv' A' so'=>?_));exact hK5 _ _ _ ⟨rfl,_,v',A',_,σ,σ,hp.snoc ω ω,so',ω,ω,rfl,rfl⟩
  ·refine Aw A (G:=(rb,rdO v (m2 + 1)) :: (b,C 33 (eCf c)) :: F) ?_;exact hK5 _ _ _ ⟨rfl,l,ov,A,_,ω,ω,hp,so,ω,ω,rfl,rfl⟩
 clear so;rintro e Ry Dy ⟨hR,l2,ov,A,m3,q3,q4,hp2,so,q5,q6,hD,he⟩;subst hR;refine z_W ?_;clear hD;refine jpk hb ⟨ω,ω⟩ λz _ _=>jeq (jif (λ_=>?_) (λ_=>?_))<;>refine Aw A (G:=(rb,rdO v (m3 + 1)) :: (b,C 33 (eCf c)) :: F) ?_
 ·refine AR (λvs R' D'=>R' = Ry∧∃(l2:List Int) (ov:Value) (A:Chs) (m2:Int),l.length < l2.length∧l2.length≤l.length + 80∧Sml l2∧SO l2 ov A∧m'≤m2∧m2≤m' + 80∧D' = A ++ (rb,rdO v m2) :: (b,C 33 (eCf c)) :: F∧vs = [Pt rb,I n,Pt b,ov]) (λK6 hK6=>?_) ?_;rotate_left
  ·rintro e Rz Dz ⟨hR,l2,ov,A,m2,a1,a2,a3,a4,a5,a6,hD,he⟩;refine z_V ?_;exact hK4 _ _ _ ⟨hR,l2,ov,A,m2,a1,a2,a3,a4,a5,a6,hD,rfl⟩
  refine AR (λvs R' D'=>R' = Ry∧∃(l2:List Int) (ov:Value) (A:Chs) (m2:Int),l.length < l2.length∧l2.length≤l.length + 80∧Sml l2∧SO l2 ov A∧m'≤m2∧m2≤m' + 80∧D' = A ++ (rb,rdO v m2) :: (b,C 33 (eCf c)) :: F∧vs = [Pt rb,I n,Pt b,ov]) (λK7 hK7=>?_) ?_;rotate_left
  ·rintro e Rz Dz ⟨hR,l2,ov,A,m2,a1,a2,a3,a4,a5,a6,hD,he⟩;refine z_V ?_;exact hK6 _ _ _ ⟨hR,l2,ov,A,m2,a1,a2,a3,a4,a5,a6,hD,rfl⟩
  refine jlp (λmm vs R' D'=>R' = Ry∧∃(i:Nat) (l3:List Int) (ov:Value) (A:Chs),(i:Int)≤2 * k∧l3.length = l2.length + i∧Sml l3∧SO l3 ov A∧D' = A ++ (rb,rdO v (m3 + 1 + i)) :: (b,C 33 (eCf c)) :: F∧vs = [Pt rb,I n,Pt b,ov,I k,I i]∧mm = 72 - i)
   (n:=72) ⟨rfl,0,l2,ov,A,ω,ω,hp2,so,by rw[show m3 + 1 + ((0:Nat):Int) = m3 + 1 from ω],rfl,rfl⟩ ?_
  clear so;rintro mm e Rz Dz K8 ⟨hR,i,l3,ov,A,i0,i1,hp3,so,hD,he,hmm⟩ hK8;subst hR;refine z_W ?_;clear hD;refine GX ⟨ω,ω⟩ (jlt (jif (λh=>?_) (λh=>?_)))
  ·have h:=z_f h;refine jl (v:=I c.A6) rfl (jad (jpk hb ⟨ω,ω⟩ λy _ _=>jbs (cs:=[I y]) rfl rfl λbs=>IC so ω λv' A' so'=>jad ?_));refine hK8 (72 - (i + 1)) _ _ _ ω ⟨rfl,i + 1,_,v',A',ω,by simp;omega,hp3.snoc ω ω,so',by rw[show m3 + 1 + ((i + 1:Nat):Int) = m3 + 1 + i + 1 from ω],rfl,rfl⟩
  ·have h:=z_g h;exact hK7 _ _ _ ⟨rfl,l3,ov,A,_,ω,ω,hp3,so,ω,ω,rfl,rfl⟩
 ·refine AR (λvs R' D'=>R' = Ry∧∃(l2:List Int) (ov:Value) (A:Chs) (m2:Int),l.length < l2.length∧l2.length≤l.length + 80∧Sml l2∧SO l2 ov A∧m'≤m2∧m2≤m' + 80∧D' = A ++ (rb,rdO v m2) :: (b,C 33 (eCf c)) :: F∧vs = [Pt rb,I n,Pt b,ov]) (λK7 hK7=>?_) ?_;rotate_left
  ·rintro e Rz Dz ⟨hR,l2,ov,A,m2,a1,a2,a3,a4,a5,a6,hD,he⟩;refine z_V ?_;exact hK4 _ _ _ ⟨hR,l2,ov,A,m2,a1,a2,a3,a4,a5,a6,hD,rfl⟩
  refine jlp (λmm vs R' D'=>R' = Ry∧∃(i:Nat) (l3:List Int) (ov:Value) (A:Chs),(i:Int)≤k∧l3.length = l2.length + i∧Sml l3∧SO l3 ov A∧D' = A ++ (rb,rdO v (m3 + 1)) :: (b,C 33 (eCf c)) :: F∧vs = [Pt rb,I n,Pt b,ov,I k,I p,I i]∧mm = 72 - i)
   (n:=72) ⟨rfl,0,l2,ov,A,ω,ω,hp2,so,rfl,rfl,rfl⟩ ?_
  clear so;rintro mm e Rz Dz K8 ⟨hR,i,l3,ov,A,i0,i1,hp3,so,hD,he,hmm⟩ hK8;subst hR;refine z_W ?_;clear hD;refine jlt (jif (λh=>?_) (λh=>?_))
  ·have h:=z_f h;refine jbs (cs:=[I p]) rfl rfl λbs=>IC so ω λv' A' so'=>jad ?_
   refine hK8 (72 - (i + 1)) _ _ _ ω ⟨rfl,i + 1,_,v',A',ω,by simp;omega,hp3.snoc ω ω,so',rfl,rfl,rfl⟩
  ·have h:=z_g h;exact hK7 _ _ _ ⟨rfl,l3,ov,A,_,ω,ω,hp3,so,ω,ω,rfl,rfl⟩
end draws
@[reducible] def FoD (rb b p:Nat) (v:Value) (m:Int) (A F:Chs) (S:Sim) (g:Img) (c:Cfg):Chs:=(rb,rdO v m) :: (A ++ (Ab p S g ++ (b,C 33 (eCf c)) :: F))
def FoC (rb b p:Nat) (v ov:Value) (m' q k:Int) (n:Nat) (A F:Chs) (S:Sim) (g:Img) (c:Cfg) (R:RM) (vs:List Value) (R' : RM) (D' : Chs):Prop:=
 R' = R∧(∃m2,m'≤m2∧m2≤m' + 2∧D' = FoD rb b p v m2 A F S g c)∧∃x u w,GY x u w∧vs = [Pt rb,I n,Pt b,ov,Pt p,I q,I k,x,u]
def FoQ (rb b p:Nat) (v ov:Value) (m' : Int) (n:Nat) (A F:Chs) (S:Sim) (g:Img) (c:Cfg) (R:RM) (vs:List Value) (R' : RM) (D' : Chs):Prop:=
 R' = R∧∃q k m2:Int,0≤q∧q≤9∧1≤k∧k≤9∧m'≤m2∧m2≤m' + 15∧D' = FoD rb b p v m2 A F S g c∧vs = [Pt rb,I n,Pt b,ov,Pt p,I q,I k]
section draws
variable {R:RM} {rb:Nat} {v:Value} {m:Int}
theorem QM {c:Cfg} {n:Nat} {pv:Value} {Aa:List (List Sm.Op)} (hc:Bf c = true) (hpl:(Aa.length:Int) = c.A6) (hp40:∀p∈Aa,p.length≤40) (hp:EY R pv Aa) (hn:n≤2000) (hb:Byt R v) (hm:0≤m∧m < 200000000) :
  Dr I4 [Pt rb,.agg #[I c.AB,I c.A6,I c.AS],pv,I n] R rb v m 500000 (λx R'=>∃l:List Int,l.length = n∧Sml l∧BG R' x l):=by
 refine Mc λF=>?_
 refine z_4 ?_;have hst:Cq c Aa [] = true:=by
  unfold Cq;simp only[z_b,z_d,ZC];exact⟨⟨⟨hc,hpl⟩,σ⟩,hp40⟩
 obtain⟨g0,i0,B0⟩:=L2 hc hpl hp40;have hcc:=hc;simp only[Bf,z_b,z_d] at hc;refine ja λb=>jla (l:=eCf c) (by exact z_n 3) rfl (jro (M8 hp (picks:=[]) (.inl ⟨rfl,rfl,rfl⟩)) ?_)
 rw[hst];refine CL (jla (l:=eCf c) (by exact z_n 3) rfl ?_);refine jc (A:=[]) (ME hcc hp) ?_;rintro _ R1 _ hR1 ⟨p,g,rfl,rfl,ok⟩;refine BI (D':=FoD rb b p v m [] F (Sm.start c Aa) g c) (by
  show (Ab p (Sm.start c Aa) g ++ ((b,C 33 (eCf c)) :: (rb,rdO v m) :: F)).Perm ((rb,rdO v m) :: (Ab p (Sm.start c Aa) g ++ (b,C 33 (eCf c)) :: F))
  exact ((aI _ _ _).append_left _).trans ZH) ?_
 refine AR (λvs R' D'=>R.le R'∧∃(S:Sim) (g:Img) (l:List Int) (ov:Value) (A:Chs) (m' : Int),n≤l.length∧Sml l∧SO l ov A∧m≤m'∧m'≤m + 500000∧D' = FoD rb b p v m' A F S g c∧vs = [I n,ov]) (λK hK=>?_) ?_;rotate_left
 ·rintro e R1 D1 ⟨hR,S,g,l,ov,A,m',hl,hp,so,h1,h2,hD,he⟩;refine z_W ?_;clear hD;refine BI ZH.symm (FG so λR2 hR2 hi=>TT hi ω ω λv' hv'=>Eo m' (hR.trans hR2) ⟨l.take n,by rw[Z5];omega,λa ha=>hp a (ZO ha),by rw[Yj] at hv';exact hv'⟩ h1 h2)
 refine AR (λvs R' D'=>R.le R'∧∃(S:Sim) (g:Img) (l:List Int) (ov:Value) (A:Chs) (m' : Int),n≤l.length∧Sml l∧SO l ov A∧m≤m'∧m'≤m + 500000∧D' = FoD rb b p v m' A F S g c∧vs = [I n,ov]) (λK2 hK2=>?_) ?_;rotate_left
 ·rintro e R1 D1 ⟨hR,S,g,l,ov,A,m',hl,hp,so,h1,h2,hD,he⟩;refine z_V ?_;exact hK _ _ _ ⟨hR,S,g,l,ov,A,m',hl,hp,so,h1,h2,hD,rfl⟩
 refine jlp (λmm vs R' D'=>R.le R'∧∃(S:Sim) (g:Img) (gh:Gh) (l:List Int) (ov:Value) (A:Chs) (m' : Int),IG Aa S gh∧Bd (5 * l.length) S∧Ok R' S g∧l.length≤2100∧Sml l∧SO l ov A∧m≤m'∧m'≤m + 20 * l.length∧D' = FoD rb b p v m' A F S g c∧vs = [Pt rb,I n,Pt b,ov,Pt p]∧mm = 2100 - l.length)
  (n:=2100) ⟨hR1,Sm.start c Aa,g,g0,[],SN,[],m,i0,B0,ok,δ,(λp hp=>by cases hp),.inl ⟨rfl,rfl,rfl⟩,ω,σ,rfl,rfl,rfl⟩ ?_
 clear i0 B0 ok;rintro mm e R2 D1 K3 ⟨hR,S,g,gh,l,ov,A,m',i0,B0,ok,hl,hs,so,h1,h2,hD,he,hmm⟩ hK3;refine z_W ?_;clear hD;have hb2:=hb.le hR;refine C4 so.sln (jlt (jif (λh=>?_) (λh=>?_)));rotate_left
 ·have h:=z_g h;exact hK2 _ _ _ ⟨hR,S,g,l,ov,A,m',ω,hs,so,h1,ω,rfl,rfl⟩
 have h:=z_f h;refine AR (λvs R' D'=>R2.le R'∧∃(S:Sim) (g:Img) (gh:Gh) (l2:List Int) (ov:Value) (A:Chs) (m2:Int),IG Aa S gh∧Bd (5 * l2.length) S∧Ok R' S g∧l.length < l2.length∧l2.length≤l.length + 9∧Sml l2∧SO l2 ov A∧m'≤m2∧m2≤m' + 15∧D' = FoD rb b p v m2 A F S g c∧vs = [Pt rb,I n,Pt b,ov,Pt p]) (λK4 hK4=>?_) ?_;rotate_left
 ·rintro e Rx Dx ⟨hRx,S,g,gh,l2,ov,A,m2,i0,B0,ok,q1,q2,hs2,so2,q3,q4,hD,he⟩;refine z_W ?_;clear hD;exact hK3 (2100 - l2.length) _ _ _ ω ⟨hR.trans hRx,S,g,gh,l2,ov,A,m2,i0,B0,ok,ω,hs2,so2,ω,ω,rfl,rfl,rfl⟩
 refine jl (v:=I c.A6) rfl (jad (jpk hb2 ⟨ω,ω⟩ λq0 _ _=>?_));refine AR (FoQ rb b p v ov m' n A F S g c R2) (λK5 hK5=>?_) ?_
 ·refine AR (FoQ rb b p v ov m' n A F S g c R2) (λK6 hK6=>?_) ?_;rotate_left
  ·rintro e Rx Dx ⟨hRx,q,k,m2,q1,q2,q3,q4,q5,q6,hD,he⟩;refine z_V ?_;exact hK5 _ _ _ ⟨hRx,q,k,m2,q1,q2,q3,q4,q5,q6,hD,rfl⟩
  have fin:∀q k m2:Int,0≤q→q≤9→1≤k→k≤9→m'≤m2→m2≤m' + 15→J R2 (FoD rb b p v m2 A F S g c) (K6 [Pt rb,I n,Pt b,ov,Pt p,I q,I k]):=λq k m2 a1 a2 a3 a4 a5 a6=>hK6 _ _ _ ⟨rfl,q,k,m2,a1,a2,a3,a4,a5,a6,rfl,rfl⟩
  clear hK3 hK4 hK5 hK6;have cnd:∀(m0:Int) (K:List Value→M),(∀vs R' D',FoC rb b p v ov m0 q0 1 n A F S g c R2 vs R' D'→J R' D' (K vs))→∀m2,m0≤m2→m2≤m0 + 2→∀x u w,GY x u w→J R2 (FoD rb b p v m2 A F S g c) (K [Pt rb,I n,Pt b,ov,Pt p,I q0,I 1,x,u]):=λm0 K hK m2 a1 a2 x u w ha=>hK _ _ _ ⟨rfl,⟨m2,a1,a2,rfl⟩,x,u,w,ha,rfl⟩
  refine AR (FoC rb b p v ov (m' + 1) q0 1 n A F S g c R2) (λK7 hK7=>?_) ?_
  ·refine jl (v:=I S.Ad) rfl (jeq (Bt (λh=>jl (v:=.bool S.stop) rfl ?_) (λh=>?_)))
   ·exact cnd _ _ hK7 _ ω ω _ _ _ (h▸Ax)
   ·exact cnd _ _ hK7 _ ω ω _ _ _ (h▸BB)
  rintro e Rx Dx ⟨hRx,⟨m2,a1,a2,hD⟩,x,u,w,ha,he⟩;subst hRx;refine z_W ?_;clear hD;refine AR (FoC rb b p v ov m2 q0 1 n A F S g c Rx) (λK7 hK7=>?_) ?_
  ·rw[ha];refine Bt (λh=>jl (v:=.bool S.col.Ae) rfl ?_) (λh=>?_)
   ·exact cnd _ _ hK7 _ ω ω _ _ _ (h▸Ax)
   ·exact cnd _ _ hK7 _ ω ω _ _ _ (h▸BB)
  clear ha;rintro e Ry Dx ⟨hRx,⟨m3,a3,a4,hD⟩,x,u,w,ha,he⟩;subst hRx;refine z_W ?_;clear hD;refine AR (FoC rb b p v ov m3 q0 1 n A F S g c Ry) (λK7 hK7=>?_) ?_
  ·rw[ha];refine Bt (λh=>jpk hb2 ⟨ω,ω⟩ λy _ _=>jeq ?_) (λh=>?_)
   ·exact cnd _ _ hK7 _ ω ω _ _ _ (h▸Ax)
   ·exact cnd _ _ hK7 _ ω ω _ _ _ (h▸BB)
  clear ha;rintro e Rx Dx ⟨hRx,⟨m4,a5,a6,hD⟩,x,u,w,ha,he⟩;subst hRx;refine z_W ?_;clear hD;rw[ha];refine jif (λh=>jl (v:=I c.A6) rfl (jad ?_)) (λh=>?_)
  ·exact fin _ _ _ ω ω ω ω ω ω
  clear ha;refine AR (FoC rb b p v ov m4 q0 1 n A F S g c Rx) (λK7 hK7=>?_) ?_
  ·refine jl (v:=I S.Ad) rfl (jeq (Bt (λh=>jl (v:=.bool S.stop) rfl ?_) (λh=>?_)))
   ·exact cnd _ _ hK7 _ ω ω _ _ _ (h▸Ax)
   ·exact cnd _ _ hK7 _ ω ω _ _ _ (h▸BB)
  rintro e Ry Dx ⟨hRx,⟨m5,a7,a8,hD⟩,x,u,w,ha,he⟩;subst hRx;refine z_W ?_;clear hD;rw[ha];refine jif (λh=>jpk hb2 ⟨ω,ω⟩ λy _ _=>jad ?_) (λh=>?_)
  ·exact fin _ _ _ ω ω ω ω ω ω
  clear ha;refine AR (FoC rb b p v ov m5 q0 1 n A F S g c Ry) (λK7 hK7=>?_) ?_
  ·refine jl (v:=I S.Ad) rfl (jeq (Bt (λh=>jpk hb2 ⟨ω,ω⟩ λy _ _=>jgr ?_) (λh=>?_)))
   ·exact cnd _ _ hK7 _ ω ω _ _ _ (h▸Ax)
   ·exact cnd _ _ hK7 _ ω ω _ _ _ (h▸BB)
  rintro e Rx Dx ⟨hRx,⟨m6,a9,a10,hD⟩,x,u,w,ha,he⟩;subst hRx;refine z_W ?_;clear hD;rw[ha];refine jif (λh=>jl (v:=I c.A6) rfl (jpk hb2 ⟨ω,ω⟩ λy _ _=>jad ?_)) (λh=>?_)
  ·exact fin _ _ _ ω ω ω ω ω ω
  clear ha;refine AR (FoC rb b p v ov m6 q0 1 n A F S g c Rx) (λK7 hK7=>?_) ?_
  ·refine jl (v:=.bool S.stop) rfl (Bt (λh=>jpk hb2 ⟨ω,ω⟩ λy _ _=>jeq ?_) (λh=>?_))
   ·exact cnd _ _ hK7 _ ω ω _ _ _ (h▸Ax)
   ·exact cnd _ _ hK7 _ ω ω _ _ _ (h▸BB)
  rintro e Ry Dx ⟨hRx,⟨m7,a11,a12,hD⟩,x,u,w,ha,he⟩;subst hRx;refine z_W ?_;clear hD;rw[ha];refine jif (λh=>jl (v:=I c.A6) rfl ?_) (λh=>?_)
  ·exact fin _ _ _ ω ω ω ω ω ω
  ·exact fin _ _ _ ω ω ω ω ω ω
 rintro e Rx Dx ⟨hRx,q,k,m2,q1,q2,q3,q4,q5,q6,hD,he⟩;subst hRx;refine z_W ?_;clear hD;refine AR (λvs R' D'=>Rx.le R'∧∃(S:Sim) (g:Img) (gh:Gh) (l2:List Int) (ov:Value) (A:Chs) (m2:Int),IG Aa S gh∧Bd (5 * l2.length) S∧Ok R' S g∧l.length < l2.length∧l2.length≤l.length + 9∧Sml l2∧SO l2 ov A∧m'≤m2∧m2≤m' + 15∧D' = FoD rb b p v m2 A F S g c∧vs = [Pt rb,I n,Pt b,ov,Pt p]) (λK7 hK7=>?_) ?_;rotate_left
 ·rintro e Rz Dx hx;obtain⟨hRz,S,g,gh,l2,ov,A,m2,i0,B0,ok,q1,q2,hs2,so2,q3,q4,hD,he⟩:=hx;refine z_V ?_;exact hK4 _ _ _ ⟨hRz,S,g,gh,l2,ov,A,m2,i0,B0,ok,q1,q2,hs2,so2,q3,q4,hD,rfl⟩
 refine jlp (λmm vs R' D'=>Rx.le R'∧∃(i:Nat) (S:Sim) (g:Img) (gh:Gh) (l2:List Int) (ov:Value) (A:Chs),(i:Int)≤k∧IG Aa S gh∧Bd (5 * l2.length) S∧Ok R' S g∧l2.length = l.length + i∧Sml l2∧SO l2 ov A∧D' = FoD rb b p v m2 A F S g c∧vs = [Pt rb,I n,Pt b,ov,Pt p,I q,I k,I i]∧mm = 9 - i)
  (n:=9) ⟨RM.le.refl _,0,S,g,gh,l,ov,A,ω,i0,B0,ok,ω,hs,so,rfl,rfl,rfl⟩ ?_
 clear i0 B0 ok so hs;rintro mm e Ry Dy K8 ⟨hRy,i,S,g,gh,l2,ov,A,hi,i0,B0,ok,hl2,hs,so,hD,he,hmm⟩ hK8;refine z_W ?_;clear hD;refine jlt (jif (λh=>?_) (λh=>?_));rotate_left
 ·have h:=z_g h;exact hK7 _ _ _ ⟨hRy,S,g,gh,l2,ov,A,m2,i0,B0,ok,ω,ω,hs,so,ω,ω,rfl,rfl⟩
 have h:=z_f h;obtain⟨S2,gh2,i2,B2,-,ht⟩:=V2 (p:=p) (a:=q) i0 B0 ω ⟨ω,ω⟩;refine jcS (p:=p) (by exact ht _ _ ok) λ_ R3 g3 hR3 _ ok3=>?_
 refine BI (D':=FoD rb b p v m2 A F S2 g3 c) (ZH.trans ((Zu _ _ _).cons _)) ?_;refine jbs (cs:=[I q]) rfl rfl λbs=>IC so ω λv' A' so'=>jad (BI ZH ?_)
 refine hK8 (9 - (i + 1)) _ _ _ ω ⟨hRy.trans hR3,i + 1,S2,g3,gh2,_,v',A',ω,i2,?_,ok3,by simp;omega,hs.snoc ω ω,so',rfl,rfl,rfl⟩;rw[Yk,Z7,Nat.mul_add];exact B2
end draws
section draws
variable {R:RM} {rb:Nat} {v:Value} {m:Int}
def Wc (x:Value) (R:RM):Prop:=∃(c:Cfg) (Aa:List (List Sm.Op)) (picks:List Int) (pv kv:Value),x = .tuple #[.agg #[I c.AB,I c.A6,I c.AS],pv,kv]∧(Cq c Aa picks = true∧∀p∈Aa,Vs p)∧Sml picks∧EY R pv Aa∧BG R kv picks
theorem OJ {c:Cfg} {Aa:List (List Sm.Op)} {picks:List Int} (hc:Bf c = true) (hl:(Aa.length:Int) = c.A6) (hp:∀p∈Aa,p.length≤40) (hk:picks.length≤4000):Cq c Aa picks = true:=by
 unfold Cq;simp only[z_b,z_d,ZC];exact⟨⟨⟨hc,hl⟩,hk⟩,hp⟩
theorem EY.sl {v:Value} {l:List (List Sm.Op)} (H:EY R v l):∃a c,v = .slice a l.length c:=by
 obtain⟨vs,h,_⟩:=H;exact h.sl
theorem S7 (hb:Byt R v) (hm:0≤m∧m < 150000000):Dr J4 [Pt rb] R rb v m 1000000 Wc:=by
 refine Nv λF=>?_
 refine z_1 ?_;refine ja λb1=>jpk hb ⟨ω,ω⟩ λy1 _ _=>jad (jpk hb ⟨ω,ω⟩ λy2 _ _=>jad ?_)
 refine jbs (cs:=[I 32,I 48,I 100,I 16]) rfl rfl λb6=>jpk hb ⟨ω,ω⟩ λy3 _ _=>jia ω ω ?_
 have h3:=TL (l:=[32,48,100,16]) (x:=y3) ω (by show _ < (4:Int);omega);refine jl (BH [32,48,100,16] ω (by show _ < (4:Int);omega)) ?_;generalize sel [32,48,100,16] y3 = y at h3;simp only[Yx,List.not_mem_nil,or_false] at h3;obtain⟨c,hcf⟩:∃c:Cfg,c = ⟨5 + y1,1 + y2,y⟩:=⟨_,rfl⟩;have hc:Bf c = true:=by
  rw[hcf];simp only[Bf,z_b,z_d];omega
 refine jbd (cs:=eCf c) rfl (by rw[hcf];rfl) (ja λb=>jS (eCf c) ?_);obtain⟨n,hn⟩:∃n:Nat,c.A6 = n:=⟨c.A6.toNat,by rw[hcf];show 1 + y2 = ((1 + y2).toNat:Int);omega⟩;have hcc:=hc;simp only[Bf,z_b,z_d] at hcc;refine jk3 (F:=F) rb b b1 ?_;refine AR (λvs R' D'=>R.le R'∧∃(l:List (List Sm.Op)) (rows:List (List Value)) (ov:Value) (A:Chs) (m' : Int),l.length = n∧(∀p∈l,p.length≤40∧Vs p)∧PrW R' rows l∧SW 158 1 rows ov A∧m≤m'∧m'≤m + 10000∧D' = A ++ (rb,rdO v m') :: (b,C 33 (eCf c)) :: (b1,C 33 (cl z33)) :: F∧vs = [Pt rb,Pt b1,Pt b,ov]) (λK hK=>?_) ?_
 ·refine AR (λvs R' D'=>R.le R'∧∃(l:List (List Sm.Op)) (rows:List (List Value)) (ov:Value) (A:Chs) (m' : Int),l.length = n∧(∀p∈l,p.length≤40∧Vs p)∧PrW R' rows l∧SW 158 1 rows ov A∧m≤m'∧m'≤m + 10000∧D' = A ++ (rb,rdO v m') :: (b,C 33 (eCf c)) :: (b1,C 33 (cl z33)) :: F∧vs = [Pt rb,Pt b1,Pt b,ov]) (λK2 hK2=>?_) ?_;rotate_left
  ·rintro e R1 D1 ⟨hR,l,rows,ov,A,m',hl,hp,hrw,so,h1,h2,hD,he⟩;refine z_V ?_;exact hK _ _ _ ⟨hR,l,rows,ov,A,m',hl,hp,hrw,so,h1,h2,hD,rfl⟩
  refine jlp (λmm vs R' D'=>R.le R'∧∃(i:Nat) (l:List (List Sm.Op)) (rows:List (List Value)) (ov:Value) (A:Chs) (m' : Int),i≤n∧l.length = i∧(∀p∈l,p.length≤40∧Vs p)∧PrW R' rows l∧SW 158 1 rows ov A∧m≤m'∧m'≤m + 10 + 1100 * i∧D' = A ++ (rb,rdO v m') :: (b,C 33 (eCf c)) :: (b1,C 33 (cl z33)) :: F∧vs = [Pt rb,Pt b1,Pt b,ov,I i]∧mm = n - i)
   (n:=n) ⟨RM.le.refl R,0,[],[],SN,[],m + 1 + 1 + 1,ω,rfl,(λp hp=>by cases hp),Rw.nil,.inl ⟨rfl,rfl,rfl⟩,ω,ω,rfl,rfl,ω⟩ ?_
  rintro mm e R1 D1 K3 ⟨hR,i,l,rows,ov,A,m',hi,hl,hp,hrw,so,h1,h2,hD,he,hmm⟩ hK3;refine z_W ?_;refine jl (v:=I c.A6) rfl (jlt (jif (λh=>?_) (λh=>?_)));rotate_left
  ·have h:=z_g h;exact hK2 _ _ _ ⟨hR,l,rows,ov,A,m',ω,hp,hrw,so,h1,ω,rfl,rfl⟩
  have h:=z_f h;refine jpk (hb.le hR) ⟨ω,ω⟩ λz _ _=>jad ?_
  obtain⟨k,hk⟩:∃k:Nat,20 + z = k:=⟨(20 + z).toNat,ω⟩;rw[hk];refine jdr (QI (n:=k) ω (hb.le hR) ⟨ω,ω⟩) ?_;rintro x R2 m2 hR2 ⟨q,⟨hq,hqv⟩,hops⟩ h5 h6;obtain⟨xa,xc,hx⟩:=Fz.sl hops;subst hx;refine jbs (cs:=[.slice xa q.length xc]) rfl rfl λbs=>?_
  have hrl:=hrw.1;refine VP [[.slice xa q.length xc]] so rfl hrw.len (λr hr=>by rw[Z8.1 hr];rfl) rfl rfl rfl δ (by rw[Z7];omega) λv' A' so'=>?_
  refine jad ?_;refine hK3 (n - (i + 1)) _ _ _ ω ⟨hR.trans hR2,i + 1,l ++ [q],_,v',A',m2,ω,by rw[Yk,hl];rfl,λp hp'=>?_,(hrw.le hR2).app (Rw.one ⟨_,rfl,hops⟩),so',ω,ω,rfl,rfl,rfl⟩;rcases ZB.1 hp' with hp' | hp'
  ·exact hp p hp'
  ·rw[Z8.1 hp'];exact⟨hq,hqv⟩
 rintro e R1 D1 ⟨hR,l,rows,ov,A,m',hl,hp,hrw,so,h1,h2,hD,he⟩;refine z_W ?_;refine Tl so hrw λR2 hR2 ho=>?_
 have hb2:=hb.le (hR.trans hR2);refine jla (l:=eCf c) (by exact z_n 3) rfl (jla (l:=eCf c) (by exact z_n 3) rfl (jpk hb2 ⟨ω,ω⟩ λz _ _=>jad ?_));refine Af (jla (l:=eCf c) (by exact z_n 3) rfl jev) (Af (jla (l:=eCf c) (by exact z_n 3) rfl jev) ?_);obtain⟨k,hk⟩:∃k:Nat,150 + z = k:=⟨(150 + z).toNat,ω⟩;rw[hk];refine jdr (QM (n:=k) hc ω (λp h=>(hp p h).1) ho ω hb2 ⟨ω,ω⟩) ?_;rintro x R3 m3 hR3 ⟨q,hq,hs,hi⟩ h5 h6;refine Af (jla (l:=eCf c) (by exact z_n 3) rfl jev) ?_;refine jS (eCf c) (jla (l:=eCf c) (by exact z_n 3) rfl ?_);exact Eo m3 ((hR.trans hR2).trans hR3) ⟨c,l,q,ov,x,rfl,⟨OJ hc ω (λp h=>(hp p h).1) ω,λp h=>(hp p h).2⟩,hs,ho.le hR3,hi⟩ ω ω
end draws
structure StB (r:Nat) (s:Sm.Al):Prop where
 wr:∀x∈s.AA,Rn x
 wl:s.AA.length = 16 * s.A0.length
 t0:2≤s.A0.length
 t1:s.A0.length≤12
 tp:∀x∈s.A0,-100 * (r:Int)≤x.top∧x.top≤100 * r
 n0:1≤s.A6.length
 n1:s.A6.length≤3
 rl:∀t∈s.A6,t.AC.length≤r
 pl:s.AG.length≤8
 pv:∀a∈s.AG,0≤a∧a≤1000
 ol:s.old.length≤100000
 ml:s.AK.length = s.AA.length
 cy:0≤s.Aj∧s.Aj≤100000
 fu:0≤s.BA∧s.BA≤100000
theorem VO {c0:Cfg} {Aa:List (List Sm.Op)} {picks:List Int} {S' : Sim} (hok:Cq c0 Aa picks = true) (hv:∀p∈Aa,Vs p) (h:Sim.picks picks (Sm.start c0 Aa) = some S'):RS S':=by
 obtain⟨h1,h2,h3,h4⟩:=JA hok;obtain⟨g0,I0,B0⟩:=L2 h1 h2 h4;exact OS picks 0 _ S' g0 ω I0 B0 (U7 hv) h
theorem X6 {P0:List (List Sm.Op)} {S:Sim} {gh:Gh} (i0:IG P0 S gh) (B:Bd 20000 S) (hr:RS S):StB 8 S.view:=by
 have T:=i0.sh.g.ok;have n0:=T.n0;have n1:=T.n1;have hl:=i0.sh.g.len;have hl:(S.AA.length:Int) = 16 * S.A0.length:=hl;have wl:=i0.wl;refine⟨hr.w,by show S.AA.length = 16 * S.A0.length;omega,n0,n1,λx hx=>?_,by show 1≤(S.th.map _).length;rw[Z1];exact i0.n0,by show (S.th.map _).length≤3;rw[Z1];exact i0.n1,λt ht=>?_,B.pn,λa ha=>?_,by have:=B.old;show S.old.length≤_;omega,i0.sh.ml,⟨B.cy.1,by have:=B.cy.2;show S.Aj≤_;omega⟩,⟨B.fu.1,by have:=B.fu.2;show S.BA≤_;omega⟩⟩
 ·have hx:x∈S.A0:=hx;have n1:S.A0.length≤12:=n1;obtain⟨k,hk,rfl⟩:=ZF hx;by_cases h0:k = 0
  ·subst h0;have:=T.e;rw[show (0:Int) = ((0:Nat):Int) from rfl] at this;have e:=(E5 (t:=S.A0) hk).symm.trans this;rw[e];decide
  ·have r:=T.row k ω (by show (k:Int) < S.A0.length;omega);have e:=E5 (t:=S.A0) hk;have t0:=r.t0;have t1:=r.t1;have e' : rv (xof S gh).t k = S.A0[k]:=e;rw[e'] at t0 t1;omega
 ·obtain⟨t',ht',rfl⟩:=ZK.1 ht;have:=i0.AC t' ht';show t'.AC.length≤8;omega
 ·have h1:=i0.sh.pl a ha;obtain⟨h4,_,_,_,_,h5,h6,_⟩:=i0.sh.g.inn (i0.sh.lb a h1.1);have h5:a + sz S.AA a≤S.AA.length:=h5;have h6:2≤sz S.AA a:=h6;omega
theorem StB.mono {s:Sm.Al} (h:StB 8 s):StB 9 s:={ h with rl:=λt ht=>(by have:=h.rl t ht;omega),tp:=λx hx=>(by have:=h.tp x hx;omega) }
theorem StB.row {s:Sm.Al} (h:StB 8 s) (k:Nat) {x:Rg} (h0:-900≤x.top) (h1:x.top≤900):StB 9 { s with A0:=s.A0.set k x }:=
 { h.mono with wl:=by simpa using h.wl,t0:=by simpa using h.t0,t1:=by simpa using h.t1,tp:=λy hy=>(by
   rcases Zm hy with hy | hy
   ·exact h.mono.tp y hy
   ·subst hy;omega) }
def StQ (rl rb b16 b1:Nat) (v:Value) (m c:Int) (F:Chs) (R:RM) (D:Chs):Prop:=
 ∃(s:Sm.Al) (rows:List (List Value)) (thv mv ov pv:Value) (A:Chs) (wb nw wc:Nat) (wsp:List Value) (tb nt tc:Nat) (tsp:List Value) (m' : Int),
  StB rl s∧s.AA.length = nw∧nw≤wc∧s.A0.length = nt∧nt≤tc∧Rw (Ct R) rows s.A6∧SW 83 4 rows thv A∧Bls R mv s.AK∧BG R ov s.old∧BG R pv s.AG∧m≤m'∧m'≤m + c∧
  D = (rb,rdO v m') :: (b16,C AQ (eSt s (S0 wb nw wc) (S0 tb nt tc) mv thv ov pv)) :: (A ++ (wb,C AX (s.AA.map I ++ wsp)) :: (tb,C AI (Ac eRg s.A0 ++ tsp)) :: (b1,C AQ (cl z28)) :: F)
def DSt (R:RM) (rb:Nat) (v:Value) (m c:Int) (x:Value) (R' : RM) (A:Chs):Prop:=
 ∃(s:Sm.Al) (wv mv thv ov pv:Value) (tb tc:Nat) (tsp:List Value) (m' : Int),StB 9 s∧BG R' wv s.AA∧Bls R' mv s.AK∧Ths R' thv s.A6∧BG R' ov s.old∧BG R' pv s.AG∧s.A0.length≤tc∧m≤m'∧m'≤m + c∧
  x = .agg (eSt s wv (S0 tb s.A0.length tc) mv thv ov pv).toArray∧A = [(rb,rdO v m'),(tb,C AI (Ac eRg s.A0 ++ tsp))]
theorem RF {s:Sm.Al} {mv ov pv thv:Value} {x:Option Addr} {y:Option Addr} {l q l2 q2:Nat} (h1:flat mv = true) (h2:flat thv = true) (h3:flat ov = true) (h4:flat pv = true):Br (eSt s (.slice x l q) (.slice y l2 q2) mv thv ov pv) = true:=by
 show (true && (true && (flat mv && (true && (true && (true && (true && (true && (flat thv && (flat ov && (flat pv && (true && (true && true))))))))))))) = true;rw[h1,h2,h3,h4];rfl
theorem EE {R:RM} {D E:Chs} {o:Obj} {m:M} (b:Nat) [t:Tk D b o E] (H:J R ((b,o) :: E) m):J R D m:=λh hs=>H h (hs.perm t.p)
theorem SW.flat {t w:Nat} {rows:List (List Value)} {v:Value} {A:Chs} (h:SW t w rows v A):flat v = true:=by
 obtain⟨a,c,e⟩:=h.sl;rw[e];rfl
theorem Xs {R:RM} {X D E:Chs} {m:M} (hp:D.Perm (X ++ E)) (H:J R E m):J R D m:=λh hs=>H h ((hs.perm hp).drop)
theorem th0 {R:RM} {rows:List (List Value)} {l:List Th} {thv:Value} {A:Chs} (hrw:Rw (Ct R) rows l) (so:SW 83 4 rows thv A) (hn:1≤l.length):∃t ts rv rr b c sp,l = t :: ts∧rows = [rv,I t.next,.bool t.busy,I t.Ai] :: rr∧BG R rv t.AC∧Rw (Ct R) rr ts∧
  rows.length≤c∧sp.length = (c - rows.length) * 4∧thv = S0 b rows.length c∧A = [(b,C 83 (rows.flatten ++ sp))]:=by
 cases l with
 | nil=>simp at hn
 | cons t ts=>
  cases rows with
  | nil=>have:=hrw.1;simp at this
  | cons r0 rr=>
   obtain⟨rv,e,hi⟩:=hrw.2 0 σ σ;simp only[List.getElem_cons_zero] at e hi;subst e;rcases so with ⟨h,_,_⟩ | ⟨b,c,sp,h1,h2,h3,h4⟩
   ·cases h
   ·refine⟨t,ts,rv,rr,b,c,sp,rfl,rfl,hi,⟨by have:=hrw.1;simpa using this,λi h h'=>?_⟩,h1,h2,h3,h4⟩;have:=hrw.2 (i + 1) (by simpa using h) (by simpa using h');simpa using this
section draws
variable {R:RM} {rb:Nat} {v:Value} {m:Int}
theorem PH (hb:Byt R v) (hm:0≤m∧m < 100000000):Fn P I7 [Pt rb] R [(rb,rdO v m)] (DSt R rb v m 2000000):=by
 refine Mr λF=>?_
 refine z_1 ?_;refine ja λb1=>jdr (OZ hb ⟨ω,ω⟩) ?_
 rintro _ R1 m1 - ⟨hR1,c,rfl,hc⟩ g1 g2;subst hR1;refine ja λb3=>jS (eCf c) (jla (l:=eCf c) (by exact z_n 3) rfl ?_)
 refine jdr (PE hc hb ⟨ω,ω⟩) ?_;rintro pv R2 m2 hR2 ⟨Aa,hpl,hp40,hp⟩ g3 g4;have hb2:=hb.le hR2;refine jla (l:=eCf c) (by exact z_n 3) rfl (jpk hb2 ⟨ω,ω⟩ λz _ _=>jad (Af (jla (l:=eCf c) (by exact z_n 3) rfl jev) ?_));obtain⟨n,hn⟩:∃n:Nat,40 + z = n:=⟨(40 + z).toNat,ω⟩;rw[hn];refine jdr (Q7 hc (n:=n) ω hb2 ⟨ω,ω⟩) ?_;rintro kv R3 m3 hR3 ⟨picks,hkl,hks,hk⟩ g5 g6;have hb3:=hb2.le hR3;refine jk3 (F:=F) rb b3 b1 ?_;refine AR (λvs R' D'=>R3.le R'∧∃(c:Cfg) (Aa:List (List Sm.Op)) (picks:List Int) (pv kv:Value) (m4:Int),(Cq c Aa picks = true∧∀p∈Aa,Vs p)∧Sml picks∧EY R' pv Aa∧BG R' kv picks∧m≤m4∧m4≤m + 1600000∧D' = (rb,rdO v m4) :: (b3,C 33 (eCf c)) :: (b1,C AQ (cl z28)) :: F∧vs = [Pt rb,Pt b1,Pt b3,pv,kv]) (λK hK=>?_) ?_
 ·refine jpk hb3 ⟨ω,ω⟩ λy _ _=>jgr (jif (λ_=>?_) (λ_=>?_))
  ·refine jdr (S7 hb3 ⟨ω,ω⟩) ?_;rintro _ R4 m4 hR4 ⟨c',progs',picks',pv',kv',rfl,hok,hs',hp',hk'⟩ g7 g8;refine jex rfl (jex rfl (jex rfl (jS (eCf c') ?_)));exact hK _ _ _ ⟨hR4,c',progs',picks',pv',kv',m4,hok,hs',hp',hk',ω,ω,rfl,rfl⟩
  ·exact hK _ _ _ ⟨RM.le.refl _,c,Aa,picks,pv,kv,_,⟨OJ hc hpl (λp h=>(hp40 p h).1) ω,λp h=>(hp40 p h).2⟩,hks,hp.le hR3,hk,ω,ω,rfl,rfl⟩
 have hR03:=hR2.trans hR3;clear hp hk hks hc hpl hp40 hkl hb2 hn;rintro e R4 D4 ⟨hR4,c,Aa,picks,pv,kv,m4,⟨hok,hvs⟩,hs,hp,hk,g7,g8,hD,he⟩;refine z_W ?_;clear hD;obtain⟨S,gh,i0,B0,hpk,hpl⟩:=WX hok λa ha=>⟨by have:=(hs a ha).1;omega,by have:=(hs a ha).2;omega⟩
 refine jla (l:=eCf c) (by exact z_n 3) rfl (jc (A:=[]) (hpl R4 pv kv hp hk) ?_);rintro _ R5 _ hR5 ⟨p,g,rows,thv,A,ok,hrw,so,rfl,rfl⟩;have hSB:=X6 i0 B0 (VO hok hvs hpk);refine jex rfl (jex rfl ?_);unfold Ab;refine Xs (X:=(p,C Bg (C0 S g)) :: (g.hb,C AY (E3 S.th g.rv ++ g.hsp)) :: evD S g) (E:=(A ++ [(g.wb,C AX (S.AA.map I ++ g.wsp)),(g.tb,C AI (Ac eRg S.A0 ++ g.tsp)),(g.mb,C B7 (S.AK.map Value.bool ++ g.msp))]) ++ ((rb,rdO v m4) :: (b3,C 33 (eCf c)) :: (b1,C AQ (cl z28)) :: F)) ?_ ?_
 ·refine (aN _ ZH).trans (Zs _ ?_);have:=Zu (A ++ [(g.wb,C AX (S.AA.map I ++ g.wsp)),(g.tb,C AI (Ac eRg S.A0 ++ g.tsp)),(g.mb,C B7 (S.AK.map Value.bool ++ g.msp))]) ((g.hb,C AY (E3 S.th g.rv ++ g.hsp)) :: evD S g) ((rb,rdO v m4) :: (b3,C 33 (eCf c)) :: (b1,C AQ (cl z28)) :: F);simpa using this
 refine BQ (b:=g.mb) λR6 hR6 hmb=>?_
 have hmv:=Ut hmb ok.mk_;have hR16:=(hR4.trans hR5).trans hR6;have hb6:=hb3.le hR16;have hov:=ok.old.le hR6;have hpv:=ok.AG.le hR6;have hrw:=hrw.mono λ_ _=>Ct.le hR6
 obtain⟨tha,thc,hthv⟩:=so.sl;refine ja λb16=>js (cs':=eSt S.view (wS S g) (tS S g) (mS S g) thv g.old g.AG) rfl (RF rfl so.flat (Fz.flat hov) (Fz.flat hpv)) (by exact z_n 13) rfl ?_
 have h0:StQ 8 rb b16 b1 v m 1600000 F R6 ((rb,rdO v m4) :: (b16,C AQ (eSt S.view (wS S g) (tS S g) (mS S g) thv g.old g.AG)) :: (A ++ (g.wb,C AX (S.AA.map I ++ g.wsp)) :: (g.tb,C AI (Ac eRg S.A0 ++ g.tsp)) :: (b1,C AQ (cl z28)) :: F)):=
  ⟨S.view,rows,thv,mS S g,g.old,g.AG,A,g.wb,S.AA.length,g.wc,g.wsp,g.tb,S.A0.length,g.tc,g.tsp,m4,hSB,rfl,ok.wk,rfl,ok.tk,hrw,so,hmv,hov,hpv,ω,ω,rfl⟩
 refine EE b16 (EE rb (EE b3 (Bn ?_)));simp only[Yr,zc,zl];generalize (rb,rdO v m4) :: (b16,C AQ (eSt S.view (wS S g) (tS S g) (mS S g) thv g.old g.AG)) :: (A ++ (g.wb,C AX (S.AA.map I ++ g.wsp)) :: (g.tb,C AI (Ac eRg S.A0 ++ g.tsp)) :: (b1,C AQ (cl z28)) :: F) = D6 at h0 ⊢;have hR06:=hR03.trans hR16;clear hmb hmv hov hpv hrw so hpl ok hSB;refine AR (λvs R' D'=>R6.le R'∧StQ 9 rb b16 b1 v m 1600010 F R' D'∧vs = [Pt b1,Pt b16]) (λK hK=>?_) ?_;rotate_left
 ·rintro e R7 D7 ⟨hR7,⟨s,rows,thv,mv,ov,pv,A,wb,nw,wc,wsp,tb,nt,tc,tsp,m',sb,w1,w2,w3,w4,hrw,so,hmv,hov,hpv,h1,h2,hD⟩,he⟩;refine z_W ?_;clear hD;subst w1 w3;obtain⟨tha,thc,hthv⟩:=so.sl;have hfl:=RF (s:=s) (x:=some ⟨wb,0,none⟩) (y:=some ⟨tb,0,none⟩) (l:=s.AA.length) (q:=wc) (l2:=s.A0.length) (q2:=tc) (Fz.flat hmv) so.flat (Fz.flat hov) (Fz.flat hpv);refine jla (l:=eSt s (S0 wb s.AA.length wc) (S0 tb s.A0.length tc) mv thv ov pv) (by exact z_n 13) rfl ?_;refine js (cs':=eSt s (S0 wb s.AA.length wc) (S0 tb s.A0.length tc) mv thv ov pv) rfl hfl (by exact z_n 13) rfl ?_;refine jla (l:=eSt s (S0 wb s.AA.length wc) (S0 tb s.A0.length tc) mv thv ov pv) (by exact z_n 13) rfl ?_;refine EE b16 (Bn (EE wb (BQ (b:=wb) λR8 hR8 hwb=>EE rb (BI ZH.symm (jfw so (hrw.all λ_ _=>Ct.len) λR9 hR9 hfz=>?_)))));have hR79:=hR8.trans hR9;exact B9 (A:=[(rb,rdO v m'),(tb,C AI (Ac eRg s.A0 ++ tsp))]) ((hR06.trans hR7).trans hR79) ⟨s,_,mv,thv,ov,pv,tb,tc,tsp,m',sb,(CH hwb w2).le hR9,Fz.le hR79 hmv,⟨rows,hrw.mono λ_ _=>Ct.le hR79,hfz⟩,hov.le hR79,hpv.le hR79,w4,h1,ω,rfl,rfl⟩
 obtain⟨s,rows,thv,mv,ov,pv,A,wb,nw,wc,wsp,tb,nt,tc,tsp,m',sb,w1,w2,w3,w4,hrw,so,hmv,hov,hpv,h1,h2,hD⟩:=h0;rw[hD];clear hD;have wl:=sb.wl;have t0:=sb.t0;have t1:=sb.t1;refine jpk hb6 ⟨ω,ω⟩ λy _ _=>?_
 refine AR (λvs R' D'=>R6.le R'∧StQ 9 rb b16 b1 v m 1600010 F R' D'∧vs = [Pt b1,Pt b16]) (λK2 hK2=>?_) ?_;rotate_left
 ·rintro e R7 D7 ⟨hR7,hD,he⟩;refine z_V ?_;exact hK _ _ _ ⟨hR7,hD,rfl⟩
 have fin:∀(s' : Sm.Al) (m2:Int) (thv' : Value) (rows' : List (List Value)) (A' : Chs) (R' : RM),R6.le R'→StB 9 s'→s'.AA.length = nw→s'.A0.length = nt→s'.AK = s.AK→s'.old = s.old→s'.AG = s.AG→Rw (Ct R') rows' s'.A6→SW 83 4 rows' thv' A'→m≤m2→m2≤m' + 8→
   J R' ((rb,rdO v m2) :: (b16,C AQ (eSt s' (S0 wb nw wc) (S0 tb nt tc) mv thv' ov pv)) :: (A' ++ (wb,C AX (s'.AA.map I ++ wsp)) :: (tb,C AI (Ac eRg s'.A0 ++ tsp)) :: (b1,C AQ (cl z28)) :: F)) (K2 [Pt b1,Pt b16]):=λs' m2 thv' rows' A' R' a0 a1 a2 a3 a4 a5 a6 a7 a8 a9 a10=>
  hK2 _ _ _ ⟨a0,⟨s',rows',thv',mv,ov,pv,A',wb,nw,wc,wsp,tb,nt,tc,tsp,m2,a1,a2,w2,a3,w4,a7,a8,by rw[a4];exact Fz.le a0 hmv,by rw[a5];exact hov.le a0,by rw[a6];exact hpv.le a0,a9,ω,rfl⟩,rfl⟩
 clear hK hK2;refine jeq (jif (λ_=>?_) (λ_=>jeq (jif (λ_=>?_) (λ_=>jeq (jif (λ_=>?_) (λ_=>jeq (jif (λ_=>?_) (λ_=>jeq (jif (λ_=>?_) (λ_=>jeq (jif (λ_=>?_) (λ_=>?_))))))))))))
 ·refine jl (v:=S0 wb nw wc) rfl (jl (v:=S0 wb nw wc) rfl (jln (jpk hb6 ⟨ω,ω⟩ λi _ _=>Af (jl (v:=S0 wb nw wc) rfl jev) (jpk hb6 ⟨ω,ω⟩ λx _ _=>jia ω ω (Af (jl (v:=S0 wb nw wc) rfl jev) ?_)))));refine jsi (l:=s.AA) ω ?_;exact fin { s with AA:=s.AA.set i.toNat x } _ thv rows A R6 (RM.le.refl _) { sb.mono with wl:=by simpa using sb.wl,ml:=by simpa using sb.ml,wr:=λy hy=>(Zm hy).elim (sb.wr y) λe=>by rw[e];unfold Rn;omega } (by simpa using w1) w3 rfl rfl rfl hrw so ω ω
 ·obtain⟨t,ts,rv,rr,bt,ct,sp,e1,e2,hrv,hrr,q1,q2,e3,e4⟩:=th0 hrw so sb.n0;subst e2 e3 e4;obtain⟨ra,rc,e5⟩:=hrv.sl;subst e5;have h8:=sb.rl t (by rw[e1];simp);refine jl (v:=S0 bt _ ct) rfl (jia ω σ (jla (l:=[.slice ra t.AC.length rc,I t.next,.bool t.busy,I t.Ai]) σ rfl ?_));refine ja λb38=>jS [.slice ra t.AC.length rc,I t.next,.bool t.busy,I t.Ai] ?_
  refine jl (v:=.slice ra t.AC.length rc) rfl (jl (v:=S0 wb nw wc) rfl (jln ?_));refine jc (A:=[]) (CN hrv ω) ?_;rintro _ R7 _ hR7 ⟨b5,c5,sp5,hc5,hsp5,rfl,rfl⟩;have hb7:=hb6.le hR7;refine Af (jl (v:=S0 wb nw wc) rfl jev) (jpk hb7 ⟨ω,ω⟩ λx _ _=>jbs (cs:=[I x]) rfl rfl λbs=>?_);refine IC (l:=t.AC) (A:=[(b5,C AX (t.AC.map I ++ sp5))]) (.inr ⟨b5,c5,sp5,hc5,hsp5,rfl,rfl⟩) ω λv' A' so'=>FG so' λR8 hR8 hi=>?_
  obtain⟨xa,xc,e6⟩:=hi.sl;subst e6;refine js (cs':=[.slice xa (t.AC ++ [x]).length xc,I t.next,.bool t.busy,I t.Ai]) rfl rfl σ rfl ?_;refine jl (v:=S0 bt _ ct) rfl (jla (l:=[.slice xa (t.AC ++ [x]).length xc,I t.next,.bool t.busy,I t.Ai]) (by exact z_n 4) rfl (jia ω σ ?_));refine js (cs':=([.slice xa (t.AC ++ [x]).length xc,I t.next,.bool t.busy,I t.Ai] :: rr).flatten ++ sp) rfl rfl σ rfl ?_;refine EE b38 (Bn ?_);refine fin { s with A6:={ t with AC:=t.AC ++ [x] } :: ts } _ (S0 bt _ ct) ([.slice xa (t.AC ++ [x]).length xc,I t.next,.bool t.busy,I t.Ai] :: rr) [(bt,C 83 (([.slice xa (t.AC ++ [x]).length xc,I t.next,.bool t.busy,I t.Ai] :: rr).flatten ++ sp))] R8 (hR7.trans hR8) { sb.mono with n0:=σ,n1:=by have:=sb.n1;rw[e1] at this;simpa using this,rl:=λu hu=>?_ } w1 w3 rfl rfl rfl ?_ (.inr ⟨bt,ct,sp,q1,q2,rfl,rfl⟩) ω ω
  ·rcases Yx.1 hu with hu | hu
   ·subst hu;show (t.AC ++ [x]).length≤9;rw[Yk];simp;omega
   ·exact sb.mono.rl u (by rw[e1];exact ZG _ hu)
  ·exact Rw.app (r1:=[_]) (l1:=[_]) (Rw.one ⟨_,rfl,hi⟩) (hrr.mono λ_ _=>Ct.le (hR7.trans hR8))
 ·refine jl (v:=S0 tb nt tc) rfl (jln (jsu (jpk hb6 ⟨ω,ω⟩ λi _ _=>jad ?_)));obtain⟨k,hk⟩:∃k:Nat,1 + i = k:=⟨(1 + i).toNat,ω⟩;rw[hk];have hkl:k < s.A0.length:=ω
  obtain⟨p0,p1⟩:=sb.tp _ (Yq hkl);refine jl (v:=S0 tb nt tc) rfl (C5 ω (MI hkl (ja λb64=>jS (eRg s.A0[k]) ?_)));refine jl (v:=I (s.A0[k]).top) rfl (jpk hb6 ⟨ω,ω⟩ λz _ _=>jad (jsu (Af (jl (v:=I (s.A0[k]).top) rfl jev) ?_)));refine js (cs':=eRg { s.A0[k] with top:=(s.A0[k]).top + z - 1 }) rfl rfl σ rfl ?_;refine jl (v:=S0 tb nt tc) rfl (jla (l:=eRg { s.A0[k] with top:=(s.A0[k]).top + z - 1 }) (by exact z_n 5) rfl (C5 ω ?_));refine GR (x:={ s.A0[k] with top:=(s.A0[k]).top + z - 1 }) hkl ?_;refine EE b64 (Bn ?_);exact fin { s with A0:=s.A0.set k { s.A0[k] with top:=(s.A0[k]).top + z - 1 } } _ thv rows A R6 (RM.le.refl _) (sb.row k (by show -900≤(s.A0[k]).top + z - 1;omega) (by show (s.A0[k]).top + z - 1≤900;omega)) w1 (by simpa using w3) rfl rfl rfl hrw so ω ω
 ·refine jbs (cs:=[I (-1),I 4,I 2]) rfl rfl λbt=>jpk hb6 ⟨ω,ω⟩ λz _ _=>jia ω ω (jl (BH [-1,4,2] ω (by show _ < (3:Int);omega)) ?_)
  refine jS (eSt { s with Ad:=sel [-1,4,2] z } (S0 wb nw wc) (S0 tb nt tc) mv thv ov pv) (EE bt (Bn ?_));exact fin { s with Ad:=sel [-1,4,2] z } _ thv rows A R6 (RM.le.refl _) { sb.mono with } w1 w3 rfl rfl rfl hrw so ω ω
 ·obtain⟨t,ts,rv,rr,bt,ct,sp,e1,e2,hrv,hrr,q1,q2,e3,e4⟩:=th0 hrw so sb.n0;subst e2 e3 e4;obtain⟨ra,rc,e5⟩:=hrv.sl;subst e5;refine jl (v:=S0 bt _ ct) rfl (jia ω σ (jla (l:=[.slice ra t.AC.length rc,I t.next,.bool t.busy,I t.Ai]) σ rfl ?_));refine ja λb38=>jS [.slice ra t.AC.length rc,I t.next,.bool t.busy,I t.Ai] ?_
  refine jl (v:=.bool t.busy) rfl (js (cs':=[.slice ra t.AC.length rc,I t.next,.bool (!t.busy),I t.Ai]) rfl rfl σ rfl ?_);refine jl (v:=S0 bt _ ct) rfl (jla (l:=[.slice ra t.AC.length rc,I t.next,.bool (!t.busy),I t.Ai]) (by exact z_n 4) rfl (jia ω σ ?_));refine js (cs':=([.slice ra t.AC.length rc,I t.next,.bool (!t.busy),I t.Ai] :: rr).flatten ++ sp) rfl rfl σ rfl ?_;refine EE b38 (Bn ?_);refine fin { s with A6:={ t with busy:=!t.busy } :: ts } _ (S0 bt _ ct) ([.slice ra t.AC.length rc,I t.next,.bool (!t.busy),I t.Ai] :: rr) [(bt,C 83 (([.slice ra t.AC.length rc,I t.next,.bool (!t.busy),I t.Ai] :: rr).flatten ++ sp))] R6 (RM.le.refl _) { sb.mono with n0:=σ,n1:=by have:=sb.n1;rw[e1] at this;simpa using this,rl:=λu hu=>?_ } w1 w3 rfl rfl rfl ?_ (.inr ⟨bt,ct,sp,q1,q2,rfl,rfl⟩) ω ω
  ·rcases Yx.1 hu with hu | hu
   ·subst hu;exact sb.mono.rl t (by rw[e1];simp)
   ·exact sb.mono.rl u (by rw[e1];exact ZG _ hu)
  ·exact Rw.app (r1:=[_]) (l1:=[_]) (Rw.one ⟨_,rfl,hrv⟩) hrr
 ·refine jl (v:=S0 tb nt tc) rfl (jln (jsu (jpk hb6 ⟨ω,ω⟩ λi _ _=>jad ?_)));obtain⟨k,hk⟩:∃k:Nat,1 + i = k:=⟨(1 + i).toNat,ω⟩;rw[hk];have hkl:k < s.A0.length:=ω
  refine jl (v:=S0 tb nt tc) rfl (C5 ω (MI hkl (ja λb64=>jS (eRg s.A0[k]) ?_)));refine jpk hb6 ⟨ω,ω⟩ λz _ _=>js (cs':=eRg { s.A0[k] with kind:=z }) rfl rfl σ rfl ?_
  refine jl (v:=S0 tb nt tc) rfl (jla (l:=eRg { s.A0[k] with kind:=z }) (by exact z_n 5) rfl (C5 ω ?_));refine GR (x:={ s.A0[k] with kind:=z }) hkl ?_;refine EE b64 (Bn ?_);obtain⟨p0,p1⟩:=sb.tp _ (Yq hkl);exact fin { s with A0:=s.A0.set k { s.A0[k] with kind:=z } } _ thv rows A R6 (RM.le.refl _) (sb.row k (by show -900≤(s.A0[k]).top;omega) (by show (s.A0[k]).top≤900;omega)) w1 (by simpa using w3) rfl rfl rfl hrw so ω ω
 ·exact fin s _ thv rows A R6 (RM.le.refl _) sb.mono w1 w3 rfl rfl rfl hrw so ω ω
end draws
section draws
variable {R:RM} {rb:Nat} {v:Value} {m:Int}
end draws
end Go.Lf
end
