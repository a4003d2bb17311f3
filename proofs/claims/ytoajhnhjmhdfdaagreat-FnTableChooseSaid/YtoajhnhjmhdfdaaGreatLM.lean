/- A part of the proof of the given row: the walk of the law and of all that it calls. Conditions: none. -/
import Derived.Test.YtoajhnhjmhdfdaaGreatLL
set_option linter.unusedVariables false
set_option linter.unusedSimpArgs false
section
namespace Go.Lf
open Go Sm
def sel (l:List Int) (x:Int):Int:=l.getD x.toNat 0
theorem Ao (l:List Int) {x:Int} (h0:0≤x) (h1:x < l.length):(l.map I)[0 + x.toNat * 1]? = some (I (sel l x)):=by
 have:x.toNat < l.length:=by omega
 simp[sel,this]
theorem Re {l:List Int} {x:Int} (h0:0≤x) (h1:x < l.length):sel l x∈l:=by
 have:x.toNat < l.length:=by omega
 simp[sel,this]
theorem jsb {R:RM} {D:Chs} {v:Value} {w n:Nat} {u:Int} {k:Value→M} (h:Bsl R v n) (h0:0≤u) (h1:u≤n) (H:∀v',Bsl R v' u.toNat→J R D (k v')):J R D (SL w v none (some (I u)) k):=by
 obtain⟨a,cap,rfl,hn,h2⟩:=h;intro h' hs;refine⟨⟨h0,by omega⟩,H _ ⟨a,cap,rfl,by omega,?_⟩ h' hs⟩;rcases h2 with h3 | ⟨b,o,h2,h3⟩
 ·exact .inl (by omega)
 ·exact .inr ⟨b,o,h2,λi hi=>h3 i (by omega)⟩
theorem Bsl.sl {R:RM} {v:Value} {n:Nat} (h:Bsl R v n):∃a c,v = .slice a n c:=by obtain⟨a,c,h1,_⟩:=h;exact⟨a,c,h1⟩
theorem Vf {R:RM} {D:Chs} {v:Value} {w n:Nat} {cells:List Value} {u:Int} {k:Value→M} (h:Fz R v w n cells) (h0:0≤u) (h1:u≤n) (H:∀v',Fz R v' w u.toNat (cells.take (u.toNat * w))→J R D (k v')):J R D (SL w v none (some (I u)) k):=by
 rcases h with ⟨rfl,h2,h3⟩ | ⟨b,o,cap,t,cs,rfl,h2,h3,h4,h5⟩
 ·intro h' hs;refine⟨⟨h0,by omega⟩,H _ ?_ h' hs⟩;have:u = 0:=by omega
  subst this;exact .inl ⟨rfl,rfl,by simp⟩
 ·intro h' hs;refine⟨⟨h0,by omega⟩,H _ ?_ h' hs⟩;have hm:u.toNat * w≤n * w:=Nat.mul_le_mul_right w (by omega);exact .inr ⟨b,o,cap,t,cs,rfl,h2,by omega,by rw[← h4,List.take_take];congr 1;omega,by omega⟩
def Dr (f:Nat) (args:List Value) (R:RM) (rb:Nat) (v:Value) (m c:Int) (q:Value→RM→Prop):Prop:=
 Fn P f args R [(rb,rdO v m)] (λx R' A=>R.le R'∧q x R'∧∃m',m≤m'∧m'≤m + c∧A = [(rb,rdO v m')])
theorem jdr {R:RM} {D E:Chs} {f rb:Nat} {args:List Value} {v:Value} {m c:Int} {q:Value→RM→Prop} {k:Value→M} (hF:Dr f args R rb v m c q) [t:Tk D rb (rdO v m) E] (H:∀x R' m',R.le R'→q x R'→m≤m'→m'≤m + c→J R' ((rb,rdO v m') :: E) (k x)) :
  J R D (CA P f args k):=by
 refine jc (A:=[(rb,rdO v m)]) (F:=E) (s:=⟨t.p⟩) hF ?_;rintro x R' _ _ ⟨h1,h2,m',h3,h4,rfl⟩;exact H x R' m' h1 h2 h3 h4
theorem Dt {R R' : RM} {D E F:Chs} {rb:Nat} {v x:Value} {m c:Int} {q:Value→RM→Prop} (m' : Int) [t:Tk D rb (rdO v m') E] [s:Sf E F] (h1:R.le R') (h2:q x R') (h3:m≤m') (h4:m'≤m + c) :
  J R' D (ED R F (λx R' A=>R.le R'∧q x R'∧∃m',m≤m'∧m'≤m + c∧A = [(rb,rdO v m')]) x):=by
 intro h hs;exact BR (D:=(rb,rdO v m') :: E) (A:=[(rb,rdO v m')]) h1 ⟨h1,h2,m',h3,h4,rfl⟩ h (hs.perm t.p)
theorem jk1 {R:RM} {D G F:Chs} {o:Obj} {m:M} (b:Nat) [t:Tk D b o G] [s:Sf G F] (H:J R ((b,o) :: F) m):J R D m:=by
 intro h hs;obtain⟨X,hX⟩:=s.p;subst hX;exact H h (((hs.perm t.p).perm List.perm_middle.symm).drop)
theorem jk2 {R:RM} {D E G F:Chs} {o o' : Obj} {m:M} (b c:Nat) [t:Tk D b o E] [u:Tk E c o' G] [s:Sf G F] (H:J R ((b,o) :: (c,o') :: F) m):J R D m:=by
 intro h hs;have h1:=(hs.perm t.p).perm (u.p.cons _);obtain⟨X,hX⟩:=s.p;subst hX;have:=List.perm_append_comm (l₁:=[(b,o),(c,o')]) (l₂:=X);have:=this.append_right F;exact H h (h1.perm (by simpa using this)).drop
theorem jk3 {R:RM} {D E G H' F:Chs} {o o' o2:Obj} {m:M} (b c d:Nat) [t:Tk D b o E] [u:Tk E c o' G] [w:Tk G d o2 H'] [s:Sf H' F] (H:J R ((b,o) :: (c,o') :: (d,o2) :: F) m):J R D m:=by
 intro h hs;have h1:=((hs.perm t.p).perm (u.p.cons _)).perm ((w.p.cons _).cons _);obtain⟨X,hX⟩:=s.p;subst hX;have:=List.perm_append_comm (l₁:=[(b,o),(c,o'),(d,o2)]) (l₂:=X);have:=this.append_right F;exact H h (h1.perm (by simpa using this)).drop
theorem RV {R:RM} {v:Value} {n:Nat} (h:Bsl R v n) :
  Fn P Je [v] R [] (λx R' A=>R' = R∧∃rb v',x = .pointer (some ⟨rb,0,none⟩)∧A = [(rb,rdO v' 0)]∧Byt R v'):=by
 refine OT λF=>?_
 unfold JB;obtain⟨a,cap,hv⟩:=h.sl;refine AH (λvs R' D'=>R' = R∧D' = [] ++ F∧∃v',Byt R v'∧vs = [v']) (λK hK=>?_) ?_
 ·refine Co h.sl (jgr (jif (λh1=>?_) (λh1=>?_)))
  ·have h1:=z_f h1;refine jsb h (by omega) (by omega) λv' hv'=>?_
   refine hK _ _ _ ⟨rfl,rfl,v',?_,rfl⟩;obtain⟨a',c',e⟩:=hv'.sl;exact⟨a',_,c',e,hv',by decide⟩
  ·have h1:=z_g h1;exact hK _ _ _ ⟨rfl,rfl,v,⟨a,n,cap,hv,h,by omega⟩,rfl⟩
 rintro e R1 D1 ⟨hR,hD,v',hv',he⟩;subst hR;rw[hD];clear hD;simp only[List.map,lc,ln,lj,z_t] at he;simp only[he];obtain⟨a',n',c',hv2,-⟩:=id hv';subst hv2;refine jbd (cs:=[.slice a' n' c',I 0]) rfl rfl ?_;refine ja λb=>?_
 exact BR (A:=[(b,rdO (.slice a' n' c') 0)]) (RM.le.refl _) ⟨rfl,b,_,rfl,rfl,hv'⟩
section draws
variable {R:RM} {rb:Nat} {v:Value} {m:Int}
set_option maxHeartbeats 4000000 in
theorem Jy (hb:Byt R v) (hm:0≤m∧m < 500000000):Dr HC [.pointer (some ⟨rb,0,none⟩)] R rb v m 3 (λx R'=>R' = R∧∃sh:Shp,x = eSh sh):=by
 refine MI λF=>?_
 unfold HB;refine ja λb=>?_
 refine jpk hb ⟨by omega,by omega⟩ λx1 _ _=>jeq (jif (λ_=>?_) (λ_=>?_))
 ·refine AH (λvs R' D'=>R' = R∧(∃r n m',m≤m'∧m'≤m + 3∧D' = (b,C 92 [I r,I n]) :: (rb,rdO v m') :: F)∧vs = [.pointer (some ⟨b,0,none⟩)]) (λK hK=>?_) ?_;rotate_left
  ·rintro e R1 D1 ⟨hR,⟨r,n,m',h1,h2,hD⟩,he⟩;subst hR;rw[hD];clear hD;simp only[List.map,lc,ln,lj,z_t] at he;simp only[he];refine jla (l:=[I r,I n]) (by exact z_n 2) rfl ?_;exact Dt m' (RM.le.refl _) ⟨rfl,⟨r,n⟩,rfl⟩ h1 h2
  have fin:∀(r n m' : Int),m≤m'→m'≤m + 3→J R ((b,C 92 [I r,I n]) :: (rb,rdO v m') :: F) (K [.pointer (some ⟨b,0,none⟩)]):=λr n m' h1 h2=>hK _ _ _ ⟨rfl,⟨r,n,m',h1,h2,rfl⟩,rfl⟩
  clear hK;refine E2 ?_ ?_
  ·refine jbs (cs:=[I 4,I 5,I (-1),I 0]) rfl rfl λb6=>?_
   refine E2 ?_ ?_
   ·refine jpk hb ⟨by omega,by omega⟩ λx7 _ _=>?_
    refine jia (by omega) (by omega) ?_;refine jl (Ao [4,5,-1,0] (by omega) (by show _ < (4:Int);omega)) ?_;refine E2 ?_ ?_
    ·refine jbs (cs:=[I 4,I 5,I (-1),I 0]) rfl rfl λb10=>?_
     refine Ae (jl (Ao [4,5,-1,0] (by omega) (by show _ < (4:Int);omega)) jev) ?_;refine jpk hb ⟨by omega,by omega⟩ λx12 _ _=>?_
     refine jia (by omega) (by omega) ?_;refine jl (Ao [4,5,-1,0] (by omega) (by show _ < (4:Int);omega)) ?_;refine jbd (cs:=[I _,I _]) rfl rfl ?_;refine Ae (jl (Ao [4,5,-1,0] (by omega) (by show _ < (4:Int);omega)) jev) ?_;refine js (cs':=[I _,I _]) rfl rfl (by exact z_n 2) rfl ?_;refine jk2 (F:=F) b rb ?_;exact fin _ _ _ (by omega) (by omega)
    refine DT ?_;refine jpk hb ⟨by omega,by omega⟩ λx17 _ _=>?_
    refine Ae (jl (Ao [4,5,-1,0] (by omega) (by show _ < (4:Int);omega)) jev) ?_;refine jbs (cs:=[I 4,I 5,I (-1),I 0]) rfl rfl λb19=>?_
    refine jia (by omega) (by omega) ?_;refine jl (Ao [4,5,-1,0] (by omega) (by show _ < (4:Int);omega)) ?_;refine jbd (cs:=[I _,I _]) rfl rfl ?_;refine Ae (jl (Ao [4,5,-1,0] (by omega) (by show _ < (4:Int);omega)) jev) ?_;refine js (cs':=[I _,I _]) rfl rfl (by exact z_n 2) rfl ?_;refine jk2 (F:=F) b rb ?_;exact fin _ _ _ (by omega) (by omega)
   refine DT ?_;refine jbs (cs:=[I 4,I 5,I (-1),I 0]) rfl rfl λb24=>?_
   refine jpk hb ⟨by omega,by omega⟩ λx25 _ _=>?_
   refine jia (by omega) (by omega) ?_;refine jl (Ao [4,5,-1,0] (by omega) (by show _ < (4:Int);omega)) ?_;refine jpk hb ⟨by omega,by omega⟩ λx28 _ _=>?_
   refine jia (by omega) (by omega) ?_;refine jl (Ao [4,5,-1,0] (by omega) (by show _ < (4:Int);omega)) ?_;refine jbd (cs:=[I _,I _]) rfl rfl ?_;refine Ae (jl (Ao [4,5,-1,0] (by omega) (by show _ < (4:Int);omega)) jev) ?_;refine js (cs':=[I _,I _]) rfl rfl (by exact z_n 2) rfl ?_;refine jk2 (F:=F) b rb ?_;exact fin _ _ _ (by omega) (by omega)
  refine E2 ?_ ?_
  ·refine jpk hb ⟨by omega,by omega⟩ λx33 _ _=>?_
   refine E2 ?_ ?_
   ·refine jbs (cs:=[I 4,I 5,I (-1),I 0]) rfl rfl λb34=>?_
    refine jia (by omega) (by omega) ?_;refine jl (Ao [4,5,-1,0] (by omega) (by show _ < (4:Int);omega)) ?_;refine E2 ?_ ?_
    ·refine jbs (cs:=[I 4,I 5,I (-1),I 0]) rfl rfl λb37=>?_
     refine Ae (jl (Ao [4,5,-1,0] (by omega) (by show _ < (4:Int);omega)) jev) ?_;refine jpk hb ⟨by omega,by omega⟩ λx39 _ _=>?_
     refine jia (by omega) (by omega) ?_;refine jl (Ao [4,5,-1,0] (by omega) (by show _ < (4:Int);omega)) ?_;refine jbd (cs:=[I _,I _]) rfl rfl ?_;refine Ae (jl (Ao [4,5,-1,0] (by omega) (by show _ < (4:Int);omega)) jev) ?_;refine js (cs':=[I _,I _]) rfl rfl (by exact z_n 2) rfl ?_;refine jk2 (F:=F) b rb ?_;exact fin _ _ _ (by omega) (by omega)
    refine DT ?_;refine jpk hb ⟨by omega,by omega⟩ λx44 _ _=>?_
    refine Ae (jl (Ao [4,5,-1,0] (by omega) (by show _ < (4:Int);omega)) jev) ?_;refine jbs (cs:=[I 4,I 5,I (-1),I 0]) rfl rfl λb46=>?_
    refine jia (by omega) (by omega) ?_;refine jl (Ao [4,5,-1,0] (by omega) (by show _ < (4:Int);omega)) ?_;refine jbd (cs:=[I _,I _]) rfl rfl ?_;refine Ae (jl (Ao [4,5,-1,0] (by omega) (by show _ < (4:Int);omega)) jev) ?_;refine js (cs':=[I _,I _]) rfl rfl (by exact z_n 2) rfl ?_;refine jk2 (F:=F) b rb ?_;exact fin _ _ _ (by omega) (by omega)
   refine E2 ?_ ?_
   ·refine jbs (cs:=[I 4,I 5,I (-1),I 0]) rfl rfl λb51=>?_
    refine E2 ?_ ?_
    ·refine jbs (cs:=[I 4,I 5,I (-1),I 0]) rfl rfl λb52=>?_
     refine jia (by omega) (by omega) ?_;refine jl (Ao [4,5,-1,0] (by omega) (by show _ < (4:Int);omega)) ?_;refine jpk hb ⟨by omega,by omega⟩ λx55 _ _=>?_
     refine jia (by omega) (by omega) ?_;refine jl (Ao [4,5,-1,0] (by omega) (by show _ < (4:Int);omega)) ?_;refine jbd (cs:=[I _,I _]) rfl rfl ?_;refine Ae (jl (Ao [4,5,-1,0] (by omega) (by show _ < (4:Int);omega)) jev) ?_;refine js (cs':=[I _,I _]) rfl rfl (by exact z_n 2) rfl ?_;refine jk2 (F:=F) b rb ?_;exact fin _ _ _ (by omega) (by omega)
    refine DT ?_;refine jpk hb ⟨by omega,by omega⟩ λx60 _ _=>?_
    refine jia (by omega) (by omega) ?_;refine jl (Ao [4,5,-1,0] (by omega) (by show _ < (4:Int);omega)) ?_;refine jbs (cs:=[I 4,I 5,I (-1),I 0]) rfl rfl λb63=>?_
    refine jia (by omega) (by omega) ?_;refine jl (Ao [4,5,-1,0] (by omega) (by show _ < (4:Int);omega)) ?_;refine jbd (cs:=[I _,I _]) rfl rfl ?_;refine Ae (jl (Ao [4,5,-1,0] (by omega) (by show _ < (4:Int);omega)) jev) ?_;refine js (cs':=[I _,I _]) rfl rfl (by exact z_n 2) rfl ?_;refine jk2 (F:=F) b rb ?_;exact fin _ _ _ (by omega) (by omega)
   refine DT ?_;refine jpk hb ⟨by omega,by omega⟩ λx68 _ _=>?_
   refine E2 ?_ ?_
   ·refine jbs (cs:=[I 4,I 5,I (-1),I 0]) rfl rfl λb69=>?_
    refine jia (by omega) (by omega) ?_;refine jl (Ao [4,5,-1,0] (by omega) (by show _ < (4:Int);omega)) ?_;refine jbs (cs:=[I 4,I 5,I (-1),I 0]) rfl rfl λb72=>?_
    refine jia (by omega) (by omega) ?_;refine jl (Ao [4,5,-1,0] (by omega) (by show _ < (4:Int);omega)) ?_;refine jbd (cs:=[I _,I _]) rfl rfl ?_;refine Ae (jl (Ao [4,5,-1,0] (by omega) (by show _ < (4:Int);omega)) jev) ?_;refine js (cs':=[I _,I _]) rfl rfl (by exact z_n 2) rfl ?_;refine jk2 (F:=F) b rb ?_;exact fin _ _ _ (by omega) (by omega)
   refine DT ?_;refine jbs (cs:=[I 4,I 5,I (-1),I 0]) rfl rfl λb77=>?_
   refine jia (by omega) (by omega) ?_;refine jl (Ao [4,5,-1,0] (by omega) (by show _ < (4:Int);omega)) ?_;refine jbs (cs:=[I 4,I 5,I (-1),I 0]) rfl rfl λb80=>?_
   refine jia (by omega) (by omega) ?_;refine jl (Ao [4,5,-1,0] (by omega) (by show _ < (4:Int);omega)) ?_;refine jbd (cs:=[I _,I _]) rfl rfl ?_;refine Ae (jl (Ao [4,5,-1,0] (by omega) (by show _ < (4:Int);omega)) jev) ?_;refine js (cs':=[I _,I _]) rfl rfl (by exact z_n 2) rfl ?_;refine jk2 (F:=F) b rb ?_;exact fin _ _ _ (by omega) (by omega)
  refine DT ?_;refine jbs (cs:=[I 4,I 5,I (-1),I 0]) rfl rfl λb85=>?_
  refine E2 ?_ ?_
  ·refine jbs (cs:=[I 4,I 5,I (-1),I 0]) rfl rfl λb86=>?_
   refine jpk hb ⟨by omega,by omega⟩ λx87 _ _=>?_
   refine jia (by omega) (by omega) ?_;refine jl (Ao [4,5,-1,0] (by omega) (by show _ < (4:Int);omega)) ?_;refine jpk hb ⟨by omega,by omega⟩ λx90 _ _=>?_
   refine jia (by omega) (by omega) ?_;refine jl (Ao [4,5,-1,0] (by omega) (by show _ < (4:Int);omega)) ?_;refine jbd (cs:=[I _,I _]) rfl rfl ?_;refine Ae (jl (Ao [4,5,-1,0] (by omega) (by show _ < (4:Int);omega)) jev) ?_;refine js (cs':=[I _,I _]) rfl rfl (by exact z_n 2) rfl ?_;refine jk2 (F:=F) b rb ?_;exact fin _ _ _ (by omega) (by omega)
  refine DT ?_;refine jpk hb ⟨by omega,by omega⟩ λx95 _ _=>?_
  refine E2 ?_ ?_
  ·refine jbs (cs:=[I 4,I 5,I (-1),I 0]) rfl rfl λb96=>?_
   refine jia (by omega) (by omega) ?_;refine jl (Ao [4,5,-1,0] (by omega) (by show _ < (4:Int);omega)) ?_;refine jpk hb ⟨by omega,by omega⟩ λx99 _ _=>?_
   refine jia (by omega) (by omega) ?_;refine jl (Ao [4,5,-1,0] (by omega) (by show _ < (4:Int);omega)) ?_;refine jbd (cs:=[I _,I _]) rfl rfl ?_;refine Ae (jl (Ao [4,5,-1,0] (by omega) (by show _ < (4:Int);omega)) jev) ?_;refine js (cs':=[I _,I _]) rfl rfl (by exact z_n 2) rfl ?_;refine jk2 (F:=F) b rb ?_;exact fin _ _ _ (by omega) (by omega)
  refine DT ?_;refine jpk hb ⟨by omega,by omega⟩ λx104 _ _=>?_
  refine jia (by omega) (by omega) ?_;refine jl (Ao [4,5,-1,0] (by omega) (by show _ < (4:Int);omega)) ?_;refine jbs (cs:=[I 4,I 5,I (-1),I 0]) rfl rfl λb107=>?_
  refine jia (by omega) (by omega) ?_;refine jl (Ao [4,5,-1,0] (by omega) (by show _ < (4:Int);omega)) ?_;refine jbd (cs:=[I _,I _]) rfl rfl ?_;refine Ae (jl (Ao [4,5,-1,0] (by omega) (by show _ < (4:Int);omega)) jev) ?_;refine js (cs':=[I _,I _]) rfl rfl (by exact z_n 2) rfl ?_;refine jk2 (F:=F) b rb ?_;exact fin _ _ _ (by omega) (by omega)
 ·refine jpk hb ⟨by omega,by omega⟩ λx2 _ _=>jpk hb ⟨by omega,by omega⟩ λx3 _ _=>?_
  refine jbd (cs:=[I x2,I x3]) rfl rfl (js (cs':=[I x2,I x3]) rfl rfl (by simp) rfl ?_);refine jla (l:=[I x2,I x3]) (by exact z_n 2) rfl ?_;exact Dt _ (RM.le.refl _) ⟨rfl,⟨x2,x3⟩,rfl⟩ (by omega) (by omega)
theorem Np (hb:Byt R v) (hm:0≤m∧m < 500000000):Dr G6 [.pointer (some ⟨rb,0,none⟩)] R rb v m 3 (λx R'=>R' = R∧∃c:Cfg,x = .agg #[I c.A6,I c.AB,I c.AI]∧BJ c = true):=by
 refine Ke λF=>?_
 unfold Fk;refine ja λb=>?_
 refine jpk hb ⟨by omega,by omega⟩ λx1 _ _=>Ac ⟨by omega,by omega⟩ (jpk hb ⟨by omega,by omega⟩ λx2 _ _=>Ac ⟨by omega,by omega⟩ ?_)
 refine jbs (cs:=[I 16,I 32,I 0,I 8,I 100]) rfl rfl λb6=>?_
 refine jpk hb ⟨by omega,by omega⟩ λx3 _ _=>jia (by omega) (by omega) ?_
 have h3:=Re (l:=[16,32,0,8,100]) (x:=x3) (by omega) (by show _ < (5:Int);omega);refine jl (Ao [16,32,0,8,100] (by omega) (by show _ < (5:Int);omega)) ?_;generalize sel [16,32,0,8,100] x3 = y at h3;refine jbd (cs:=[I (4 + x1),I (1 + x2),I y]) rfl rfl (js (cs':=[I (4 + x1),I (1 + x2),I y]) rfl rfl (by simp) rfl ?_);refine jla (l:=[I (4 + x1),I (1 + x2),I y]) (by exact z_n 3) rfl ?_;refine Dt _ (RM.le.refl _) ⟨rfl,⟨4 + x1,1 + x2,y⟩,rfl,?_⟩ (by omega) (by omega);simp only[List.mem_cons,List.not_mem_nil,or_false] at h3;simp only[BJ,z_b,z_d];omega
end draws
end Go.Lf
end
section
namespace Go.Lf
open Go Sm
def OpB (b b1 rb:Nat) (v:Value) (m c:Int) (F D:Chs):Prop:=∃k a b2 c2 f w r n m',(m≤m'∧-9223372036854775808≤w∧w < 9223372036854775808)∧m'≤m + c∧D = (b,C 99 [I k,I a,I b2,I c2,I f,I w,I r,I n]) :: (b1,C 99 (cl z99)) :: (rb,rdO v m') :: F
section draws
variable {R:RM} {rb:Nat} {v:Value} {m:Int}
theorem TM {n:Int} (hn:0≤n∧n < 1000000) (hb:Byt R v) (hm:0≤m∧m < 400000000):Dr LM [.pointer (some ⟨rb,0,none⟩),I n] R rb v m 30 (λx R'=>R' = R∧∃o:Sm.Op,x = .agg (eOp o).toArray∧Rn o.v):=by
 refine Pt λF=>?_
 unfold LO;refine ja λb1=>Ac ⟨by omega,by omega⟩ (jpk hb ⟨by omega,by omega⟩ λx1 _ _=>Ac ⟨by omega,by omega⟩ (jpk hb ⟨by omega,by omega⟩ λx2 _ _=>Ac ⟨by omega,by omega⟩ (jpk hb ⟨by omega,by omega⟩ λx3 _ _=>?_)))
 refine jpk hb ⟨by omega,by omega⟩ λx4 _ _=>jpk hb ⟨by omega,by omega⟩ λx5 _ _=>DE ⟨by omega,by omega⟩ ?_
 refine jbd (cs:=[I 0,I x1,I x2,I x3,I x4,I (x5 - 6),I 0,I 0]) rfl rfl (ja λb=>?_);refine js (cs':=[I 0,I x1,I x2,I x3,I x4,I (x5 - 6),I 0,I 0]) rfl rfl (by exact z_n 8) rfl ?_;refine AH (λvs R' D'=>R' = R∧OpB b b1 rb v m 9 F D'∧vs = [.pointer (some ⟨rb,0,none⟩),.pointer (some ⟨b1,0,none⟩),.pointer (some ⟨b,0,none⟩)]) (λK hK=>?_) ?_
 ·refine AH (λvs R' D'=>R' = R∧OpB b b1 rb v m 6 F D'∧∃c u w,Eu c u w∧vs = [.pointer (some ⟨rb,0,none⟩),I n,.pointer (some ⟨b1,0,none⟩),.pointer (some ⟨b,0,none⟩),c,u]) (λK2 hK2=>?_) ?_
  ·refine jpk hb ⟨by omega,by omega⟩ λx6 _ _=>jgr (Bj (λh1=>jgr ?_) (λh1=>?_))<;>refine jk3 (F:=F) b b1 rb ?_
   ·exact hK2 _ _ _ ⟨rfl,⟨_,_,_,_,_,_,_,_,_,by omega,by omega,rfl⟩,_,_,_,h1▸Aq,rfl⟩
   ·exact hK2 _ _ _ ⟨rfl,⟨_,_,_,_,_,_,_,_,_,by omega,by omega,rfl⟩,_,_,_,h1▸As,rfl⟩
  rintro e R1 D1 ⟨hR,⟨k,a,b2,c2,f,w,r,n',m',h1,h2,hD⟩,c,u,w',ho,he⟩;subst hR;rw[hD];clear hD;simp only[List.map,lc,ln,lj,z_t] at he;simp only[he];rw[ho];refine jif (λ_=>?_) (λ_=>?_)
  ·refine jpk hb ⟨by omega,by omega⟩ λy1 _ _=>js rfl rfl (Nat.le_of_ble_eq_true rfl) rfl ?_
   refine jpk hb ⟨by omega,by omega⟩ λy2 _ _=>js rfl rfl (Nat.le_of_ble_eq_true rfl) rfl ?_
   refine jpk hb ⟨by omega,by omega⟩ λy3 _ _=>js rfl rfl (Nat.le_of_ble_eq_true rfl) rfl ?_
   refine jk3 (F:=F) b b1 rb ?_;exact hK _ _ _ ⟨rfl,⟨_,_,_,_,_,_,_,_,_,by omega,by omega,rfl⟩,rfl⟩
  ·exact hK _ _ _ ⟨rfl,⟨_,_,_,_,_,_,_,_,_,by omega,by omega,rfl⟩,rfl⟩
 rintro e R1 D1 ⟨hR,⟨k,a,b2,c2,f,w,r,n',m',h1,h2,hD⟩,he⟩;subst hR;rw[hD];clear hD;simp only[List.map,lc,ln,lj,z_t] at he;simp only[he];refine jpk hb ⟨by omega,by omega⟩ λz _ _=>?_
 refine AH (λvs R' D'=>R' = R1∧OpB b b1 rb v m 15 F D'∧vs = [.pointer (some ⟨rb,0,none⟩),.pointer (some ⟨b1,0,none⟩),.pointer (some ⟨b,0,none⟩)]) (λK hK=>?_) ?_
 ·refine AH (λvs R' D'=>R' = R1∧OpB b b1 rb v m 15 F D'∧vs = [.pointer (some ⟨rb,0,none⟩),.pointer (some ⟨b1,0,none⟩),.pointer (some ⟨b,0,none⟩)]) (λK2 hK2=>?_) ?_;rotate_left
  ·rintro e R2 D2 ⟨hR,hD,he⟩;simp only[List.map,lc,ln,lj,z_t] at he;simp only[he];exact hK _ _ _ ⟨hR,hD,rfl⟩
  refine jlt (jif (λ_=>?_) (λ_=>jlt (jif (λ_=>?_) (λ_=>jlt (jif (λ_=>?_) (λ_=>jeq (jif (λ_=>?_) (λ_=>jeq (jif (λ_=>?_) (λ_=>jeq (jif (λ_=>?_) (λ_=>jeq (jif (λ_=>?_) (λ_=>jlt (jif (λ_=>?_) (λ_=>?_))))))))))))))))
  ·refine js rfl rfl (Nat.le_of_ble_eq_true rfl) rfl ?_;refine jdr (Jy hb ⟨by omega,by omega⟩) ?_;rintro _ R2 m2 - ⟨hR2,sh,rfl⟩ h3 h4;subst hR2;refine js rfl rfl (Nat.le_of_ble_eq_true rfl) rfl ?_;refine jk3 (F:=F) b b1 rb ?_;exact hK2 _ _ _ ⟨rfl,⟨_,_,_,_,_,_,_,_,_,by omega,by omega,rfl⟩,rfl⟩
  ·refine js rfl rfl (Nat.le_of_ble_eq_true rfl) rfl (jk3 (F:=F) b b1 rb ?_);exact hK2 _ _ _ ⟨rfl,⟨_,_,_,_,_,_,_,_,_,by omega,by omega,rfl⟩,rfl⟩
  ·refine js rfl rfl (Nat.le_of_ble_eq_true rfl) rfl (jk3 (F:=F) b b1 rb ?_);exact hK2 _ _ _ ⟨rfl,⟨_,_,_,_,_,_,_,_,_,by omega,by omega,rfl⟩,rfl⟩
  ·refine js rfl rfl (Nat.le_of_ble_eq_true rfl) rfl (jpk hb ⟨by omega,by omega⟩ λy _ _=>js rfl rfl (Nat.le_of_ble_eq_true rfl) rfl (jk3 (F:=F) b b1 rb ?_));exact hK2 _ _ _ ⟨rfl,⟨_,_,_,_,_,_,_,_,_,by omega,by omega,rfl⟩,rfl⟩
  ·refine js rfl rfl (Nat.le_of_ble_eq_true rfl) rfl (jpk hb ⟨by omega,by omega⟩ λy _ _=>js rfl rfl (Nat.le_of_ble_eq_true rfl) rfl (jk3 (F:=F) b b1 rb ?_));exact hK2 _ _ _ ⟨rfl,⟨_,_,_,_,_,_,_,_,_,by omega,by omega,rfl⟩,rfl⟩
  ·refine js rfl rfl (Nat.le_of_ble_eq_true rfl) rfl (jk3 (F:=F) b b1 rb ?_);exact hK2 _ _ _ ⟨rfl,⟨_,_,_,_,_,_,_,_,_,by omega,by omega,rfl⟩,rfl⟩
  ·refine js rfl rfl (Nat.le_of_ble_eq_true rfl) rfl (jk3 (F:=F) b b1 rb ?_);exact hK2 _ _ _ ⟨rfl,⟨_,_,_,_,_,_,_,_,_,by omega,by omega,rfl⟩,rfl⟩
  ·refine js rfl rfl (Nat.le_of_ble_eq_true rfl) rfl (jk3 (F:=F) b b1 rb ?_);exact hK2 _ _ _ ⟨rfl,⟨_,_,_,_,_,_,_,_,_,by omega,by omega,rfl⟩,rfl⟩
  ·refine jbs (cs:=[I 9,I 10,I 11]) rfl rfl λbt=>jpk hb ⟨by omega,by omega⟩ λy _ _=>jia (by omega) (by omega) (jl (Ao [9,10,11] (by omega) (by show _ < (3:Int);omega)) ?_)
   refine js rfl rfl (Nat.le_of_ble_eq_true rfl) rfl (jk3 (F:=F) b b1 rb ?_);exact hK2 _ _ _ ⟨rfl,⟨_,_,_,_,_,_,_,_,_,by omega,by omega,rfl⟩,rfl⟩
 clear h1 h2 m';rintro e R2 D2 ⟨hR,⟨k,a,b2,c2,f,w,r,n',m',h1,h2,hD⟩,he⟩;subst hR;rw[hD];clear hD;simp only[List.map,lc,ln,lj,z_t] at he;simp only[he];refine AH (λvs R' D'=>R' = R2∧OpB b b1 rb v m 16 F D'∧vs = [.pointer (some ⟨rb,0,none⟩),.pointer (some ⟨b1,0,none⟩),.pointer (some ⟨b,0,none⟩)]) (λK hK=>?_) ?_
 ·refine jpk hb ⟨by omega,by omega⟩ λy _ _=>jeq (jif (λ_=>js rfl rfl (Nat.le_of_ble_eq_true rfl) rfl ?_) (λ_=>?_))<;>refine jk3 (F:=F) b b1 rb ?_
  ·exact hK _ _ _ ⟨rfl,⟨_,_,_,_,_,_,_,_,_,by omega,by omega,rfl⟩,rfl⟩
  ·exact hK _ _ _ ⟨rfl,⟨_,_,_,_,_,_,_,_,_,by omega,by omega,rfl⟩,rfl⟩
 clear h1 h2 m';rintro e R3 D3 ⟨hR,⟨k,a,b2,c2,f,w,r,n',m',h1,h2,hD⟩,he⟩;subst hR;rw[hD];clear hD;simp only[List.map,lc,ln,lj,z_t] at he;simp only[he];refine AH (λvs R' D'=>R' = R3∧OpB b b1 rb v m 20 F D'∧vs = [.pointer (some ⟨b1,0,none⟩),.pointer (some ⟨b,0,none⟩)]) (λK hK=>?_) ?_
 ·refine jpk hb ⟨by omega,by omega⟩ λy _ _=>?_
  refine AH (λvs R' D'=>R' = R3∧OpB b b1 rb v m 20 F D'∧vs = [.pointer (some ⟨b1,0,none⟩),.pointer (some ⟨b,0,none⟩)]) (λK2 hK2=>?_) ?_;rotate_left
  ·rintro e R4 D4 ⟨hR,hD,he⟩;simp only[List.map,lc,ln,lj,z_t] at he;simp only[he];exact hK _ _ _ ⟨hR,hD,rfl⟩
  refine jeq (jif (λ_=>?_) (λ_=>jeq (jif (λ_=>?_) (λ_=>jeq (jif (λ_=>?_) (λ_=>?_))))))
  ·refine jbs (cs:=[I 0,I 12,I (-1)]) rfl rfl λbt=>jpk hb ⟨by omega,by omega⟩ λy _ _=>jia (by omega) (by omega) (jl (Ao [0,12,-1] (by omega) (by show _ < (3:Int);omega)) ?_)
   refine js rfl rfl (Nat.le_of_ble_eq_true rfl) rfl (jk3 (F:=F) b b1 rb ?_);exact hK2 _ _ _ ⟨rfl,⟨_,_,_,_,_,_,_,_,_,by omega,by omega,rfl⟩,rfl⟩
  ·refine jbs (cs:=[I (-1),I 8,I 1099511627776]) rfl rfl λbt=>jpk hb ⟨by omega,by omega⟩ λy _ _=>jia (by omega) (by omega) (jl (Ao [-1,8,1099511627776] (by omega) (by show _ < (3:Int);omega)) ?_)
   refine js rfl rfl (Nat.le_of_ble_eq_true rfl) rfl (jk3 (F:=F) b b1 rb ?_);exact hK2 _ _ _ ⟨rfl,⟨_,_,_,_,_,_,_,_,_,by omega,by omega,rfl⟩,rfl⟩
  ·refine jbs (cs:=[I (-1),I 4,I 1099511627776]) rfl rfl λbt=>jpk hb ⟨by omega,by omega⟩ λy _ _=>jia (by omega) (by omega) (jl (Ao [-1,4,1099511627776] (by omega) (by show _ < (3:Int);omega)) ?_)
   refine js rfl rfl (Nat.le_of_ble_eq_true rfl) rfl (jk3 (F:=F) b b1 rb ?_);exact hK2 _ _ _ ⟨rfl,⟨_,_,_,_,_,_,_,_,_,by omega,by omega,rfl⟩,rfl⟩
  ·refine jk3 (F:=F) b b1 rb ?_;exact hK2 _ _ _ ⟨rfl,⟨_,_,_,_,_,_,_,_,_,by omega,by omega,rfl⟩,rfl⟩
 clear h1 h2 m';rintro e R4 D4 ⟨hR,⟨k,a,b2,c2,f,w,r,n',m',h1,h2,hD⟩,he⟩;subst hR;rw[hD];clear hD;simp only[List.map,lc,ln,lj,z_t] at he;simp only[he];refine jla (l:=[I k,I a,I b2,I c2,I f,I w,I r,I n']) (by exact z_n 8) rfl ?_;refine js rfl rfl (Nat.le_of_ble_eq_true rfl) rfl ?_;refine jla (l:=[I k,I a,I b2,I c2,I f,I w,I r,I n']) (by exact z_n 8) rfl ?_;exact Dt m' (RM.le.refl _) ⟨rfl,⟨k,a,b2,c2,f,w,⟨r,n'⟩⟩,rfl,h1.2⟩ (by omega) (by omega)
end draws
end Go.Lf
end
section
namespace Go.Lf
open Go Sm
theorem TP {R:RM} {D D1 A E:Chs} {t w by_ b m cx:Nat} {rows:List (List Value)} {cs:List Value} {v:Value} {zs:List Value} {k:Value→M} (rows2:List (List Value)) (so:SW t w rows v A) [tk:Tk D b (C t cs) D1] [sp:Sp D1 A E] (hcs:cs = rows2.flatten)
  (hw:∀r∈rows,r.length = w) (hw2:∀r∈rows2,r.length = w) (hz:zs.length = w) (hf:Bz rows2.flatten = true) (hm:m = rows2.length) (hb:by_≠0) (hl:by_ * (2 * (rows.length + rows2.length) + 200)≤2 ^ 48)
  (H:∀v' A',SW t w (rows ++ rows2) v' A'→J R (A' ++ E) (k v')):J R D (AP t w by_ zs v (.slice (some ⟨b,0,none⟩) m cx) k):=by
 subst hcs;intro h hs;have h1:=(hs.perm tk.p).perm ((sp.p.cons _).trans List.perm_middle.symm);refine jaw (E:=(b,C t rows2.flatten) :: E) so hw hw2 hz hf hm hb hl ?_ (λv' A' so'=>Au List.perm_middle (CR (H v' A' so'))) h h1;have:=BG.held (R:=R) (D:=A ++ (b,C t rows2.flatten) :: E) (b:=b) (o:=0) (n:=m * w) (t:=t) (cs:=rows2.flatten) (a:=inferInstance) (by rw[C7 hw2,hm];omega);rw[List.drop_zero,List.take_of_length_le (by rw[C7 hw2,hm];omega)] at this;exact this
theorem M4 {l:List Sm.Op}:∀r∈l.map eOp,r.length = 8:=by
 intro r hr;obtain⟨x,_,rfl⟩:=List.mem_map.1 hr;rfl
theorem Uh {R:RM} {A E:Chs} {l:List Sm.Op} {v:Value} {m:M} (so:SW 99 8 (l.map eOp) v A) (H:∀R',R.le R'→Ops R' v l→J R' E m):J R (A ++ E) m:=by
 refine jfw so M4 λR' hR hfz=>H R' hR ?_
 rw[List.length_map] at hfz;exact hfz
def Vs (l:List Sm.Op):Prop:=∀o∈l,Rn o.v
theorem Vs.app {l l' : List Sm.Op} (h:Vs l) (h' : Vs l'):Vs (l ++ l'):=λo ho=>(List.mem_append.1 ho).elim (h o) (h' o)
theorem Vs.nil:Vs []:=λo ho=>by cases ho
theorem Vs.one {o:Sm.Op} (h:Rn o.v):Vs [o]:=λx hx=>by rw[List.mem_singleton.1 hx];exact h
def OpP (b rb:Nat) (v:Value) (m c:Int) (F D:Chs):Prop:=∃k a b2 c2 f w r n m',(m≤m'∧-9223372036854775808≤w∧w < 9223372036854775808)∧m'≤m + c∧D = (b,C 99 [I k,I a,I b2,I c2,I f,I w,I r,I n]) :: (rb,rdO v m') :: F
section draws
variable {R:RM} {rb:Nat} {v:Value} {m:Int}
theorem Q4 {n:Nat} (hn:n≤1000) (hb:Byt R v) (hm:0≤m∧m < 300000000):Dr Hn [.pointer (some ⟨rb,0,none⟩),I n] R rb v m (50 * n) (λx R'=>∃l:List Sm.Op,(l.length = n∧Vs l)∧Ops R' x l):=by
 refine No λF=>?_
 unfold I5;refine AH (λvs R' D'=>R' = R∧∃(l:List Sm.Op) (ov:Value) (A:Chs) (m' : Int),(l.length = n∧Vs l)∧SW 99 8 (l.map eOp) ov A∧m≤m'∧m'≤m + 50 * n∧D' = A ++ (rb,rdO v m') :: F∧vs = [ov]) (λK hK=>?_) ?_;rotate_left
 ·rintro e R1 D1 ⟨hR,l,ov,A,m',hl,so,h1,h2,hD,he⟩;subst hR;rw[hD];clear hD;simp only[List.map,lc,ln,lj,z_t] at he;simp only[he];exact Uh so λR2 hR2 ho=>Dt m' hR2 ⟨l,hl,ho⟩ h1 h2
 refine AH (λvs R' D'=>R' = R∧∃(l:List Sm.Op) (ov:Value) (A:Chs) (m' : Int),(l.length = n∧Vs l)∧SW 99 8 (l.map eOp) ov A∧m≤m'∧m'≤m + 50 * n∧D' = A ++ (rb,rdO v m') :: F∧vs = [ov]) (λK2 hK2=>?_) ?_;rotate_left
 ·rintro e R1 D1 ⟨hR,l,ov,A,m',hl,so,h1,h2,hD,he⟩;simp only[List.map,lc,ln,lj,z_t] at he;simp only[he];exact hK _ _ _ ⟨hR,l,ov,A,m',hl,so,h1,h2,hD,rfl⟩
 refine jlp (λmm vs R' D'=>R' = R∧∃(i:Nat) (r:Int) (l:List Sm.Op) (ov:Value) (A:Chs) (m' : Int),i≤n∧(l.length = i∧Vs l)∧0≤r∧r≤i + 1∧SW 99 8 (l.map eOp) ov A∧m≤m'∧m'≤m + 50 * i∧D' = A ++ (rb,rdO v m') :: F∧vs = [.pointer (some ⟨rb,0,none⟩),I n,ov,I r,I i]∧mm = n - i)
  (n:=n) ⟨rfl,0,1,[],.slice none 0 0,[],m,by omega,⟨rfl,Vs.nil⟩,by omega,by omega,.inl ⟨rfl,rfl,rfl⟩,by omega,by omega,rfl,rfl,by omega⟩ ?_
 rintro mm e R1 D1 K3 ⟨hR,i,r,l,ov,A,m',hi,⟨hl,hvs⟩,r0,r1,so,h1,h2,hD,he,hmm⟩ hK3;subst hR;rw[hD];clear hD;simp only[List.map,lc,ln,lj,z_t] at he;simp only[he];refine jlt (jif (λhc=>?_) (λhc=>?_));rotate_left
 ·have hc:=z_g hc;have:i = n:=by omega
  subst this;exact hK2 _ _ _ ⟨rfl,l,ov,A,m',⟨hl,hvs⟩,so,h1,h2,rfl,rfl⟩
 have hc:i < n:=by have:=z_f hc;omega
 refine jdr (TM (n:=r) ⟨r0,by omega⟩ hb ⟨by omega,by omega⟩) ?_;rintro _ R2 m2 - ⟨hR2,o,rfl,hov⟩ h3 h4;subst hR2;unfold Rn at hov;refine ja λb=>js (cs':=eOp o) rfl rfl (by exact z_n 8) rfl ?_
 refine AH (λvs R' D'=>R' = R2∧OpP b rb v m2 4 (A ++ F) D'∧vs = [.pointer (some ⟨rb,0,none⟩),I n,ov,I r,I i,.pointer (some ⟨b,0,none⟩)]) (λK4 hK4=>?_) ?_
 ·refine AH (λvs R' D'=>R' = R2∧OpP b rb v m2 0 (A ++ F) D'∧∃c u w,Eu c u w∧vs = [.pointer (some ⟨rb,0,none⟩),I n,ov,I r,I i,.pointer (some ⟨b,0,none⟩),c,u]) (λK5 hK5=>?_) ?_
  ·refine jle (Bj (λh=>jl (v:=I o.kind) rfl (jeq ?_)) (λh=>?_))
   ·exact hK5 _ _ _ ⟨rfl,⟨_,_,_,_,_,_,_,_,_,by omega,by omega,rfl⟩,_,_,_,h▸Aq,rfl⟩
   ·exact hK5 _ _ _ ⟨rfl,⟨_,_,_,_,_,_,_,_,_,by omega,by omega,rfl⟩,_,_,_,h▸As,rfl⟩
  rintro e Rx Dx ⟨hR,⟨k,a,b2,c2,f,w,r',n',m3,h5,h6,hD⟩,c,u,w',ho,he⟩;subst hR;rw[hD];clear hD;simp only[List.map,lc,ln,lj,z_t] at he;simp only[he];refine AH (λvs R' D'=>R' = Rx∧OpP b rb v m2 1 (A ++ F) D'∧∃c u w,Eu c u w∧vs = [.pointer (some ⟨rb,0,none⟩),I n,ov,I r,I i,.pointer (some ⟨b,0,none⟩),c,u]) (λK5 hK5=>?_) ?_
  ·rw[ho];refine Bj (λh=>jpk hb ⟨by omega,by omega⟩ λy _ _=>jgr ?_) (λh=>?_)<;>refine jk2 (F:=A ++ F) b rb ?_
   ·exact hK5 _ _ _ ⟨rfl,⟨_,_,_,_,_,_,_,_,_,by omega,by omega,rfl⟩,_,_,_,h▸Aq,rfl⟩
   ·exact hK5 _ _ _ ⟨rfl,⟨_,_,_,_,_,_,_,_,_,by omega,by omega,rfl⟩,_,_,_,h▸As,rfl⟩
  clear h5 h6 m3 ho;rintro e Ry Dy ⟨hR,⟨k,a,b2,c2,f,w,r',n',m3,h5,h6,hD⟩,c,u,w',ho,he⟩;subst hR;rw[hD];clear hD;simp only[List.map,lc,ln,lj,z_t] at he;simp only[he];rw[ho];refine jif (λh=>?_) (λh=>?_)
  ·refine jdr (Jy hb ⟨by omega,by omega⟩) ?_;rintro _ R3 m4 - ⟨hR3,sh,rfl⟩ h7 h8;subst hR3;refine jbd (cs:=[I 1,I 0,I 0,I 0,I 0,I 0,I sh.refs,I sh.nums]) rfl rfl ?_;refine js (cs':=[I 1,I 0,I 0,I 0,I 0,I 0,I sh.refs,I sh.nums]) rfl rfl (by exact z_n 8) rfl ?_;refine jk2 (F:=A ++ F) b rb ?_;exact hK4 _ _ _ ⟨rfl,⟨_,_,_,_,_,_,_,_,_,by omega,by omega,rfl⟩,rfl⟩
  ·exact hK4 _ _ _ ⟨rfl,⟨_,_,_,_,_,_,_,_,_,by omega,by omega,rfl⟩,rfl⟩
 rintro e Rx Dx ⟨hR,⟨k,a,b2,c2,f,w,r',n',m3,h5,h6,hD⟩,he⟩;subst hR;rw[hD];clear hD;simp only[List.map,lc,ln,lj,z_t] at he;simp only[he];refine AH (λvs R' D'=>R' = Rx∧OpP b rb v m2 4 (A ++ F) D'∧vs = [.pointer (some ⟨rb,0,none⟩),I n,ov,I r,I i,.pointer (some ⟨b,0,none⟩)]) (λK4 hK4=>?_) ?_
 ·refine AH (λvs R' D'=>R' = Rx∧OpP b rb v m2 4 (A ++ F) D'∧∃c u w,Eu c u w∧vs = [.pointer (some ⟨rb,0,none⟩),I n,ov,I r,I i,.pointer (some ⟨b,0,none⟩),c,u]) (λK5 hK5=>?_) ?_
  ·refine jge (Bj (λh=>?_) (λh=>?_))
   ·have hu:∀w' : Bool,J Rx ((b,C 99 [I k,I a,I b2,I c2,I f,I w,I r',I n']) :: (rb,rdO v m3) :: (A ++ F)) (K5 [.pointer (some ⟨rb,0,none⟩),I n,ov,I r,I i,.pointer (some ⟨b,0,none⟩),.bool (decide (r≥7)),.bool w']):=λw'=>
     hK5 _ _ _ ⟨rfl,⟨_,_,_,_,_,_,_,_,_,by omega,by omega,rfl⟩,_,_,_,h▸Aq,rfl⟩
    refine jl (v:=I k) rfl (jeq (BW (λh2=>?_) (λh2=>?_)))<;>rw[h2]
    ·refine jl (v:=I k) rfl (jeq (DU (BW (λh3=>?_) (λh3=>?_))))<;>rw[h3]
     ·exact jl (v:=I k) rfl (jeq (DU (hu _)))
     ·exact Da (hu _)
    ·exact Da (jtf (Da (hu _)))
   ·exact hK5 _ _ _ ⟨rfl,⟨_,_,_,_,_,_,_,_,_,by omega,by omega,rfl⟩,_,_,_,h▸As,rfl⟩
  clear h5 h6 m3;rintro e Ry Dy ⟨hR,⟨k,a,b2,c2,f,w,r',n',m3,h5,h6,hD⟩,c,u,w',ho,he⟩;subst hR;rw[hD];clear hD;simp only[List.map,lc,ln,lj,z_t] at he;simp only[he];rw[ho];refine jif (λh=>?_) (λh=>?_)
  ·refine jbd (cs:=[I 8,I 0,I 0,I 0,I 0,I 0,I 0,I 0]) rfl rfl ?_;refine js (cs':=[I 8,I 0,I 0,I 0,I 0,I 0,I 0,I 0]) rfl rfl (by exact z_n 8) rfl ?_;exact hK4 _ _ _ ⟨rfl,⟨_,_,_,_,_,_,_,_,_,by omega,by omega,rfl⟩,rfl⟩
  ·exact hK4 _ _ _ ⟨rfl,⟨_,_,_,_,_,_,_,_,_,by omega,by omega,rfl⟩,rfl⟩
 clear h5 h6 m3;rintro e Ry Dy ⟨hR,⟨k,a,b2,c2,f,w,r',n',m3,h5,h6,hD⟩,he⟩;subst hR;rw[hD];clear hD;simp only[List.map,lc,ln,lj,z_t] at he;simp only[he];refine AH (λvs R' D'=>R' = Ry∧D' = (b,C 99 [I k,I a,I b2,I c2,I f,I w,I r',I n']) :: (rb,rdO v m3) :: (A ++ F)∧∃r2:Int,0≤r2∧r2≤r + 1∧vs = [.pointer (some ⟨rb,0,none⟩),I n,ov,I r2,I i,.pointer (some ⟨b,0,none⟩)]) (λK6 hK6=>?_) ?_
 ·refine jl (v:=I k) rfl ?_;refine AH (λvs R' D'=>R' = Ry∧D' = (b,C 99 [I k,I a,I b2,I c2,I f,I w,I r',I n']) :: (rb,rdO v m3) :: (A ++ F)∧∃r2:Int,0≤r2∧r2≤r + 1∧vs = [.pointer (some ⟨rb,0,none⟩),I n,ov,I r2,I i,.pointer (some ⟨b,0,none⟩)]) (λK7 hK7=>?_) ?_;rotate_left
  ·rintro e Rz Dz ⟨hR,hD,r2,q0,q1,he⟩;simp only[List.map,lc,ln,lj,z_t] at he;simp only[he];exact hK6 _ _ _ ⟨hR,hD,r2,q0,q1,rfl⟩
  refine AH (λvs R' D'=>R' = Ry∧D' = (b,C 99 [I k,I a,I b2,I c2,I f,I w,I r',I n']) :: (rb,rdO v m3) :: (A ++ F)∧∃w' : Bool,vs = [.pointer (some ⟨rb,0,none⟩),I n,ov,I r,I i,.pointer (some ⟨b,0,none⟩),I k,.bool w']) (λK8 hK8=>?_) ?_
  ·refine jeq (jif (λh=>?_) (λh=>jeq (jif (λh=>?_) (λh=>jeq ?_))))<;>exact hK8 _ _ _ ⟨rfl,rfl,_,rfl⟩
  rintro e Rz Dz ⟨hR,hD,w',he⟩;subst hR;rw[hD];clear hD;simp only[List.map,lc,ln,lj,z_t] at he;simp only[he];refine jif (λh=>Ac ⟨by omega,by omega⟩ ?_) (λh=>jeq (jif (λh=>jgr (jif (λh=>DE ⟨by omega,by omega⟩ ?_) (λh=>?_))) (λh=>?_)))
  ·exact hK7 _ _ _ ⟨rfl,rfl,r + 1,by omega,by omega,rfl⟩
  ·have h:=z_f h;exact hK7 _ _ _ ⟨rfl,rfl,r - 1,by omega,by omega,rfl⟩
  ·exact hK7 _ _ _ ⟨rfl,rfl,r,by omega,by omega,rfl⟩
  ·exact hK7 _ _ _ ⟨rfl,rfl,r,by omega,by omega,rfl⟩
 rintro e Rz Dz ⟨hR,hD,r2,q0,q1,he⟩;subst hR;rw[hD];clear hD;simp only[List.map,lc,ln,lj,z_t] at he;simp only[he];refine jla (l:=[I k,I a,I b2,I c2,I f,I w,I r',I n']) (by exact z_n 8) rfl ?_;refine jbs (cs:=[I k,I a,I b2,I c2,I f,I w,I r',I n']) rfl rfl λbs=>?_
 refine TP [eOp ⟨k,a,b2,c2,f,w,⟨r',n'⟩⟩] so rfl M4 (λq hq=>by rw[List.mem_singleton.1 hq];rfl) rfl rfl rfl (by decide) (by rw[List.length_map,List.length_singleton];omega) λv' A' so'=>?_
 refine Ac ⟨by omega,by omega⟩ ?_;refine Av A' (G:=(rb,rdO v m3) :: F) ?_;exact hK3 (n - (i + 1)) _ _ _ (by omega) ⟨rfl,i + 1,r2,l ++ [⟨k,a,b2,c2,f,w,⟨r',n'⟩⟩],v',A',m3,by omega,⟨by rw[List.length_append,hl];rfl,hvs.app (Vs.one (by exact h5.2))⟩,q0,by omega,by rw[List.map_append];exact so',by omega,by omega,rfl,rfl,rfl⟩
end draws
end Go.Lf
end
section
namespace Go.Lf
open Go Sm
theorem Dg.le {R R' : RM} {v:Value} {l:List (List Sm.Op)} (h:R.le R') (H:Dg R v l):Dg R' v l:=by
 obtain⟨vs,h1,h2,h3⟩:=H;exact⟨vs,h1.le h,h2,λi hi=>by obtain⟨x,hx,ho⟩:=h3 i hi;exact⟨x,hx,ho.le h⟩⟩
def PrW (R:RM) (rows:List (List Value)) (l:List (List Sm.Op)):Prop:=Rw (λrow p=>∃x,row = [x]∧Ops R x p) rows l
theorem PrW.len {R:RM} {rows:List (List Value)} {l:List (List Sm.Op)} (h:PrW R rows l):∀r∈rows,r.length = 1:=h.all λ_ _ ⟨_,hx,_⟩=>by rw[hx];rfl
theorem PrW.le {R R' : RM} {rows:List (List Value)} {l:List (List Sm.Op)} (hr:R.le R') (h:PrW R rows l):PrW R' rows l:=h.mono λ_ _ ⟨x,h1,h2⟩=>⟨x,h1,h2.le hr⟩
theorem Tx:∀{rows:List (List Value)} (_:∀r∈rows,r.length = 1) (i:Nat) (h:i < rows.length),rows.flatten[i]? = (rows[i])[0]?
 | [],_,i,h=>absurd h (by simp)
 | a :: r,hw,i,h=>by
  have ha:a.length = 1:=hw a (by simp);rw[List.flatten_cons];cases i with
  | zero=>rw[List.getElem?_append_left (by omega)];rfl
  | succ i=>rw[List.getElem?_append_right (by omega),ha,Nat.add_sub_cancel,Tx (λx hx=>hw x (by simp[hx])) i (by simpa using h)];rfl
theorem SQ {R:RM} {A E:Chs} {t:Nat} {rows:List (List Value)} {l:List (List Sm.Op)} {v:Value} {m:M} (so:SW t 1 rows v A) (hp:PrW R rows l) (H:∀R',R.le R'→Dg R' v l→J R' E m):J R (A ++ E) m:=by
 refine jfw so hp.len λR' hR hfz=>H R' hR ⟨rows.flatten,?_,?_,λi hi=>?_⟩
 ·rw[← hp.1];exact hfz
 ·rw[C7 hp.len,hp.1];omega
 ·have hi' : i < rows.length:=by rw[hp.1];exact hi
  obtain⟨x,h1,h2⟩:=hp.2 i hi' hi;exact⟨x,by rw[Tx hp.len i hi',h1];rfl,h2.le hR⟩
theorem Nb:∀(q:List Sm.Op) (u:Nat),(AW eOp q).take (u * 8) = AW eOp (q.take u)
 | [],u=>by simp[AW]
 | x :: r,0=>by simp[AW]
 | x :: r,u + 1=>by
  have:=Nb r u;unfold AW at this ⊢;rw[List.take_succ_cons,List.map_cons,List.map_cons,List.flatten_cons,List.flatten_cons,List.take_append,List.take_of_length_le (by show 8≤_;omega),← this];congr 2;show (u + 1) * 8 - 8 = _;omega
section draws
variable {R:RM} {rb:Nat} {v:Value} {m:Int}
theorem OI {n:Nat} (hn:n≤39) (hb:Byt R v) (hm:0≤m∧m < 300000000):Dr H9 [.pointer (some ⟨rb,0,none⟩),I n] R rb v m 1000 (λx R'=>∃l:List Sm.Op,(l.length≤40∧Vs l)∧Ops R' x l):=by
 refine Lv λF=>?_
 unfold Gv;have fin:∀(l:List Sm.Op) (ov:Value) (A:Chs) (m' : Int),l.length≤40∧Vs l→SW 99 8 (l.map eOp) ov A→m≤m'→m'≤m + 1000→J R (A ++ (rb,rdO v m') :: F) (ED R F (λx R' A=>R.le R'∧(∃l:List Sm.Op,(l.length≤40∧Vs l)∧Ops R' x l)∧∃m',m≤m'∧m'≤m + 1000∧A = [(rb,rdO v m')]) ov):=λl ov A m' hl so h1 h2=>
  Uh so λR2 hR2 ho=>Dt m' hR2 ⟨l,hl,ho⟩ h1 h2
 refine AH (λvs R' D'=>R' = R∧∃(l:List Sm.Op) (ov:Value) (A:Chs) (m' : Int),(l.length≤40∧Vs l)∧SW 99 8 (l.map eOp) ov A∧m≤m'∧m'≤m + 1000∧D' = A ++ (rb,rdO v m') :: F∧vs = [ov]) (λK hK=>?_) ?_;rotate_left
 ·rintro e R1 D1 ⟨hR,l,ov,A,m',hl,so,h1,h2,hD,he⟩;subst hR;rw[hD];clear hD;simp only[List.map,lc,ln,lj,z_t] at he;simp only[he];exact fin l ov A m' hl so h1 h2
 refine AH (λvs R' D'=>R' = R∧∃(l:List Sm.Op) (ov:Value) (A:Chs) (m' : Int),(l.length≤40∧Vs l)∧SW 99 8 (l.map eOp) ov A∧m≤m'∧m'≤m + 1000∧D' = A ++ (rb,rdO v m') :: F∧vs = [ov]) (λK2 hK2=>?_) ?_;rotate_left
 ·rintro e R1 D1 ⟨hR,l,ov,A,m',hl,so,h1,h2,hD,he⟩;simp only[List.map,lc,ln,lj,z_t] at he;simp only[he];exact hK _ _ _ ⟨hR,l,ov,A,m',hl,so,h1,h2,hD,rfl⟩
 refine jlp (λmm vs R' D'=>R' = R∧∃(l:List Sm.Op) (ov:Value) (A:Chs) (m' : Int),(l.length≤40∧Vs l)∧SW 99 8 (l.map eOp) ov A∧m≤m'∧m'≤m + 10 * l.length∧D' = A ++ (rb,rdO v m') :: F∧vs = [.pointer (some ⟨rb,0,none⟩),I n,ov]∧mm = 40 - l.length)
  (n:=40) ⟨rfl,[],.slice none 0 0,[],m,⟨by decide,Vs.nil⟩,.inl ⟨rfl,rfl,rfl⟩,by omega,by simp,rfl,rfl,rfl⟩ ?_
 rintro mm e R1 D1 K3 ⟨hR,l,ov,A,m',⟨hl,hv⟩,so,h1,h2,hD,he,hmm⟩ hK3;subst hR;rw[hD];clear hD;simp only[List.map,lc,ln,lj,z_t] at he;simp only[he];have hsl:=so.sl;rw[List.length_map] at hsl;refine Co hsl (Ac ⟨by omega,by omega⟩ (jlt (jif (λhc=>?_) (λhc=>?_))));rotate_left
 ·exact hK2 _ _ _ ⟨rfl,l,ov,A,m',⟨hl,hv⟩,so,h1,by omega,rfl,rfl⟩
 have hc:=z_f hc;have hl32:l.length≤32:=by omega
 refine jpk hb ⟨by omega,by omega⟩ λy1 _ _=>Ac ⟨by omega,by omega⟩ (jpk hb ⟨by omega,by omega⟩ λy2 _ _=>?_)
 refine jbd (cs:=[I (1 + y1),I y2]) rfl rfl (jbd (cs:=[I 1,I 0,I 0,I 0,I 0,I 0,I (1 + y1),I y2]) rfl rfl ?_);refine jbs (cs:=[I 1,I 0,I 0,I 0,I 0,I 0,I (1 + y1),I y2]) rfl rfl λbs=>?_
 have app:∀{D:Chs} {b cx:Nat} {cs:List Value} {l1:List Sm.Op} {ov1:Value} {A1 E D1:Chs} {k:Value→M} (l2:List Sm.Op),SW 99 8 (l1.map eOp) ov1 A1→Tk D b (C 99 cs) D1→Sp D1 A1 E→cs = (l2.map eOp).flatten→l1.length + l2.length≤40→
   (∀ov2 A2,SW 99 8 ((l1 ++ l2).map eOp) ov2 A2→J R1 (A2 ++ E) (k ov2))→J R1 D (AP 99 8 64 (cl z99) ov1 (.slice (some ⟨b,0,none⟩) l2.length cx) k):=λ{D b cx cs l1 ov1 A1 E D1 k} l2 so1 tk sp hcs hlen H=>by
  refine TP (tk:=tk) (sp:=sp) (l2.map eOp) so1 hcs M4 M4 rfl (N0 λr hr=>?_) (by rw[List.length_map]) (by decide) (by rw[List.length_map,List.length_map];omega) λv' A' so'=>H v' A' (by rw[List.map_append];exact so')
  obtain⟨x,_,rfl⟩:=List.mem_map.1 hr;rfl
 refine app [⟨1,0,0,0,0,0,⟨1 + y1,y2⟩⟩] so inferInstance inferInstance rfl (by rw[List.length_singleton];omega) λov1 A1 so1=>?_
 generalize hl1:l ++ [(⟨1,0,0,0,0,0,⟨1 + y1,y2⟩⟩:Sm.Op)] = l1 at so1;have hv1:Vs l1:=hl1▸hv.app (Vs.one (by exact Rn.zero));have hl1l:l1.length = l.length + 1:=by rw[← hl1];simp
 have hsl1:=so1.sl;rw[List.length_map] at hsl1;refine AH (λvs R' D'=>R' = R1∧∃(l2:List Sm.Op) (ov:Value) (A:Chs) (m2:Int),l.length < l2.length∧l2.length≤l.length + 7∧(l2.length≤39∧Vs l2)∧SW 99 8 (l2.map eOp) ov A∧m'≤m2∧m2≤m' + 6∧D' = A ++ (rb,rdO v m2) :: F∧vs = [.pointer (some ⟨rb,0,none⟩),I n,ov]) (λK4 hK4=>?_) ?_
 ·refine jpk hb ⟨by omega,by omega⟩ λy3 _ _=>?_
  refine AH (λvs R' D'=>R' = R1∧∃(l2:List Sm.Op) (ov:Value) (A:Chs) (m2:Int),l.length < l2.length∧l2.length≤l.length + 7∧(l2.length≤39∧Vs l2)∧SW 99 8 (l2.map eOp) ov A∧m'≤m2∧m2≤m' + 6∧D' = A ++ (rb,rdO v m2) :: F∧vs = [.pointer (some ⟨rb,0,none⟩),I n,ov]) (λK5 hK5=>?_) ?_;rotate_left
  ·rintro e Rx Dx ⟨hR,l2,ov,A,m2,q1,q2,q3,so2,q4,q5,hD,he⟩;simp only[List.map,lc,ln,lj,z_t] at he;simp only[he];exact hK4 _ _ _ ⟨hR,l2,ov,A,m2,q1,q2,q3,so2,q4,q5,hD,rfl⟩
  refine jeq (jif (λ_=>?_) (λ_=>jeq (jif (λ_=>?_) (λ_=>jeq (jif (λ_=>?_) (λ_=>jeq (jif (λ_=>?_) (λ_=>jeq (jif (λ_=>?_) (λ_=>?_))))))))))
  ·refine jbd (cs:=[I 10,I 1,I 0,I 0,I 0,I 0,I 0,I 0]) rfl rfl (jbd (cs:=[I 3,I 1,I 0,I 0,I 0,I 0,I 0,I 0]) rfl rfl (jbd (cs:=[I 5,I 1,I 0,I 0,I 0,I 0,I 0,I 0]) rfl rfl (jbd (cs:=[I 11,I 1,I 0,I 0,I 0,I 0,I 0,I 0]) rfl rfl ?_)));refine jbs (cs:=(([⟨10,1,0,0,0,0,⟨0,0⟩⟩,⟨3,1,0,0,0,0,⟨0,0⟩⟩,⟨5,1,0,0,0,0,⟨0,0⟩⟩,⟨11,1,0,0,0,0,⟨0,0⟩⟩]:List Sm.Op).map eOp).flatten) rfl rfl λbt=>?_
   refine app [⟨10,1,0,0,0,0,⟨0,0⟩⟩,⟨3,1,0,0,0,0,⟨0,0⟩⟩,⟨5,1,0,0,0,0,⟨0,0⟩⟩,⟨11,1,0,0,0,0,⟨0,0⟩⟩] so1 inferInstance inferInstance rfl (by simp;omega) λov2 A2 so2=>?_
   exact hK5 _ _ _ ⟨rfl,_,ov2,A2,_,by simp;omega,by simp;omega,⟨by simp;omega,hv1.app (by simp[Vs,Rn]<;>omega)⟩,so2,by omega,by omega,rfl,rfl⟩
  ·refine jpk hb ⟨by omega,by omega⟩ λz1 _ _=>jbd (cs:=[I 3,I 0,I 1,I 0,I z1,I 0,I 0,I 0]) rfl rfl ?_
   refine jbs (cs:=[I 3,I 0,I 1,I 0,I z1,I 0,I 0,I 0]) rfl rfl λbt=>?_
   refine app [⟨3,0,1,0,z1,0,⟨0,0⟩⟩] so1 inferInstance inferInstance rfl (by simp;omega) λov2 A2 so2=>?_
   exact hK5 _ _ _ ⟨rfl,_,ov2,A2,_,by simp;omega,by simp;omega,⟨by simp;omega,hv1.app (by simp[Vs,Rn]<;>omega)⟩,so2,by omega,by omega,rfl,rfl⟩
  ·refine jpk hb ⟨by omega,by omega⟩ λz1 _ _=>jbd (cs:=[I 2,I 0,I 0,I 0,I z1,I 0,I 0,I 0]) rfl rfl (jbd (cs:=[I 3,I 1,I 2,I 0,I 0,I 0,I 0,I 0]) rfl rfl (jpk hb ⟨by omega,by omega⟩ λz2 _ _=>jbd (cs:=[I 3,I 0,I 1,I 0,I z2,I 0,I 0,I 0]) rfl rfl (jbd (cs:=[I 8,I 0,I 0,I 0,I 0,I 0,I 0,I 0]) rfl rfl ?_)))
   refine jbs (cs:=(([⟨2,0,0,0,z1,0,⟨0,0⟩⟩,⟨3,1,2,0,0,0,⟨0,0⟩⟩,⟨3,0,1,0,z2,0,⟨0,0⟩⟩,⟨8,0,0,0,0,0,⟨0,0⟩⟩]:List Sm.Op).map eOp).flatten) rfl rfl λbt=>?_
   refine app [⟨2,0,0,0,z1,0,⟨0,0⟩⟩,⟨3,1,2,0,0,0,⟨0,0⟩⟩,⟨3,0,1,0,z2,0,⟨0,0⟩⟩,⟨8,0,0,0,0,0,⟨0,0⟩⟩] so1 inferInstance inferInstance rfl (by simp;omega) λov2 A2 so2=>?_
   exact hK5 _ _ _ ⟨rfl,_,ov2,A2,_,by simp;omega,by simp;omega,⟨by simp;omega,hv1.app (by simp[Vs,Rn]<;>omega)⟩,so2,by omega,by omega,rfl,rfl⟩
  ·refine jpk hb ⟨by omega,by omega⟩ λz1 _ _=>jbd (cs:=[I 2,I 0,I 0,I 0,I z1,I 0,I 0,I 0]) rfl rfl (jbd (cs:=[I 7,I 0,I 2,I 1,I z1,I 0,I 0,I 0]) rfl rfl (jbd (cs:=[I 6,I 1,I 2,I 0,I 0,I 0,I 0,I 0]) rfl rfl (jbd (cs:=[I 8,I 0,I 0,I 0,I 0,I 0,I 0,I 0]) rfl rfl ?_)))
   refine jbs (cs:=(([⟨2,0,0,0,z1,0,⟨0,0⟩⟩,⟨7,0,2,1,z1,0,⟨0,0⟩⟩,⟨6,1,2,0,0,0,⟨0,0⟩⟩,⟨8,0,0,0,0,0,⟨0,0⟩⟩]:List Sm.Op).map eOp).flatten) rfl rfl λbt=>?_
   refine app [⟨2,0,0,0,z1,0,⟨0,0⟩⟩,⟨7,0,2,1,z1,0,⟨0,0⟩⟩,⟨6,1,2,0,0,0,⟨0,0⟩⟩,⟨8,0,0,0,0,0,⟨0,0⟩⟩] so1 inferInstance inferInstance rfl (by simp;omega) λov2 A2 so2=>?_
   exact hK5 _ _ _ ⟨rfl,_,ov2,A2,_,by simp;omega,by simp;omega,⟨by simp;omega,hv1.app (by simp[Vs,Rn]<;>omega)⟩,so2,by omega,by omega,rfl,rfl⟩
  ·refine jpk hb ⟨by omega,by omega⟩ λz1 _ _=>jbd (cs:=[I 2,I 0,I 0,I 0,I z1,I 0,I 0,I 0]) rfl rfl (jpk hb ⟨by omega,by omega⟩ λz2 _ _=>jbd (cs:=[I 4,I 2,I 0,I 0,I 0,I z2,I 0,I 0]) rfl rfl (jbd (cs:=[I 5,I 2,I 0,I 0,I 0,I 0,I 0,I 0]) rfl rfl (jbd (cs:=[I 2,I 2,I 0,I 0,I 0,I 0,I 0,I 0]) rfl rfl (jbd (cs:=[I 8,I 0,I 0,I 0,I 0,I 0,I 0,I 0]) rfl rfl (jbd (cs:=[I 8,I 0,I 0,I 0,I 0,I 0,I 0,I 0]) rfl rfl ?_)))))
   refine jbs (cs:=(([⟨2,0,0,0,z1,0,⟨0,0⟩⟩,⟨4,2,0,0,0,z2,⟨0,0⟩⟩,⟨5,2,0,0,0,0,⟨0,0⟩⟩,⟨2,2,0,0,0,0,⟨0,0⟩⟩,⟨8,0,0,0,0,0,⟨0,0⟩⟩,⟨8,0,0,0,0,0,⟨0,0⟩⟩]:List Sm.Op).map eOp).flatten) rfl rfl λbt=>?_
   refine app [⟨2,0,0,0,z1,0,⟨0,0⟩⟩,⟨4,2,0,0,0,z2,⟨0,0⟩⟩,⟨5,2,0,0,0,0,⟨0,0⟩⟩,⟨2,2,0,0,0,0,⟨0,0⟩⟩,⟨8,0,0,0,0,0,⟨0,0⟩⟩,⟨8,0,0,0,0,0,⟨0,0⟩⟩] so1 inferInstance inferInstance rfl (by simp;omega) λov2 A2 so2=>?_
   obtain⟨l3,hl3,so3⟩:∃l3:List Sm.Op,(l3.length = l1.length + 6∧Vs l3)∧SW 99 8 (l3.map eOp) ov2 A2:=⟨_,⟨by simp,hv1.app (by simp[Vs,Rn]<;>omega)⟩,so2⟩;obtain⟨hl3,hv3⟩:=hl3;have hsl2:=so3.sl;rw[List.length_map] at hsl2;refine Co hsl2 (jgr (jif (λhg=>?_) (λhg=>?_)))
   ·have hg:=z_f hg;refine Uh so3 λR2 hR2 ho=>Vf ho (by decide) (by omega) λv' hv'=>Dt _ hR2 ⟨l3.take 38,⟨by rw[List.length_take];omega,λo ho=>hv3 o (List.mem_of_mem_take ho)⟩,?_⟩ (by omega) (by omega)
    unfold Ops;rw[List.length_take,Nat.min_eq_left (by omega),← Nb];exact hv'
   ·have hg:=z_g hg;exact hK5 _ _ _ ⟨rfl,l3,ov2,A2,_,by omega,by omega,⟨by omega,hv3⟩,so3,by omega,by omega,rfl,rfl⟩
  ·refine Av A1 (G:=(rb,rdO v (m' + 1 + 1 + 1)) :: F) ?_;exact hK5 _ _ _ ⟨rfl,l1,ov1,A1,_,by omega,by omega,⟨by omega,hv1⟩,so1,by omega,by omega,rfl,rfl⟩
 rintro e Rx Dx ⟨hR,l2,ov,A,m2,q1,q2,⟨q3,hv2⟩,so2,q4,q5,hD,he⟩;subst hR;rw[hD];clear hD;simp only[List.map,lc,ln,lj,z_t] at he;simp only[he];refine jbd (cs:=[I 8,I 0,I 0,I 0,I 0,I 0,I 0,I 0]) rfl rfl (jbs (cs:=[I 8,I 0,I 0,I 0,I 0,I 0,I 0,I 0]) rfl rfl λbt=>?_);refine app [⟨8,0,0,0,0,0,⟨0,0⟩⟩] so2 inferInstance inferInstance rfl (by simp;omega) λov2 A2 so3=>?_
 exact hK3 (40 - (l2.length + 1)) _ _ _ (by omega) ⟨rfl,_,ov2,A2,_,⟨by simp;omega,hv2.app (Vs.one (by exact Rn.zero))⟩,so3,by omega,by simp;omega,rfl,rfl,by simp⟩
end draws
end Go.Lf
end
section
namespace Go.Lf
open Go Sm
@[reducible] def eCf (c:Cfg):List Value:=[I c.A6,I c.AB,I c.AI]
theorem SO.sln {l:List Int} {v:Value} {A:Chs} (h:SO l v A):∃a c,v = .slice a l.length c:=by
 rcases h with ⟨rfl,rfl,_⟩ | ⟨b,c,sp,_,_,rfl,_⟩<;>exact⟨_,_,rfl⟩
section draws
variable {R:RM} {rb:Nat} {v:Value} {m:Int}
theorem Ov {c:Cfg} (hc:BJ c = true) (hb:Byt R v) (hm:0≤m∧m < 200000000):Dr HK [.pointer (some ⟨rb,0,none⟩),.agg #[I c.A6,I c.AB,I c.AI]] R rb v m 10000 (λx R'=>∃l:List (List Sm.Op),(l.length:Int) = c.AB∧(∀p∈l,p.length≤40∧Vs p)∧Dg R' x l):=by
 refine Li λF=>?_
 unfold Gi;simp only[BJ,z_b,z_d] at hc;obtain⟨n,hn⟩:∃n:Nat,c.AB = n:=⟨c.AB.toNat,by omega⟩;refine ja λb=>Au (D':=(rb,rdO v m) :: (b,C 67 (eCf c)) :: F) (List.Perm.swap _ _ _) ?_
 refine AH (λvs R' D'=>R.le R'∧∃(l:List (List Sm.Op)) (rows:List (List Value)) (ov:Value) (A:Chs) (m' : Int),l.length = n∧(∀p∈l,p.length≤40∧Vs p)∧PrW R' rows l∧SW 82 1 rows ov A∧m≤m'∧m'≤m + 10000∧D' = A ++ (rb,rdO v m') :: (b,C 67 (eCf c)) :: F∧vs = [ov]) (λK hK=>?_) ?_;rotate_left
 ·rintro e R1 D1 ⟨hR,l,rows,ov,A,m',hl,hp,hrw,so,h1,h2,hD,he⟩;rw[hD];clear hD;simp only[List.map,lc,ln,lj,z_t] at he;simp only[he];exact SQ so hrw λR2 hR2 ho=>Dt m' (hR.trans hR2) ⟨l,by omega,hp,ho⟩ h1 h2
 refine AH (λvs R' D'=>R.le R'∧∃(l:List (List Sm.Op)) (rows:List (List Value)) (ov:Value) (A:Chs) (m' : Int),l.length = n∧(∀p∈l,p.length≤40∧Vs p)∧PrW R' rows l∧SW 82 1 rows ov A∧m≤m'∧m'≤m + 10000∧D' = A ++ (rb,rdO v m') :: (b,C 67 (eCf c)) :: F∧vs = [ov]) (λK2 hK2=>?_) ?_;rotate_left
 ·rintro e R1 D1 ⟨hR,l,rows,ov,A,m',hl,hp,hrw,so,h1,h2,hD,he⟩;simp only[List.map,lc,ln,lj,z_t] at he;simp only[he];exact hK _ _ _ ⟨hR,l,rows,ov,A,m',hl,hp,hrw,so,h1,h2,hD,rfl⟩
 refine jlp (λmm vs R' D'=>R.le R'∧∃(i:Nat) (l:List (List Sm.Op)) (rows:List (List Value)) (ov:Value) (A:Chs) (m' : Int),i≤n∧l.length = i∧(∀p∈l,p.length≤40∧Vs p)∧PrW R' rows l∧SW 82 1 rows ov A∧m≤m'∧m'≤m + 3000 * i∧D' = A ++ (rb,rdO v m') :: (b,C 67 (eCf c)) :: F∧vs = [.pointer (some ⟨rb,0,none⟩),.pointer (some ⟨b,0,none⟩),ov,I i]∧mm = n - i)
  (n:=n) ⟨RM.le.refl R,0,[],[],.slice none 0 0,[],m,by omega,rfl,(λp hp=>by cases hp),Rw.nil,.inl ⟨rfl,rfl,rfl⟩,by omega,by omega,rfl,rfl,by omega⟩ ?_
 rintro mm e R1 D1 K3 ⟨hR,i,l,rows,ov,A,m',hi,hl,hp,hrw,so,h1,h2,hD,he,hmm⟩ hK3;rw[hD];clear hD;simp only[List.map,lc,ln,lj,z_t] at he;simp only[he];refine jl (v:=I c.AB) rfl (jlt (jif (λh=>?_) (λh=>?_)));rotate_left
 ·have h:=z_g h;exact hK2 _ _ _ ⟨hR,l,rows,ov,A,m',by omega,hp,hrw,so,h1,by omega,rfl,rfl⟩
 have h:=z_f h;refine jpk (hb.le hR) ⟨by omega,by omega⟩ λy _ _=>Ac ⟨by omega,by omega⟩ ?_
 obtain⟨k,hk⟩:∃k:Nat,4 + y = k:=⟨(4 + y).toNat,by omega⟩;rw[hk];refine jdr (Q4 (n:=k) (by omega) (hb.le hR) ⟨by omega,by omega⟩) ?_;rintro x R2 m2 hR2 ⟨q,⟨hq,hqv⟩,hops⟩ h3 h4;obtain⟨xa,xc,hx⟩:=Fz.sl hops;subst hx;refine jbs (cs:=[.slice xa q.length xc]) rfl rfl λbs=>?_
 have hrl:=hrw.1;refine TP [[.slice xa q.length xc]] so rfl hrw.len (λr hr=>by rw[List.mem_singleton.1 hr];rfl) rfl rfl rfl (by decide) (by rw[List.length_singleton];omega) λv' A' so'=>?_
 refine Ac ⟨by omega,by omega⟩ ?_;refine hK3 (n - (i + 1)) _ _ _ (by omega) ⟨hR.trans hR2,i + 1,l ++ [q],_,v',A',m2,by omega,by rw[List.length_append,hl];rfl,λp hp'=>?_,(hrw.le hR2).app (Rw.one ⟨_,rfl,hops⟩),so',by omega,by omega,rfl,rfl,rfl⟩;rcases List.mem_append.1 hp' with hp' | hp'
 ·exact hp p hp'
 ·rw[List.mem_singleton.1 hp'];exact⟨by omega,hqv⟩
def Sml (l:List Int):Prop:=∀a∈l,0≤a∧a≤9
theorem Sml.snoc {l:List Int} {x:Int} (h:Sml l) (h0:0≤x) (h1:x≤9):Sml (l ++ [x]):=λa ha=>by
 rcases List.mem_append.1 ha with ha | ha
 ·exact h a ha
 ·rw[List.mem_singleton.1 ha];exact⟨h0,h1⟩
theorem OU {c:Cfg} {n:Nat} (hc:BJ c = true) (hn:n≤4000) (hb:Byt R v) (hm:0≤m∧m < 200000000):Dr GU [.pointer (some ⟨rb,0,none⟩),.agg #[I c.A6,I c.AB,I c.AI],I n] R rb v m 500000 (λx R'=>∃l:List Int,l.length = n∧Sml l∧B9 R' x l):=by
 refine MM λF=>?_
 unfold H4;simp only[BJ,z_b,z_d] at hc;refine ja λb=>Au (D':=(rb,rdO v m) :: (b,C 67 (eCf c)) :: F) (List.Perm.swap _ _ _) ?_
 refine AH (λvs R' D'=>R' = R∧∃(l:List Int) (ov:Value) (A:Chs) (m' : Int),n≤l.length∧Sml l∧SO l ov A∧m≤m'∧m'≤m + 500000∧D' = A ++ (rb,rdO v m') :: (b,C 67 (eCf c)) :: F∧vs = [I n,ov]) (λK hK=>?_) ?_;rotate_left
 ·rintro e R1 D1 ⟨hR,l,ov,A,m',hl,hp,so,h1,h2,hD,he⟩;subst hR;rw[hD];clear hD;simp only[List.map,lc,ln,lj,z_t] at he;simp only[he];refine Es so λR2 hR2 hi=>Ri hi (by omega) (by omega) λv' hv'=>Dt m' hR2 ⟨l.take n,by rw[List.length_take];omega,λa ha=>hp a (List.mem_of_mem_take ha),by rw[Int.toNat_natCast] at hv';exact hv'⟩ h1 h2
 refine AH (λvs R' D'=>R' = R∧∃(l:List Int) (ov:Value) (A:Chs) (m' : Int),n≤l.length∧Sml l∧SO l ov A∧m≤m'∧m'≤m + 500000∧D' = A ++ (rb,rdO v m') :: (b,C 67 (eCf c)) :: F∧vs = [I n,ov]) (λK2 hK2=>?_) ?_;rotate_left
 ·rintro e R1 D1 ⟨hR,l,ov,A,m',hl,hp,so,h1,h2,hD,he⟩;simp only[List.map,lc,ln,lj,z_t] at he;simp only[he];exact hK _ _ _ ⟨hR,l,ov,A,m',hl,hp,so,h1,h2,hD,rfl⟩
 refine jlp (λmm vs R' D'=>R' = R∧∃(l:List Int) (ov:Value) (A:Chs) (m' : Int),l.length≤4100∧Sml l∧SO l ov A∧m≤m'∧m'≤m + 100 * l.length∧D' = A ++ (rb,rdO v m') :: (b,C 67 (eCf c)) :: F∧vs = [.pointer (some ⟨rb,0,none⟩),I n,.pointer (some ⟨b,0,none⟩),ov]∧mm = 4100 - l.length)
  (n:=4100) ⟨rfl,[],.slice none 0 0,[],m,by decide,(λp hp=>by cases hp),.inl ⟨rfl,rfl,rfl⟩,by omega,by simp,rfl,rfl,rfl⟩ ?_
 rintro mm e R1 D1 K3 ⟨hR,l,ov,A,m',hl,hp,so,h1,h2,hD,he,hmm⟩ hK3;subst hR;rw[hD];clear hD;simp only[List.map,lc,ln,lj,z_t] at he;simp only[he];refine Co so.sln (jlt (jif (λh=>?_) (λh=>?_)));rotate_left
 ·have h:=z_g h;exact hK2 _ _ _ ⟨rfl,l,ov,A,m',by omega,hp,so,h1,by omega,rfl,rfl⟩
 have h:=z_f h;refine AH (λvs R' D'=>R' = R1∧∃(l2:List Int) (ov:Value) (A:Chs) (m2:Int),l.length < l2.length∧l2.length≤l.length + 80∧Sml l2∧SO l2 ov A∧m'≤m2∧m2≤m' + 80∧D' = A ++ (rb,rdO v m2) :: (b,C 67 (eCf c)) :: F∧vs = [.pointer (some ⟨rb,0,none⟩),I n,.pointer (some ⟨b,0,none⟩),ov]) (λK4 hK4=>?_) ?_;rotate_left
 ·rintro e Rx Dx ⟨hR,l2,ov,A,m2,q1,q2,hp2,so2,q3,q4,hD,he⟩;subst hR;rw[hD];clear hD;simp only[List.map,lc,ln,lj,z_t] at he;simp only[he];exact hK3 (4100 - l2.length) _ _ _ (by omega) ⟨rfl,l2,ov,A,m2,by omega,hp2,so2,by omega,by omega,rfl,rfl,rfl⟩
 refine jpk hb ⟨by omega,by omega⟩ λk _ _=>Ac ⟨by omega,by omega⟩ (jl (v:=I c.AB) rfl (Ac ⟨by omega,by omega⟩ (jpk hb ⟨by omega,by omega⟩ λp _ _=>?_)))
 refine AH (λvs R' D'=>R' = R1∧∃k p m2:Int,1≤k∧k≤36∧0≤p∧p≤9∧m'≤m2∧m2≤m' + 3∧D' = A ++ (rb,rdO v m2) :: (b,C 67 (eCf c)) :: F∧vs = [.pointer (some ⟨rb,0,none⟩),I n,.pointer (some ⟨b,0,none⟩),ov,I k,I p]) (λK5 hK5=>?_) ?_
 ·refine jpk hb ⟨by omega,by omega⟩ λz _ _=>jeq (jif (λ_=>jl (v:=I c.AB) rfl (GC ⟨by omega,by omega⟩ ?_)) (λ_=>?_))<;>refine Av A (G:=(rb,rdO v (m' + 1 + 1 + 1)) :: (b,C 67 (eCf c)) :: F) ?_
  ·exact hK5 _ _ _ ⟨rfl,_,_,_,by omega,by omega,by omega,by omega,by omega,by omega,rfl,rfl⟩
  ·exact hK5 _ _ _ ⟨rfl,_,_,_,by omega,by omega,by omega,by omega,by omega,by omega,rfl,rfl⟩
 rintro e Rx Dx ⟨hR,k,p,m2,k0,k1,p0,p1,q1,q2,hD,he⟩;subst hR;rw[hD];clear hD;simp only[List.map,lc,ln,lj,z_t] at he;simp only[he];refine AH (λvs R' D'=>R' = Rx∧∃(l2:List Int) (ov:Value) (A:Chs) (m3:Int),l.length≤l2.length∧l2.length≤l.length + 1∧Sml l2∧SO l2 ov A∧m'≤m3∧m3≤m' + 4∧D' = A ++ (rb,rdO v m3) :: (b,C 67 (eCf c)) :: F∧vs = [.pointer (some ⟨rb,0,none⟩),I n,.pointer (some ⟨b,0,none⟩),ov,I k,I p]) (λK5 hK5=>?_) ?_
 ·refine jpk hb ⟨by omega,by omega⟩ λz _ _=>jeq (jif (λ_=>?_) (λ_=>?_))
  ·refine jl (v:=I c.AB) rfl (Ac ⟨by omega,by omega⟩ (jbs (cs:=[I (c.AB + 1)]) rfl rfl λbs=>FU so (by omega) λv' A' so'=>?_));exact hK5 _ _ _ ⟨rfl,_,v',A',_,by simp,by simp,hp.snoc (by omega) (by omega),so',by omega,by omega,rfl,rfl⟩
  ·refine Av A (G:=(rb,rdO v (m2 + 1)) :: (b,C 67 (eCf c)) :: F) ?_;exact hK5 _ _ _ ⟨rfl,l,ov,A,_,by omega,by omega,hp,so,by omega,by omega,rfl,rfl⟩
 clear so;rintro e Ry Dy ⟨hR,l2,ov,A,m3,q3,q4,hp2,so,q5,q6,hD,he⟩;subst hR;rw[hD];clear hD;simp only[List.map,lc,ln,lj,z_t] at he;simp only[he];refine jpk hb ⟨by omega,by omega⟩ λz _ _=>jeq (jif (λ_=>?_) (λ_=>?_))<;>refine Av A (G:=(rb,rdO v (m3 + 1)) :: (b,C 67 (eCf c)) :: F) ?_
 ·refine AH (λvs R' D'=>R' = Ry∧∃(l2:List Int) (ov:Value) (A:Chs) (m2:Int),l.length < l2.length∧l2.length≤l.length + 80∧Sml l2∧SO l2 ov A∧m'≤m2∧m2≤m' + 80∧D' = A ++ (rb,rdO v m2) :: (b,C 67 (eCf c)) :: F∧vs = [.pointer (some ⟨rb,0,none⟩),I n,.pointer (some ⟨b,0,none⟩),ov]) (λK6 hK6=>?_) ?_;rotate_left
  ·rintro e Rz Dz ⟨hR,l2,ov,A,m2,a1,a2,a3,a4,a5,a6,hD,he⟩;simp only[List.map,lc,ln,lj,z_t] at he;simp only[he];exact hK4 _ _ _ ⟨hR,l2,ov,A,m2,a1,a2,a3,a4,a5,a6,hD,rfl⟩
  refine AH (λvs R' D'=>R' = Ry∧∃(l2:List Int) (ov:Value) (A:Chs) (m2:Int),l.length < l2.length∧l2.length≤l.length + 80∧Sml l2∧SO l2 ov A∧m'≤m2∧m2≤m' + 80∧D' = A ++ (rb,rdO v m2) :: (b,C 67 (eCf c)) :: F∧vs = [.pointer (some ⟨rb,0,none⟩),I n,.pointer (some ⟨b,0,none⟩),ov]) (λK7 hK7=>?_) ?_;rotate_left
  ·rintro e Rz Dz ⟨hR,l2,ov,A,m2,a1,a2,a3,a4,a5,a6,hD,he⟩;simp only[List.map,lc,ln,lj,z_t] at he;simp only[he];exact hK6 _ _ _ ⟨hR,l2,ov,A,m2,a1,a2,a3,a4,a5,a6,hD,rfl⟩
  refine jlp (λmm vs R' D'=>R' = Ry∧∃(i:Nat) (l3:List Int) (ov:Value) (A:Chs),(i:Int)≤2 * k∧l3.length = l2.length + i∧Sml l3∧SO l3 ov A∧D' = A ++ (rb,rdO v (m3 + 1 + i)) :: (b,C 67 (eCf c)) :: F∧vs = [.pointer (some ⟨rb,0,none⟩),I n,.pointer (some ⟨b,0,none⟩),ov,I k,I i]∧mm = 72 - i)
   (n:=72) ⟨rfl,0,l2,ov,A,by omega,by omega,hp2,so,by rw[show m3 + 1 + ((0:Nat):Int) = m3 + 1 from by omega],rfl,rfl⟩ ?_
  clear so;rintro mm e Rz Dz K8 ⟨hR,i,l3,ov,A,i0,i1,hp3,so,hD,he,hmm⟩ hK8;subst hR;rw[hD];clear hD;simp only[List.map,lc,ln,lj,z_t] at he;simp only[he];refine GC ⟨by omega,by omega⟩ (jlt (jif (λh=>?_) (λh=>?_)))
  ·have h:=z_f h;refine jl (v:=I c.AB) rfl (Ac ⟨by omega,by omega⟩ (jpk hb ⟨by omega,by omega⟩ λy _ _=>jbs (cs:=[I y]) rfl rfl λbs=>FU so (by omega) λv' A' so'=>Ac ⟨by omega,by omega⟩ ?_));refine hK8 (72 - (i + 1)) _ _ _ (by omega) ⟨rfl,i + 1,_,v',A',by omega,by simp;omega,hp3.snoc (by omega) (by omega),so',by rw[show m3 + 1 + ((i + 1:Nat):Int) = m3 + 1 + i + 1 from by omega],rfl,rfl⟩
  ·have h:=z_g h;exact hK7 _ _ _ ⟨rfl,l3,ov,A,_,by omega,by omega,hp3,so,by omega,by omega,rfl,rfl⟩
 ·refine AH (λvs R' D'=>R' = Ry∧∃(l2:List Int) (ov:Value) (A:Chs) (m2:Int),l.length < l2.length∧l2.length≤l.length + 80∧Sml l2∧SO l2 ov A∧m'≤m2∧m2≤m' + 80∧D' = A ++ (rb,rdO v m2) :: (b,C 67 (eCf c)) :: F∧vs = [.pointer (some ⟨rb,0,none⟩),I n,.pointer (some ⟨b,0,none⟩),ov]) (λK7 hK7=>?_) ?_;rotate_left
  ·rintro e Rz Dz ⟨hR,l2,ov,A,m2,a1,a2,a3,a4,a5,a6,hD,he⟩;simp only[List.map,lc,ln,lj,z_t] at he;simp only[he];exact hK4 _ _ _ ⟨hR,l2,ov,A,m2,a1,a2,a3,a4,a5,a6,hD,rfl⟩
  refine jlp (λmm vs R' D'=>R' = Ry∧∃(i:Nat) (l3:List Int) (ov:Value) (A:Chs),(i:Int)≤k∧l3.length = l2.length + i∧Sml l3∧SO l3 ov A∧D' = A ++ (rb,rdO v (m3 + 1)) :: (b,C 67 (eCf c)) :: F∧vs = [.pointer (some ⟨rb,0,none⟩),I n,.pointer (some ⟨b,0,none⟩),ov,I k,I p,I i]∧mm = 72 - i)
   (n:=72) ⟨rfl,0,l2,ov,A,by omega,by omega,hp2,so,rfl,rfl,rfl⟩ ?_
  clear so;rintro mm e Rz Dz K8 ⟨hR,i,l3,ov,A,i0,i1,hp3,so,hD,he,hmm⟩ hK8;subst hR;rw[hD];clear hD;simp only[List.map,lc,ln,lj,z_t] at he;simp only[he];refine jlt (jif (λh=>?_) (λh=>?_))
  ·have h:=z_f h;refine jbs (cs:=[I p]) rfl rfl λbs=>FU so (by omega) λv' A' so'=>Ac ⟨by omega,by omega⟩ ?_
   refine hK8 (72 - (i + 1)) _ _ _ (by omega) ⟨rfl,i + 1,_,v',A',by omega,by simp;omega,hp3.snoc (by omega) (by omega),so',rfl,rfl,rfl⟩
  ·have h:=z_g h;exact hK7 _ _ _ ⟨rfl,l3,ov,A,_,by omega,by omega,hp3,so,by omega,by omega,rfl,rfl⟩
end draws
end Go.Lf
end
section
namespace Go.Lf
open Go Sm
@[reducible] def FoD (rb b p:Nat) (v:Value) (m:Int) (A F:Chs) (S:Sim) (g:Img) (c:Cfg):Chs:=(rb,rdO v m) :: (A ++ (AV p S g ++ (b,C 67 (eCf c)) :: F))
def FoC (rb b p:Nat) (v ov:Value) (m' q k:Int) (n:Nat) (A F:Chs) (S:Sim) (g:Img) (c:Cfg) (R:RM) (vs:List Value) (R' : RM) (D' : Chs):Prop:=
 R' = R∧(∃m2,m'≤m2∧m2≤m' + 2∧D' = FoD rb b p v m2 A F S g c)∧∃x u w,Eu x u w∧vs = [.pointer (some ⟨rb,0,none⟩),I n,.pointer (some ⟨b,0,none⟩),ov,.pointer (some ⟨p,0,none⟩),I q,I k,x,u]
def FoQ (rb b p:Nat) (v ov:Value) (m' : Int) (n:Nat) (A F:Chs) (S:Sim) (g:Img) (c:Cfg) (R:RM) (vs:List Value) (R' : RM) (D' : Chs):Prop:=
 R' = R∧∃q k m2:Int,0≤q∧q≤9∧1≤k∧k≤9∧m'≤m2∧m2≤m' + 15∧D' = FoD rb b p v m2 A F S g c∧vs = [.pointer (some ⟨rb,0,none⟩),I n,.pointer (some ⟨b,0,none⟩),ov,.pointer (some ⟨p,0,none⟩),I q,I k]
section draws
variable {R:RM} {rb:Nat} {v:Value} {m:Int}
theorem O7 {c:Cfg} {n:Nat} {pv:Value} {AU:List (List Sm.Op)} (hc:BJ c = true) (hpl:(AU.length:Int) = c.AB) (hp40:∀p∈AU,p.length≤40) (hp:Dg R pv AU) (hn:n≤2000) (hb:Byt R v) (hm:0≤m∧m < 200000000) :
  Dr HD [.pointer (some ⟨rb,0,none⟩),.agg #[I c.A6,I c.AB,I c.AI],pv,I n] R rb v m 500000 (λx R'=>∃l:List Int,l.length = n∧Sml l∧B9 R' x l):=by
 refine Ls λF=>?_
 unfold GR;have hst:CK c AU [] = true:=by
  unfold CK;simp only[z_b,z_d,List.all_eq_true];exact⟨⟨⟨hc,hpl⟩,by simp⟩,hp40⟩
 obtain⟨g0,i0,B0⟩:=JW hc hpl hp40;have hcc:=hc;simp only[BJ,z_b,z_d] at hc;refine ja λb=>jla (l:=eCf c) (by exact z_n 3) rfl (jro (L6 hp (picks:=[]) (.inl ⟨rfl,rfl,rfl⟩)) ?_)
 rw[hst];refine Cv (jla (l:=eCf c) (by exact z_n 3) rfl ?_);refine jc (A:=[]) (LJ hcc hp) ?_;rintro _ R1 _ hR1 ⟨p,g,rfl,rfl,ok⟩;refine Au (D':=FoD rb b p v m [] F (Sm.start c AU) g c) (by
  show (AV p (Sm.start c AU) g ++ ((b,C 67 (eCf c)) :: (rb,rdO v m) :: F)).Perm ((rb,rdO v m) :: (AV p (Sm.start c AU) g ++ (b,C 67 (eCf c)) :: F))
  exact ((List.Perm.swap _ _ _).append_left _).trans List.perm_middle) ?_
 refine AH (λvs R' D'=>R.le R'∧∃(S:Sim) (g:Img) (l:List Int) (ov:Value) (A:Chs) (m' : Int),n≤l.length∧Sml l∧SO l ov A∧m≤m'∧m'≤m + 500000∧D' = FoD rb b p v m' A F S g c∧vs = [I n,ov]) (λK hK=>?_) ?_;rotate_left
 ·rintro e R1 D1 ⟨hR,S,g,l,ov,A,m',hl,hp,so,h1,h2,hD,he⟩;rw[hD];clear hD;simp only[List.map,lc,ln,lj,z_t] at he;simp only[he];refine Au List.perm_middle.symm (Es so λR2 hR2 hi=>Ri hi (by omega) (by omega) λv' hv'=>Dt m' (hR.trans hR2) ⟨l.take n,by rw[List.length_take];omega,λa ha=>hp a (List.mem_of_mem_take ha),by rw[Int.toNat_natCast] at hv';exact hv'⟩ h1 h2)
 refine AH (λvs R' D'=>R.le R'∧∃(S:Sim) (g:Img) (l:List Int) (ov:Value) (A:Chs) (m' : Int),n≤l.length∧Sml l∧SO l ov A∧m≤m'∧m'≤m + 500000∧D' = FoD rb b p v m' A F S g c∧vs = [I n,ov]) (λK2 hK2=>?_) ?_;rotate_left
 ·rintro e R1 D1 ⟨hR,S,g,l,ov,A,m',hl,hp,so,h1,h2,hD,he⟩;simp only[List.map,lc,ln,lj,z_t] at he;simp only[he];exact hK _ _ _ ⟨hR,S,g,l,ov,A,m',hl,hp,so,h1,h2,hD,rfl⟩
 refine jlp (λmm vs R' D'=>R.le R'∧∃(S:Sim) (g:Img) (gh:Gh) (l:List Int) (ov:Value) (A:Chs) (m' : Int),IG AU S gh∧Bd (5 * l.length) S∧Ok R' S g∧l.length≤2100∧Sml l∧SO l ov A∧m≤m'∧m'≤m + 20 * l.length∧D' = FoD rb b p v m' A F S g c∧vs = [.pointer (some ⟨rb,0,none⟩),I n,.pointer (some ⟨b,0,none⟩),ov,.pointer (some ⟨p,0,none⟩)]∧mm = 2100 - l.length)
  (n:=2100) ⟨hR1,Sm.start c AU,g,g0,[],.slice none 0 0,[],m,i0,B0,ok,by decide,(λp hp=>by cases hp),.inl ⟨rfl,rfl,rfl⟩,by omega,by simp,rfl,rfl,rfl⟩ ?_
 clear i0 B0 ok;rintro mm e R2 D1 K3 ⟨hR,S,g,gh,l,ov,A,m',i0,B0,ok,hl,hs,so,h1,h2,hD,he,hmm⟩ hK3;rw[hD];clear hD;simp only[List.map,lc,ln,lj,z_t] at he;simp only[he];have hb2:=hb.le hR;refine Co so.sln (jlt (jif (λh=>?_) (λh=>?_)));rotate_left
 ·have h:=z_g h;exact hK2 _ _ _ ⟨hR,S,g,l,ov,A,m',by omega,hs,so,h1,by omega,rfl,rfl⟩
 have h:=z_f h;refine AH (λvs R' D'=>R2.le R'∧∃(S:Sim) (g:Img) (gh:Gh) (l2:List Int) (ov:Value) (A:Chs) (m2:Int),IG AU S gh∧Bd (5 * l2.length) S∧Ok R' S g∧l.length < l2.length∧l2.length≤l.length + 9∧Sml l2∧SO l2 ov A∧m'≤m2∧m2≤m' + 15∧D' = FoD rb b p v m2 A F S g c∧vs = [.pointer (some ⟨rb,0,none⟩),I n,.pointer (some ⟨b,0,none⟩),ov,.pointer (some ⟨p,0,none⟩)]) (λK4 hK4=>?_) ?_;rotate_left
 ·rintro e Rx Dx ⟨hRx,S,g,gh,l2,ov,A,m2,i0,B0,ok,q1,q2,hs2,so2,q3,q4,hD,he⟩;rw[hD];clear hD;simp only[List.map,lc,ln,lj,z_t] at he;simp only[he];exact hK3 (2100 - l2.length) _ _ _ (by omega) ⟨hR.trans hRx,S,g,gh,l2,ov,A,m2,i0,B0,ok,by omega,hs2,so2,by omega,by omega,rfl,rfl,rfl⟩
 refine jl (v:=I c.AB) rfl (Ac ⟨by omega,by omega⟩ (jpk hb2 ⟨by omega,by omega⟩ λq0 _ _=>?_));refine AH (FoQ rb b p v ov m' n A F S g c R2) (λK5 hK5=>?_) ?_
 ·refine AH (FoQ rb b p v ov m' n A F S g c R2) (λK6 hK6=>?_) ?_;rotate_left
  ·rintro e Rx Dx ⟨hRx,q,k,m2,q1,q2,q3,q4,q5,q6,hD,he⟩;simp only[List.map,lc,ln,lj,z_t] at he;simp only[he];exact hK5 _ _ _ ⟨hRx,q,k,m2,q1,q2,q3,q4,q5,q6,hD,rfl⟩
  have fin:∀q k m2:Int,0≤q→q≤9→1≤k→k≤9→m'≤m2→m2≤m' + 15→J R2 (FoD rb b p v m2 A F S g c) (K6 [.pointer (some ⟨rb,0,none⟩),I n,.pointer (some ⟨b,0,none⟩),ov,.pointer (some ⟨p,0,none⟩),I q,I k]):=λq k m2 a1 a2 a3 a4 a5 a6=>hK6 _ _ _ ⟨rfl,q,k,m2,a1,a2,a3,a4,a5,a6,rfl,rfl⟩
  clear hK3 hK4 hK5 hK6;have cnd:∀(m0:Int) (K:List Value→M),(∀vs R' D',FoC rb b p v ov m0 q0 1 n A F S g c R2 vs R' D'→J R' D' (K vs))→∀m2,m0≤m2→m2≤m0 + 2→∀x u w,Eu x u w→J R2 (FoD rb b p v m2 A F S g c) (K [.pointer (some ⟨rb,0,none⟩),I n,.pointer (some ⟨b,0,none⟩),ov,.pointer (some ⟨p,0,none⟩),I q0,I 1,x,u]):=λm0 K hK m2 a1 a2 x u w ha=>hK _ _ _ ⟨rfl,⟨m2,a1,a2,rfl⟩,x,u,w,ha,rfl⟩
  refine AH (FoC rb b p v ov (m' + 1) q0 1 n A F S g c R2) (λK7 hK7=>?_) ?_
  ·refine jl (v:=I S.Aa) rfl (jeq (Bj (λh=>jl (v:=.bool S.stop) rfl ?_) (λh=>?_)))
   ·exact cnd _ _ hK7 _ (by omega) (by omega) _ _ _ (h▸Aq)
   ·exact cnd _ _ hK7 _ (by omega) (by omega) _ _ _ (h▸As)
  rintro e Rx Dx ⟨hRx,⟨m2,a1,a2,hD⟩,x,u,w,ha,he⟩;subst hRx;rw[hD];clear hD;simp only[List.map,lc,ln,lj,z_t] at he;simp only[he];refine AH (FoC rb b p v ov m2 q0 1 n A F S g c Rx) (λK7 hK7=>?_) ?_
  ·rw[ha];refine Bj (λh=>jl (v:=.bool S.col.Ad) rfl ?_) (λh=>?_)
   ·exact cnd _ _ hK7 _ (by omega) (by omega) _ _ _ (h▸Aq)
   ·exact cnd _ _ hK7 _ (by omega) (by omega) _ _ _ (h▸As)
  clear ha;rintro e Ry Dx ⟨hRx,⟨m3,a3,a4,hD⟩,x,u,w,ha,he⟩;subst hRx;rw[hD];clear hD;simp only[List.map,lc,ln,lj,z_t] at he;simp only[he];refine AH (FoC rb b p v ov m3 q0 1 n A F S g c Ry) (λK7 hK7=>?_) ?_
  ·rw[ha];refine Bj (λh=>jpk hb2 ⟨by omega,by omega⟩ λy _ _=>jeq ?_) (λh=>?_)
   ·exact cnd _ _ hK7 _ (by omega) (by omega) _ _ _ (h▸Aq)
   ·exact cnd _ _ hK7 _ (by omega) (by omega) _ _ _ (h▸As)
  clear ha;rintro e Rx Dx ⟨hRx,⟨m4,a5,a6,hD⟩,x,u,w,ha,he⟩;subst hRx;rw[hD];clear hD;simp only[List.map,lc,ln,lj,z_t] at he;simp only[he];rw[ha];refine jif (λh=>jl (v:=I c.AB) rfl (Ac ⟨by omega,by omega⟩ ?_)) (λh=>?_)
  ·exact fin _ _ _ (by omega) (by omega) (by omega) (by omega) (by omega) (by omega)
  clear ha;refine AH (FoC rb b p v ov m4 q0 1 n A F S g c Rx) (λK7 hK7=>?_) ?_
  ·refine jl (v:=I S.Aa) rfl (jeq (Bj (λh=>jl (v:=.bool S.stop) rfl ?_) (λh=>?_)))
   ·exact cnd _ _ hK7 _ (by omega) (by omega) _ _ _ (h▸Aq)
   ·exact cnd _ _ hK7 _ (by omega) (by omega) _ _ _ (h▸As)
  rintro e Ry Dx ⟨hRx,⟨m5,a7,a8,hD⟩,x,u,w,ha,he⟩;subst hRx;rw[hD];clear hD;simp only[List.map,lc,ln,lj,z_t] at he;simp only[he];rw[ha];refine jif (λh=>jpk hb2 ⟨by omega,by omega⟩ λy _ _=>Ac ⟨by omega,by omega⟩ ?_) (λh=>?_)
  ·exact fin _ _ _ (by omega) (by omega) (by omega) (by omega) (by omega) (by omega)
  clear ha;refine AH (FoC rb b p v ov m5 q0 1 n A F S g c Ry) (λK7 hK7=>?_) ?_
  ·refine jl (v:=I S.Aa) rfl (jeq (Bj (λh=>jpk hb2 ⟨by omega,by omega⟩ λy _ _=>jgr ?_) (λh=>?_)))
   ·exact cnd _ _ hK7 _ (by omega) (by omega) _ _ _ (h▸Aq)
   ·exact cnd _ _ hK7 _ (by omega) (by omega) _ _ _ (h▸As)
  rintro e Rx Dx ⟨hRx,⟨m6,a9,a10,hD⟩,x,u,w,ha,he⟩;subst hRx;rw[hD];clear hD;simp only[List.map,lc,ln,lj,z_t] at he;simp only[he];rw[ha];refine jif (λh=>jl (v:=I c.AB) rfl (jpk hb2 ⟨by omega,by omega⟩ λy _ _=>Ac ⟨by omega,by omega⟩ ?_)) (λh=>?_)
  ·exact fin _ _ _ (by omega) (by omega) (by omega) (by omega) (by omega) (by omega)
  clear ha;refine AH (FoC rb b p v ov m6 q0 1 n A F S g c Rx) (λK7 hK7=>?_) ?_
  ·refine jl (v:=.bool S.stop) rfl (Bj (λh=>jpk hb2 ⟨by omega,by omega⟩ λy _ _=>jeq ?_) (λh=>?_))
   ·exact cnd _ _ hK7 _ (by omega) (by omega) _ _ _ (h▸Aq)
   ·exact cnd _ _ hK7 _ (by omega) (by omega) _ _ _ (h▸As)
  rintro e Ry Dx ⟨hRx,⟨m7,a11,a12,hD⟩,x,u,w,ha,he⟩;subst hRx;rw[hD];clear hD;simp only[List.map,lc,ln,lj,z_t] at he;simp only[he];rw[ha];refine jif (λh=>jl (v:=I c.AB) rfl ?_) (λh=>?_)
  ·exact fin _ _ _ (by omega) (by omega) (by omega) (by omega) (by omega) (by omega)
  ·exact fin _ _ _ (by omega) (by omega) (by omega) (by omega) (by omega) (by omega)
 rintro e Rx Dx ⟨hRx,q,k,m2,q1,q2,q3,q4,q5,q6,hD,he⟩;subst hRx;rw[hD];clear hD;simp only[List.map,lc,ln,lj,z_t] at he;simp only[he];refine AH (λvs R' D'=>Rx.le R'∧∃(S:Sim) (g:Img) (gh:Gh) (l2:List Int) (ov:Value) (A:Chs) (m2:Int),IG AU S gh∧Bd (5 * l2.length) S∧Ok R' S g∧l.length < l2.length∧l2.length≤l.length + 9∧Sml l2∧SO l2 ov A∧m'≤m2∧m2≤m' + 15∧D' = FoD rb b p v m2 A F S g c∧vs = [.pointer (some ⟨rb,0,none⟩),I n,.pointer (some ⟨b,0,none⟩),ov,.pointer (some ⟨p,0,none⟩)]) (λK7 hK7=>?_) ?_;rotate_left
 ·rintro e Rz Dx hx;obtain⟨hRz,S,g,gh,l2,ov,A,m2,i0,B0,ok,q1,q2,hs2,so2,q3,q4,hD,he⟩:=hx;simp only[List.map,lc,ln,lj,z_t] at he;simp only[he];exact hK4 _ _ _ ⟨hRz,S,g,gh,l2,ov,A,m2,i0,B0,ok,q1,q2,hs2,so2,q3,q4,hD,rfl⟩
 refine jlp (λmm vs R' D'=>Rx.le R'∧∃(i:Nat) (S:Sim) (g:Img) (gh:Gh) (l2:List Int) (ov:Value) (A:Chs),(i:Int)≤k∧IG AU S gh∧Bd (5 * l2.length) S∧Ok R' S g∧l2.length = l.length + i∧Sml l2∧SO l2 ov A∧D' = FoD rb b p v m2 A F S g c∧vs = [.pointer (some ⟨rb,0,none⟩),I n,.pointer (some ⟨b,0,none⟩),ov,.pointer (some ⟨p,0,none⟩),I q,I k,I i]∧mm = 9 - i)
  (n:=9) ⟨RM.le.refl _,0,S,g,gh,l,ov,A,by omega,i0,B0,ok,by omega,hs,so,rfl,rfl,rfl⟩ ?_
 clear i0 B0 ok so hs;rintro mm e Ry Dy K8 ⟨hRy,i,S,g,gh,l2,ov,A,hi,i0,B0,ok,hl2,hs,so,hD,he,hmm⟩ hK8;rw[hD];clear hD;simp only[List.map,lc,ln,lj,z_t] at he;simp only[he];refine jlt (jif (λh=>?_) (λh=>?_));rotate_left
 ·have h:=z_g h;exact hK7 _ _ _ ⟨hRy,S,g,gh,l2,ov,A,m2,i0,B0,ok,by omega,by omega,hs,so,by omega,by omega,rfl,rfl⟩
 have h:=z_f h;obtain⟨S2,gh2,i2,B2,-,ht⟩:=Tb (p:=p) (a:=q) i0 B0 (by omega) ⟨by omega,by omega⟩;refine jcS (p:=p) (by exact ht _ _ ok) λ_ R3 g3 hR3 _ ok3=>?_
 refine Au (D':=FoD rb b p v m2 A F S2 g3 c) (List.perm_middle.trans ((List.perm_append_comm_assoc _ _ _).cons _)) ?_;refine jbs (cs:=[I q]) rfl rfl λbs=>FU so (by omega) λv' A' so'=>Ac ⟨by omega,by omega⟩ (Au List.perm_middle ?_)
 refine hK8 (9 - (i + 1)) _ _ _ (by omega) ⟨hRy.trans hR3,i + 1,S2,g3,gh2,_,v',A',by omega,i2,?_,ok3,by simp;omega,hs.snoc (by omega) (by omega),so',rfl,rfl,rfl⟩;rw[List.length_append,List.length_singleton,Nat.mul_add];exact B2
end draws
end Go.Lf
end
section
namespace Go.Lf
open Go Sm
section draws
variable {R:RM} {rb:Nat} {v:Value} {m:Int}
def US (x:Value) (R:RM):Prop:=∃(c:Cfg) (AU:List (List Sm.Op)) (picks:List Int) (pv kv:Value),x = .tuple #[.agg #[I c.A6,I c.AB,I c.AI],pv,kv]∧(CK c AU picks = true∧∀p∈AU,Vs p)∧Sml picks∧Dg R pv AU∧B9 R kv picks
theorem Nc {c:Cfg} {AU:List (List Sm.Op)} {picks:List Int} (hc:BJ c = true) (hl:(AU.length:Int) = c.AB) (hp:∀p∈AU,p.length≤40) (hk:picks.length≤4000):CK c AU picks = true:=by
 unfold CK;simp only[z_b,z_d,List.all_eq_true];exact⟨⟨⟨hc,hl⟩,hk⟩,hp⟩
theorem Dg.sl {v:Value} {l:List (List Sm.Op)} (H:Dg R v l):∃a c,v = .slice a l.length c:=by
 obtain⟨vs,h,_⟩:=H;exact h.sl
theorem Qe (hb:Byt R v) (hm:0≤m∧m < 150000000):Dr ID [.pointer (some ⟨rb,0,none⟩)] R rb v m 1000000 US:=by
 refine Mb λF=>?_
 unfold Hq;refine ja λb1=>jpk hb ⟨by omega,by omega⟩ λy1 _ _=>Ac ⟨by omega,by omega⟩ (jpk hb ⟨by omega,by omega⟩ λy2 _ _=>Ac ⟨by omega,by omega⟩ ?_)
 refine jbs (cs:=[I 32,I 48,I 100,I 16]) rfl rfl λb6=>jpk hb ⟨by omega,by omega⟩ λy3 _ _=>jia (by omega) (by omega) ?_
 have h3:=Re (l:=[32,48,100,16]) (x:=y3) (by omega) (by show _ < (4:Int);omega);refine jl (Ao [32,48,100,16] (by omega) (by show _ < (4:Int);omega)) ?_;generalize sel [32,48,100,16] y3 = y at h3;simp only[List.mem_cons,List.not_mem_nil,or_false] at h3;obtain⟨c,hcf⟩:∃c:Cfg,c = ⟨5 + y1,1 + y2,y⟩:=⟨_,rfl⟩;have hc:BJ c = true:=by
  rw[hcf];simp only[BJ,z_b,z_d];omega
 refine jbd (cs:=eCf c) rfl (by rw[hcf];rfl) (ja λb=>js (cs':=eCf c) rfl rfl (by exact z_n 3) rfl ?_);obtain⟨n,hn⟩:∃n:Nat,c.AB = n:=⟨c.AB.toNat,by rw[hcf];show 1 + y2 = ((1 + y2).toNat:Int);omega⟩;have hcc:=hc;simp only[BJ,z_b,z_d] at hcc;refine jk3 (F:=F) rb b b1 ?_;refine AH (λvs R' D'=>R.le R'∧∃(l:List (List Sm.Op)) (rows:List (List Value)) (ov:Value) (A:Chs) (m' : Int),l.length = n∧(∀p∈l,p.length≤40∧Vs p)∧PrW R' rows l∧SW 82 1 rows ov A∧m≤m'∧m'≤m + 10000∧D' = A ++ (rb,rdO v m') :: (b,C 67 (eCf c)) :: (b1,C 67 (cl z67)) :: F∧vs = [.pointer (some ⟨rb,0,none⟩),.pointer (some ⟨b1,0,none⟩),.pointer (some ⟨b,0,none⟩),ov]) (λK hK=>?_) ?_
 ·refine AH (λvs R' D'=>R.le R'∧∃(l:List (List Sm.Op)) (rows:List (List Value)) (ov:Value) (A:Chs) (m' : Int),l.length = n∧(∀p∈l,p.length≤40∧Vs p)∧PrW R' rows l∧SW 82 1 rows ov A∧m≤m'∧m'≤m + 10000∧D' = A ++ (rb,rdO v m') :: (b,C 67 (eCf c)) :: (b1,C 67 (cl z67)) :: F∧vs = [.pointer (some ⟨rb,0,none⟩),.pointer (some ⟨b1,0,none⟩),.pointer (some ⟨b,0,none⟩),ov]) (λK2 hK2=>?_) ?_;rotate_left
  ·rintro e R1 D1 ⟨hR,l,rows,ov,A,m',hl,hp,hrw,so,h1,h2,hD,he⟩;simp only[List.map,lc,ln,lj,z_t] at he;simp only[he];exact hK _ _ _ ⟨hR,l,rows,ov,A,m',hl,hp,hrw,so,h1,h2,hD,rfl⟩
  refine jlp (λmm vs R' D'=>R.le R'∧∃(i:Nat) (l:List (List Sm.Op)) (rows:List (List Value)) (ov:Value) (A:Chs) (m' : Int),i≤n∧l.length = i∧(∀p∈l,p.length≤40∧Vs p)∧PrW R' rows l∧SW 82 1 rows ov A∧m≤m'∧m'≤m + 10 + 1100 * i∧D' = A ++ (rb,rdO v m') :: (b,C 67 (eCf c)) :: (b1,C 67 (cl z67)) :: F∧vs = [.pointer (some ⟨rb,0,none⟩),.pointer (some ⟨b1,0,none⟩),.pointer (some ⟨b,0,none⟩),ov,I i]∧mm = n - i)
   (n:=n) ⟨RM.le.refl R,0,[],[],.slice none 0 0,[],m + 1 + 1 + 1,by omega,rfl,(λp hp=>by cases hp),Rw.nil,.inl ⟨rfl,rfl,rfl⟩,by omega,by omega,rfl,rfl,by omega⟩ ?_
  rintro mm e R1 D1 K3 ⟨hR,i,l,rows,ov,A,m',hi,hl,hp,hrw,so,h1,h2,hD,he,hmm⟩ hK3;rw[hD];clear hD;simp only[List.map,lc,ln,lj,z_t] at he;simp only[he];refine jl (v:=I c.AB) rfl (jlt (jif (λh=>?_) (λh=>?_)));rotate_left
  ·have h:=z_g h;exact hK2 _ _ _ ⟨hR,l,rows,ov,A,m',by omega,hp,hrw,so,h1,by omega,rfl,rfl⟩
  have h:=z_f h;refine jpk (hb.le hR) ⟨by omega,by omega⟩ λz _ _=>Ac ⟨by omega,by omega⟩ ?_
  obtain⟨k,hk⟩:∃k:Nat,20 + z = k:=⟨(20 + z).toNat,by omega⟩;rw[hk];refine jdr (OI (n:=k) (by omega) (hb.le hR) ⟨by omega,by omega⟩) ?_;rintro x R2 m2 hR2 ⟨q,⟨hq,hqv⟩,hops⟩ h5 h6;obtain⟨xa,xc,hx⟩:=Fz.sl hops;subst hx;refine jbs (cs:=[.slice xa q.length xc]) rfl rfl λbs=>?_
  have hrl:=hrw.1;refine TP [[.slice xa q.length xc]] so rfl hrw.len (λr hr=>by rw[List.mem_singleton.1 hr];rfl) rfl rfl rfl (by decide) (by rw[List.length_singleton];omega) λv' A' so'=>?_
  refine Ac ⟨by omega,by omega⟩ ?_;refine hK3 (n - (i + 1)) _ _ _ (by omega) ⟨hR.trans hR2,i + 1,l ++ [q],_,v',A',m2,by omega,by rw[List.length_append,hl];rfl,λp hp'=>?_,(hrw.le hR2).app (Rw.one ⟨_,rfl,hops⟩),so',by omega,by omega,rfl,rfl,rfl⟩;rcases List.mem_append.1 hp' with hp' | hp'
  ·exact hp p hp'
  ·rw[List.mem_singleton.1 hp'];exact⟨hq,hqv⟩
 rintro e R1 D1 ⟨hR,l,rows,ov,A,m',hl,hp,hrw,so,h1,h2,hD,he⟩;rw[hD];clear hD;simp only[List.map,lc,ln,lj,z_t] at he;simp only[he];refine SQ so hrw λR2 hR2 ho=>?_
 have hb2:=hb.le (hR.trans hR2);refine jla (l:=eCf c) (by exact z_n 3) rfl (jla (l:=eCf c) (by exact z_n 3) rfl (jpk hb2 ⟨by omega,by omega⟩ λz _ _=>Ac ⟨by omega,by omega⟩ ?_));refine Ae (jla (l:=eCf c) (by exact z_n 3) rfl jev) (Ae (jla (l:=eCf c) (by exact z_n 3) rfl jev) ?_);obtain⟨k,hk⟩:∃k:Nat,150 + z = k:=⟨(150 + z).toNat,by omega⟩;rw[hk];refine jdr (O7 (n:=k) hc (by omega) (λp h=>(hp p h).1) ho (by omega) hb2 ⟨by omega,by omega⟩) ?_;rintro x R3 m3 hR3 ⟨q,hq,hs,hi⟩ h5 h6;refine Ae (jla (l:=eCf c) (by exact z_n 3) rfl jev) ?_;refine js (cs':=eCf c) rfl rfl (by exact z_n 3) rfl (jla (l:=eCf c) (by exact z_n 3) rfl ?_);exact Dt m3 ((hR.trans hR2).trans hR3) ⟨c,l,q,ov,x,rfl,⟨Nc hc (by omega) (λp h=>(hp p h).1) (by omega),λp h=>(hp p h).2⟩,hs,ho.le hR3,hi⟩ (by omega) (by omega)
end draws
end Go.Lf
end
section
namespace Go.Lf
open Go Sm
structure StB (r:Nat) (s:Sm.CL):Prop where
 wr:∀x∈s.A5,Rn x
 wl:s.A5.length = 16 * s.A0.length
 t0:2≤s.A0.length
 t1:s.A0.length≤12
 tp:∀x∈s.A0,-100 * (r:Int)≤x.top∧x.top≤100 * r
 n0:1≤s.AB.length
 n1:s.AB.length≤3
 rl:∀t∈s.AB,t.A7.length≤r
 pl:s.AQ.length≤8
 pv:∀a∈s.AQ,0≤a∧a≤1000
 ol:s.old.length≤100000
 ml:s.AO.length = s.A5.length
 cy:0≤s.Ap∧s.Ap≤100000
 fu:0≤s.BQ∧s.BQ≤100000
theorem TF {c0:Cfg} {AU:List (List Sm.Op)} {picks:List Int} {S' : Sim} (hok:CK c0 AU picks = true) (hv:∀p∈AU,Vs p) (h:Sim.picks picks (Sm.start c0 AU) = some S'):RS S':=by
 obtain⟨h1,h2,h3,h4⟩:=I8 hok;obtain⟨g0,I0,B0⟩:=JW h1 h2 h4;exact N8 picks 0 _ S' g0 (by omega) I0 B0 (Qy hv) h
theorem UR {P0:List (List Sm.Op)} {S:Sim} {gh:Gh} (i0:IG P0 S gh) (B:Bd 20000 S) (hr:RS S):StB 8 S.view:=by
 have T:=i0.sh.g.ok;have n0:=T.n0;have n1:=T.n1;have hl:=i0.sh.g.len;have hl:(S.A5.length:Int) = 16 * S.A0.length:=hl;have wl:=i0.wl;refine⟨hr.w,by show S.A5.length = 16 * S.A0.length;omega,n0,n1,λx hx=>?_,by show 1≤(S.th.map _).length;rw[List.length_map];exact i0.n0,by show (S.th.map _).length≤3;rw[List.length_map];exact i0.n1,λt ht=>?_,B.pn,λa ha=>?_,by have:=B.old;show S.old.length≤_;omega,i0.sh.ml,⟨B.cy.1,by have:=B.cy.2;show S.Ap≤_;omega⟩,⟨B.fu.1,by have:=B.fu.2;show S.BQ≤_;omega⟩⟩
 ·have hx:x∈S.A0:=hx;have n1:S.A0.length≤12:=n1;obtain⟨k,hk,rfl⟩:=List.getElem_of_mem hx;by_cases h0:k = 0
  ·subst h0;have:=T.e;rw[show (0:Int) = ((0:Nat):Int) from rfl] at this;have e:=(Ch (t:=S.A0) hk).symm.trans this;rw[e];decide
  ·have r:=T.row k (by omega) (by show (k:Int) < S.A0.length;omega);have e:=Ch (t:=S.A0) hk;have t0:=r.t0;have t1:=r.t1;have e' : rv (xof S gh).t k = S.A0[k]:=e;rw[e'] at t0 t1;omega
 ·obtain⟨t',ht',rfl⟩:=List.mem_map.1 ht;have:=i0.A7 t' ht';show t'.A7.length≤8;omega
 ·have h1:=i0.sh.pl a ha;obtain⟨h4,_,_,_,_,h5,h6,_⟩:=i0.sh.g.inn (i0.sh.lb a h1.1);have h5:a + sz S.A5 a≤S.A5.length:=h5;have h6:2≤sz S.A5 a:=h6;omega
theorem StB.mono {s:Sm.CL} (h:StB 8 s):StB 9 s:={ h with rl:=λt ht=>(by have:=h.rl t ht;omega),tp:=λx hx=>(by have:=h.tp x hx;omega) }
theorem StB.row {s:Sm.CL} (h:StB 8 s) (k:Nat) {x:Rg} (h0:-900≤x.top) (h1:x.top≤900):StB 9 { s with A0:=s.A0.set k x }:=
 { h.mono with wl:=by simpa using h.wl,t0:=by simpa using h.t0,t1:=by simpa using h.t1,tp:=λy hy=>(by
   rcases List.mem_or_eq_of_mem_set hy with hy | hy
   ·exact h.mono.tp y hy
   ·subst hy;omega) }
def StQ (rl rb b16 b1:Nat) (v:Value) (m c:Int) (F:Chs) (R:RM) (D:Chs):Prop:=
 ∃(s:Sm.CL) (rows:List (List Value)) (thv mv ov pv:Value) (A:Chs) (wb nw wc:Nat) (wsp:List Value) (tb nt tc:Nat) (tsp:List Value) (m' : Int),
  StB rl s∧s.A5.length = nw∧nw≤wc∧s.A0.length = nt∧nt≤tc∧Rw (CY R) rows s.AB∧SW 78 4 rows thv A∧Bls R mv s.AO∧B9 R ov s.old∧B9 R pv s.AQ∧m≤m'∧m'≤m + c∧
  D = (rb,rdO v m') :: (b16,C AM (eSt s (.slice (some ⟨wb,0,none⟩) nw wc) (.slice (some ⟨tb,0,none⟩) nt tc) mv thv ov pv)) :: (A ++ (wb,C AZ (s.A5.map I ++ wsp)) :: (tb,C AD (AW eRg s.A0 ++ tsp)) :: (b1,C AM (cl z58)) :: F)
def DSt (R:RM) (rb:Nat) (v:Value) (m c:Int) (x:Value) (R' : RM) (A:Chs):Prop:=
 ∃(s:Sm.CL) (wv mv thv ov pv:Value) (tb tc:Nat) (tsp:List Value) (m' : Int),StB 9 s∧B9 R' wv s.A5∧Bls R' mv s.AO∧Ths R' thv s.AB∧B9 R' ov s.old∧B9 R' pv s.AQ∧s.A0.length≤tc∧m≤m'∧m'≤m + c∧
  x = .agg (eSt s wv (.slice (some ⟨tb,0,none⟩) s.A0.length tc) mv thv ov pv).toArray∧A = [(rb,rdO v m'),(tb,C AD (AW eRg s.A0 ++ tsp))]
theorem PF {s:Sm.CL} {mv ov pv thv:Value} {x:Option Addr} {y:Option Addr} {l q l2 q2:Nat} (h1:flat mv = true) (h2:flat thv = true) (h3:flat ov = true) (h4:flat pv = true):Bz (eSt s (.slice x l q) (.slice y l2 q2) mv thv ov pv) = true:=by
 show (true && (true && (flat mv && (true && (true && (true && (true && (true && (flat thv && (flat ov && (flat pv && (true && (true && true))))))))))))) = true;rw[h1,h2,h3,h4];rfl
theorem Dp {R:RM} {D E:Chs} {o:Obj} {m:M} (b:Nat) [t:Tk D b o E] (H:J R ((b,o) :: E) m):J R D m:=λh hs=>H h (hs.perm t.p)
theorem SW.flat {t w:Nat} {rows:List (List Value)} {v:Value} {A:Chs} (h:SW t w rows v A):flat v = true:=by
 obtain⟨a,c,e⟩:=h.sl;rw[e];rfl
theorem VK {R:RM} {X D E:Chs} {m:M} (hp:D.Perm (X ++ E)) (H:J R E m):J R D m:=λh hs=>H h ((hs.perm hp).drop)
theorem th0 {R:RM} {rows:List (List Value)} {l:List Th} {thv:Value} {A:Chs} (hrw:Rw (CY R) rows l) (so:SW 78 4 rows thv A) (hn:1≤l.length):∃t ts rv rr b c sp,l = t :: ts∧rows = [rv,I t.next,.bool t.busy,I t.BC] :: rr∧B9 R rv t.A7∧Rw (CY R) rr ts∧
  rows.length≤c∧sp.length = (c - rows.length) * 4∧thv = .slice (some ⟨b,0,none⟩) rows.length c∧A = [(b,C 78 (rows.flatten ++ sp))]:=by
 cases l with
 | nil=>simp at hn
 | cons t ts=>
  cases rows with
  | nil=>have:=hrw.1;simp at this
  | cons r0 rr=>
   obtain⟨rv,e,hi⟩:=hrw.2 0 (by simp) (by simp);simp only[List.getElem_cons_zero] at e hi;subst e;rcases so with ⟨h,_,_⟩ | ⟨b,c,sp,h1,h2,h3,h4⟩
   ·cases h
   ·refine⟨t,ts,rv,rr,b,c,sp,rfl,rfl,hi,⟨by have:=hrw.1;simpa using this,λi h h'=>?_⟩,h1,h2,h3,h4⟩;have:=hrw.2 (i + 1) (by simpa using h) (by simpa using h');simpa using this
section draws
variable {R:RM} {rb:Nat} {v:Value} {m:Int}
theorem OG (hb:Byt R v) (hm:0≤m∧m < 100000000):Fn P Gn [.pointer (some ⟨rb,0,none⟩)] R [(rb,rdO v m)] (DSt R rb v m 2000000):=by
 refine M1 λF=>?_
 unfold Gx;refine ja λb1=>jdr (Np hb ⟨by omega,by omega⟩) ?_
 rintro _ R1 m1 - ⟨hR1,c,rfl,hc⟩ g1 g2;subst hR1;refine ja λb3=>js (cs':=eCf c) rfl rfl (by exact z_n 3) rfl (jla (l:=eCf c) (by exact z_n 3) rfl ?_)
 refine jdr (Ov hc hb ⟨by omega,by omega⟩) ?_;rintro pv R2 m2 hR2 ⟨AU,hpl,hp40,hp⟩ g3 g4;have hb2:=hb.le hR2;refine jla (l:=eCf c) (by exact z_n 3) rfl (jpk hb2 ⟨by omega,by omega⟩ λz _ _=>Ac ⟨by omega,by omega⟩ (Ae (jla (l:=eCf c) (by exact z_n 3) rfl jev) ?_));obtain⟨n,hn⟩:∃n:Nat,40 + z = n:=⟨(40 + z).toNat,by omega⟩;rw[hn];refine jdr (OU hc (n:=n) (by omega) hb2 ⟨by omega,by omega⟩) ?_;rintro kv R3 m3 hR3 ⟨picks,hkl,hks,hk⟩ g5 g6;have hb3:=hb2.le hR3;refine jk3 (F:=F) rb b3 b1 ?_;refine AH (λvs R' D'=>R3.le R'∧∃(c:Cfg) (AU:List (List Sm.Op)) (picks:List Int) (pv kv:Value) (m4:Int),(CK c AU picks = true∧∀p∈AU,Vs p)∧Sml picks∧Dg R' pv AU∧B9 R' kv picks∧m≤m4∧m4≤m + 1600000∧D' = (rb,rdO v m4) :: (b3,C 67 (eCf c)) :: (b1,C AM (cl z58)) :: F∧vs = [.pointer (some ⟨rb,0,none⟩),.pointer (some ⟨b1,0,none⟩),.pointer (some ⟨b3,0,none⟩),pv,kv]) (λK hK=>?_) ?_
 ·refine jpk hb3 ⟨by omega,by omega⟩ λy _ _=>jgr (jif (λ_=>?_) (λ_=>?_))
  ·refine jdr (Qe hb3 ⟨by omega,by omega⟩) ?_;rintro _ R4 m4 hR4 ⟨c',progs',picks',pv',kv',rfl,hok,hs',hp',hk'⟩ g7 g8;refine jex rfl (jex rfl (jex rfl (js (cs':=eCf c') rfl rfl (by exact z_n 3) rfl ?_)));exact hK _ _ _ ⟨hR4,c',progs',picks',pv',kv',m4,hok,hs',hp',hk',by omega,by omega,rfl,rfl⟩
  ·exact hK _ _ _ ⟨RM.le.refl _,c,AU,picks,pv,kv,_,⟨Nc hc hpl (λp h=>(hp40 p h).1) (by omega),λp h=>(hp40 p h).2⟩,hks,hp.le hR3,hk,by omega,by omega,rfl,rfl⟩
 have hR03:=hR2.trans hR3;clear hp hk hks hc hpl hp40 hkl hb2 hn;rintro e R4 D4 ⟨hR4,c,AU,picks,pv,kv,m4,⟨hok,hvs⟩,hs,hp,hk,g7,g8,hD,he⟩;rw[hD];clear hD;simp only[List.map,lc,ln,lj,z_t] at he;simp only[he];obtain⟨S,gh,i0,B0,hpk,hpl⟩:=Uc hok λa ha=>⟨by have:=(hs a ha).1;omega,by have:=(hs a ha).2;omega⟩
 refine jla (l:=eCf c) (by exact z_n 3) rfl (jc (A:=[]) (hpl R4 pv kv hp hk) ?_);rintro _ R5 _ hR5 ⟨p,g,rows,thv,A,ok,hrw,so,rfl,rfl⟩;have hSB:=UR i0 B0 (TF hok hvs hpk);refine jex rfl (jex rfl ?_);unfold AV;refine VK (X:=(p,C BL (Bg S g)) :: (g.hb,C AR (DQ S.th g.rv ++ g.hsp)) :: evD S g) (E:=(A ++ [(g.wb,C AZ (S.A5.map I ++ g.wsp)),(g.tb,C AD (AW eRg S.A0 ++ g.tsp)),(g.mb,C Az (S.AO.map Value.bool ++ g.msp))]) ++ ((rb,rdO v m4) :: (b3,C 67 (eCf c)) :: (b1,C AM (cl z58)) :: F)) ?_ ?_
 ·refine (List.Perm.append_right _ List.perm_middle).trans (List.Perm.cons _ ?_);have:=List.perm_append_comm_assoc (A ++ [(g.wb,C AZ (S.A5.map I ++ g.wsp)),(g.tb,C AD (AW eRg S.A0 ++ g.tsp)),(g.mb,C Az (S.AO.map Value.bool ++ g.msp))]) ((g.hb,C AR (DQ S.th g.rv ++ g.hsp)) :: evD S g) ((rb,rdO v m4) :: (b3,C 67 (eCf c)) :: (b1,C AM (cl z58)) :: F);simpa using this
 refine Ba (b:=g.mb) λR6 hR6 hmb=>?_
 have hmv:=Rl hmb ok.mk_;have hR16:=(hR4.trans hR5).trans hR6;have hb6:=hb3.le hR16;have hov:=ok.old.le hR6;have hpv:=ok.AQ.le hR6;have hrw:=hrw.mono λ_ _=>CY.le hR6
 obtain⟨tha,thc,hthv⟩:=so.sl;refine ja λb16=>js (cs':=eSt S.view (wS S g) (tS S g) (mS S g) thv g.old g.AQ) rfl (PF rfl so.flat (Fz.flat hov) (Fz.flat hpv)) (by exact z_n 13) rfl ?_
 have h0:StQ 8 rb b16 b1 v m 1600000 F R6 ((rb,rdO v m4) :: (b16,C AM (eSt S.view (wS S g) (tS S g) (mS S g) thv g.old g.AQ)) :: (A ++ (g.wb,C AZ (S.A5.map I ++ g.wsp)) :: (g.tb,C AD (AW eRg S.A0 ++ g.tsp)) :: (b1,C AM (cl z58)) :: F)):=
  ⟨S.view,rows,thv,mS S g,g.old,g.AQ,A,g.wb,S.A5.length,g.wc,g.wsp,g.tb,S.A0.length,g.tc,g.tsp,m4,hSB,rfl,ok.wk,rfl,ok.tk,hrw,so,hmv,hov,hpv,by omega,by omega,rfl⟩
 refine Dp b16 (Dp rb (Dp b3 (CR ?_)));simp only[List.append_assoc,lc,ln];generalize (rb,rdO v m4) :: (b16,C AM (eSt S.view (wS S g) (tS S g) (mS S g) thv g.old g.AQ)) :: (A ++ (g.wb,C AZ (S.A5.map I ++ g.wsp)) :: (g.tb,C AD (AW eRg S.A0 ++ g.tsp)) :: (b1,C AM (cl z58)) :: F) = D6 at h0 ⊢;have hR06:=hR03.trans hR16;clear hmb hmv hov hpv hrw so hpl ok hSB;refine AH (λvs R' D'=>R6.le R'∧StQ 9 rb b16 b1 v m 1600010 F R' D'∧vs = [.pointer (some ⟨b1,0,none⟩),.pointer (some ⟨b16,0,none⟩)]) (λK hK=>?_) ?_;rotate_left
 ·rintro e R7 D7 ⟨hR7,⟨s,rows,thv,mv,ov,pv,A,wb,nw,wc,wsp,tb,nt,tc,tsp,m',sb,w1,w2,w3,w4,hrw,so,hmv,hov,hpv,h1,h2,hD⟩,he⟩;rw[hD];clear hD;simp only[List.map,lc,ln,lj,z_t] at he;simp only[he];subst w1 w3;obtain⟨tha,thc,hthv⟩:=so.sl;have hfl:=PF (s:=s) (x:=some ⟨wb,0,none⟩) (y:=some ⟨tb,0,none⟩) (l:=s.A5.length) (q:=wc) (l2:=s.A0.length) (q2:=tc) (Fz.flat hmv) so.flat (Fz.flat hov) (Fz.flat hpv);refine jla (l:=eSt s (.slice (some ⟨wb,0,none⟩) s.A5.length wc) (.slice (some ⟨tb,0,none⟩) s.A0.length tc) mv thv ov pv) (by exact z_n 13) rfl ?_;refine js (cs':=eSt s (.slice (some ⟨wb,0,none⟩) s.A5.length wc) (.slice (some ⟨tb,0,none⟩) s.A0.length tc) mv thv ov pv) rfl hfl (by exact z_n 13) rfl ?_;refine jla (l:=eSt s (.slice (some ⟨wb,0,none⟩) s.A5.length wc) (.slice (some ⟨tb,0,none⟩) s.A0.length tc) mv thv ov pv) (by exact z_n 13) rfl ?_;refine Dp b16 (CR (Dp wb (Ba (b:=wb) λR8 hR8 hwb=>Dp rb (Au List.perm_middle.symm (jfw so (hrw.all λ_ _=>CY.len) λR9 hR9 hfz=>?_)))));have hR79:=hR8.trans hR9;exact BR (A:=[(rb,rdO v m'),(tb,C AD (AW eRg s.A0 ++ tsp))]) ((hR06.trans hR7).trans hR79) ⟨s,_,mv,thv,ov,pv,tb,tc,tsp,m',sb,(Bn hwb w2).le hR9,Fz.le hR79 hmv,⟨rows,hrw.mono λ_ _=>CY.le hR79,hfz⟩,hov.le hR79,hpv.le hR79,w4,h1,by omega,rfl,rfl⟩
 obtain⟨s,rows,thv,mv,ov,pv,A,wb,nw,wc,wsp,tb,nt,tc,tsp,m',sb,w1,w2,w3,w4,hrw,so,hmv,hov,hpv,h1,h2,hD⟩:=h0;rw[hD];clear hD;have wl:=sb.wl;have t0:=sb.t0;have t1:=sb.t1;refine jpk hb6 ⟨by omega,by omega⟩ λy _ _=>?_
 refine AH (λvs R' D'=>R6.le R'∧StQ 9 rb b16 b1 v m 1600010 F R' D'∧vs = [.pointer (some ⟨b1,0,none⟩),.pointer (some ⟨b16,0,none⟩)]) (λK2 hK2=>?_) ?_;rotate_left
 ·rintro e R7 D7 ⟨hR7,hD,he⟩;simp only[List.map,lc,ln,lj,z_t] at he;simp only[he];exact hK _ _ _ ⟨hR7,hD,rfl⟩
 have fin:∀(s' : Sm.CL) (m2:Int) (thv' : Value) (rows' : List (List Value)) (A' : Chs) (R' : RM),R6.le R'→StB 9 s'→s'.A5.length = nw→s'.A0.length = nt→s'.AO = s.AO→s'.old = s.old→s'.AQ = s.AQ→Rw (CY R') rows' s'.AB→SW 78 4 rows' thv' A'→m≤m2→m2≤m' + 8→
   J R' ((rb,rdO v m2) :: (b16,C AM (eSt s' (.slice (some ⟨wb,0,none⟩) nw wc) (.slice (some ⟨tb,0,none⟩) nt tc) mv thv' ov pv)) :: (A' ++ (wb,C AZ (s'.A5.map I ++ wsp)) :: (tb,C AD (AW eRg s'.A0 ++ tsp)) :: (b1,C AM (cl z58)) :: F)) (K2 [.pointer (some ⟨b1,0,none⟩),.pointer (some ⟨b16,0,none⟩)]):=λs' m2 thv' rows' A' R' a0 a1 a2 a3 a4 a5 a6 a7 a8 a9 a10=>
  hK2 _ _ _ ⟨a0,⟨s',rows',thv',mv,ov,pv,A',wb,nw,wc,wsp,tb,nt,tc,tsp,m2,a1,a2,w2,a3,w4,a7,a8,by rw[a4];exact Fz.le a0 hmv,by rw[a5];exact hov.le a0,by rw[a6];exact hpv.le a0,a9,by omega,rfl⟩,rfl⟩
 clear hK hK2;refine jeq (jif (λ_=>?_) (λ_=>jeq (jif (λ_=>?_) (λ_=>jeq (jif (λ_=>?_) (λ_=>jeq (jif (λ_=>?_) (λ_=>jeq (jif (λ_=>?_) (λ_=>jeq (jif (λ_=>?_) (λ_=>?_))))))))))))
 ·refine jl (v:=.slice (some ⟨wb,0,none⟩) nw wc) rfl (jl (v:=.slice (some ⟨wb,0,none⟩) nw wc) rfl (jln (jpk hb6 ⟨by omega,by omega⟩ λi _ _=>Ae (jl (v:=.slice (some ⟨wb,0,none⟩) nw wc) rfl jev) (jpk hb6 ⟨by omega,by omega⟩ λx _ _=>jia (by omega) (by omega) (Ae (jl (v:=.slice (some ⟨wb,0,none⟩) nw wc) rfl jev) ?_)))));refine jsi (l:=s.A5) (by omega) ?_;exact fin { s with A5:=s.A5.set i.toNat x } _ thv rows A R6 (RM.le.refl _) { sb.mono with wl:=by simpa using sb.wl,ml:=by simpa using sb.ml,wr:=λy hy=>(List.mem_or_eq_of_mem_set hy).elim (sb.wr y) λe=>by rw[e];unfold Rn;omega } (by simpa using w1) w3 rfl rfl rfl hrw so (by omega) (by omega)
 ·obtain⟨t,ts,rv,rr,bt,ct,sp,e1,e2,hrv,hrr,q1,q2,e3,e4⟩:=th0 hrw so sb.n0;subst e2 e3 e4;obtain⟨ra,rc,e5⟩:=hrv.sl;subst e5;have h8:=sb.rl t (by rw[e1];simp);refine jl (v:=.slice (some ⟨bt,0,none⟩) _ ct) rfl (jia (by omega) (by simp) (jla (l:=[.slice ra t.A7.length rc,I t.next,.bool t.busy,I t.BC]) (by simp) rfl ?_));refine ja λb38=>js (cs':=[.slice ra t.A7.length rc,I t.next,.bool t.busy,I t.BC]) rfl rfl (by exact z_n 4) rfl ?_
  refine jl (v:=.slice ra t.A7.length rc) rfl (jl (v:=.slice (some ⟨wb,0,none⟩) nw wc) rfl (jln ?_));refine jc (A:=[]) (Br hrv (by omega)) ?_;rintro _ R7 _ hR7 ⟨b5,c5,sp5,hc5,hsp5,rfl,rfl⟩;have hb7:=hb6.le hR7;refine Ae (jl (v:=.slice (some ⟨wb,0,none⟩) nw wc) rfl jev) (jpk hb7 ⟨by omega,by omega⟩ λx _ _=>jbs (cs:=[I x]) rfl rfl λbs=>?_);refine FU (l:=t.A7) (A:=[(b5,C AZ (t.A7.map I ++ sp5))]) (.inr ⟨b5,c5,sp5,hc5,hsp5,rfl,rfl⟩) (by omega) λv' A' so'=>Es so' λR8 hR8 hi=>?_
  obtain⟨xa,xc,e6⟩:=hi.sl;subst e6;refine js (cs':=[.slice xa (t.A7 ++ [x]).length xc,I t.next,.bool t.busy,I t.BC]) rfl rfl (by simp) rfl ?_;refine jl (v:=.slice (some ⟨bt,0,none⟩) _ ct) rfl (jla (l:=[.slice xa (t.A7 ++ [x]).length xc,I t.next,.bool t.busy,I t.BC]) (by exact z_n 4) rfl (jia (by omega) (by simp) ?_));refine js (cs':=([.slice xa (t.A7 ++ [x]).length xc,I t.next,.bool t.busy,I t.BC] :: rr).flatten ++ sp) rfl rfl (by simp) rfl ?_;refine Dp b38 (CR ?_);refine fin { s with AB:={ t with A7:=t.A7 ++ [x] } :: ts } _ (.slice (some ⟨bt,0,none⟩) _ ct) ([.slice xa (t.A7 ++ [x]).length xc,I t.next,.bool t.busy,I t.BC] :: rr) [(bt,C 78 (([.slice xa (t.A7 ++ [x]).length xc,I t.next,.bool t.busy,I t.BC] :: rr).flatten ++ sp))] R8 (hR7.trans hR8) { sb.mono with n0:=by simp,n1:=by have:=sb.n1;rw[e1] at this;simpa using this,rl:=λu hu=>?_ } w1 w3 rfl rfl rfl ?_ (.inr ⟨bt,ct,sp,q1,q2,rfl,rfl⟩) (by omega) (by omega)
  ·rcases List.mem_cons.1 hu with hu | hu
   ·subst hu;show (t.A7 ++ [x]).length≤9;rw[List.length_append];simp;omega
   ·exact sb.mono.rl u (by rw[e1];exact List.mem_cons_of_mem _ hu)
  ·exact Rw.app (r1:=[_]) (l1:=[_]) (Rw.one ⟨_,rfl,hi⟩) (hrr.mono λ_ _=>CY.le (hR7.trans hR8))
 ·refine jl (v:=.slice (some ⟨tb,0,none⟩) nt tc) rfl (jln (DE ⟨by omega,by omega⟩ (jpk hb6 ⟨by omega,by omega⟩ λi _ _=>Ac ⟨by omega,by omega⟩ ?_)));obtain⟨k,hk⟩:∃k:Nat,1 + i = k:=⟨(1 + i).toNat,by omega⟩;rw[hk];have hkl:k < s.A0.length:=by omega
  obtain⟨p0,p1⟩:=sb.tp _ (List.getElem_mem hkl);refine jl (v:=.slice (some ⟨tb,0,none⟩) nt tc) rfl (Bc (by omega) (Ej hkl (ja λb64=>js (cs':=eRg s.A0[k]) rfl rfl (by exact z_n 5) rfl ?_)));refine jl (v:=I (s.A0[k]).top) rfl (jpk hb6 ⟨by omega,by omega⟩ λz _ _=>Ac ⟨by omega,by omega⟩ (DE ⟨by omega,by omega⟩ (Ae (jl (v:=I (s.A0[k]).top) rfl jev) ?_)));refine js (cs':=eRg { s.A0[k] with top:=(s.A0[k]).top + z - 1 }) rfl rfl (by simp) rfl ?_;refine jl (v:=.slice (some ⟨tb,0,none⟩) nt tc) rfl (jla (l:=eRg { s.A0[k] with top:=(s.A0[k]).top + z - 1 }) (by exact z_n 5) rfl (Bc (by omega) ?_));refine EJ (x:={ s.A0[k] with top:=(s.A0[k]).top + z - 1 }) hkl ?_;refine Dp b64 (CR ?_);exact fin { s with A0:=s.A0.set k { s.A0[k] with top:=(s.A0[k]).top + z - 1 } } _ thv rows A R6 (RM.le.refl _) (sb.row k (by show -900≤(s.A0[k]).top + z - 1;omega) (by show (s.A0[k]).top + z - 1≤900;omega)) w1 (by simpa using w3) rfl rfl rfl hrw so (by omega) (by omega)
 ·refine jbs (cs:=[I (-1),I 4,I 2]) rfl rfl λbt=>jpk hb6 ⟨by omega,by omega⟩ λz _ _=>jia (by omega) (by omega) (jl (Ao [-1,4,2] (by omega) (by show _ < (3:Int);omega)) ?_)
  refine js (cs':=eSt { s with Aa:=sel [-1,4,2] z } (.slice (some ⟨wb,0,none⟩) nw wc) (.slice (some ⟨tb,0,none⟩) nt tc) mv thv ov pv) rfl rfl (by exact Nat.le_of_ble_eq_true rfl) rfl (Dp bt (CR ?_));exact fin { s with Aa:=sel [-1,4,2] z } _ thv rows A R6 (RM.le.refl _) { sb.mono with } w1 w3 rfl rfl rfl hrw so (by omega) (by omega)
 ·obtain⟨t,ts,rv,rr,bt,ct,sp,e1,e2,hrv,hrr,q1,q2,e3,e4⟩:=th0 hrw so sb.n0;subst e2 e3 e4;obtain⟨ra,rc,e5⟩:=hrv.sl;subst e5;refine jl (v:=.slice (some ⟨bt,0,none⟩) _ ct) rfl (jia (by omega) (by simp) (jla (l:=[.slice ra t.A7.length rc,I t.next,.bool t.busy,I t.BC]) (by simp) rfl ?_));refine ja λb38=>js (cs':=[.slice ra t.A7.length rc,I t.next,.bool t.busy,I t.BC]) rfl rfl (by exact z_n 4) rfl ?_
  refine jl (v:=.bool t.busy) rfl (js (cs':=[.slice ra t.A7.length rc,I t.next,.bool (!t.busy),I t.BC]) rfl rfl (by simp) rfl ?_);refine jl (v:=.slice (some ⟨bt,0,none⟩) _ ct) rfl (jla (l:=[.slice ra t.A7.length rc,I t.next,.bool (!t.busy),I t.BC]) (by exact z_n 4) rfl (jia (by omega) (by simp) ?_));refine js (cs':=([.slice ra t.A7.length rc,I t.next,.bool (!t.busy),I t.BC] :: rr).flatten ++ sp) rfl rfl (by simp) rfl ?_;refine Dp b38 (CR ?_);refine fin { s with AB:={ t with busy:=!t.busy } :: ts } _ (.slice (some ⟨bt,0,none⟩) _ ct) ([.slice ra t.A7.length rc,I t.next,.bool (!t.busy),I t.BC] :: rr) [(bt,C 78 (([.slice ra t.A7.length rc,I t.next,.bool (!t.busy),I t.BC] :: rr).flatten ++ sp))] R6 (RM.le.refl _) { sb.mono with n0:=by simp,n1:=by have:=sb.n1;rw[e1] at this;simpa using this,rl:=λu hu=>?_ } w1 w3 rfl rfl rfl ?_ (.inr ⟨bt,ct,sp,q1,q2,rfl,rfl⟩) (by omega) (by omega)
  ·rcases List.mem_cons.1 hu with hu | hu
   ·subst hu;exact sb.mono.rl t (by rw[e1];simp)
   ·exact sb.mono.rl u (by rw[e1];exact List.mem_cons_of_mem _ hu)
  ·exact Rw.app (r1:=[_]) (l1:=[_]) (Rw.one ⟨_,rfl,hrv⟩) hrr
 ·refine jl (v:=.slice (some ⟨tb,0,none⟩) nt tc) rfl (jln (DE ⟨by omega,by omega⟩ (jpk hb6 ⟨by omega,by omega⟩ λi _ _=>Ac ⟨by omega,by omega⟩ ?_)));obtain⟨k,hk⟩:∃k:Nat,1 + i = k:=⟨(1 + i).toNat,by omega⟩;rw[hk];have hkl:k < s.A0.length:=by omega
  refine jl (v:=.slice (some ⟨tb,0,none⟩) nt tc) rfl (Bc (by omega) (Ej hkl (ja λb64=>js (cs':=eRg s.A0[k]) rfl rfl (by exact z_n 5) rfl ?_)));refine jpk hb6 ⟨by omega,by omega⟩ λz _ _=>js (cs':=eRg { s.A0[k] with kind:=z }) rfl rfl (by simp) rfl ?_
  refine jl (v:=.slice (some ⟨tb,0,none⟩) nt tc) rfl (jla (l:=eRg { s.A0[k] with kind:=z }) (by exact z_n 5) rfl (Bc (by omega) ?_));refine EJ (x:={ s.A0[k] with kind:=z }) hkl ?_;refine Dp b64 (CR ?_);obtain⟨p0,p1⟩:=sb.tp _ (List.getElem_mem hkl);exact fin { s with A0:=s.A0.set k { s.A0[k] with kind:=z } } _ thv rows A R6 (RM.le.refl _) (sb.row k (by show -900≤(s.A0[k]).top;omega) (by show (s.A0[k]).top≤900;omega)) w1 (by simpa using w3) rfl rfl rfl hrw so (by omega) (by omega)
 ·exact fin s _ thv rows A R6 (RM.le.refl _) sb.mono w1 w3 rfl rfl rfl hrw so (by omega) (by omega)
end draws
end Go.Lf
end
section
namespace Go.Lf
open Go Sm
section draws
variable {R:RM} {rb:Nat} {v:Value} {m:Int}
def DTb (R:RM) (rb:Nat) (v:Value) (m c:Int) (x:Value) (R' : RM) (A:Chs):Prop:=
 ∃(t:List Rg) (tb tc:Nat) (tsp:List Value) (m' : Int),1≤t.length∧t.length≤12∧t.length≤tc∧m≤m'∧m'≤m + c∧x = .slice (some ⟨tb,0,none⟩) t.length tc∧A = [(rb,rdO v m'),(tb,C AD (AW eRg t ++ tsp))]
theorem O4 (hb:Byt R v) (hm:0≤m∧m < 100000000):Fn P GW [.pointer (some ⟨rb,0,none⟩)] R [(rb,rdO v m)] (DTb R rb v m 2100000):=by
 refine Lb λF=>?_
 unfold GZ;refine jc (A:=[(rb,rdO v m)]) (OG hb hm) ?_;rintro _ R1 _ hR1 ⟨s,wv,mv,thv,ov,pv,tb,tc,tsp,m1,sb,hw,hmv,hth,hov,hpv,htc,h1,h2,rfl,rfl⟩;have t0:=sb.t0;have t1:=sb.t1;have hb1:=hb.le hR1;show J R1 ([(rb,rdO v m1),(tb,C AD (AW eRg s.A0 ++ tsp))] ++ F) (CUT _ _ _);obtain⟨nt,hnt⟩:∃nt,s.A0.length = nt:=⟨_,rfl⟩;rw[hnt];have htp:∀x∈s.A0,-900≤x.top∧x.top≤900:=λx hx=>by have:=sb.tp x hx;omega
 have n0:2≤nt:=by omega
 have n1:nt≤12:=by omega
 have n2:nt≤tc:=by omega
 generalize s.A0 = t at hnt htp ⊢;refine AH (λvs R' D'=>R' = R1∧∃(t:List Rg) (m2:Int),t.length = nt∧(∀x∈t,-900≤x.top∧x.top≤900)∧m≤m2∧m2≤m + 2050000∧D' = (rb,rdO v m2) :: (tb,C AD (AW eRg t ++ tsp)) :: F∧vs = [.pointer (some ⟨rb,0,none⟩),.slice (some ⟨tb,0,none⟩) nt tc]) (λK hK=>?_) ?_
 ·refine AH (λvs R' D'=>R' = R1∧∃(t:List Rg) (m2:Int),t.length = nt∧(∀x∈t,-900≤x.top∧x.top≤900)∧m≤m2∧m2≤m + 2050000∧D' = (rb,rdO v m2) :: (tb,C AD (AW eRg t ++ tsp)) :: F∧vs = [.pointer (some ⟨rb,0,none⟩),.slice (some ⟨tb,0,none⟩) nt tc]) (λK2 hK2=>?_) ?_;rotate_left
  ·rintro e R2 D2 ⟨hR2,t,m2,q1,q2,q3,q4,hD,he⟩;simp only[List.map,lc,ln,lj,z_t] at he;simp only[he];exact hK _ _ _ ⟨hR2,t,m2,q1,q2,q3,q4,hD,rfl⟩
  refine jlp (λmm vs R' D'=>R' = R1∧∃(i:Nat) (t:List Rg) (m2:Int),1≤i∧i≤12∧t.length = nt∧(∀x∈t,-900≤x.top∧x.top≤900)∧m≤m2∧m2≤m1 + 2 * i∧D' = (rb,rdO v m2) :: (tb,C AD (AW eRg t ++ tsp)) :: F∧vs = [.pointer (some ⟨rb,0,none⟩),.slice (some ⟨tb,0,none⟩) nt tc,I i]∧mm = 12 - i)
   (n:=11) ⟨rfl,1,t,m1,by omega,by omega,hnt,htp,by omega,by omega,rfl,rfl,rfl⟩ ?_
  clear hnt htp;rintro mm e R2 D2 K3 ⟨hR2,i,t,m2,i1,i2,hnt,htp,q3,q4,hD,he,hmm⟩ hK3;subst hR2;rw[hD];clear hD;simp only[List.map,lc,ln,lj,z_t] at he;simp only[he];refine jln (jlt (jif (λh=>?_) (λh=>?_)));rotate_left
  ·exact hK2 _ _ _ ⟨rfl,t,m2,hnt,htp,q3,by omega,rfl,rfl⟩
  have h:=z_f h;have hil:i < t.length:=by omega
  refine AH (λvs R' D'=>R' = R2∧∃(t:List Rg) (m3:Int),t.length = nt∧(∀x∈t,-900≤x.top∧x.top≤900)∧m2≤m3∧m3≤m2 + 2∧D' = (rb,rdO v m3) :: (tb,C AD (AW eRg t ++ tsp)) :: F∧vs = [.pointer (some ⟨rb,0,none⟩),.slice (some ⟨tb,0,none⟩) nt tc,I i]) (λK4 hK4=>?_) ?_;rotate_left
  ·rintro e R3 D3 ⟨hR3,t,m3,q5,q6,q7,q8,hD,he⟩;subst hR3;rw[hD];clear hD;simp only[List.map,lc,ln,lj,z_t] at he;simp only[he];refine Ac ⟨by omega,by omega⟩ ?_;exact hK3 (12 - (i + 1)) _ _ _ (by omega) ⟨rfl,i + 1,t,m3,by omega,by omega,q5,q6,by omega,by omega,rfl,rfl,rfl⟩
  refine AH (λvs R' D'=>R' = R2∧∃(t:List Rg) (m3:Int),t.length = nt∧(∀x∈t,-900≤x.top∧x.top≤900)∧m2≤m3∧m3≤m2 + 2∧D' = (rb,rdO v m3) :: (tb,C AD (AW eRg t ++ tsp)) :: F∧vs = [.pointer (some ⟨rb,0,none⟩),.slice (some ⟨tb,0,none⟩) nt tc,I i]) (λK5 hK5=>?_) ?_;rotate_left
  ·rintro e R3 D3 ⟨hR3,t,m3,q5,q6,q7,q8,hD,he⟩;simp only[List.map,lc,ln,lj,z_t] at he;simp only[he];exact hK4 _ _ _ ⟨hR3,t,m3,q5,q6,q7,q8,hD,rfl⟩
  refine AH (λvs R' D'=>R' = R2∧∃c u w,Eu c u w∧D' = (rb,rdO v (m2 + 1)) :: (tb,C AD (AW eRg t ++ tsp)) :: F∧vs = [.pointer (some ⟨rb,0,none⟩),.slice (some ⟨tb,0,none⟩) nt tc,I i,c,u]) (λK6 hK6=>?_) ?_
  ·refine jpk hb1 ⟨by omega,by omega⟩ λy _ _=>jeq (Bj (λq=>Bc (by omega) (jfo (jl (v:=I (t[i]).kind) (by rw[Nat.zero_add];exact BT (f:=0) hil rfl) (jeq ?_)))) (λq=>?_))
   ·exact hK6 _ _ _ ⟨rfl,_,_,_,q▸Aq,rfl,rfl⟩
   ·exact hK6 _ _ _ ⟨rfl,_,_,_,q▸As,rfl,rfl⟩
  rintro e R3 D3 ⟨hR3,c,u,w,ho,hD,he⟩;subst hR3;rw[hD];clear hD;simp only[List.map,lc,ln,lj,z_t] at he;simp only[he];rw[ho];refine jif (λhw=>?_) (λhw=>?_)
  ·obtain⟨p0,p1⟩:=htp _ (List.getElem_mem hil);have hbase:AG (i:Int) = 16 * i:=by unfold AG;split<;>omega
   refine Bc (by omega) (Ej hil (ja λb52=>js (cs':=eRg t[i]) rfl rfl (by exact z_n 5) rfl ?_));refine jl (v:=I (t[i]).top) rfl (js (cs':=eRg { t[i] with Ah:=(t[i]).top }) rfl rfl (by simp) rfl ?_);refine jl (v:=I (t[i]).top) rfl (jp (BA i) ?_);rw[hbase];refine DE ⟨by omega,by omega⟩ (Ac ⟨by omega,by omega⟩ (Ae (jl (v:=I (t[i]).top) rfl jev) (jpk hb1 ⟨by omega,by omega⟩ λz _ _=>?_)));refine js (cs':=eRg { t[i] with Ah:=(t[i]).top,AF:=z }) rfl rfl (by simp) rfl ?_;refine jla (l:=eRg { t[i] with Ah:=(t[i]).top,AF:=z }) (by exact z_n 5) rfl (Bc (by omega) ?_);refine EJ (x:={ t[i] with Ah:=(t[i]).top,AF:=z }) hil (jk2 (F:=F) rb tb ?_);refine hK5 _ _ _ ⟨rfl,t.set i { t[i] with Ah:=(t[i]).top,AF:=z },_,by simpa using hnt,λx hx=>?_,by omega,by omega,rfl,rfl⟩;rcases List.mem_or_eq_of_mem_set hx with hx | hx
   ·exact htp x hx
   ·subst hx;exact⟨p0,p1⟩
  ·exact hK5 _ _ _ ⟨rfl,t,_,hnt,htp,by omega,by omega,rfl,rfl⟩
 clear hnt htp;rintro e R2 D2 ⟨hR2,t,m2,hnt,htp,q3,q4,hD,he⟩;subst hR2;rw[hD];clear hD;simp only[List.map,lc,ln,lj,z_t] at he;simp only[he];have fin:∀(t' : List Rg) (sp' : List Value) (m3:Int),1≤t'.length→t'.length≤nt→m2≤m3→m3≤m2 + 5→J R2 ((rb,rdO v m3) :: (tb,C AD (AW eRg t' ++ sp')) :: F) (ED R F (DTb R rb v m 2100000) (.slice (some ⟨tb,0,none⟩) t'.length tc)):=λt' sp' m3 a1 a2 a3 a4=>
  BR (A:=[(rb,rdO v m3),(tb,C AD (AW eRg t' ++ sp'))]) hR1 ⟨t',tb,tc,sp',m3,a1,by omega,by omega,by omega,by omega,rfl,rfl⟩
 refine AH (λvs R' D'=>R' = R2∧∃(t' : List Rg) (sp' : List Value) (m3:Int),1≤t'.length∧t'.length≤nt∧m2≤m3∧m3≤m2 + 5∧D' = (rb,rdO v m3) :: (tb,C AD (AW eRg t' ++ sp')) :: F∧vs = [.slice (some ⟨tb,0,none⟩) t'.length tc]) (λK hK=>?_) ?_;rotate_left
 ·rintro e R3 D3 ⟨hR3,t',sp',m3,a1,a2,a3,a4,hD,he⟩;subst hR3;rw[hD];clear hD;simp only[List.map,lc,ln,lj,z_t] at he;simp only[he];exact fin t' sp' m3 a1 a2 a3 a4
 refine jpk hb1 ⟨by omega,by omega⟩ λy _ _=>?_
 refine AH (λvs R' D'=>R' = R2∧∃(t' : List Rg) (sp' : List Value) (m3:Int),1≤t'.length∧t'.length≤nt∧m2≤m3∧m3≤m2 + 5∧D' = (rb,rdO v m3) :: (tb,C AD (AW eRg t' ++ sp')) :: F∧vs = [.slice (some ⟨tb,0,none⟩) t'.length tc]) (λK2 hK2=>?_) ?_;rotate_left
 ·rintro e R3 D3 ⟨hR3,t',sp',m3,a1,a2,a3,a4,hD,he⟩;simp only[List.map,lc,ln,lj,z_t] at he;simp only[he];exact hK _ _ _ ⟨hR3,t',sp',m3,a1,a2,a3,a4,hD,rfl⟩
 have row:∀(k:Nat) (x:Rg) (m3:Int),k < t.length→m2≤m3→m3≤m2 + 5→J R2 ((rb,rdO v m3) :: (tb,C AD (AW eRg (t.set k x) ++ tsp)) :: F) (K2 [.slice (some ⟨tb,0,none⟩) nt tc]):=λk x m3 _ a3 a4=>
  hK2 _ _ _ ⟨rfl,t.set k x,tsp,m3,by rw[List.length_set];omega,by rw[List.length_set];omega,a3,a4,rfl,by rw[List.length_set,hnt]⟩
 have h0:0 < t.length:=by omega
 have h1' : 1 < t.length:=by omega
 refine jeq (jif (λ_=>?_) (λ_=>jeq (jif (λ_=>?_) (λ_=>jeq (jif (λ_=>?_) (λ_=>jeq (jif (λ_=>?_) (λ_=>?_))))))))
 ·intro h hs;refine⟨⟨by decide,by omega⟩,?_⟩;have e1:AW eRg t = AW eRg (t.take 1) ++ AW eRg (t.drop 1):=by
   unfold AW;rw[← List.flatten_append,← List.map_append,List.take_append_drop]
  rw[e1,List.append_assoc] at hs;have hl1:(t.take 1).length = 1:=by rw[List.length_take];omega
  exact hK2 _ _ _ ⟨rfl,t.take 1,_,m2 + 1,by omega,by omega,by omega,by omega,rfl,by rw[hl1];rfl⟩ h hs
 ·refine Bc (r:=1) (by omega) (Ej h1' (ja λb52=>js (cs':=eRg t[1]) rfl rfl (by exact z_n 5) rfl ?_));refine jpk hb1 ⟨by omega,by omega⟩ λz _ _=>DE ⟨by omega,by omega⟩ (js (cs':=eRg { t[1] with AK:=z - 2 }) rfl rfl (by simp) rfl ?_)
  refine jla (l:=eRg { t[1] with AK:=z - 2 }) (by exact z_n 5) rfl (Bc (r:=1) (by omega) ?_);refine EJ (x:={ t[1] with AK:=z - 2 }) h1' (jk2 (F:=F) rb tb ?_);exact row 1 _ _ h1' (by omega) (by omega)
 ·obtain⟨p0,p1⟩:=htp _ (List.getElem_mem h1');refine Bc (r:=1) (by omega) (Ej h1' (ja λb52=>js (cs':=eRg t[1]) rfl rfl (by exact z_n 5) rfl ?_));refine jl (v:=I (t[1]).top) rfl (Ac ⟨by omega,by omega⟩ (js (cs':=eRg { t[1] with Ah:=(t[1]).top + 1 }) rfl rfl (by simp) rfl ?_));refine jla (l:=eRg { t[1] with Ah:=(t[1]).top + 1 }) (by exact z_n 5) rfl (Bc (r:=1) (by omega) ?_);refine EJ (x:={ t[1] with Ah:=(t[1]).top + 1 }) h1' (jk2 (F:=F) rb tb ?_);exact row 1 _ _ h1' (by omega) (by omega)
 ·refine Bc (r:=0) (by omega) (Ej h0 (ja λb52=>js (cs':=eRg t[0]) rfl rfl (by exact z_n 5) rfl ?_));refine js (cs':=eRg { t[0] with kind:=1 }) rfl rfl (by simp) rfl ?_;refine jla (l:=eRg { t[0] with kind:=1 }) (by exact z_n 5) rfl (Bc (r:=0) (by omega) ?_);refine EJ (x:={ t[0] with kind:=1 }) h0 (jk2 (F:=F) rb tb ?_);exact row 0 _ _ h0 (by omega) (by omega)
 ·exact hK2 _ _ _ ⟨rfl,t,tsp,_,by omega,by omega,by omega,by omega,rfl,by rw[hnt]⟩
end draws
end Go.Lf
end
section
namespace Go.Lf
open Go Sm
section rules
variable {R:RM} {D:Chs} {k:Value→M}
end rules
theorem K0 (r:Int):Pu Du [I r] (I (AG r)):=λR=>F9 λF=>EU r R F
end Go.Lf
end
section
namespace Go.Lf
open Go Sm
end Go.Lf
end
section
namespace Go.Lf
open Go Sm
theorem Ma {R:RM} {D:Chs} {va vb:Value} {la lb:List Int} (ha:B9 R va la) (hb:B9 R vb lb) (h1:la.length < 1000000) (h2:lb.length < 1000000):Ro KU [va,vb] (.bool (la == lb)) R D:=by
 refine Nu λF=>?_
 unfold JG;refine Co ha.sl (Co hb.sl (jne (jif (λh=>?_) (λh=>?_))))
 ·have h:(la.length:Int)≠lb.length:=by simpa using h
  refine BV ?_;congr 1;rw[eq_comm,beq_eq_false_iff_ne];intro e;rw[e] at h;exact h rfl
 have hl:la.length = lb.length:=by
  have:((la.length:Int) != lb.length) = false:=h;rw[bne_eq_false_iff_eq] at this;omega
 refine jlp (λm vs R' D'=>R' = R∧D' = D ++ F∧∃i:Nat,i≤la.length∧vs = [va,vb,I i]∧la.take i = lb.take i∧m = la.length - i) (n:=la.length) ⟨rfl,rfl,0,by omega,rfl,by simp,by omega⟩ ?_;rintro m e R1 D1 K ⟨hR,hD,i,hi,he,heq,hm⟩ hK;subst hR;rw[hD];clear hD;simp only[List.map,lc,ln,lj,z_t] at he;simp only[he];refine Co ha.sl (jlt (jif (λhc=>?_) (λhc=>?_)));rotate_left
 ·have hc:=z_g hc;refine BV ?_;rw[List.take_of_length_le (by omega),List.take_of_length_le (by omega)] at heq;rw[heq];simp
 have hc:i < la.length:=by have:=z_f hc;omega
 refine CN ha (by omega) (by omega) (CN hb (by omega) (by omega) (jne ?_));simp only[Int.toNat_natCast];refine jif (λhd=>?_) (λhd=>?_)
 ·have hd:la[i]≠lb[i]:=by simpa using hd
  refine BV ?_;congr 1;rw[eq_comm,beq_eq_false_iff_ne];intro e;subst e;exact hd rfl
 ·have hd:la[i] = lb[i]:=by simpa using hd
  refine Ac ⟨by omega,by omega⟩ ?_;refine hK (la.length - (i + 1)) _ _ _ (by omega) ⟨rfl,rfl,i + 1,by omega,rfl,?_,rfl⟩;rw[List.take_succ_eq_append_getElem hc,List.take_succ_eq_append_getElem (by omega:i < lb.length),heq,hd]
def Cod (R:RM) (v:Value):Prop:=∃n,Bsl R v n
end Go.Lf
end
section
namespace Go.Lf
open Go Sm
end Go.Lf
end
