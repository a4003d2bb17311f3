/- A part of the proof of the given row: the walk of the law and of all that it calls. Conditions: none. -/
import Derived.Test.YtlagojobcbkpdaaGreatCN
set_option linter.unusedVariables false
set_option linter.unusedSimpArgs false
section
namespace Go.Lf
open Go Sm
@[reducible] def eCf (c:Cfg):List Value:=[I c.AC,I c.AA,I c.AN]
theorem SO.sln {l:List Int} {v:Value} {A:Chs} (h:SO l v A):∃a c,v = .slice a l.length c:=by
 rcases h with ⟨rfl,rfl,_⟩ | ⟨b,c,sp,_,_,rfl,_⟩<;>exact⟨_,_,rfl⟩
section draws
variable {R:RM} {rb:Nat} {v:Value} {m:Int}
theorem Q7 {c:Cfg} (hc:BY c = true) (hb:Byt R v) (hm:0≤m∧m < 200000000):Dr Ho [Pt rb,.agg #[I c.AC,I c.AA,I c.AN]] R rb v m 10000 (λx R'=>∃l:List (List Sm.Op),(l.length:Int) = c.AA∧(∀p∈l,p.length≤40∧Vs p)∧EA R' x l):=by
 refine Na λF=>?_
 unfold I8;simp only[BY,z_b,z_d] at hc;obtain⟨n,hn⟩:∃n:Nat,c.AA = n:=⟨c.AA.toNat,by omega⟩;refine ja λb=>BH (D':=(rb,rdO v m) :: (b,C 33 (eCf c)) :: F) (aC _ _ _) ?_
 refine AJ (λvs R' D'=>R.le R'∧∃(l:List (List Sm.Op)) (rows:List (List Value)) (ov:Value) (A:Chs) (m' : Int),l.length = n∧(∀p∈l,p.length≤40∧Vs p)∧PrW R' rows l∧SW 158 1 rows ov A∧m≤m'∧m'≤m + 10000∧D' = A ++ (rb,rdO v m') :: (b,C 33 (eCf c)) :: F∧vs = [ov]) (λK hK=>?_) ?_;rotate_left
 ·rintro e R1 D1 ⟨hR,l,rows,ov,A,m',hl,hp,hrw,so,h1,h2,hD,he⟩;rw[hD];clear hD;simp only[List.map,zc,zl,zj,z_t] at he;simp only[he];exact V8 so hrw λR2 hR2 ho=>EO m' (hR.trans hR2) ⟨l,by omega,hp,ho⟩ h1 h2
 refine AJ (λvs R' D'=>R.le R'∧∃(l:List (List Sm.Op)) (rows:List (List Value)) (ov:Value) (A:Chs) (m' : Int),l.length = n∧(∀p∈l,p.length≤40∧Vs p)∧PrW R' rows l∧SW 158 1 rows ov A∧m≤m'∧m'≤m + 10000∧D' = A ++ (rb,rdO v m') :: (b,C 33 (eCf c)) :: F∧vs = [ov]) (λK2 hK2=>?_) ?_;rotate_left
 ·rintro e R1 D1 ⟨hR,l,rows,ov,A,m',hl,hp,hrw,so,h1,h2,hD,he⟩;simp only[List.map,zc,zl,zj,z_t] at he;simp only[he];exact hK _ _ _ ⟨hR,l,rows,ov,A,m',hl,hp,hrw,so,h1,h2,hD,rfl⟩
 refine jlp (λmm vs R' D'=>R.le R'∧∃(i:Nat) (l:List (List Sm.Op)) (rows:List (List Value)) (ov:Value) (A:Chs) (m' : Int),i≤n∧l.length = i∧(∀p∈l,p.length≤40∧Vs p)∧PrW R' rows l∧SW 158 1 rows ov A∧m≤m'∧m'≤m + 3000 * i∧D' = A ++ (rb,rdO v m') :: (b,C 33 (eCf c)) :: F∧vs = [Pt rb,Pt b,ov,I i]∧mm = n - i)
  (n:=n) ⟨RM.le.refl R,0,[],[],.slice none 0 0,[],m,by omega,rfl,(λp hp=>by cases hp),Rw.nil,.inl ⟨rfl,rfl,rfl⟩,by omega,by omega,rfl,rfl,by omega⟩ ?_
 rintro mm e R1 D1 K3 ⟨hR,i,l,rows,ov,A,m',hi,hl,hp,hrw,so,h1,h2,hD,he,hmm⟩ hK3;rw[hD];clear hD;simp only[List.map,zc,zl,zj,z_t] at he;simp only[he];refine jl (v:=I c.AA) rfl (jlt (jif (λh=>?_) (λh=>?_)));rotate_left
 ·have h:=z_g h;exact hK2 _ _ _ ⟨hR,l,rows,ov,A,m',by omega,hp,hrw,so,h1,by omega,rfl,rfl⟩
 have h:=z_f h;refine jpk (hb.le hR) ⟨by omega,by omega⟩ λy _ _=>jad ?_
 obtain⟨k,hk⟩:∃k:Nat,4 + y = k:=⟨(4 + y).toNat,by omega⟩;rw[hk];refine jdr (TD (n:=k) (by omega) (hb.le hR) ⟨by omega,by omega⟩) ?_;rintro x R2 m2 hR2 ⟨q,⟨hq,hqv⟩,hops⟩ h3 h4;obtain⟨xa,xc,hx⟩:=Fz.sl hops;subst hx;refine jbs (cs:=[.slice xa q.length xc]) rfl rfl λbs=>?_
 have hrl:=hrw.1;refine Sv [[.slice xa q.length xc]] so rfl hrw.len (λr hr=>by rw[Z3.1 hr];rfl) rfl rfl rfl (by decide) (by rw[Z4];omega) λv' A' so'=>?_
 refine jad ?_;refine hK3 (n - (i + 1)) _ _ _ (by omega) ⟨hR.trans hR2,i + 1,l ++ [q],_,v',A',m2,by omega,by rw[Yn,hl];rfl,λp hp'=>?_,(hrw.le hR2).app (Rw.one ⟨_,rfl,hops⟩),so',by omega,by omega,rfl,rfl,rfl⟩;rcases ZD.1 hp' with hp' | hp'
 ·exact hp p hp'
 ·rw[Z3.1 hp'];exact⟨by omega,hqv⟩
def Sml (l:List Int):Prop:=∀a∈l,0≤a∧a≤9
theorem Sml.snoc {l:List Int} {x:Int} (h:Sml l) (h0:0≤x) (h1:x≤9):Sml (l ++ [x]):=λa ha=>by
 rcases ZD.1 ha with ha | ha
 ·exact h a ha
 ·rw[Z3.1 ha];exact⟨h0,h1⟩
theorem Rc {c:Cfg} {n:Nat} (hc:BY c = true) (hn:n≤4000) (hb:Byt R v) (hm:0≤m∧m < 200000000):Dr IB [Pt rb,.agg #[I c.AC,I c.AA,I c.AN],I n] R rb v m 500000 (λx R'=>∃l:List Int,l.length = n∧Sml l∧BC R' x l):=by
 refine O5 λF=>?_
 unfold Ia;simp only[BY,z_b,z_d] at hc;refine ja λb=>BH (D':=(rb,rdO v m) :: (b,C 33 (eCf c)) :: F) (aC _ _ _) ?_
 refine AJ (λvs R' D'=>R' = R∧∃(l:List Int) (ov:Value) (A:Chs) (m' : Int),n≤l.length∧Sml l∧SO l ov A∧m≤m'∧m'≤m + 500000∧D' = A ++ (rb,rdO v m') :: (b,C 33 (eCf c)) :: F∧vs = [I n,ov]) (λK hK=>?_) ?_;rotate_left
 ·rintro e R1 D1 ⟨hR,l,ov,A,m',hl,hp,so,h1,h2,hD,he⟩;subst hR;rw[hD];clear hD;simp only[List.map,zc,zl,zj,z_t] at he;simp only[he];refine E7 so λR2 hR2 hi=>Tn hi (by omega) (by omega) λv' hv'=>EO m' hR2 ⟨l.take n,by rw[Z0];omega,λa ha=>hp a (ZL ha),by rw[Yj] at hv';exact hv'⟩ h1 h2
 refine AJ (λvs R' D'=>R' = R∧∃(l:List Int) (ov:Value) (A:Chs) (m' : Int),n≤l.length∧Sml l∧SO l ov A∧m≤m'∧m'≤m + 500000∧D' = A ++ (rb,rdO v m') :: (b,C 33 (eCf c)) :: F∧vs = [I n,ov]) (λK2 hK2=>?_) ?_;rotate_left
 ·rintro e R1 D1 ⟨hR,l,ov,A,m',hl,hp,so,h1,h2,hD,he⟩;simp only[List.map,zc,zl,zj,z_t] at he;simp only[he];exact hK _ _ _ ⟨hR,l,ov,A,m',hl,hp,so,h1,h2,hD,rfl⟩
 refine jlp (λmm vs R' D'=>R' = R∧∃(l:List Int) (ov:Value) (A:Chs) (m' : Int),l.length≤4100∧Sml l∧SO l ov A∧m≤m'∧m'≤m + 100 * l.length∧D' = A ++ (rb,rdO v m') :: (b,C 33 (eCf c)) :: F∧vs = [Pt rb,I n,Pt b,ov]∧mm = 4100 - l.length)
  (n:=4100) ⟨rfl,[],.slice none 0 0,[],m,by decide,(λp hp=>by cases hp),.inl ⟨rfl,rfl,rfl⟩,by omega,by simp,rfl,rfl,rfl⟩ ?_
 rintro mm e R1 D1 K3 ⟨hR,l,ov,A,m',hl,hp,so,h1,h2,hD,he,hmm⟩ hK3;subst hR;rw[hD];clear hD;simp only[List.map,zc,zl,zj,z_t] at he;simp only[he];refine CN so.sln (jlt (jif (λh=>?_) (λh=>?_)));rotate_left
 ·have h:=z_g h;exact hK2 _ _ _ ⟨rfl,l,ov,A,m',by omega,hp,so,h1,by omega,rfl,rfl⟩
 have h:=z_f h;refine AJ (λvs R' D'=>R' = R1∧∃(l2:List Int) (ov:Value) (A:Chs) (m2:Int),l.length < l2.length∧l2.length≤l.length + 80∧Sml l2∧SO l2 ov A∧m'≤m2∧m2≤m' + 80∧D' = A ++ (rb,rdO v m2) :: (b,C 33 (eCf c)) :: F∧vs = [Pt rb,I n,Pt b,ov]) (λK4 hK4=>?_) ?_;rotate_left
 ·rintro e Rx Dx ⟨hR,l2,ov,A,m2,q1,q2,hp2,so2,q3,q4,hD,he⟩;subst hR;rw[hD];clear hD;simp only[List.map,zc,zl,zj,z_t] at he;simp only[he];exact hK3 (4100 - l2.length) _ _ _ (by omega) ⟨rfl,l2,ov,A,m2,by omega,hp2,so2,by omega,by omega,rfl,rfl,rfl⟩
 refine jpk hb ⟨by omega,by omega⟩ λk _ _=>jad (jl (v:=I c.AA) rfl (jad (jpk hb ⟨by omega,by omega⟩ λp _ _=>?_)))
 refine AJ (λvs R' D'=>R' = R1∧∃k p m2:Int,1≤k∧k≤36∧0≤p∧p≤9∧m'≤m2∧m2≤m' + 3∧D' = A ++ (rb,rdO v m2) :: (b,C 33 (eCf c)) :: F∧vs = [Pt rb,I n,Pt b,ov,I k,I p]) (λK5 hK5=>?_) ?_
 ·refine jpk hb ⟨by omega,by omega⟩ λz _ _=>jeq (jif (λ_=>jl (v:=I c.AA) rfl (GX ⟨by omega,by omega⟩ ?_)) (λ_=>?_))<;>refine Ai A (G:=(rb,rdO v (m' + 1 + 1 + 1)) :: (b,C 33 (eCf c)) :: F) ?_
  ·exact hK5 _ _ _ ⟨rfl,_,_,_,by omega,by omega,by omega,by omega,by omega,by omega,rfl,rfl⟩
  ·exact hK5 _ _ _ ⟨rfl,_,_,_,by omega,by omega,by omega,by omega,by omega,by omega,rfl,rfl⟩
 rintro e Rx Dx ⟨hR,k,p,m2,k0,k1,p0,p1,q1,q2,hD,he⟩;subst hR;rw[hD];clear hD;simp only[List.map,zc,zl,zj,z_t] at he;simp only[he];refine AJ (λvs R' D'=>R' = Rx∧∃(l2:List Int) (ov:Value) (A:Chs) (m3:Int),l.length≤l2.length∧l2.length≤l.length + 1∧Sml l2∧SO l2 ov A∧m'≤m3∧m3≤m' + 4∧D' = A ++ (rb,rdO v m3) :: (b,C 33 (eCf c)) :: F∧vs = [Pt rb,I n,Pt b,ov,I k,I p]) (λK5 hK5=>?_) ?_
 ·refine jpk hb ⟨by omega,by omega⟩ λz _ _=>jeq (jif (λ_=>?_) (λ_=>?_))
  ·refine jl (v:=I c.AA) rfl (jad (jbs (cs:=[I (c.AA + 1)]) rfl rfl λbs=>Hr so (by omega) λv' A' so'=>?_));exact hK5 _ _ _ ⟨rfl,_,v',A',_,by simp,by simp,hp.snoc (by omega) (by omega),so',by omega,by omega,rfl,rfl⟩
  ·refine Ai A (G:=(rb,rdO v (m2 + 1)) :: (b,C 33 (eCf c)) :: F) ?_;exact hK5 _ _ _ ⟨rfl,l,ov,A,_,by omega,by omega,hp,so,by omega,by omega,rfl,rfl⟩
 clear so;rintro e Ry Dy ⟨hR,l2,ov,A,m3,q3,q4,hp2,so,q5,q6,hD,he⟩;subst hR;rw[hD];clear hD;simp only[List.map,zc,zl,zj,z_t] at he;simp only[he];refine jpk hb ⟨by omega,by omega⟩ λz _ _=>jeq (jif (λ_=>?_) (λ_=>?_))<;>refine Ai A (G:=(rb,rdO v (m3 + 1)) :: (b,C 33 (eCf c)) :: F) ?_
 ·refine AJ (λvs R' D'=>R' = Ry∧∃(l2:List Int) (ov:Value) (A:Chs) (m2:Int),l.length < l2.length∧l2.length≤l.length + 80∧Sml l2∧SO l2 ov A∧m'≤m2∧m2≤m' + 80∧D' = A ++ (rb,rdO v m2) :: (b,C 33 (eCf c)) :: F∧vs = [Pt rb,I n,Pt b,ov]) (λK6 hK6=>?_) ?_;rotate_left
  ·rintro e Rz Dz ⟨hR,l2,ov,A,m2,a1,a2,a3,a4,a5,a6,hD,he⟩;simp only[List.map,zc,zl,zj,z_t] at he;simp only[he];exact hK4 _ _ _ ⟨hR,l2,ov,A,m2,a1,a2,a3,a4,a5,a6,hD,rfl⟩
  refine AJ (λvs R' D'=>R' = Ry∧∃(l2:List Int) (ov:Value) (A:Chs) (m2:Int),l.length < l2.length∧l2.length≤l.length + 80∧Sml l2∧SO l2 ov A∧m'≤m2∧m2≤m' + 80∧D' = A ++ (rb,rdO v m2) :: (b,C 33 (eCf c)) :: F∧vs = [Pt rb,I n,Pt b,ov]) (λK7 hK7=>?_) ?_;rotate_left
  ·rintro e Rz Dz ⟨hR,l2,ov,A,m2,a1,a2,a3,a4,a5,a6,hD,he⟩;simp only[List.map,zc,zl,zj,z_t] at he;simp only[he];exact hK6 _ _ _ ⟨hR,l2,ov,A,m2,a1,a2,a3,a4,a5,a6,hD,rfl⟩
  refine jlp (λmm vs R' D'=>R' = Ry∧∃(i:Nat) (l3:List Int) (ov:Value) (A:Chs),(i:Int)≤2 * k∧l3.length = l2.length + i∧Sml l3∧SO l3 ov A∧D' = A ++ (rb,rdO v (m3 + 1 + i)) :: (b,C 33 (eCf c)) :: F∧vs = [Pt rb,I n,Pt b,ov,I k,I i]∧mm = 72 - i)
   (n:=72) ⟨rfl,0,l2,ov,A,by omega,by omega,hp2,so,by rw[show m3 + 1 + ((0:Nat):Int) = m3 + 1 from by omega],rfl,rfl⟩ ?_
  clear so;rintro mm e Rz Dz K8 ⟨hR,i,l3,ov,A,i0,i1,hp3,so,hD,he,hmm⟩ hK8;subst hR;rw[hD];clear hD;simp only[List.map,zc,zl,zj,z_t] at he;simp only[he];refine GX ⟨by omega,by omega⟩ (jlt (jif (λh=>?_) (λh=>?_)))
  ·have h:=z_f h;refine jl (v:=I c.AA) rfl (jad (jpk hb ⟨by omega,by omega⟩ λy _ _=>jbs (cs:=[I y]) rfl rfl λbs=>Hr so (by omega) λv' A' so'=>jad ?_));refine hK8 (72 - (i + 1)) _ _ _ (by omega) ⟨rfl,i + 1,_,v',A',by omega,by simp;omega,hp3.snoc (by omega) (by omega),so',by rw[show m3 + 1 + ((i + 1:Nat):Int) = m3 + 1 + i + 1 from by omega],rfl,rfl⟩
  ·have h:=z_g h;exact hK7 _ _ _ ⟨rfl,l3,ov,A,_,by omega,by omega,hp3,so,by omega,by omega,rfl,rfl⟩
 ·refine AJ (λvs R' D'=>R' = Ry∧∃(l2:List Int) (ov:Value) (A:Chs) (m2:Int),l.length < l2.length∧l2.length≤l.length + 80∧Sml l2∧SO l2 ov A∧m'≤m2∧m2≤m' + 80∧D' = A ++ (rb,rdO v m2) :: (b,C 33 (eCf c)) :: F∧vs = [Pt rb,I n,Pt b,ov]) (λK7 hK7=>?_) ?_;rotate_left
  ·rintro e Rz Dz ⟨hR,l2,ov,A,m2,a1,a2,a3,a4,a5,a6,hD,he⟩;simp only[List.map,zc,zl,zj,z_t] at he;simp only[he];exact hK4 _ _ _ ⟨hR,l2,ov,A,m2,a1,a2,a3,a4,a5,a6,hD,rfl⟩
  refine jlp (λmm vs R' D'=>R' = Ry∧∃(i:Nat) (l3:List Int) (ov:Value) (A:Chs),(i:Int)≤k∧l3.length = l2.length + i∧Sml l3∧SO l3 ov A∧D' = A ++ (rb,rdO v (m3 + 1)) :: (b,C 33 (eCf c)) :: F∧vs = [Pt rb,I n,Pt b,ov,I k,I p,I i]∧mm = 72 - i)
   (n:=72) ⟨rfl,0,l2,ov,A,by omega,by omega,hp2,so,rfl,rfl,rfl⟩ ?_
  clear so;rintro mm e Rz Dz K8 ⟨hR,i,l3,ov,A,i0,i1,hp3,so,hD,he,hmm⟩ hK8;subst hR;rw[hD];clear hD;simp only[List.map,zc,zl,zj,z_t] at he;simp only[he];refine jlt (jif (λh=>?_) (λh=>?_))
  ·have h:=z_f h;refine jbs (cs:=[I p]) rfl rfl λbs=>Hr so (by omega) λv' A' so'=>jad ?_
   refine hK8 (72 - (i + 1)) _ _ _ (by omega) ⟨rfl,i + 1,_,v',A',by omega,by simp;omega,hp3.snoc (by omega) (by omega),so',rfl,rfl,rfl⟩
  ·have h:=z_g h;exact hK7 _ _ _ ⟨rfl,l3,ov,A,_,by omega,by omega,hp3,so,by omega,by omega,rfl,rfl⟩
end draws
@[reducible] def FoD (rb b p:Nat) (v:Value) (m:Int) (A F:Chs) (S:Sim) (g:Img) (c:Cfg):Chs:=(rb,rdO v m) :: (A ++ (AY p S g ++ (b,C 33 (eCf c)) :: F))
def FoC (rb b p:Nat) (v ov:Value) (m' q k:Int) (n:Nat) (A F:Chs) (S:Sim) (g:Img) (c:Cfg) (R:RM) (vs:List Value) (R' : RM) (D' : Chs):Prop:=
 R' = R∧(∃m2,m'≤m2∧m2≤m' + 2∧D' = FoD rb b p v m2 A F S g c)∧∃x u w,Fh x u w∧vs = [Pt rb,I n,Pt b,ov,Pt p,I q,I k,x,u]
def FoQ (rb b p:Nat) (v ov:Value) (m' : Int) (n:Nat) (A F:Chs) (S:Sim) (g:Img) (c:Cfg) (R:RM) (vs:List Value) (R' : RM) (D' : Chs):Prop:=
 R' = R∧∃q k m2:Int,0≤q∧q≤9∧1≤k∧k≤9∧m'≤m2∧m2≤m' + 15∧D' = FoD rb b p v m2 A F S g c∧vs = [Pt rb,I n,Pt b,ov,Pt p,I q,I k]
section draws
variable {R:RM} {rb:Nat} {v:Value} {m:Int}
theorem QL {c:Cfg} {n:Nat} {pv:Value} {AX:List (List Sm.Op)} (hc:BY c = true) (hpl:(AX.length:Int) = c.AA) (hp40:∀p∈AX,p.length≤40) (hp:EA R pv AX) (hn:n≤2000) (hb:Byt R v) (hm:0≤m∧m < 200000000) :
  Dr Hy [Pt rb,.agg #[I c.AC,I c.AA,I c.AN],pv,I n] R rb v m 500000 (λx R'=>∃l:List Int,l.length = n∧Sml l∧BC R' x l):=by
 refine OF λF=>?_
 unfold Hq;have hst:Ca c AX [] = true:=by
  unfold Ca;simp only[z_b,z_d,ZE];exact⟨⟨⟨hc,hpl⟩,by simp⟩,hp40⟩
 obtain⟨g0,i0,B0⟩:=Kh hc hpl hp40;have hcc:=hc;simp only[BY,z_b,z_d] at hc;refine ja λb=>jla (l:=eCf c) (by exact z_n 3) rfl (jro (NA hp (picks:=[]) (.inl ⟨rfl,rfl,rfl⟩)) ?_)
 rw[hst];refine Cn (jla (l:=eCf c) (by exact z_n 3) rfl ?_);refine jc (A:=[]) (NE hcc hp) ?_;rintro _ R1 _ hR1 ⟨p,g,rfl,rfl,ok⟩;refine BH (D':=FoD rb b p v m [] F (Sm.start c AX) g c) (by
  show (AY p (Sm.start c AX) g ++ ((b,C 33 (eCf c)) :: (rb,rdO v m) :: F)).Perm ((rb,rdO v m) :: (AY p (Sm.start c AX) g ++ (b,C 33 (eCf c)) :: F))
  exact ((aC _ _ _).append_left _).trans ZG) ?_
 refine AJ (λvs R' D'=>R.le R'∧∃(S:Sim) (g:Img) (l:List Int) (ov:Value) (A:Chs) (m' : Int),n≤l.length∧Sml l∧SO l ov A∧m≤m'∧m'≤m + 500000∧D' = FoD rb b p v m' A F S g c∧vs = [I n,ov]) (λK hK=>?_) ?_;rotate_left
 ·rintro e R1 D1 ⟨hR,S,g,l,ov,A,m',hl,hp,so,h1,h2,hD,he⟩;rw[hD];clear hD;simp only[List.map,zc,zl,zj,z_t] at he;simp only[he];refine BH ZG.symm (E7 so λR2 hR2 hi=>Tn hi (by omega) (by omega) λv' hv'=>EO m' (hR.trans hR2) ⟨l.take n,by rw[Z0];omega,λa ha=>hp a (ZL ha),by rw[Yj] at hv';exact hv'⟩ h1 h2)
 refine AJ (λvs R' D'=>R.le R'∧∃(S:Sim) (g:Img) (l:List Int) (ov:Value) (A:Chs) (m' : Int),n≤l.length∧Sml l∧SO l ov A∧m≤m'∧m'≤m + 500000∧D' = FoD rb b p v m' A F S g c∧vs = [I n,ov]) (λK2 hK2=>?_) ?_;rotate_left
 ·rintro e R1 D1 ⟨hR,S,g,l,ov,A,m',hl,hp,so,h1,h2,hD,he⟩;simp only[List.map,zc,zl,zj,z_t] at he;simp only[he];exact hK _ _ _ ⟨hR,S,g,l,ov,A,m',hl,hp,so,h1,h2,hD,rfl⟩
 refine jlp (λmm vs R' D'=>R.le R'∧∃(S:Sim) (g:Img) (gh:Gh) (l:List Int) (ov:Value) (A:Chs) (m' : Int),IG AX S gh∧Bd (5 * l.length) S∧Ok R' S g∧l.length≤2100∧Sml l∧SO l ov A∧m≤m'∧m'≤m + 20 * l.length∧D' = FoD rb b p v m' A F S g c∧vs = [Pt rb,I n,Pt b,ov,Pt p]∧mm = 2100 - l.length)
  (n:=2100) ⟨hR1,Sm.start c AX,g,g0,[],.slice none 0 0,[],m,i0,B0,ok,by decide,(λp hp=>by cases hp),.inl ⟨rfl,rfl,rfl⟩,by omega,by simp,rfl,rfl,rfl⟩ ?_
 clear i0 B0 ok;rintro mm e R2 D1 K3 ⟨hR,S,g,gh,l,ov,A,m',i0,B0,ok,hl,hs,so,h1,h2,hD,he,hmm⟩ hK3;rw[hD];clear hD;simp only[List.map,zc,zl,zj,z_t] at he;simp only[he];have hb2:=hb.le hR;refine CN so.sln (jlt (jif (λh=>?_) (λh=>?_)));rotate_left
 ·have h:=z_g h;exact hK2 _ _ _ ⟨hR,S,g,l,ov,A,m',by omega,hs,so,h1,by omega,rfl,rfl⟩
 have h:=z_f h;refine AJ (λvs R' D'=>R2.le R'∧∃(S:Sim) (g:Img) (gh:Gh) (l2:List Int) (ov:Value) (A:Chs) (m2:Int),IG AX S gh∧Bd (5 * l2.length) S∧Ok R' S g∧l.length < l2.length∧l2.length≤l.length + 9∧Sml l2∧SO l2 ov A∧m'≤m2∧m2≤m' + 15∧D' = FoD rb b p v m2 A F S g c∧vs = [Pt rb,I n,Pt b,ov,Pt p]) (λK4 hK4=>?_) ?_;rotate_left
 ·rintro e Rx Dx ⟨hRx,S,g,gh,l2,ov,A,m2,i0,B0,ok,q1,q2,hs2,so2,q3,q4,hD,he⟩;rw[hD];clear hD;simp only[List.map,zc,zl,zj,z_t] at he;simp only[he];exact hK3 (2100 - l2.length) _ _ _ (by omega) ⟨hR.trans hRx,S,g,gh,l2,ov,A,m2,i0,B0,ok,by omega,hs2,so2,by omega,by omega,rfl,rfl,rfl⟩
 refine jl (v:=I c.AA) rfl (jad (jpk hb2 ⟨by omega,by omega⟩ λq0 _ _=>?_));refine AJ (FoQ rb b p v ov m' n A F S g c R2) (λK5 hK5=>?_) ?_
 ·refine AJ (FoQ rb b p v ov m' n A F S g c R2) (λK6 hK6=>?_) ?_;rotate_left
  ·rintro e Rx Dx ⟨hRx,q,k,m2,q1,q2,q3,q4,q5,q6,hD,he⟩;simp only[List.map,zc,zl,zj,z_t] at he;simp only[he];exact hK5 _ _ _ ⟨hRx,q,k,m2,q1,q2,q3,q4,q5,q6,hD,rfl⟩
  have fin:∀q k m2:Int,0≤q→q≤9→1≤k→k≤9→m'≤m2→m2≤m' + 15→J R2 (FoD rb b p v m2 A F S g c) (K6 [Pt rb,I n,Pt b,ov,Pt p,I q,I k]):=λq k m2 a1 a2 a3 a4 a5 a6=>hK6 _ _ _ ⟨rfl,q,k,m2,a1,a2,a3,a4,a5,a6,rfl,rfl⟩
  clear hK3 hK4 hK5 hK6;have cnd:∀(m0:Int) (K:List Value→M),(∀vs R' D',FoC rb b p v ov m0 q0 1 n A F S g c R2 vs R' D'→J R' D' (K vs))→∀m2,m0≤m2→m2≤m0 + 2→∀x u w,Fh x u w→J R2 (FoD rb b p v m2 A F S g c) (K [Pt rb,I n,Pt b,ov,Pt p,I q0,I 1,x,u]):=λm0 K hK m2 a1 a2 x u w ha=>hK _ _ _ ⟨rfl,⟨m2,a1,a2,rfl⟩,x,u,w,ha,rfl⟩
  refine AJ (FoC rb b p v ov (m' + 1) q0 1 n A F S g c R2) (λK7 hK7=>?_) ?_
  ·refine jl (v:=I S.Aa) rfl (jeq (Bm (λh=>jl (v:=.bool S.stop) rfl ?_) (λh=>?_)))
   ·exact cnd _ _ hK7 _ (by omega) (by omega) _ _ _ (h▸Aq)
   ·exact cnd _ _ hK7 _ (by omega) (by omega) _ _ _ (h▸Av)
  rintro e Rx Dx ⟨hRx,⟨m2,a1,a2,hD⟩,x,u,w,ha,he⟩;subst hRx;rw[hD];clear hD;simp only[List.map,zc,zl,zj,z_t] at he;simp only[he];refine AJ (FoC rb b p v ov m2 q0 1 n A F S g c Rx) (λK7 hK7=>?_) ?_
  ·rw[ha];refine Bm (λh=>jl (v:=.bool S.col.Ag) rfl ?_) (λh=>?_)
   ·exact cnd _ _ hK7 _ (by omega) (by omega) _ _ _ (h▸Aq)
   ·exact cnd _ _ hK7 _ (by omega) (by omega) _ _ _ (h▸Av)
  clear ha;rintro e Ry Dx ⟨hRx,⟨m3,a3,a4,hD⟩,x,u,w,ha,he⟩;subst hRx;rw[hD];clear hD;simp only[List.map,zc,zl,zj,z_t] at he;simp only[he];refine AJ (FoC rb b p v ov m3 q0 1 n A F S g c Ry) (λK7 hK7=>?_) ?_
  ·rw[ha];refine Bm (λh=>jpk hb2 ⟨by omega,by omega⟩ λy _ _=>jeq ?_) (λh=>?_)
   ·exact cnd _ _ hK7 _ (by omega) (by omega) _ _ _ (h▸Aq)
   ·exact cnd _ _ hK7 _ (by omega) (by omega) _ _ _ (h▸Av)
  clear ha;rintro e Rx Dx ⟨hRx,⟨m4,a5,a6,hD⟩,x,u,w,ha,he⟩;subst hRx;rw[hD];clear hD;simp only[List.map,zc,zl,zj,z_t] at he;simp only[he];rw[ha];refine jif (λh=>jl (v:=I c.AA) rfl (jad ?_)) (λh=>?_)
  ·exact fin _ _ _ (by omega) (by omega) (by omega) (by omega) (by omega) (by omega)
  clear ha;refine AJ (FoC rb b p v ov m4 q0 1 n A F S g c Rx) (λK7 hK7=>?_) ?_
  ·refine jl (v:=I S.Aa) rfl (jeq (Bm (λh=>jl (v:=.bool S.stop) rfl ?_) (λh=>?_)))
   ·exact cnd _ _ hK7 _ (by omega) (by omega) _ _ _ (h▸Aq)
   ·exact cnd _ _ hK7 _ (by omega) (by omega) _ _ _ (h▸Av)
  rintro e Ry Dx ⟨hRx,⟨m5,a7,a8,hD⟩,x,u,w,ha,he⟩;subst hRx;rw[hD];clear hD;simp only[List.map,zc,zl,zj,z_t] at he;simp only[he];rw[ha];refine jif (λh=>jpk hb2 ⟨by omega,by omega⟩ λy _ _=>jad ?_) (λh=>?_)
  ·exact fin _ _ _ (by omega) (by omega) (by omega) (by omega) (by omega) (by omega)
  clear ha;refine AJ (FoC rb b p v ov m5 q0 1 n A F S g c Ry) (λK7 hK7=>?_) ?_
  ·refine jl (v:=I S.Aa) rfl (jeq (Bm (λh=>jpk hb2 ⟨by omega,by omega⟩ λy _ _=>jgr ?_) (λh=>?_)))
   ·exact cnd _ _ hK7 _ (by omega) (by omega) _ _ _ (h▸Aq)
   ·exact cnd _ _ hK7 _ (by omega) (by omega) _ _ _ (h▸Av)
  rintro e Rx Dx ⟨hRx,⟨m6,a9,a10,hD⟩,x,u,w,ha,he⟩;subst hRx;rw[hD];clear hD;simp only[List.map,zc,zl,zj,z_t] at he;simp only[he];rw[ha];refine jif (λh=>jl (v:=I c.AA) rfl (jpk hb2 ⟨by omega,by omega⟩ λy _ _=>jad ?_)) (λh=>?_)
  ·exact fin _ _ _ (by omega) (by omega) (by omega) (by omega) (by omega) (by omega)
  clear ha;refine AJ (FoC rb b p v ov m6 q0 1 n A F S g c Rx) (λK7 hK7=>?_) ?_
  ·refine jl (v:=.bool S.stop) rfl (Bm (λh=>jpk hb2 ⟨by omega,by omega⟩ λy _ _=>jeq ?_) (λh=>?_))
   ·exact cnd _ _ hK7 _ (by omega) (by omega) _ _ _ (h▸Aq)
   ·exact cnd _ _ hK7 _ (by omega) (by omega) _ _ _ (h▸Av)
  rintro e Ry Dx ⟨hRx,⟨m7,a11,a12,hD⟩,x,u,w,ha,he⟩;subst hRx;rw[hD];clear hD;simp only[List.map,zc,zl,zj,z_t] at he;simp only[he];rw[ha];refine jif (λh=>jl (v:=I c.AA) rfl ?_) (λh=>?_)
  ·exact fin _ _ _ (by omega) (by omega) (by omega) (by omega) (by omega) (by omega)
  ·exact fin _ _ _ (by omega) (by omega) (by omega) (by omega) (by omega) (by omega)
 rintro e Rx Dx ⟨hRx,q,k,m2,q1,q2,q3,q4,q5,q6,hD,he⟩;subst hRx;rw[hD];clear hD;simp only[List.map,zc,zl,zj,z_t] at he;simp only[he];refine AJ (λvs R' D'=>Rx.le R'∧∃(S:Sim) (g:Img) (gh:Gh) (l2:List Int) (ov:Value) (A:Chs) (m2:Int),IG AX S gh∧Bd (5 * l2.length) S∧Ok R' S g∧l.length < l2.length∧l2.length≤l.length + 9∧Sml l2∧SO l2 ov A∧m'≤m2∧m2≤m' + 15∧D' = FoD rb b p v m2 A F S g c∧vs = [Pt rb,I n,Pt b,ov,Pt p]) (λK7 hK7=>?_) ?_;rotate_left
 ·rintro e Rz Dx hx;obtain⟨hRz,S,g,gh,l2,ov,A,m2,i0,B0,ok,q1,q2,hs2,so2,q3,q4,hD,he⟩:=hx;simp only[List.map,zc,zl,zj,z_t] at he;simp only[he];exact hK4 _ _ _ ⟨hRz,S,g,gh,l2,ov,A,m2,i0,B0,ok,q1,q2,hs2,so2,q3,q4,hD,rfl⟩
 refine jlp (λmm vs R' D'=>Rx.le R'∧∃(i:Nat) (S:Sim) (g:Img) (gh:Gh) (l2:List Int) (ov:Value) (A:Chs),(i:Int)≤k∧IG AX S gh∧Bd (5 * l2.length) S∧Ok R' S g∧l2.length = l.length + i∧Sml l2∧SO l2 ov A∧D' = FoD rb b p v m2 A F S g c∧vs = [Pt rb,I n,Pt b,ov,Pt p,I q,I k,I i]∧mm = 9 - i)
  (n:=9) ⟨RM.le.refl _,0,S,g,gh,l,ov,A,by omega,i0,B0,ok,by omega,hs,so,rfl,rfl,rfl⟩ ?_
 clear i0 B0 ok so hs;rintro mm e Ry Dy K8 ⟨hRy,i,S,g,gh,l2,ov,A,hi,i0,B0,ok,hl2,hs,so,hD,he,hmm⟩ hK8;rw[hD];clear hD;simp only[List.map,zc,zl,zj,z_t] at he;simp only[he];refine jlt (jif (λh=>?_) (λh=>?_));rotate_left
 ·have h:=z_g h;exact hK7 _ _ _ ⟨hRy,S,g,gh,l2,ov,A,m2,i0,B0,ok,by omega,by omega,hs,so,by omega,by omega,rfl,rfl⟩
 have h:=z_f h;obtain⟨S2,gh2,i2,B2,-,ht⟩:=W2 (p:=p) (a:=q) i0 B0 (by omega) ⟨by omega,by omega⟩;refine jcS (p:=p) (by exact ht _ _ ok) λ_ R3 g3 hR3 _ ok3=>?_
 refine BH (D':=FoD rb b p v m2 A F S2 g3 c) (ZG.trans ((List.perm_append_comm_assoc _ _ _).cons _)) ?_;refine jbs (cs:=[I q]) rfl rfl λbs=>Hr so (by omega) λv' A' so'=>jad (BH ZG ?_)
 refine hK8 (9 - (i + 1)) _ _ _ (by omega) ⟨hRy.trans hR3,i + 1,S2,g3,gh2,_,v',A',by omega,i2,?_,ok3,by simp;omega,hs.snoc (by omega) (by omega),so',rfl,rfl,rfl⟩;rw[Yn,Z4,Nat.mul_add];exact B2
end draws
section draws
variable {R:RM} {rb:Nat} {v:Value} {m:Int}
def XU (x:Value) (R:RM):Prop:=∃(c:Cfg) (AX:List (List Sm.Op)) (picks:List Int) (pv kv:Value),x = .tuple #[.agg #[I c.AC,I c.AA,I c.AN],pv,kv]∧(Ca c AX picks = true∧∀p∈AX,Vs p)∧Sml picks∧EA R pv AX∧BC R kv picks
theorem Pz {c:Cfg} {AX:List (List Sm.Op)} {picks:List Int} (hc:BY c = true) (hl:(AX.length:Int) = c.AA) (hp:∀p∈AX,p.length≤40) (hk:picks.length≤4000):Ca c AX picks = true:=by
 unfold Ca;simp only[z_b,z_d,ZE];exact⟨⟨⟨hc,hl⟩,hk⟩,hp⟩
theorem EA.sl {v:Value} {l:List (List Sm.Op)} (H:EA R v l):∃a c,v = .slice a l.length c:=by
 obtain⟨vs,h,_⟩:=H;exact h.sl
theorem Sd (hb:Byt R v) (hm:0≤m∧m < 150000000):Dr JF [Pt rb] R rb v m 1000000 XU:=by
 refine OW λF=>?_
 unfold JX;refine ja λb1=>jpk hb ⟨by omega,by omega⟩ λy1 _ _=>jad (jpk hb ⟨by omega,by omega⟩ λy2 _ _=>jad ?_)
 refine jbs (cs:=[I 32,I 48,I 100,I 16]) rfl rfl λb6=>jpk hb ⟨by omega,by omega⟩ λy3 _ _=>jia (by omega) (by omega) ?_
 have h3:=Ul (l:=[32,48,100,16]) (x:=y3) (by omega) (by show _ < (4:Int);omega);refine jl (B9 [32,48,100,16] (by omega) (by show _ < (4:Int);omega)) ?_;generalize sel [32,48,100,16] y3 = y at h3;simp only[Yw,List.not_mem_nil,or_false] at h3;obtain⟨c,hcf⟩:∃c:Cfg,c = ⟨5 + y1,1 + y2,y⟩:=⟨_,rfl⟩;have hc:BY c = true:=by
  rw[hcf];simp only[BY,z_b,z_d];omega
 refine jbd (cs:=eCf c) rfl (by rw[hcf];rfl) (ja λb=>js (cs':=eCf c) rfl rfl (by exact z_n 3) rfl ?_);obtain⟨n,hn⟩:∃n:Nat,c.AA = n:=⟨c.AA.toNat,by rw[hcf];show 1 + y2 = ((1 + y2).toNat:Int);omega⟩;have hcc:=hc;simp only[BY,z_b,z_d] at hcc;refine jk3 (F:=F) rb b b1 ?_;refine AJ (λvs R' D'=>R.le R'∧∃(l:List (List Sm.Op)) (rows:List (List Value)) (ov:Value) (A:Chs) (m' : Int),l.length = n∧(∀p∈l,p.length≤40∧Vs p)∧PrW R' rows l∧SW 158 1 rows ov A∧m≤m'∧m'≤m + 10000∧D' = A ++ (rb,rdO v m') :: (b,C 33 (eCf c)) :: (b1,C 33 (cl z33)) :: F∧vs = [Pt rb,Pt b1,Pt b,ov]) (λK hK=>?_) ?_
 ·refine AJ (λvs R' D'=>R.le R'∧∃(l:List (List Sm.Op)) (rows:List (List Value)) (ov:Value) (A:Chs) (m' : Int),l.length = n∧(∀p∈l,p.length≤40∧Vs p)∧PrW R' rows l∧SW 158 1 rows ov A∧m≤m'∧m'≤m + 10000∧D' = A ++ (rb,rdO v m') :: (b,C 33 (eCf c)) :: (b1,C 33 (cl z33)) :: F∧vs = [Pt rb,Pt b1,Pt b,ov]) (λK2 hK2=>?_) ?_;rotate_left
  ·rintro e R1 D1 ⟨hR,l,rows,ov,A,m',hl,hp,hrw,so,h1,h2,hD,he⟩;simp only[List.map,zc,zl,zj,z_t] at he;simp only[he];exact hK _ _ _ ⟨hR,l,rows,ov,A,m',hl,hp,hrw,so,h1,h2,hD,rfl⟩
  refine jlp (λmm vs R' D'=>R.le R'∧∃(i:Nat) (l:List (List Sm.Op)) (rows:List (List Value)) (ov:Value) (A:Chs) (m' : Int),i≤n∧l.length = i∧(∀p∈l,p.length≤40∧Vs p)∧PrW R' rows l∧SW 158 1 rows ov A∧m≤m'∧m'≤m + 10 + 1100 * i∧D' = A ++ (rb,rdO v m') :: (b,C 33 (eCf c)) :: (b1,C 33 (cl z33)) :: F∧vs = [Pt rb,Pt b1,Pt b,ov,I i]∧mm = n - i)
   (n:=n) ⟨RM.le.refl R,0,[],[],.slice none 0 0,[],m + 1 + 1 + 1,by omega,rfl,(λp hp=>by cases hp),Rw.nil,.inl ⟨rfl,rfl,rfl⟩,by omega,by omega,rfl,rfl,by omega⟩ ?_
  rintro mm e R1 D1 K3 ⟨hR,i,l,rows,ov,A,m',hi,hl,hp,hrw,so,h1,h2,hD,he,hmm⟩ hK3;rw[hD];clear hD;simp only[List.map,zc,zl,zj,z_t] at he;simp only[he];refine jl (v:=I c.AA) rfl (jlt (jif (λh=>?_) (λh=>?_)));rotate_left
  ·have h:=z_g h;exact hK2 _ _ _ ⟨hR,l,rows,ov,A,m',by omega,hp,hrw,so,h1,by omega,rfl,rfl⟩
  have h:=z_f h;refine jpk (hb.le hR) ⟨by omega,by omega⟩ λz _ _=>jad ?_
  obtain⟨k,hk⟩:∃k:Nat,20 + z = k:=⟨(20 + z).toNat,by omega⟩;rw[hk];refine jdr (Qz (n:=k) (by omega) (hb.le hR) ⟨by omega,by omega⟩) ?_;rintro x R2 m2 hR2 ⟨q,⟨hq,hqv⟩,hops⟩ h5 h6;obtain⟨xa,xc,hx⟩:=Fz.sl hops;subst hx;refine jbs (cs:=[.slice xa q.length xc]) rfl rfl λbs=>?_
  have hrl:=hrw.1;refine Sv [[.slice xa q.length xc]] so rfl hrw.len (λr hr=>by rw[Z3.1 hr];rfl) rfl rfl rfl (by decide) (by rw[Z4];omega) λv' A' so'=>?_
  refine jad ?_;refine hK3 (n - (i + 1)) _ _ _ (by omega) ⟨hR.trans hR2,i + 1,l ++ [q],_,v',A',m2,by omega,by rw[Yn,hl];rfl,λp hp'=>?_,(hrw.le hR2).app (Rw.one ⟨_,rfl,hops⟩),so',by omega,by omega,rfl,rfl,rfl⟩;rcases ZD.1 hp' with hp' | hp'
  ·exact hp p hp'
  ·rw[Z3.1 hp'];exact⟨hq,hqv⟩
 rintro e R1 D1 ⟨hR,l,rows,ov,A,m',hl,hp,hrw,so,h1,h2,hD,he⟩;rw[hD];clear hD;simp only[List.map,zc,zl,zj,z_t] at he;simp only[he];refine V8 so hrw λR2 hR2 ho=>?_
 have hb2:=hb.le (hR.trans hR2);refine jla (l:=eCf c) (by exact z_n 3) rfl (jla (l:=eCf c) (by exact z_n 3) rfl (jpk hb2 ⟨by omega,by omega⟩ λz _ _=>jad ?_));refine Ae (jla (l:=eCf c) (by exact z_n 3) rfl jev) (Ae (jla (l:=eCf c) (by exact z_n 3) rfl jev) ?_);obtain⟨k,hk⟩:∃k:Nat,150 + z = k:=⟨(150 + z).toNat,by omega⟩;rw[hk];refine jdr (QL (n:=k) hc (by omega) (λp h=>(hp p h).1) ho (by omega) hb2 ⟨by omega,by omega⟩) ?_;rintro x R3 m3 hR3 ⟨q,hq,hs,hi⟩ h5 h6;refine Ae (jla (l:=eCf c) (by exact z_n 3) rfl jev) ?_;refine js (cs':=eCf c) rfl rfl (by exact z_n 3) rfl (jla (l:=eCf c) (by exact z_n 3) rfl ?_);exact EO m3 ((hR.trans hR2).trans hR3) ⟨c,l,q,ov,x,rfl,⟨Pz hc (by omega) (λp h=>(hp p h).1) (by omega),λp h=>(hp p h).2⟩,hs,ho.le hR3,hi⟩ (by omega) (by omega)
end draws
structure StB (r:Nat) (s:Sm.B7):Prop where
 wr:∀x∈s.AB,Rn x
 wl:s.AB.length = 16 * s.A0.length
 t0:2≤s.A0.length
 t1:s.A0.length≤12
 tp:∀x∈s.A0,-100 * (r:Int)≤x.top∧x.top≤100 * r
 n0:1≤s.AA.length
 n1:s.AA.length≤3
 rl:∀t∈s.AA,t.AD.length≤r
 pl:s.AO.length≤8
 pv:∀a∈s.AO,0≤a∧a≤1000
 ol:s.old.length≤100000
 ml:s.AR.length = s.AB.length
 cy:0≤s.B8∧s.B8≤100000
 fu:0≤s.Bf∧s.Bf≤100000
theorem Vn {c0:Cfg} {AX:List (List Sm.Op)} {picks:List Int} {S' : Sim} (hok:Ca c0 AX picks = true) (hv:∀p∈AX,Vs p) (h:Sim.picks picks (Sm.start c0 AX) = some S'):RS S':=by
 obtain⟨h1,h2,h3,h4⟩:=Jl hok;obtain⟨g0,I0,B0⟩:=Kh h1 h2 h4;exact Ov picks 0 _ S' g0 (by omega) I0 B0 (V4 hv) h
theorem Wq {P0:List (List Sm.Op)} {S:Sim} {gh:Gh} (i0:IG P0 S gh) (B:Bd 20000 S) (hr:RS S):StB 8 S.view:=by
 have T:=i0.sh.g.ok;have n0:=T.n0;have n1:=T.n1;have hl:=i0.sh.g.len;have hl:(S.AB.length:Int) = 16 * S.A0.length:=hl;have wl:=i0.wl;refine⟨hr.w,by show S.AB.length = 16 * S.A0.length;omega,n0,n1,λx hx=>?_,by show 1≤(S.th.map _).length;rw[ZF];exact i0.n0,by show (S.th.map _).length≤3;rw[ZF];exact i0.n1,λt ht=>?_,B.pn,λa ha=>?_,by have:=B.old;show S.old.length≤_;omega,i0.sh.ml,⟨B.cy.1,by have:=B.cy.2;show S.B8≤_;omega⟩,⟨B.fu.1,by have:=B.fu.2;show S.Bf≤_;omega⟩⟩
 ·have hx:x∈S.A0:=hx;have n1:S.A0.length≤12:=n1;obtain⟨k,hk,rfl⟩:=ZH hx;by_cases h0:k = 0
  ·subst h0;have:=T.e;rw[show (0:Int) = ((0:Nat):Int) from rfl] at this;have e:=(Do (t:=S.A0) hk).symm.trans this;rw[e];decide
  ·have r:=T.row k (by omega) (by show (k:Int) < S.A0.length;omega);have e:=Do (t:=S.A0) hk;have t0:=r.t0;have t1:=r.t1;have e' : rv (xof S gh).t k = S.A0[k]:=e;rw[e'] at t0 t1;omega
 ·obtain⟨t',ht',rfl⟩:=ZU.1 ht;have:=i0.AD t' ht';show t'.AD.length≤8;omega
 ·have h1:=i0.sh.pl a ha;obtain⟨h4,_,_,_,_,h5,h6,_⟩:=i0.sh.g.inn (i0.sh.lb a h1.1);have h5:a + sz S.AB a≤S.AB.length:=h5;have h6:2≤sz S.AB a:=h6;omega
theorem StB.mono {s:Sm.B7} (h:StB 8 s):StB 9 s:={ h with rl:=λt ht=>(by have:=h.rl t ht;omega),tp:=λx hx=>(by have:=h.tp x hx;omega) }
theorem StB.row {s:Sm.B7} (h:StB 8 s) (k:Nat) {x:Rg} (h0:-900≤x.top) (h1:x.top≤900):StB 9 { s with A0:=s.A0.set k x }:=
 { h.mono with wl:=by simpa using h.wl,t0:=by simpa using h.t0,t1:=by simpa using h.t1,tp:=λy hy=>(by
   rcases Zz hy with hy | hy
   ·exact h.mono.tp y hy
   ·subst hy;omega) }
def StQ (rl rb b16 b1:Nat) (v:Value) (m c:Int) (F:Chs) (R:RM) (D:Chs):Prop:=
 ∃(s:Sm.B7) (rows:List (List Value)) (thv mv ov pv:Value) (A:Chs) (wb nw wc:Nat) (wsp:List Value) (tb nt tc:Nat) (tsp:List Value) (m' : Int),
  StB rl s∧s.AB.length = nw∧nw≤wc∧s.A0.length = nt∧nt≤tc∧Rw (Co R) rows s.AA∧SW 83 4 rows thv A∧Bls R mv s.AR∧BC R ov s.old∧BC R pv s.AO∧m≤m'∧m'≤m + c∧
  D = (rb,rdO v m') :: (b16,C AK (eSt s (S0 wb nw wc) (S0 tb nt tc) mv thv ov pv)) :: (A ++ (wb,C Ac (s.AB.map I ++ wsp)) :: (tb,C AI (Ab eRg s.A0 ++ tsp)) :: (b1,C AK (cl z28)) :: F)
def DSt (R:RM) (rb:Nat) (v:Value) (m c:Int) (x:Value) (R' : RM) (A:Chs):Prop:=
 ∃(s:Sm.B7) (wv mv thv ov pv:Value) (tb tc:Nat) (tsp:List Value) (m' : Int),StB 9 s∧BC R' wv s.AB∧Bls R' mv s.AR∧Ths R' thv s.AA∧BC R' ov s.old∧BC R' pv s.AO∧s.A0.length≤tc∧m≤m'∧m'≤m + c∧
  x = .agg (eSt s wv (S0 tb s.A0.length tc) mv thv ov pv).toArray∧A = [(rb,rdO v m'),(tb,C AI (Ab eRg s.A0 ++ tsp))]
theorem Re {s:Sm.B7} {mv ov pv thv:Value} {x:Option Addr} {y:Option Addr} {l q l2 q2:Nat} (h1:flat mv = true) (h2:flat thv = true) (h3:flat ov = true) (h4:flat pv = true):CG (eSt s (.slice x l q) (.slice y l2 q2) mv thv ov pv) = true:=by
 show (true && (true && (flat mv && (true && (true && (true && (true && (true && (flat thv && (flat ov && (flat pv && (true && (true && true))))))))))))) = true;rw[h1,h2,h3,h4];rfl
theorem EL {R:RM} {D E:Chs} {o:Obj} {m:M} (b:Nat) [t:Tk D b o E] (H:J R ((b,o) :: E) m):J R D m:=λh hs=>H h (hs.perm t.p)
theorem SW.flat {t w:Nat} {rows:List (List Value)} {v:Value} {A:Chs} (h:SW t w rows v A):flat v = true:=by
 obtain⟨a,c,e⟩:=h.sl;rw[e];rfl
theorem YE {R:RM} {X D E:Chs} {m:M} (hp:D.Perm (X ++ E)) (H:J R E m):J R D m:=λh hs=>H h ((hs.perm hp).drop)
theorem th0 {R:RM} {rows:List (List Value)} {l:List Th} {thv:Value} {A:Chs} (hrw:Rw (Co R) rows l) (so:SW 83 4 rows thv A) (hn:1≤l.length):∃t ts rv rr b c sp,l = t :: ts∧rows = [rv,I t.next,.bool t.busy,I t.Au] :: rr∧BC R rv t.AD∧Rw (Co R) rr ts∧
  rows.length≤c∧sp.length = (c - rows.length) * 4∧thv = S0 b rows.length c∧A = [(b,C 83 (rows.flatten ++ sp))]:=by
 cases l with
 | nil=>simp at hn
 | cons t ts=>
  cases rows with
  | nil=>have:=hrw.1;simp at this
  | cons r0 rr=>
   obtain⟨rv,e,hi⟩:=hrw.2 0 (by simp) (by simp);simp only[List.getElem_cons_zero] at e hi;subst e;rcases so with ⟨h,_,_⟩ | ⟨b,c,sp,h1,h2,h3,h4⟩
   ·cases h
   ·refine⟨t,ts,rv,rr,b,c,sp,rfl,rfl,hi,⟨by have:=hrw.1;simpa using this,λi h h'=>?_⟩,h1,h2,h3,h4⟩;have:=hrw.2 (i + 1) (by simpa using h) (by simpa using h');simpa using this
section draws
variable {R:RM} {rb:Nat} {v:Value} {m:Int}
theorem Qv (hb:Byt R v) (hm:0≤m∧m < 100000000):Fn P IN [Pt rb] R [(rb,rdO v m)] (DSt R rb v m 2000000):=by
 refine OO λF=>?_
 unfold HX;refine ja λb1=>jdr (PM hb ⟨by omega,by omega⟩) ?_
 rintro _ R1 m1 - ⟨hR1,c,rfl,hc⟩ g1 g2;subst hR1;refine ja λb3=>js (cs':=eCf c) rfl rfl (by exact z_n 3) rfl (jla (l:=eCf c) (by exact z_n 3) rfl ?_)
 refine jdr (Q7 hc hb ⟨by omega,by omega⟩) ?_;rintro pv R2 m2 hR2 ⟨AX,hpl,hp40,hp⟩ g3 g4;have hb2:=hb.le hR2;refine jla (l:=eCf c) (by exact z_n 3) rfl (jpk hb2 ⟨by omega,by omega⟩ λz _ _=>jad (Ae (jla (l:=eCf c) (by exact z_n 3) rfl jev) ?_));obtain⟨n,hn⟩:∃n:Nat,40 + z = n:=⟨(40 + z).toNat,by omega⟩;rw[hn];refine jdr (Rc hc (n:=n) (by omega) hb2 ⟨by omega,by omega⟩) ?_;rintro kv R3 m3 hR3 ⟨picks,hkl,hks,hk⟩ g5 g6;have hb3:=hb2.le hR3;refine jk3 (F:=F) rb b3 b1 ?_;refine AJ (λvs R' D'=>R3.le R'∧∃(c:Cfg) (AX:List (List Sm.Op)) (picks:List Int) (pv kv:Value) (m4:Int),(Ca c AX picks = true∧∀p∈AX,Vs p)∧Sml picks∧EA R' pv AX∧BC R' kv picks∧m≤m4∧m4≤m + 1600000∧D' = (rb,rdO v m4) :: (b3,C 33 (eCf c)) :: (b1,C AK (cl z28)) :: F∧vs = [Pt rb,Pt b1,Pt b3,pv,kv]) (λK hK=>?_) ?_
 ·refine jpk hb3 ⟨by omega,by omega⟩ λy _ _=>jgr (jif (λ_=>?_) (λ_=>?_))
  ·refine jdr (Sd hb3 ⟨by omega,by omega⟩) ?_;rintro _ R4 m4 hR4 ⟨c',progs',picks',pv',kv',rfl,hok,hs',hp',hk'⟩ g7 g8;refine jex rfl (jex rfl (jex rfl (js (cs':=eCf c') rfl rfl (by exact z_n 3) rfl ?_)));exact hK _ _ _ ⟨hR4,c',progs',picks',pv',kv',m4,hok,hs',hp',hk',by omega,by omega,rfl,rfl⟩
  ·exact hK _ _ _ ⟨RM.le.refl _,c,AX,picks,pv,kv,_,⟨Pz hc hpl (λp h=>(hp40 p h).1) (by omega),λp h=>(hp40 p h).2⟩,hks,hp.le hR3,hk,by omega,by omega,rfl,rfl⟩
 have hR03:=hR2.trans hR3;clear hp hk hks hc hpl hp40 hkl hb2 hn;rintro e R4 D4 ⟨hR4,c,AX,picks,pv,kv,m4,⟨hok,hvs⟩,hs,hp,hk,g7,g8,hD,he⟩;rw[hD];clear hD;simp only[List.map,zc,zl,zj,z_t] at he;simp only[he];obtain⟨S,gh,i0,B0,hpk,hpl⟩:=Wv hok λa ha=>⟨by have:=(hs a ha).1;omega,by have:=(hs a ha).2;omega⟩
 refine jla (l:=eCf c) (by exact z_n 3) rfl (jc (A:=[]) (hpl R4 pv kv hp hk) ?_);rintro _ R5 _ hR5 ⟨p,g,rows,thv,A,ok,hrw,so,rfl,rfl⟩;have hSB:=Wq i0 B0 (Vn hok hvs hpk);refine jex rfl (jex rfl ?_);unfold AY;refine YE (X:=(p,C BZ (Br S g)) :: (g.hb,C AV (Dh S.th g.rv ++ g.hsp)) :: evD S g) (E:=(A ++ [(g.wb,C Ac (S.AB.map I ++ g.wsp)),(g.tb,C AI (Ab eRg S.A0 ++ g.tsp)),(g.mb,C BK (S.AR.map Value.bool ++ g.msp))]) ++ ((rb,rdO v m4) :: (b3,C 33 (eCf c)) :: (b1,C AK (cl z28)) :: F)) ?_ ?_
 ·refine (aG _ ZG).trans (List.Perm.cons _ ?_);have:=List.perm_append_comm_assoc (A ++ [(g.wb,C Ac (S.AB.map I ++ g.wsp)),(g.tb,C AI (Ab eRg S.A0 ++ g.tsp)),(g.mb,C BK (S.AR.map Value.bool ++ g.msp))]) ((g.hb,C AV (Dh S.th g.rv ++ g.hsp)) :: evD S g) ((rb,rdO v m4) :: (b3,C 33 (eCf c)) :: (b1,C AK (cl z28)) :: F);simpa using this
 refine Bh (b:=g.mb) λR6 hR6 hmb=>?_
 have hmv:=VH hmb ok.mk_;have hR16:=(hR4.trans hR5).trans hR6;have hb6:=hb3.le hR16;have hov:=ok.old.le hR6;have hpv:=ok.AO.le hR6;have hrw:=hrw.mono λ_ _=>Co.le hR6
 obtain⟨tha,thc,hthv⟩:=so.sl;refine ja λb16=>js (cs':=eSt S.view (wS S g) (tS S g) (mS S g) thv g.old g.AO) rfl (Re rfl so.flat (Fz.flat hov) (Fz.flat hpv)) (by exact z_n 13) rfl ?_
 have h0:StQ 8 rb b16 b1 v m 1600000 F R6 ((rb,rdO v m4) :: (b16,C AK (eSt S.view (wS S g) (tS S g) (mS S g) thv g.old g.AO)) :: (A ++ (g.wb,C Ac (S.AB.map I ++ g.wsp)) :: (g.tb,C AI (Ab eRg S.A0 ++ g.tsp)) :: (b1,C AK (cl z28)) :: F)):=
  ⟨S.view,rows,thv,mS S g,g.old,g.AO,A,g.wb,S.AB.length,g.wc,g.wsp,g.tb,S.A0.length,g.tc,g.tsp,m4,hSB,rfl,ok.wk,rfl,ok.tk,hrw,so,hmv,hov,hpv,by omega,by omega,rfl⟩
 refine EL b16 (EL rb (EL b3 (C4 ?_)));simp only[Ys,zc,zl];generalize (rb,rdO v m4) :: (b16,C AK (eSt S.view (wS S g) (tS S g) (mS S g) thv g.old g.AO)) :: (A ++ (g.wb,C Ac (S.AB.map I ++ g.wsp)) :: (g.tb,C AI (Ab eRg S.A0 ++ g.tsp)) :: (b1,C AK (cl z28)) :: F) = D6 at h0 ⊢;have hR06:=hR03.trans hR16;clear hmb hmv hov hpv hrw so hpl ok hSB;refine AJ (λvs R' D'=>R6.le R'∧StQ 9 rb b16 b1 v m 1600010 F R' D'∧vs = [Pt b1,Pt b16]) (λK hK=>?_) ?_;rotate_left
 ·rintro e R7 D7 ⟨hR7,⟨s,rows,thv,mv,ov,pv,A,wb,nw,wc,wsp,tb,nt,tc,tsp,m',sb,w1,w2,w3,w4,hrw,so,hmv,hov,hpv,h1,h2,hD⟩,he⟩;rw[hD];clear hD;simp only[List.map,zc,zl,zj,z_t] at he;simp only[he];subst w1 w3;obtain⟨tha,thc,hthv⟩:=so.sl;have hfl:=Re (s:=s) (x:=some ⟨wb,0,none⟩) (y:=some ⟨tb,0,none⟩) (l:=s.AB.length) (q:=wc) (l2:=s.A0.length) (q2:=tc) (Fz.flat hmv) so.flat (Fz.flat hov) (Fz.flat hpv);refine jla (l:=eSt s (S0 wb s.AB.length wc) (S0 tb s.A0.length tc) mv thv ov pv) (by exact z_n 13) rfl ?_;refine js (cs':=eSt s (S0 wb s.AB.length wc) (S0 tb s.A0.length tc) mv thv ov pv) rfl hfl (by exact z_n 13) rfl ?_;refine jla (l:=eSt s (S0 wb s.AB.length wc) (S0 tb s.A0.length tc) mv thv ov pv) (by exact z_n 13) rfl ?_;refine EL b16 (C4 (EL wb (Bh (b:=wb) λR8 hR8 hwb=>EL rb (BH ZG.symm (jfw so (hrw.all λ_ _=>Co.len) λR9 hR9 hfz=>?_)))));have hR79:=hR8.trans hR9;exact BA (A:=[(rb,rdO v m'),(tb,C AI (Ab eRg s.A0 ++ tsp))]) ((hR06.trans hR7).trans hR79) ⟨s,_,mv,thv,ov,pv,tb,tc,tsp,m',sb,(C7 hwb w2).le hR9,Fz.le hR79 hmv,⟨rows,hrw.mono λ_ _=>Co.le hR79,hfz⟩,hov.le hR79,hpv.le hR79,w4,h1,by omega,rfl,rfl⟩
 obtain⟨s,rows,thv,mv,ov,pv,A,wb,nw,wc,wsp,tb,nt,tc,tsp,m',sb,w1,w2,w3,w4,hrw,so,hmv,hov,hpv,h1,h2,hD⟩:=h0;rw[hD];clear hD;have wl:=sb.wl;have t0:=sb.t0;have t1:=sb.t1;refine jpk hb6 ⟨by omega,by omega⟩ λy _ _=>?_
 refine AJ (λvs R' D'=>R6.le R'∧StQ 9 rb b16 b1 v m 1600010 F R' D'∧vs = [Pt b1,Pt b16]) (λK2 hK2=>?_) ?_;rotate_left
 ·rintro e R7 D7 ⟨hR7,hD,he⟩;simp only[List.map,zc,zl,zj,z_t] at he;simp only[he];exact hK _ _ _ ⟨hR7,hD,rfl⟩
 have fin:∀(s' : Sm.B7) (m2:Int) (thv' : Value) (rows' : List (List Value)) (A' : Chs) (R' : RM),R6.le R'→StB 9 s'→s'.AB.length = nw→s'.A0.length = nt→s'.AR = s.AR→s'.old = s.old→s'.AO = s.AO→Rw (Co R') rows' s'.AA→SW 83 4 rows' thv' A'→m≤m2→m2≤m' + 8→
   J R' ((rb,rdO v m2) :: (b16,C AK (eSt s' (S0 wb nw wc) (S0 tb nt tc) mv thv' ov pv)) :: (A' ++ (wb,C Ac (s'.AB.map I ++ wsp)) :: (tb,C AI (Ab eRg s'.A0 ++ tsp)) :: (b1,C AK (cl z28)) :: F)) (K2 [Pt b1,Pt b16]):=λs' m2 thv' rows' A' R' a0 a1 a2 a3 a4 a5 a6 a7 a8 a9 a10=>
  hK2 _ _ _ ⟨a0,⟨s',rows',thv',mv,ov,pv,A',wb,nw,wc,wsp,tb,nt,tc,tsp,m2,a1,a2,w2,a3,w4,a7,a8,by rw[a4];exact Fz.le a0 hmv,by rw[a5];exact hov.le a0,by rw[a6];exact hpv.le a0,a9,by omega,rfl⟩,rfl⟩
 clear hK hK2;refine jeq (jif (λ_=>?_) (λ_=>jeq (jif (λ_=>?_) (λ_=>jeq (jif (λ_=>?_) (λ_=>jeq (jif (λ_=>?_) (λ_=>jeq (jif (λ_=>?_) (λ_=>jeq (jif (λ_=>?_) (λ_=>?_))))))))))))
 ·refine jl (v:=S0 wb nw wc) rfl (jl (v:=S0 wb nw wc) rfl (jln (jpk hb6 ⟨by omega,by omega⟩ λi _ _=>Ae (jl (v:=S0 wb nw wc) rfl jev) (jpk hb6 ⟨by omega,by omega⟩ λx _ _=>jia (by omega) (by omega) (Ae (jl (v:=S0 wb nw wc) rfl jev) ?_)))));refine jsi (l:=s.AB) (by omega) ?_;exact fin { s with AB:=s.AB.set i.toNat x } _ thv rows A R6 (RM.le.refl _) { sb.mono with wl:=by simpa using sb.wl,ml:=by simpa using sb.ml,wr:=λy hy=>(Zz hy).elim (sb.wr y) λe=>by rw[e];unfold Rn;omega } (by simpa using w1) w3 rfl rfl rfl hrw so (by omega) (by omega)
 ·obtain⟨t,ts,rv,rr,bt,ct,sp,e1,e2,hrv,hrr,q1,q2,e3,e4⟩:=th0 hrw so sb.n0;subst e2 e3 e4;obtain⟨ra,rc,e5⟩:=hrv.sl;subst e5;have h8:=sb.rl t (by rw[e1];simp);refine jl (v:=S0 bt _ ct) rfl (jia (by omega) (by simp) (jla (l:=[.slice ra t.AD.length rc,I t.next,.bool t.busy,I t.Au]) (by simp) rfl ?_));refine ja λb38=>js (cs':=[.slice ra t.AD.length rc,I t.next,.bool t.busy,I t.Au]) rfl rfl (by exact z_n 4) rfl ?_
  refine jl (v:=.slice ra t.AD.length rc) rfl (jl (v:=S0 wb nw wc) rfl (jln ?_));refine jc (A:=[]) (C9 hrv (by omega)) ?_;rintro _ R7 _ hR7 ⟨b5,c5,sp5,hc5,hsp5,rfl,rfl⟩;have hb7:=hb6.le hR7;refine Ae (jl (v:=S0 wb nw wc) rfl jev) (jpk hb7 ⟨by omega,by omega⟩ λx _ _=>jbs (cs:=[I x]) rfl rfl λbs=>?_);refine Hr (l:=t.AD) (A:=[(b5,C Ac (t.AD.map I ++ sp5))]) (.inr ⟨b5,c5,sp5,hc5,hsp5,rfl,rfl⟩) (by omega) λv' A' so'=>E7 so' λR8 hR8 hi=>?_
  obtain⟨xa,xc,e6⟩:=hi.sl;subst e6;refine js (cs':=[.slice xa (t.AD ++ [x]).length xc,I t.next,.bool t.busy,I t.Au]) rfl rfl (by simp) rfl ?_;refine jl (v:=S0 bt _ ct) rfl (jla (l:=[.slice xa (t.AD ++ [x]).length xc,I t.next,.bool t.busy,I t.Au]) (by exact z_n 4) rfl (jia (by omega) (by simp) ?_));refine js (cs':=([.slice xa (t.AD ++ [x]).length xc,I t.next,.bool t.busy,I t.Au] :: rr).flatten ++ sp) rfl rfl (by simp) rfl ?_;refine EL b38 (C4 ?_);refine fin { s with AA:={ t with AD:=t.AD ++ [x] } :: ts } _ (S0 bt _ ct) ([.slice xa (t.AD ++ [x]).length xc,I t.next,.bool t.busy,I t.Au] :: rr) [(bt,C 83 (([.slice xa (t.AD ++ [x]).length xc,I t.next,.bool t.busy,I t.Au] :: rr).flatten ++ sp))] R8 (hR7.trans hR8) { sb.mono with n0:=by simp,n1:=by have:=sb.n1;rw[e1] at this;simpa using this,rl:=λu hu=>?_ } w1 w3 rfl rfl rfl ?_ (.inr ⟨bt,ct,sp,q1,q2,rfl,rfl⟩) (by omega) (by omega)
  ·rcases Yw.1 hu with hu | hu
   ·subst hu;show (t.AD ++ [x]).length≤9;rw[Yn];simp;omega
   ·exact sb.mono.rl u (by rw[e1];exact Zc _ hu)
  ·exact Rw.app (r1:=[_]) (l1:=[_]) (Rw.one ⟨_,rfl,hi⟩) (hrr.mono λ_ _=>Co.le (hR7.trans hR8))
 ·refine jl (v:=S0 tb nt tc) rfl (jln (jsu (jpk hb6 ⟨by omega,by omega⟩ λi _ _=>jad ?_)));obtain⟨k,hk⟩:∃k:Nat,1 + i = k:=⟨(1 + i).toNat,by omega⟩;rw[hk];have hkl:k < s.A0.length:=by omega
  obtain⟨p0,p1⟩:=sb.tp _ (Yv hkl);refine jl (v:=S0 tb nt tc) rfl (Cs (by omega) (N7 hkl (ja λb64=>js (cs':=eRg s.A0[k]) rfl rfl (by exact z_n 5) rfl ?_)));refine jl (v:=I (s.A0[k]).top) rfl (jpk hb6 ⟨by omega,by omega⟩ λz _ _=>jad (jsu (Ae (jl (v:=I (s.A0[k]).top) rfl jev) ?_)));refine js (cs':=eRg { s.A0[k] with top:=(s.A0[k]).top + z - 1 }) rfl rfl (by simp) rfl ?_;refine jl (v:=S0 tb nt tc) rfl (jla (l:=eRg { s.A0[k] with top:=(s.A0[k]).top + z - 1 }) (by exact z_n 5) rfl (Cs (by omega) ?_));refine Ha (x:={ s.A0[k] with top:=(s.A0[k]).top + z - 1 }) hkl ?_;refine EL b64 (C4 ?_);exact fin { s with A0:=s.A0.set k { s.A0[k] with top:=(s.A0[k]).top + z - 1 } } _ thv rows A R6 (RM.le.refl _) (sb.row k (by show -900≤(s.A0[k]).top + z - 1;omega) (by show (s.A0[k]).top + z - 1≤900;omega)) w1 (by simpa using w3) rfl rfl rfl hrw so (by omega) (by omega)
 ·refine jbs (cs:=[I (-1),I 4,I 2]) rfl rfl λbt=>jpk hb6 ⟨by omega,by omega⟩ λz _ _=>jia (by omega) (by omega) (jl (B9 [-1,4,2] (by omega) (by show _ < (3:Int);omega)) ?_)
  refine js (cs':=eSt { s with Aa:=sel [-1,4,2] z } (S0 wb nw wc) (S0 tb nt tc) mv thv ov pv) rfl rfl (by exact Yp rfl) rfl (EL bt (C4 ?_));exact fin { s with Aa:=sel [-1,4,2] z } _ thv rows A R6 (RM.le.refl _) { sb.mono with } w1 w3 rfl rfl rfl hrw so (by omega) (by omega)
 ·obtain⟨t,ts,rv,rr,bt,ct,sp,e1,e2,hrv,hrr,q1,q2,e3,e4⟩:=th0 hrw so sb.n0;subst e2 e3 e4;obtain⟨ra,rc,e5⟩:=hrv.sl;subst e5;refine jl (v:=S0 bt _ ct) rfl (jia (by omega) (by simp) (jla (l:=[.slice ra t.AD.length rc,I t.next,.bool t.busy,I t.Au]) (by simp) rfl ?_));refine ja λb38=>js (cs':=[.slice ra t.AD.length rc,I t.next,.bool t.busy,I t.Au]) rfl rfl (by exact z_n 4) rfl ?_
  refine jl (v:=.bool t.busy) rfl (js (cs':=[.slice ra t.AD.length rc,I t.next,.bool (!t.busy),I t.Au]) rfl rfl (by simp) rfl ?_);refine jl (v:=S0 bt _ ct) rfl (jla (l:=[.slice ra t.AD.length rc,I t.next,.bool (!t.busy),I t.Au]) (by exact z_n 4) rfl (jia (by omega) (by simp) ?_));refine js (cs':=([.slice ra t.AD.length rc,I t.next,.bool (!t.busy),I t.Au] :: rr).flatten ++ sp) rfl rfl (by simp) rfl ?_;refine EL b38 (C4 ?_);refine fin { s with AA:={ t with busy:=!t.busy } :: ts } _ (S0 bt _ ct) ([.slice ra t.AD.length rc,I t.next,.bool (!t.busy),I t.Au] :: rr) [(bt,C 83 (([.slice ra t.AD.length rc,I t.next,.bool (!t.busy),I t.Au] :: rr).flatten ++ sp))] R6 (RM.le.refl _) { sb.mono with n0:=by simp,n1:=by have:=sb.n1;rw[e1] at this;simpa using this,rl:=λu hu=>?_ } w1 w3 rfl rfl rfl ?_ (.inr ⟨bt,ct,sp,q1,q2,rfl,rfl⟩) (by omega) (by omega)
  ·rcases Yw.1 hu with hu | hu
   ·subst hu;exact sb.mono.rl t (by rw[e1];simp)
   ·exact sb.mono.rl u (by rw[e1];exact Zc _ hu)
  ·exact Rw.app (r1:=[_]) (l1:=[_]) (Rw.one ⟨_,rfl,hrv⟩) hrr
 ·refine jl (v:=S0 tb nt tc) rfl (jln (jsu (jpk hb6 ⟨by omega,by omega⟩ λi _ _=>jad ?_)));obtain⟨k,hk⟩:∃k:Nat,1 + i = k:=⟨(1 + i).toNat,by omega⟩;rw[hk];have hkl:k < s.A0.length:=by omega
  refine jl (v:=S0 tb nt tc) rfl (Cs (by omega) (N7 hkl (ja λb64=>js (cs':=eRg s.A0[k]) rfl rfl (by exact z_n 5) rfl ?_)));refine jpk hb6 ⟨by omega,by omega⟩ λz _ _=>js (cs':=eRg { s.A0[k] with kind:=z }) rfl rfl (by simp) rfl ?_
  refine jl (v:=S0 tb nt tc) rfl (jla (l:=eRg { s.A0[k] with kind:=z }) (by exact z_n 5) rfl (Cs (by omega) ?_));refine Ha (x:={ s.A0[k] with kind:=z }) hkl ?_;refine EL b64 (C4 ?_);obtain⟨p0,p1⟩:=sb.tp _ (Yv hkl);exact fin { s with A0:=s.A0.set k { s.A0[k] with kind:=z } } _ thv rows A R6 (RM.le.refl _) (sb.row k (by show -900≤(s.A0[k]).top;omega) (by show (s.A0[k]).top≤900;omega)) w1 (by simpa using w3) rfl rfl rfl hrw so (by omega) (by omega)
 ·exact fin s _ thv rows A R6 (RM.le.refl _) sb.mono w1 w3 rfl rfl rfl hrw so (by omega) (by omega)
end draws
section draws
variable {R:RM} {rb:Nat} {v:Value} {m:Int}
end draws
end Go.Lf
end
section
namespace Go.Lf
open Go Sm
theorem Y6 (x y:Operand) (a:Addr) (n c:Nat) (w:World):(do eqGuard .eql 23 x y (.slice (some a) n c) (.slice none 0 0);binOp .eql 23 (.slice (some a) n c) (.slice none 0 0):Sem Value).run P w = .ok (.bool false) w:=by kernel_rfl
theorem WZ (x y:Operand) (w:World):(do eqGuard .eql 23 x y (.slice none 0 0) (.slice none 0 0);binOp .eql 23 (.slice none 0 0) (.slice none 0 0):Sem Value).run P w = .ok (.bool true) w:=by kernel_rfl
section rules
variable {R:RM} {D:Chs} {k:Value→M}
theorem Xd {v:Value} {w n:Nat} {cells:List Value} {x y:Operand} (h:Fz R v w n cells) (H0:v = .slice none 0 0→n = 0→cells = []→J R D (k (.bool true))) (H1:J R D (k (.bool false))):J R D (X P (do eqGuard .eql 23 x y v (.slice none 0 0);binOp .eql 23 v (.slice none 0 0)) k):=by
 rcases h with ⟨rfl,h2,h3⟩ | ⟨b,o,cap,t,cs,rfl,_⟩
 ·intro h hs w hw;rw[WZ];subst hw;exact⟨BF.refl _,H0 rfl h2 h3 _ hs⟩
 ·intro h hs w hw;rw[Y6];subst hw;exact⟨BF.refl _,H1 _ hs⟩
theorem Xn {v:Value} {l:List Int} {lo u:Int} (h:BC R v l) (h0:0≤lo) (h1:lo≤u) (h2:u≤l.length) (H:∀v',BC R v' ((l.take u.toNat).drop lo.toNat)→J R D (k v')):J R D (SL 1 v (some (I lo)) (some (I u)) k):=by
 rcases h with ⟨rfl,h3,_⟩ | ⟨b,o,cap,t,cs,rfl,h3,h4,h5,h6⟩
 ·intro h' hs;refine⟨⟨h0,h1,by omega⟩,H _ ?_ h' hs⟩;have e:l = []:=ZK.1 h3;have e1:u = 0:=by omega
  have e2:lo = 0:=by omega
  rw[e,e1,e2];exact .inl ⟨rfl,by simp,by simp⟩
 ·intro h' hs;refine⟨⟨h0,h1,by omega⟩,H _ ?_ h' hs⟩;by_cases c:cap = lo.toNat
  ·have hl:l.length = lo.toNat:=by omega
   have e1:u.toNat = lo.toNat:=by omega
   have e2:((l.take u.toNat).drop lo.toNat).length = 0:=by rw[ZO,Z0];omega
   refine .inr ⟨b,o,cap - lo.toNat,t,cs,?_,h3,?_,?_,?_⟩
   ·rw[if_pos c,e2,e1,Nat.sub_self]
   ·rw[e2];omega
   ·rw[ZK.1 e2];simp
   ·rw[e2];omega
  ·refine .inr ⟨b,o + lo.toNat * 1,cap - lo.toNat,t,cs,?_,h3,?_,?_,?_⟩
   ·rw[if_neg c];simp;omega
   ·simp only[ZO,Z0];omega
   ·simp only[ZO,Z0];rw[List.map_drop,List.map_take,← h5,aV,aO,ad];congr 1
    ·omega
    ·congr 1;omega
   ·simp only[ZO,Z0];omega
theorem YM {v:Value} {l:List Int} (h:BC R v l) (hl:l.length < 1000000) (H:∀v' b c sp,l.length≤c→sp.length = c - l.length→v' = S0 b l.length c→J R ((b,C Ac (l.map I ++ sp)) :: D) (k v')) :
  J R D (BS 3 0 (ZR 0 z3) [] λx=>AP 3 1 8 (cl z3) x v k):=by
 obtain⟨a,cap,rfl,hr⟩:=Fz.reads (D:=D) h;refine jbs (cs:=[]) rfl rfl λb2=>?_
 refine Ve (new:=l.map I) ?_ (by decide) (by omega) (λ_=>rfl) (λh0=>?_) (λb' c hc=>BH (aC _ _ _) (C4 ?_))
 ·intro h' hs';exact hr h' (St.drop (A:=[(b2,C 3 [])]) (by simpa using hs'))
 ·have:l = []:=ZK.1 h0;subst this;exact H _ b2 0 [] (by simp) (by simp) rfl
 ·exact H _ b' c _ hc (by rw[CE (w:=1) (by intro x hx;rw[(Za.1 hx).2];rfl)];simp) rfl
end rules
theorem FE {R:RM} {v:Value} {l:List Int} (h:BC R v l) (hl:l.length < 1000000):Fn P EZ [v] R [] (λx R' A=>R' = R∧SO l x A∧(0 < l.length→Um l x A)):=by
 refine Hl λF=>?_
 unfold Eb;refine Xd h (λ_ h0 _=>DO ?_) (Cn ?_)
 ·have:l = []:=ZK.1 h0;subst this;exact BA (A:=[]) (RM.le.refl R) ⟨rfl,.inl ⟨rfl,rfl,rfl⟩,by simp⟩
 ·refine YM h hl λv' b c sp hc hsp hv=>?_
  exact BA (A:=[(b,C Ac (l.map I ++ sp))]) (RM.le.refl R) ⟨rfl,.inr ⟨b,c,sp,hc,hsp,hv,rfl⟩,λ_=>⟨b,c,sp,hc,hsp,hv,rfl⟩⟩
theorem Dk (r:Int):Pu GO [I r] (I (AM r)):=λR=>LH λF=>IJ r R F
theorem J5 (s:Shp):Pu JU [eSh s] (.bool (BG s)):=λR=>Pn λF=>NS s R F
theorem Eo (s:Shp):Pu Gx [eSh s] (I (AF s)):=by
 intro R;refine Mm λF=>?_
 unfold H6;refine ja λb=>jla (l:=[I s.refs,I s.nums]) (by simp) rfl (jp (J5 s) ?_)
 refine jif (λh=>?_) (λh=>?_)
 ·refine BA (A:=[]) (RM.le.refl _) ?_;simp only[Z7] at h;simp[AF,h]
 ·simp only[ZJ] at h;obtain⟨h0,h1,h2,h3⟩:=E4.1 h;refine jl rfl (jad (jl rfl (jad ?_)));refine BA (A:=[]) (RM.le.refl _) ?_;simp[AF,h]
theorem Oc {w:Int} (hw:inR w):Pu K0 [I w] (.tuple #[eSh (AH w).1,.bool (AH w).2]):=by
 intro R;refine Px λF=>?_
 unfold Jp;refine ja λb=>jlt (jif (λh=>?_) (λh=>?_))
 ·have h:=z_f h;refine jbd (cs:=[I 0,I 0]) rfl rfl (js (cs':=[I 0,I 0]) rfl rfl (by simp) rfl (jla (l:=[I 0,I 0]) (by simp) rfl ?_));refine BA (A:=[]) (RM.le.refl _) ?_;unfold AH;rw[if_neg (by omega)];rfl
 ·have h:=z_g h;have e1:w.tdiv 16 = w / 16:=Ze (by omega);have e2:w.tmod 16 = w % 16:=aI (by omega);refine OL (by decide) (by rw[e1];constructor<;>omega) (Pg (by decide) ?_);rw[e1,e2];refine jbd (cs:=[I (w / 16),I (w % 16)]) rfl rfl (ja λb2=>js (cs':=[I (w / 16),I (w % 16)]) rfl rfl (by simp) rfl (jla (l:=[I (w / 16),I (w % 16)]) (by simp) rfl (jp (J5 ⟨w / 16,w % 16⟩) ?_)));have ek:BG ⟨w / 16,w % 16⟩ = decide (0≤w∧w / 16≤4∧w % 16≤4):=by
   rw[ZT,E4,z_d];show 0≤w / 16∧w / 16≤4∧0≤w % 16∧w % 16≤4↔_;omega
  rw[ek];refine jif (λhk=>?_) (λhk=>?_)
  ·have hk:¬ (0≤w∧w / 16≤4∧w % 16≤4):=by
    rw[Z7,decide_eq_false_iff_not] at hk;exact hk
   refine jbd (cs:=[I 0,I 0]) rfl rfl (js (cs':=[I 0,I 0]) rfl rfl (by simp) rfl (jla (l:=[I 0,I 0]) (by simp) rfl ?_));refine BA (A:=[]) (RM.le.refl _) ?_;unfold AH;rw[if_neg hk];rfl
  ·have hk:0≤w∧w / 16≤4∧w % 16≤4:=by simpa using hk
   refine jla (l:=[I (w / 16),I (w % 16)]) (by simp) rfl (js (cs':=[I (w / 16),I (w % 16)]) rfl rfl (by simp) rfl (jla (l:=[I (w / 16),I (w % 16)]) (by simp) rfl ?_));refine BA (A:=[]) (RM.le.refl _) ?_;unfold AH;rw[if_pos hk]
theorem Fy (a:Option Addr) (n c:Nat) (hn:n < 1000000000000):Pu JI [.slice a n c] (.bool (BJ n)):=by
 intro R;refine PX λF=>?_
 unfold JP;have er:(n:Int).tmod 16 = (n % 16:Nat):=by rw[aI (by omega)];omega
 refine jan [.slice a n c] (((n:Int).tmod 16 == 0) && (decide ((n:Int)≥32))) (λK' hK'=>?_) (λe c u ho he=>?_)
 ·refine jln (Pg (by decide) (jeq (Bm (λh1=>?_) (λh1=>?_))))
  ·refine jln (jge (hK' _ _ _ (h1▸Aq) (by rw[h1,Yx])))
  ·exact hK' _ _ _ (h1▸Av) (by rw[h1,Yy])
 simp only[List.map,zc,zl,zj,z_t] at he;simp only[he];refine jan [] ((((n:Int).tmod 16 == 0) && decide ((n:Int)≥32)) && (decide ((n:Int)≤192))) (λK' hK'=>?_) (λe c u ho he=>?_)
 ·rw[ho];refine Bm (λh1=>?_) (λh1=>?_)
  ·refine jln (jle (hK' _ _ _ (h1▸Aq) (by rw[h1,Yx])))
  ·exact hK' _ _ _ (h1▸Av) (by rw[h1,Yy])
 simp only[List.map,zc,zl,zj,z_t] at he;simp only[he];rw[ho];refine BA (A:=[]) (RM.le.refl R) ?_;congr 1;unfold BJ;rw[er,ZT];simp only[z_b,z_d,beq_iff_eq];constructor<;>rintro⟨⟨h1,h2⟩,h3⟩<;>exact⟨⟨by omega,by omega⟩,by omega⟩
theorem Pp (x:Option Addr) (n cc:Nat) (a size:Int) (hn:n < 1000000000000) (h0:1≤size) (h1:size≤16):Pu Of [.slice x n cc,I a,I size] (.bool (fits n a size)):=by
 intro R;refine UY λF=>?_
 unfold OU;refine jan [.slice x n cc,I a,I size] (BJ n && decide (a≥16)) (λK' hK'=>?_) (λe c u ho he=>?_)
 ·refine jp (Fy x n cc hn) (Bm (λh1=>jge (hK' _ _ _ (h1▸Aq) (by rw[h1,Yx]))) (λh1=>hK' _ _ _ (h1▸Av) (by rw[h1,Yy])))
 simp only[List.map,zc,zl,zj,z_t] at he;simp only[he];refine jan [I a,I size] ((BJ n && decide (a≥16)) && decide (a < n)) (λK' hK'=>?_) (λe c u ho he=>?_)
 ·rw[ho];exact Bm (λh1=>jln (jlt (hK' _ _ _ (h1▸Aq) (by rw[h1,Yx])))) (λh1=>hK' _ _ _ (h1▸Av) (by rw[h1,Yy]))
 simp only[List.map,zc,zl,zj,z_t] at he;simp only[he];refine jan [] (((BJ n && decide (a≥16)) && decide (a < n)) && decide (a.tmod 16 + size≤16)) (λK' hK'=>?_) (λe c u ho he=>?_)
 ·rw[ho];refine Bm (λh1=>Pg (by decide) ?_) (λh1=>hK' _ _ _ (h1▸Av) (by rw[h1,Yy]));have h2:=h1;simp only[z_b,z_d] at h2;have e2:a.tmod 16 = a % 16:=aI (by omega);exact Cd (by rw[e2];constructor<;>omega) (jle (hK' _ _ _ (h1▸Aq) (by rw[h1,Yx])))
 simp only[List.map,zc,zl,zj,z_t] at he;simp only[he];rw[ho];refine BA (A:=[]) (RM.le.refl R) ?_;congr 1;unfold fits;rw[ZT];simp only[z_b,z_d,beq_iff_eq];have hr:16≤a→(AS a = AS (a + size - 1)↔a.tmod 16 + size≤16):=λha=>by
  rw[aI (by omega)];unfold AS;rw[if_neg (by omega),if_neg (by omega)];omega
 constructor
 ·rintro⟨⟨⟨q0,q1⟩,q2⟩,q3⟩;exact⟨⟨⟨⟨⟨q0,by omega⟩,h1⟩,q1⟩,q2⟩,(hr q1).2 q3⟩
 ·rintro⟨⟨⟨⟨⟨q0,_⟩,_⟩,q1⟩,q2⟩,q3⟩;exact⟨⟨⟨q0,q1⟩,q2⟩,(hr q1).1 q3⟩
theorem Fs {R:RM} {wv:Value} {w:List Int} (a:Int) (h:BC R wv w) (hl:w.length < 1000000) (hin:inR (w.getD (a.toNat + 1) 0)) :
  Fn P Jw [wv,I a] R [] (λv R' A=>A = []∧∃x,ThV R' x (BB w a).1∧v = .tuple #[x,.bool (BB w a).2]):=by
 refine Og λF=>?_
 unfold Jv;obtain⟨wa,wc,hwv⟩:=h.sl;have th0V:ThV R (.agg (eTh CD (.slice none 0 0) (.slice none 0 0)).toArray) CD:=⟨_,_,rfl,.inl ⟨rfl,rfl,rfl⟩,.inl ⟨rfl,rfl,rfl⟩⟩;refine ja λb1=>?_
 have h':=h;rw[hwv];refine jp (Pp wa w.length wc a 2 (by omega) (by decide) (by decide)) ?_;rw[← hwv];refine jif (λh0=>?_) (λh0=>?_)
 ·have h0:fits w.length a 2 = false:=by simpa using h0
  have e:BB w a = (CD,false):=by unfold BB;rw[h0];rfl
  refine jbd (cs:=eTh CD (.slice none 0 0) (.slice none 0 0)) rfl rfl (js (cs':=eTh CD (.slice none 0 0) (.slice none 0 0)) rfl rfl (by exact z_n 6) rfl (jla (l:=eTh CD (.slice none 0 0) (.slice none 0 0)) (by exact z_n 6) rfl ?_));rw[e];exact BA (A:=[]) (RM.le.refl _) ⟨rfl,_,th0V,rfl⟩
 have h0:fits w.length a 2 = true:=by simpa using h0
 obtain⟨a0,a1,-,-⟩:=FG h0;obtain⟨n,rfl⟩:∃n:Nat,a = n:=⟨a.toNat,by omega⟩;refine jad (Bv h (by omega) (by omega) ?_);have e1:w[((n:Int) + 1).toNat]'(by omega) = w.getD (n + 1) 0:=by
  have:((n:Int) + 1).toNat = n + 1:=by omega
  simp only[this];rw[Z5,Yl (by omega)];rfl
 rw[e1];simp only[Yj] at hin;generalize hwd:w.getD (n + 1) 0 = wd at hin ⊢;refine jp (Oc hin) (jex rfl (jex rfl (ja λb12=>js (cs':=[I (AH wd).1.refs,I (AH wd).1.nums]) rfl rfl (by exact z_n 2) rfl ?_)));refine jor [wv,I n,Pt b1,Pt b12] (!((AH wd).2 && fits w.length n (AF (AH wd).1))) (λK' hK'=>?_) (λe c u ho he=>?_)
 ·refine BM (λh1=>?_) (λh1=>?_)
  ·have h1:(AH wd).2 = true:=by simpa using h1
   obtain⟨q0,q1,q2,q3,q4⟩:=F6 h1;refine jla (l:=[I (AH wd).1.refs,I (AH wd).1.nums]) (by simp) rfl (jp (Eo _) ?_);rw[hwv];refine jp (Pp wa w.length wc n _ (by omega) (by omega) (by omega)) ?_;rw[← hwv,h1];exact hK' _ _ _ Aj (by rw[h1,Yx])
  ·have h1:(AH wd).2 = false:=by simpa using h1
   rw[h1];exact hK' _ _ true Al (by rw[h1];rfl)
 simp only[List.map,zc,zl,zj,z_t] at he;simp only[he];rw[ho];refine jif (λh1=>?_) (λh1=>?_)
 ·have h1:((AH wd).2 && fits w.length n (AF (AH wd).1)) = false:=by rw[Z7] at h1;exact h1
  have e:BB w n = (CD,false):=by
   unfold BB;rw[if_pos h0,Yj,hwd];simp only[h1];rfl
  refine jbd (cs:=eTh CD (.slice none 0 0) (.slice none 0 0)) rfl rfl (js (cs':=eTh CD (.slice none 0 0) (.slice none 0 0)) rfl rfl (by exact z_n 6) rfl (jla (l:=eTh CD (.slice none 0 0) (.slice none 0 0)) (by exact z_n 6) rfl ?_));rw[e];exact BA (A:=[]) (RM.le.refl _) ⟨rfl,_,th0V,rfl⟩
 have h1:((AH wd).2 && fits w.length n (AF (AH wd).1)) = true:=by simpa using h1
 have et:BB w n = (⟨n,w.getD n 0,(AH wd).1,seg w (n + 2) (AH wd).1.refs,seg w (n + 2 + (AH wd).1.refs) (AH wd).1.nums⟩,true):=by
  unfold BB;rw[if_pos h0,Yj,hwd];simp only[h1];rfl
 simp only[z_b] at h1;obtain⟨q0,q1,q2,q3,q4⟩:=F6 h1.1;obtain⟨-,q5,-,-⟩:=FG h1.2;rw[et];generalize (AH wd).1 = sh at q0 q1 q2 q3 q4 q5 ⊢;rw[q4] at q5;have en:w[(n:Int).toNat]'(by omega) = w.getD n 0:=by
  simp only[Yj];rw[Z5,Yl (by omega)];rfl
 refine jad (jl (v:=I sh.refs) rfl (jad (Vr h (by omega) (by omega) λq hq=>?_)));rw[en] at hq;refine hq _ _ ?_;refine jla (l:=[I sh.refs,I sh.nums]) (by simp) rfl (Xn h (by omega) (by omega) (by omega) λv1 hv1=>?_);refine jl (v:=I sh.nums) rfl (jad (Xn h (by omega) (by omega) (by omega) λv2 hv2=>?_));have l1:((w.take ((n:Int) + 2 + sh.refs).toNat).drop ((n:Int) + 2).toNat) = seg w (n + 2) sh.refs:=by
  unfold seg;rw[aO];congr 1;omega
 have l2:((w.take ((n:Int) + 2 + sh.refs + sh.nums).toNat).drop ((n:Int) + 2 + sh.refs).toNat) = seg w (n + 2 + sh.refs) sh.nums:=by
  unfold seg;rw[aO];congr 1;omega
 rw[l1] at hv1;rw[l2] at hv2;have ll1:(seg w (n + 2) sh.refs).length < 1000000:=by unfold seg;rw[Z0,ZO];omega
 have ll2:(seg w (n + 2 + sh.refs) sh.nums).length < 1000000:=by unfold seg;rw[Z0,ZO];omega
 refine jc (A:=[]) (FE hv1 ll1) ?_;rintro x1 R1 A1 _ ⟨hR1,so1,-⟩;subst hR1;refine Ae (hq _ _ jev) (Ae (jla (l:=[I sh.refs,I sh.nums]) (by simp) rfl jev) (Ae (jl (v:=I sh.nums) rfl jev) ?_));refine jc (A:=[]) (FE hv2 ll2) ?_;rintro x2 R2 A2 _ ⟨hR2,so2,-⟩;subst hR2;obtain⟨xa1,xc1,e1⟩:=so1.sln;obtain⟨xa2,xc2,e2⟩:=so2.sln;subst e1 e2;refine jbd (cs:=[I n,I (w.getD n 0),I sh.refs,I sh.nums,.slice xa1 (seg w (n + 2) sh.refs).length xc1,.slice xa2 (seg w (n + 2 + sh.refs) sh.nums).length xc2]) rfl rfl ?_;refine Ae (hq _ _ jev) (Ae (jla (l:=[I sh.refs,I sh.nums]) (by simp) rfl jev) ?_);refine js (cs':=[I n,I (w.getD n 0),I sh.refs,I sh.nums,.slice xa1 (seg w (n + 2) sh.refs).length xc1,.slice xa2 (seg w (n + 2 + sh.refs) sh.nums).length xc2]) rfl rfl (by exact z_n 6) rfl ?_;refine jla (l:=[I n,I (w.getD n 0),I sh.refs,I sh.nums,.slice xa1 (seg w (n + 2) sh.refs).length xc1,.slice xa2 (seg w (n + 2 + sh.refs) sh.nums).length xc2]) (by exact z_n 6) rfl ?_;refine E7 so2 λR3 hR3 hi2=>E7 so1 λR4 hR4 hi1=>?_
 exact BA (A:=[]) (hR3.trans hR4) ⟨rfl,_,⟨_,_,rfl,hi1,hi2.le hR4⟩,rfl⟩
theorem U8 {R:RM} {D:Chs} {va vb:Value} {la lb:List Int} (ha:BC R va la) (hb:BC R vb lb) (h1:la.length < 1000000) (h2:lb.length < 1000000):Ro Kx [va,vb] (.bool (la == lb)) R D:=by
 refine QK λF=>?_
 unfold Ki;refine CN ha.sl (CN hb.sl (jne (jif (λh=>?_) (λh=>?_))))
 ·have h:(la.length:Int)≠lb.length:=by simpa using h
  refine Bc ?_;congr 1;rw[eq_comm,beq_eq_false_iff_ne];intro e;rw[e] at h;exact h rfl
 have hl:la.length = lb.length:=by
  have:((la.length:Int) != lb.length) = false:=h;rw[bne_eq_false_iff_eq] at this;omega
 refine jlp (λm vs R' D'=>R' = R∧D' = D ++ F∧∃i:Nat,i≤la.length∧vs = [va,vb,I i]∧la.take i = lb.take i∧m = la.length - i) (n:=la.length) ⟨rfl,rfl,0,by omega,rfl,by simp,by omega⟩ ?_;rintro m e R1 D1 K ⟨hR,hD,i,hi,he,heq,hm⟩ hK;subst hR;rw[hD];clear hD;simp only[List.map,zc,zl,zj,z_t] at he;simp only[he];refine CN ha.sl (jlt (jif (λhc=>?_) (λhc=>?_)));rotate_left
 ·have hc:=z_g hc;refine Bc ?_;rw[Yz (by omega),Yz (by omega)] at heq;rw[heq];simp
 have hc:i < la.length:=by have:=z_f hc;omega
 refine Bv ha (by omega) (by omega) (Bv hb (by omega) (by omega) (jne ?_));simp only[Yj];refine jif (λhd=>?_) (λhd=>?_)
 ·have hd:la[i]≠lb[i]:=by simpa using hd
  refine Bc ?_;congr 1;rw[eq_comm,beq_eq_false_iff_ne];intro e;subst e;exact hd rfl
 ·have hd:la[i] = lb[i]:=by simpa using hd
  refine jad ?_;refine hK (la.length - (i + 1)) _ _ _ (by omega) ⟨rfl,rfl,i + 1,by omega,rfl,?_,rfl⟩;rw[Yq hc,Yq (by omega:i < lb.length),heq,hd]
theorem Vl:(P.fieldsOf 60).toList.map (λf=>(f.name != "_",f.type,f.offset)) = [(true,Ac,0),(true,Ac,1)]:=by kernel_rfl
def Cod (R:RM) (v:Value):Prop:=∃n,Bsl R v n
theorem Xj {a b:Shp} {x y:Operand} {R:RM} {D:Chs} {k:Value→M} (H:J R D (k (.bool (!(a == b))))):J R D (X P (do eqGuard .neq 60 x y (.agg #[I a.refs,I a.nums]) (.agg #[I b.refs,I b.nums]);binOp .neq 60 (.agg #[I a.refs,I a.nums]) (.agg #[I b.refs,I b.nums])) k):=by
 intro h hs w hw;have hfs:=Vl;rw[ZB,run_eqGuard_agg _ _ _ _ _ _ _ (by kernel_rfl)];simp only[Yt];rw[run_neq_struct,run_equalIn_struct w 9999 60 _ _ (by kernel_rfl) (by kernel_rfl)];rw[Q2 9998 w [I a.refs,I a.nums] [I b.refs,I b.nums] _ [0,1] [a.refs,a.nums] [b.refs,b.nums] hfs rfl rfl];simp only[Yt];have:([a.refs,a.nums] == [b.refs,b.nums]) = (a == b):=by
  rw[ZT];obtain⟨a1,a2⟩:=a;obtain⟨b1,b2⟩:=b;simp
 rw[this];subst hw;exact⟨BF.refl _,H _ hs⟩
structure Blk (w w' : World):Prop where
 same:BF w w'
 block:∀k,k < w.heap.size→w'.heap[k]? = w.heap[k]?
theorem Blk.frame {W w' : World} (h:Blk W w') (may:MemPlace→Prop):W.keptBut w' may:=by
 refine⟨h.same.1,h.same.2,λi hi=>?_⟩;rw[h.block i hi];split<;>simp_all
theorem Blk.at_ {W w' : World} (h:Blk W w') {p:MemPlace} (hp:p.block < W.heap.size):W.sameAt w' p:=by
 cases p with
 | cell b o=>exact World.cell?_of_block (w:=W) (h.block b hp)
 | map b=>exact h.block b hp
def U1 (w:World) (a:Option Addr) (len cap:Nat) (zs:List Int):Prop:=
 (a = none∧len = 0∧cap = 0∧zs = [])∨
 ∃x,a = some x∧len≤cap∧zs.length = cap∧(∀i,i < zs.length→w.cell? (x.add i) = some (.int .u8 (zs.getD i 0)))∧∀n∈zs,(Lit.int .u8 n).wf = true
theorem XO {w:World} {a:Option Addr} {len cap:Nat} {zs:List Int} (h:U1 w a len cap zs):Cod (λb=>w.heap[b]?) (.slice a len cap):=by
 rcases h with ⟨rfl,rfl,rfl,rfl⟩ | ⟨x,rfl,hl,hz,hcell,hwz⟩
 ·exact⟨0,none,0,rfl,z_n _,.inl rfl⟩
 ·by_cases h0:len = 0
  ·exact⟨len,some x,cap,rfl,hl,.inl h0⟩
  ·obtain⟨b,off,spot⟩:=x;have hc:=hcell 0 (by omega);have hspot:spot = none:=by simpa [Addr.add] using World.cell?_spot hc
   subst hspot;refine⟨len,_,cap,rfl,hl,.inr ⟨b,off,rfl,λi hi=>?_⟩⟩;have hi' : i < zs.length:=by omega
   have hc:=hcell i hi';have hw:=hwz (zs.getD i 0) (by simp[List.getD,hi']);rw[show (⟨b,off,none⟩:Addr).add i = ⟨b,off + i,none⟩ by simp[Addr.add],SJ] at hc;unfold Go.Lf.hc at hc;split at hc
   ·rename_i cs t fz hb;refine⟨t,cs,fz,_,hb,hc,?_⟩;have hr:∀n:Int,(Lit.int .u8 n).wf = true→0≤n∧n < 256:=λn hn=>by
     have h2:(decide (0≤n) && decide (n≤255)) = true:=hn;simp only[z_b,z_d] at h2;omega
    exact hr _ hw
   ·cases hc
theorem Ub {f:Nat} (hw:∀(R:RM) (v:Value),Cod R v→Fn P f [v] R [] (λx _ A=>x = .bool true∧A = [])) {w:World} {a:Option Addr} {len cap:Nat} {zs:List Int} (h:U1 w a len cap zs) :
  Calls P f #[.slice a len cap] w λe w'=>e = .returned (.bool true)∧Blk w w':=by
 have h1:=hw _ _ (XO h) [] w.heap ⟨λb o hb=>hb,(λb o hm=>by cases hm),List.nodup_nil⟩ w rfl;refine h1.mono ?_;rintro e w' ⟨v,rfl,hs,R',A',h2,h3,rfl,h4⟩;refine⟨rfl,hs,λk hk=>?_⟩;have:=h3.rd k _ (h2 k _ (aK hk));rw[this,aK hk]
theorem SE:P.underlying 76 = some (.map 3 4):=by kernel_rfl
theorem EB:P.underlying 3 = some (.int .i64):=by kernel_rfl
theorem Ye (w:World):(zeroValue 4).run P w = .ok (.bool false) w:=by kernel_rfl
def MpI (o:Obj) (q:Int→Prop):Prop:=∃es clock,o = .map es clock∧(∀e∈es.toList,∃x,e.key = I x∧q x∧e.val = .bool true)∧∀x,q x→∃e∈es.toList,e.key = I x
section rules
variable {R:RM} {D:Chs} {k:Value→M}
theorem jXr {s:Sem Value} (H:∀h,St h R D→∀w:World,w.heap = h→∃v w',s.run P w = .ok v w'∧BF w w'∧∃D',St w'.heap R D'∧J R D' (k v)):J R D (X P s k):=by
 intro h hs w hw;have:=H h hs w hw;generalize s.run P w = r at this;obtain⟨v,w',rfl,h1,D',h2,h3⟩:=this;exact⟨h1,h3 _ h2⟩
theorem Xs (H:∀b o,MpI o (λ_=>False)→J R ((b,o) :: D) (k (.map (some b)))):J R D (X P (Instr.makeMap 76 none) k):=by
 intro h hs w hw;rw[show (Instr.makeMap 76 none).run P w = .ok (.map (some w.heap.size)) (w.alloc (.map #[] 0)) from rfl];subst hw;exact⟨⟨rfl,rfl⟩,H _ _ ⟨#[],0,rfl,by simp,λ_ hx=>hx.elim⟩ _ hs.push⟩
theorem Rr {es:Array MapEntry} {q:Int→Prop} (h:∀e∈es.toList,∃x,e.key = I x∧q x∧e.val = .bool true):∀e∈es.toList,MapKept.IsKey (.int .i64) e.key:=λe he=>by
 obtain⟨x,hx,_⟩:=h e he;rw[hx];rfl
theorem X9 {w:World} {b:Nat} {o:Obj} {q:Int→Prop} {x:Int} {t:Bool} (hb:w.heap[b]? = some o) (hm:MpI o q) (ht:q x↔t = true):(Instr.lookup 76 (.map (some b)) (I x) false).run P w = .ok (.bool t) w:=by
 obtain⟨es,clock,rfl,h1,h2⟩:=hm;have hk:MapKept.IsKey (.int .i64) (I x):=rfl;have run:∃c,(Instr.lookup 76 (.map (some b)) (I x) false).run P w = .ok (.bool c) w∧(c = true↔q x):=by
  rcases MapKept.findNow_spec hk es.toList 0 (Rr h1) with ⟨f1,f2⟩ | ⟨j,e0,f1,f2,f3⟩
  ·refine⟨false,?_,⟨(λh=>by cases h),λhq=>?_⟩⟩
   ·simp[Instr.lookup,run_underlying SE,MapKept.run_getObj_map hb,MapKept.run_checkKey EB hk,MapKept.run_findKey EB f1,Ye,Result.andThen]
   ·obtain⟨e,he,hx⟩:=h2 x hq;exact absurd hx (f2 e he)
  ·obtain⟨y,hy,hq,hv⟩:=h1 e0 (List.mem_of_getElem? f2);have:y = x:=by
    have:=hy.symm.trans f3;exact (Value.int.inj this).2
   subst this;refine⟨true,?_,⟨λ_=>hq,λ_=>rfl⟩⟩;simp[Instr.lookup,run_underlying SE,MapKept.run_getObj_map hb,MapKept.run_checkKey EB hk,MapKept.run_findKey EB f1,hv,Result.andThen]
 obtain⟨c,hr,hc⟩:=run;have:c = t:=by
  have:=hc.trans ht;cases c<;>cases t<;>simp_all
 subst this;exact hr
theorem jlk {b:Nat} {o:Obj} {q:Int→Prop} {x:Int} {t:Bool} [a:At D b o] (hm:MpI o q) (ht:q x↔t = true) (H:J R D (k (.bool t))):J R D (X P (Instr.lookup 76 (.map (some b)) (I x) false) k):=
 @jXr R D k _ λh hs w hw=>⟨_,_,X9 (by rw[hw];exact (hs.at_ b _ a.m).1) hm ht,BF.refl _,D,by rw[hw];exact hs,H⟩
theorem X0 {w:World} {b:Nat} {o:Obj} {q:Int→Prop} {x:Int} (hb:w.heap[b]? = some o) (hm:MpI o q):∃o',MpI o' (λy=>q y∨y = x)∧(do Instr.mapUpdate 76 (.map (some b)) (I x) (.bool true);pure undef).run P w = .ok U (ChangeMaps.setBlock w b o')∧(∀b',b'≠b→(ChangeMaps.setBlock w b o').heap[b']? = w.heap[b']?)∧(ChangeMaps.setBlock w b o').heap[b]? = some o':=by
 obtain⟨es,clock,rfl,h1,h2⟩:=hm;have hk:MapKept.IsKey (.int .i64) (I x):=rfl;have run:∃es' clock',(Instr.mapUpdate 76 (.map (some b)) (I x) (.bool true)).run P w = .ok () (ChangeMaps.setBlock w b (.map es' clock'))∧MpI (.map es' clock') (λy=>q y∨y = x):=by
  rcases MapKept.findNow_spec hk es.toList 0 (Rr h1) with ⟨f1,f2⟩ | ⟨j,e0,f1,f2,f3⟩
  ·refine⟨es.push ⟨I x,.bool true,clock⟩,clock + 1,?_,_,_,rfl,?_,?_⟩
   ·simp[Instr.mapUpdate,run_underlying SE,MapKept.run_getObj_map hb,MapKept.run_checkKey EB hk,MapKept.run_findKey EB f1,MapKept.run_setObj_map _ hb,Result.andThen,ChangeMaps.setBlock]
   ·intro e he;simp only[Array.toList_push,ZD,Z3] at he;rcases he with he | rfl
    ·obtain⟨y,a1,a2,a3⟩:=h1 e he;exact⟨y,a1,.inl a2,a3⟩
    ·exact⟨x,rfl,.inr rfl,rfl⟩
   ·rintro y (hy | rfl)
    ·obtain⟨e,he,a1⟩:=h2 y hy;exact⟨e,by simp only[Array.toList_push,ZD];exact .inl he,a1⟩
    ·exact⟨⟨I y,.bool true,clock⟩,by simp,rfl⟩
  ·have hj:es[j]? = some e0:=by rw[← ZY];exact f2
   have hlt:j < es.size:=(Zm.1 hj).1;obtain⟨x0,hx0,hq0,hv0⟩:=h1 e0 (List.mem_of_getElem? f2);have hx:x0 = x:=(Value.int.inj (hx0.symm.trans f3)).2;subst hx;refine⟨es.modify j (λe=>{ e with key:=I x0,val:=.bool true }),clock,?_,_,_,rfl,?_,?_⟩
   ·simp[Instr.mapUpdate,run_underlying SE,MapKept.run_getObj_map hb,MapKept.run_checkKey EB hk,MapKept.run_findKey EB f1,hj,f3,MapKept.run_keyThatStays hk,MapKept.run_setObj_map _ hb,Result.andThen,ChangeMaps.setBlock]
   ·intro e he;obtain⟨i,hi⟩:=List.mem_iff_getElem?.1 he;rw[ZY,Zv] at hi;split at hi
    ·rename_i hij;subst hij;rw[hj] at hi;cases hi;exact⟨x0,rfl,.inr rfl,rfl⟩
    ·obtain⟨y,a1,a2,a3⟩:=h1 e (by rw[← ZY] at hi;exact List.mem_of_getElem? hi);exact⟨y,a1,.inl a2,a3⟩
   ·intro y hy;have hy:q y:=by rcases hy with hy | rfl;exact hy;exact hq0
    obtain⟨e,he,a1⟩:=h2 y hy;obtain⟨i,hi⟩:=List.mem_iff_getElem?.1 he;rw[ZY] at hi;by_cases hij:j = i
    ·subst hij;rw[hj] at hi;cases hi;exact⟨{ e0 with key:=I x0,val:=.bool true },List.mem_of_getElem? (i:=j) (by rw[ZY,Zv,if_pos rfl,hj];rfl),by show I x0 = I y;rw[← hx0];exact a1⟩
    ·exact⟨e,List.mem_of_getElem? (i:=i) (by rw[ZY,Zv,if_neg hij];exact hi),a1⟩
 obtain⟨es',clock',hr,hq⟩:=run;have hst:=MapKept.heap_set (o':=.map es' clock') hb;exact⟨_,hq,by rw[ZB,hr];rfl,hst.2,hst.1⟩
theorem jmu {b:Nat} {o:Obj} {E:Chs} {q:Int→Prop} {x:Int} [t:Tk D b o E] (hm:MpI o q) (H:∀o',MpI o' (λy=>q y∨y = x)→J R ((b,o') :: E) (k U)):J R D (X P (do Instr.mapUpdate 76 (.map (some b)) (I x) (.bool true);pure undef) k):=
 @jXr R D k _ λh hs w hw=>(X0 (w:=w) (x:=x) (by rw[hw];exact ((hs.perm t.p).at_ b _ (.head _)).1) hm).elim λo' h=>⟨U,_,h.2.1,⟨rfl,rfl⟩,_,(hs.perm t.p).turn (b:=b) (o:=o) (o':=o') h.2.2.2 (by rw[← hw];exact h.2.2.1),H _ h.1⟩
end rules
def lk (l:List (Int × Value)) (x:Int):Option Value:=(l.find? λp=>p.1 == x).map Prod.snd
def up (l:List (Int × Value)) (x:Int) (v:Value):List (Int × Value):=if (lk l x).isSome then l.map λp=>if p.1 = x then (x,v) else p else l ++ [(x,v)]
def pr (e:MapEntry):Value × Value:=(e.key,e.val)
def pk (p:Int × Value):Value × Value:=(I p.1,p.2)
def Mg (o:Obj) (l:List (Int × Value)):Prop:=∃es clock,o = .map es clock∧MapKept.Stamped es clock∧es.toList.map pr = l.map pk
theorem SC {es:List MapEntry} {l:List (Int × Value)} (h:es.map pr = l.map pk) {j:Nat} {e:MapEntry} (he:es[j]? = some e):∃p,l[j]? = some p∧e.key = I p.1∧e.val = p.2:=by
 have h1:(es.map pr)[j]? = some (pr e):=by rw[ZQ,he];rfl
 rw[h,ZQ] at h1;cases hl:l[j]? with
 | none=>rw[hl] at h1;cases h1
 | some p=>
  rw[hl] at h1;have h1:pk p = pr e:=Zb h1;exact⟨p,rfl,(congrArg Prod.fst h1).symm,(congrArg Prod.snd h1).symm⟩
theorem Wl {es:List MapEntry} {l:List (Int × Value)} (h:es.map pr = l.map pk) {e:MapEntry} (he:e∈es):∃p,p∈l∧e.key = I p.1∧e.val = p.2:=by
 obtain⟨j,hj⟩:=List.mem_iff_getElem?.1 he;obtain⟨p,h1,h2⟩:=SC h hj;exact⟨p,List.mem_of_getElem? h1,h2⟩
theorem SB {es:List MapEntry} {l:List (Int × Value)} (h:es.map pr = l.map pk) {p:Int × Value} (hp:p∈l):∃e,e∈es∧e.key = I p.1∧e.val = p.2:=by
 have:pk p∈es.map pr:=by rw[h];exact aA hp
 obtain⟨e,h1,h2⟩:=ZU.1 this;exact⟨e,h1,congrArg Prod.fst h2,congrArg Prod.snd h2⟩
theorem Ru {es:Array MapEntry} {l:List (Int × Value)} (h:es.toList.map pr = l.map pk):∀e∈es.toList,MapKept.IsKey (.int .i64) e.key:=λe he=>by
 obtain⟨p,_,hk,_⟩:=Wl h he;rw[hk];rfl
theorem Uy {es:Array MapEntry} {clock:Nat} {l:List (Int × Value)} (hs:MapKept.Stamped es clock) (h:es.toList.map pr = l.map pk):(l.map Prod.fst).Nodup:=by
 have h1:=((MapKept.stamped_iff _ _).1 hs).2.2;have h2:(es.toList.map (·.key)).Nodup:=List.pairwise_map.2 h1;have h3:es.toList.map (·.key) = (l.map Prod.fst).map I:=by
  have:=congrArg (List.map Prod.fst) h;simpa [List.map_map,Function.comp_def,pr,pk] using this
 rw[h3] at h2;exact (List.pairwise_map.1 h2).imp λh e=>h (by rw[e])
theorem Mg.nd {o:Obj} {l:List (Int × Value)} (h:Mg o l):(l.map Prod.fst).Nodup:=by
 obtain⟨es,clock,_,hs,h⟩:=h;exact Uy hs h
theorem SN {l:List (Int × Value)} {x:Int}:lk l x = none↔∀p∈l,p.1≠x:=by
 unfold lk;rw[Option.map_eq_none_iff,List.find?_eq_none];simp
theorem RG:∀{l:List (Int × Value)},(l.map Prod.fst).Nodup→∀{p:Int × Value},p∈l→lk l p.1 = some p.2
 | a :: l,hn,p,hp=>by
  rw[Zn,Zi] at hn;unfold lk;rcases Yw.1 hp with rfl | hp
  ·rw[aT (by simp)];rfl
  ·have:a.1≠p.1:=λe=>hn.1 (e▸aA hp)
   rw[aU (by simpa using this)];exact RG hn.2 hp
def Li (R:RM) (D:Chs) (b:Nat) (o:Obj):Prop:=∀h,St h R D→h[b]? = some o
theorem Li.fz {R:RM} {D:Chs} {b:Nat} {o:Obj} (h:R b = some o):Li R D b o:=λ_ hs=>hs.rd _ _ h
theorem Li.at {R:RM} {D:Chs} {b:Nat} {o:Obj} [a:At D b o]:Li R D b o:=λ_ hs=>(hs.at_ _ _ a.m).1
section rules
variable {R:RM} {D:Chs} {k:Value→M}
theorem Xr {t:Nat} (ht:∀w,(Instr.makeMap t none).run P w = .ok (.map (some w.heap.size)) (w.alloc (.map #[] 0))) (H:∀b o,Mg o []→J R ((b,o) :: D) (k (.map (some b)))):J R D (X P (Instr.makeMap t none) k):=by
 intro h hs w hw;rw[ht];subst hw;exact⟨⟨rfl,rfl⟩,H _ _ ⟨#[],0,rfl,MapKept.stamped_empty 0,rfl⟩ _ hs.push⟩
theorem Vp {w:World} {t e b:Nat} {o:Obj} {l:List (Int × Value)} {x:Int} {z:Value} (c:Bool) (ht:P.underlying t = some (.map 3 e)) (hz:∀w,(zeroValue e).run P w = .ok z w) (hb:w.heap[b]? = some o) (hm:Mg o l) :
  (Instr.lookup t (.map (some b)) (I x) c).run P w = .ok (if c then .tuple #[(lk l x).getD z,.bool (lk l x).isSome] else (lk l x).getD z) w:=by
 obtain⟨es,clock,rfl,hs,hl⟩:=hm;have hk:MapKept.IsKey (.int .i64) (I x):=rfl;rcases MapKept.findNow_spec hk es.toList 0 (Ru hl) with ⟨f1,f2⟩ | ⟨j,e0,f1,f2,f3⟩
 ·have:lk l x = none:=SN.2 λp hp e=>by
   obtain⟨e1,h1,h2,_⟩:=SB hl hp;exact f2 e1 h1 (by rw[h2,e])
  rw[this];cases c<;>simp[Instr.lookup,run_underlying ht,MapKept.run_getObj_map hb,MapKept.run_checkKey EB hk,MapKept.run_findKey EB f1,hz,Result.andThen]
 ·obtain⟨p,h1,h2,h3⟩:=SC hl f2;have hx:p.1 = x:=(Value.int.inj (h2.symm.trans f3)).2;have:lk l x = some e0.val:=by
   rw[← hx,h3];exact RG (Uy hs hl) (List.mem_of_getElem? h1)
  rw[this];cases c<;>simp[Instr.lookup,run_underlying ht,MapKept.run_getObj_map hb,MapKept.run_checkKey EB hk,MapKept.run_findKey EB f1,Result.andThen]
theorem YR {t e b:Nat} {o:Obj} {l:List (Int × Value)} {x:Int} {z:Value} (c:Bool) (a:Li R D b o) (ht:P.underlying t = some (.map 3 e)) (hz:∀w,(zeroValue e).run P w = .ok z w) (hm:Mg o l)
  (H:J R D (k (if c then .tuple #[(lk l x).getD z,.bool (lk l x).isSome] else (lk l x).getD z))):J R D (X P (Instr.lookup t (.map (some b)) (I x) c) k):=
 @jXr R D k _ λh hs w hw=>⟨_,_,Vp c ht hz (by rw[hw];exact a _ hs) hm,BF.refl _,D,by rw[hw];exact hs,H⟩
theorem Vz {w:World} {t e b:Nat} {o:Obj} {l:List (Int × Value)} {x:Int} {v:Value} (ht:P.underlying t = some (.map 3 e)) (hb:w.heap[b]? = some o) (hm:Mg o l) :
  ∃o',Mg o' (up l x v)∧(do Instr.mapUpdate t (.map (some b)) (I x) v;pure undef).run P w = .ok U (ChangeMaps.setBlock w b o')∧(∀b',b'≠b→(ChangeMaps.setBlock w b o').heap[b']? = w.heap[b']?)∧(ChangeMaps.setBlock w b o').heap[b]? = some o':=by
 obtain⟨es,clock,rfl,hs,hl⟩:=hm;have hk:MapKept.IsKey (.int .i64) (I x):=rfl;have run:∃es' clock',(Instr.mapUpdate t (.map (some b)) (I x) v).run P w = .ok () (ChangeMaps.setBlock w b (.map es' clock'))∧Mg (.map es' clock') (up l x v):=by
  rcases MapKept.findNow_spec hk es.toList 0 (Ru hl) with ⟨f1,f2⟩ | ⟨j,e0,f1,f2,f3⟩
  ·have hn:lk l x = none:=SN.2 λp hp e=>by
    obtain⟨e1,h1,h2,_⟩:=SB hl hp;exact f2 e1 h1 (by rw[h2,e])
   refine⟨es.push ⟨I x,v,clock⟩,clock + 1,?_,_,_,rfl,MapKept.stamped_push hs (λy hy=>f2 y hy),?_⟩
   ·simp[Instr.mapUpdate,run_underlying ht,MapKept.run_getObj_map hb,MapKept.run_checkKey EB hk,MapKept.run_findKey EB f1,MapKept.run_setObj_map _ hb,Result.andThen,ChangeMaps.setBlock]
   ·unfold up;rw[if_neg (by rw[hn];simp),Array.toList_push,Zg,Zg,hl];rfl
  ·have hj:es[j]? = some e0:=by rw[← ZY];exact f2
   have hf:∀e,es[j]? = some e→({ e with key:=I x,val:=v }:MapEntry).key = e.key:=λe h=>by
    rw[hj] at h;cases h;exact f3.symm
   obtain⟨p,h1,h2,h3⟩:=SC hl f2;have hx:p.1 = x:=(Value.int.inj (h2.symm.trans f3)).2;have nd:=Uy hs hl;have hsm:(lk l x).isSome:=by rw[← hx,RG nd (List.mem_of_getElem? h1)];rfl
   refine⟨es.modify j (λe=>{ e with key:=I x,val:=v }),clock,?_,_,_,rfl,MapKept.stamped_modify hs j _ (λe _=>rfl) (λe _ h=>hf e h),?_⟩
   ·simp[Instr.mapUpdate,run_underlying ht,MapKept.run_getObj_map hb,MapKept.run_checkKey EB hk,MapKept.run_findKey EB f1,hj,f3,MapKept.run_keyThatStays hk,MapKept.run_setObj_map _ hb,Result.andThen,ChangeMaps.setBlock]
   ·unfold up;rw[if_pos hsm];apply List.ext_getElem?;intro i;rw[ZQ,ZY,Zv,ZQ,ZQ];by_cases hij:j = i
    ·subst hij;rw[if_pos rfl,hj,h1];simp only[aY,if_pos hx];rfl
    ·rw[if_neg hij,← ZY];have e1:=congrArg (λz=>z[i]?) hl;simp only[ZQ] at e1;rw[e1];cases hli:l[i]? with
     | none=>rfl
     | some q=>
      have:q.1≠x:=λe=>by
       have a1:(l.map Prod.fst)[i]? = some x:=by rw[ZQ,hli,← e];rfl
       have a2:(l.map Prod.fst)[j]? = some x:=by rw[ZQ,h1,← hx];rfl
       have l1:=(ZI.1 a1).1;exact hij ((List.getElem?_inj l1 nd).1 (a1.trans a2.symm)).symm
      simp only[aY,if_neg this]
 obtain⟨es',clock',hr,hq⟩:=run;have hst:=MapKept.heap_set (o':=.map es' clock') hb;exact⟨_,hq,by rw[ZB,hr];rfl,hst.2,hst.1⟩
theorem YP {t e b:Nat} {o:Obj} {E:Chs} {l:List (Int × Value)} {x:Int} {v:Value} [tk:Tk D b o E] (ht:P.underlying t = some (.map 3 e)) (hm:Mg o l) (H:∀o',Mg o' (up l x v)→J R ((b,o') :: E) (k U)):J R D (X P (do Instr.mapUpdate t (.map (some b)) (I x) v;pure undef) k):=
 @jXr R D k _ λh hs w hw=>(Vz (w:=w) (x:=x) (v:=v) ht (by rw[hw];exact ((hs.perm tk.p).at_ b _ (.head _)).1) hm).elim λo' h=>⟨U,_,h.2.1,⟨rfl,rfl⟩,_,(hs.perm tk.p).turn (b:=b) (o:=o) (o':=o') h.2.2.2 (by rw[← hw];exact h.2.2.1),H _ h.1⟩
def ItG (m:Nat) (o it:Obj) (rem:List (Int × Value)) (cur:Option (Int × Value)):Prop:=
 ∃es clock seen,o = .map es clock∧it = .mapIter (some m) clock seen clock∧(es.toList.filter λe=>!seen.contains e.born).map pr = rem.map pk∧
  match cur with | none=>True | some p=>∃e∈es.toList,seen.back? = some e.born∧e.key = I p.1∧e.val = p.2
theorem Yh {t e b:Nat} {o:Obj} {l:List (Int × Value)} (a:Li R D b o) (ht:P.underlying t = some (.map 3 e)) (hm:Mg o l)
  (H:∀ib it,ItG b o it l none→J R ((ib,it) :: D) (k (Pt ib))):J R D (X P (Instr.range t (.map (some b))) k):=by
 obtain⟨es,clock,rfl,hs,hl⟩:=hm;refine @jXr R D k _ λh hst w hw=>⟨.pointer (some ⟨w.heap.size,0,none⟩),w.alloc (.mapIter (some b) clock #[] clock),?_,⟨rfl,rfl⟩,_,?_,H _ _ ⟨es,clock,#[],rfl,rfl,?_,trivial⟩⟩
 ·have hb:w.heap[b]? = some (.map es clock):=by rw[hw];exact a _ hst
  simp[Instr.range,run_underlying ht,MapKept.run_getObj_map hb,Result.andThen]
 ·subst hw;exact hst.push
 ·rw[← hl,List.filter_eq_self.2 (by simp)]
theorem Ip {w:World} {r:Nat} {m since stepped:Nat} {seen:Array Nat} (hb:w.heap[r]? = some (.mapIter (some m) since seen stepped)):(getObj r).run P w = .ok (.mapIter (some m) since seen stepped) w:=by
 simp only[getObj,Sem.run,hb]
theorem TF {w:World} {r:Nat} {m since stepped:Nat} {seen:Array Nat} (o:Obj) (hb:w.heap[r]? = some (.mapIter (some m) since seen stepped)):(setObj r o).run P w = .ok () { w with heap:=w.heap.setIfInBounds r o }:=by
 simp only[setObj,Sem.run,hb]
theorem SP {α:Type}:∀(l:List α) (i:Nat) (h:i < l.length),l.Perm (l[i] :: l.eraseIdx i)
 | a :: l,0,_=>by simp
 | a :: l,i + 1,h=>by
  rw[List.getElem_cons_succ,List.eraseIdx_cons_succ];exact ((SP l i (by simpa using h)).cons a).trans (aC _ _ _)
theorem QI {α β:Type} (f:α→β):∀(l:List α) (i:Nat),(l.eraseIdx i).map f = (l.map f).eraseIdx i
 | [],i=>by simp
 | a :: l,0=>by simp
 | a :: l,i + 1=>by simp[QI f l i]
theorem Yf {b ib:Nat} {o it:Obj} {E:Chs} {l rem:List (Int × Value)} {cur:Option (Int × Value)} [tk:Tk D ib it E] (a:Li R D b o) (hm:Mg o l) (hi:ItG b o it rem cur)
  (H0:rem = []→J R D (k (.tuple #[.bool false])))
  (H1:∀p rem' it',rem.Perm (p :: rem')→ItG b o it' rem' (some p)→J R ((ib,it') :: E) (k (.tuple #[.bool true,I p.1,p.2]))):J R D (X P (Instr.next (Pt ib) false 0) k):=by
 obtain⟨es,clock,seen,rfl,rfl,hr,_⟩:=hi;obtain⟨es',clock',he,hs,hl⟩:=hm;cases he;intro h hst w hw;subst hw;have hb:=a _ hst;have hib:=((hst.perm tk.p).at_ ib _ (.head _)).1;have hse:(!seen.isEmpty && !es.isEmpty && es.all (λx=>decide (x.born≥clock))) = false:=by
  cases hes:es.isEmpty with
  | true=>simp
  | false=>
   have hne:es≠#[]:=by simpa using hes
   have hsz:0 < es.size:=Array.size_pos_iff.2 hne;have:es.all (λx=>decide (x.born≥clock)) = false:=by
    rw[Zk];intro Bp;have h1:=Array.all_eq_true.1 Bp 0 hsz;have h2:=hs.1 es[0] (by simp);have h1:=z_f h1;omega
   simp[this]
 have hold:∀x∈(es.filter λe=>!seen.contains e.born).toList,x.born < clock:=λx hx=>by
  rw[Array.toList_filter] at hx;exact hs.1 x (aJ.1 hx).1
 generalize hL:es.filter (λe=>!seen.contains e.born) = L at hold;have hL' : L.toList = es.toList.filter λe=>!seen.contains e.born:=by rw[← hL,Array.toList_filter]
 have e1:L.filter (λx=>decide (x.born < clock)) = L:=by
  apply Array.toList_inj.1;rw[Array.toList_filter,List.filter_eq_self];exact λx hx=>decide_eq_true (hold x hx)
 have e2:L.filter (λx=>decide (x.born≥clock)) = #[]:=by
  apply Array.toList_inj.1;rw[Array.toList_filter,List.filter_eq_nil_iff.2];intro x hx;have:=hold x hx;simp;omega
 by_cases h0:L = #[]
 ·have hre:rem = []:=by
   rw[← hL',h0] at hr;exact List.map_eq_nil_iff.1 hr.symm
  have run:(Instr.next (Pt ib) false 0).run P w = .ok (.tuple #[.bool false]) w:=by
   simp only[Instr.next,ZB,Ip hib,Result.andThen,MapKept.run_getObj_map hb,hse,hL,e1,e2];subst h0;simp[choose,Sem.run,Question.forced]
  rw[run];exact⟨BF.refl _,H0 hre w.heap hst⟩
 ·have hpos:0 < L.size:=Array.size_pos_iff.2 h0;have run:∃i,∃hi:i < L.size,∃d,(Instr.next (Pt ib) false 0).run P w = .ok (.tuple #[.bool true,L[i].key,L[i].val]) { w with drawn:=d,heap:=w.heap.setIfInBounds ib (.mapIter (some b) clock (seen.push L[i].born) clock) }:=by
   have hemp:L.isEmpty = false:=by simpa using h0
   have hch:∃i,i < L.size∧∃d,(choose (.mapNext L.size)).run P w = .ok i { w with drawn:=d }:=by
    by_cases hf:L.size≤1
    ·exact⟨0,hpos,w.drawn,by simp[choose,Sem.run,Question.forced,hf]⟩
    ·exact⟨(w.tape w.drawn (.mapNext L.size)) % L.size,Nat.mod_lt _ hpos,w.drawn + 1,by simp[choose,Sem.run,Question.forced,hf,Question.cut]⟩
   obtain⟨i,hi,d,hc⟩:=hch;refine⟨i,hi,d,?_⟩;have hib' : ({ w with drawn:=d }:World).heap[ib]? = some (.mapIter (some b) clock seen clock):=hib;simp only[Instr.next,ZB,Ip hib,Result.andThen,MapKept.run_getObj_map hb,hse,hL,e1,e2,hemp,ZC,if_false,Array.append_empty,Array.empty_append,Array.size_map,hc];have hg:(L.map some)[i]? = some (some L[i]):=by simp[hi]
   simp only[hg,ZB,TF _ hib',Result.andThen];rfl
  obtain⟨i,hi,d,hrun⟩:=run;rw[hrun];have hmem:L[i]∈es.toList:=by
   have:L[i]∈L.toList:=by simp
   rw[hL'] at this;exact (aJ.1 this).1
  have hLl:L.toList[i]? = some L[i]:=by rw[ZY,aK hi]
  rw[← hL'] at hr;obtain⟨p,p1,p2,p3⟩:=SC hr hLl;have hst2:=MapKept.heap_set (w:=w) (r:=ib) (o':=.mapIter (some b) clock (seen.push L[i].born) clock) hib;have hil:i < rem.length:=(ZI.1 p1).1;have hip:rem[i] = p:=(ZI.1 p1).2;have hperm:rem.Perm (p :: rem.eraseIdx i):=by
   have:=SP rem i hil;rwa [hip] at this
  refine⟨⟨rfl,rfl⟩,?_⟩;rw[p2,p3];refine H1 p (rem.eraseIdx i) _ hperm ⟨es,clock,seen.push L[i].born,rfl,rfl,?_,L[i],hmem,by simp,p2,p3⟩ _ ((hst.perm tk.p).turn (b:=ib) (o:=.mapIter (some b) clock seen clock) (o':=.mapIter (some b) clock (seen.push L[i].born) clock) hst2.1 hst2.2);have e3:(es.toList.filter λe=>!(seen.push L[i].born).contains e.born) = L.toList.eraseIdx i:=by
   have nb:(L.toList.map (·.born)).Nodup:=by
    rw[hL'];exact (List.Sublist.map _ List.filter_sublist).nodup hs.2.1
   have:(es.toList.filter λe=>!(seen.push L[i].born).contains e.born) = L.toList.filter λe=>!(e.born == L[i].born):=by
    rw[hL',List.filter_filter];congr 1;funext e;simp only[Array.contains_push];cases (seen.contains e.born)<;>cases h:(e.born == L[i].born)<;>simp_all
   rw[this];have key:∀(M:List MapEntry) (i:Nat) (hi:i < M.length),(M.map (·.born)).Nodup→(M.filter λe=>!(e.born == (M[i]).born)) = M.eraseIdx i:=by
    intro M;induction M with
    | nil=>intro i hi;cases hi
    | cons a M ih=>
     intro i hi hn;rw[Zn,Zi] at hn;cases i with
     | zero=>
      rw[List.filter_cons_of_neg (by simp)];simp only[List.getElem_cons_zero,List.eraseIdx_zero,List.tail_cons];rw[List.filter_eq_self];intro x hx;have:x.born≠a.born:=λe=>hn.1 (e▸aA hx)
      simpa using this
     | succ i=>
      simp only[List.getElem_cons_succ,List.eraseIdx_cons_succ];have hi:i < M.length:=by simpa using hi
      have:a.born≠(M[i]).born:=λe=>hn.1 (e▸aA (Yv hi))
      rw[List.filter_cons_of_pos (by simpa using this),ih i hi hn.2]
   have:=key L.toList i (by simpa using hi) nb;simpa using this
  rw[e3,QI,QI,hr]
theorem Yb {b ib:Nat} {o it:Obj} {l rem:List (Int × Value)} {p:Int × Value} [ai:At D ib it] (a:Li R D b o) (hm:Mg o l) (hi:ItG b o it rem (some p)) (H:J R D (k (.tuple #[I p.1,p.2]))):J R D (X P (Instr.entry (Pt ib)) k):=by
 obtain⟨es,clock,seen,rfl,rfl,hr,e,e1,e2,e3,e4⟩:=hi;obtain⟨es',clock',he,hs,hl⟩:=hm;cases he;refine @jXr R D k _ λh hst w hw=>⟨_,w,?_,BF.refl _,D,by rw[hw];exact hst,H⟩
 subst hw;have hb:=a _ hst;have hib:=(hst.at_ ib _ ai.m).1;have hf:es.find? (λx=>x.born == e.born) = some e:=by
  rw[← Array.find?_toList];have key:∀(M:List MapEntry),(M.map (·.born)).Nodup→e∈M→M.find? (λx=>x.born == e.born) = some e:=by
   intro M;induction M with
   | nil=>intro _ h;cases h
   | cons a M ih=>
    intro hn hm;rw[Zn,Zi] at hn;rcases Yw.1 hm with rfl | hm
    ·rw[aT (by simp)]
    ·have:a.born≠e.born:=λx=>hn.1 (x▸aA hm)
     rw[aU (by simpa using this),ih hn.2 hm]
  exact key _ hs.2.1 e1
 simp[Instr.entry,Ip hib,e2,MapKept.run_getObj_map hb,hf,e3,e4,Result.andThen]
end rules
set_option maxHeartbeats 1000000 in
theorem Mo (x:Rg) {r:Int} (r0:0≤r) (r1:r < 12):Pu Gt [.agg (eRg x).toArray,I r] (.bool (Hj r x)):=by
 intro R;refine Me λF=>?_
 unfold Gb;have hb:AM r = 16 * r:=Cx r0 r1;refine ja λb=>jp (Dk r) ?_
 rw[hb];have key:Hj r x = true↔(¬ x.kind < 1∧¬ x.kind > 4∧¬ x.top < 16 * r∧¬ x.top > 16 * r + 16∧¬ x.Az < 16 * r∧¬ x.Az > x.top∧¬ x.AQ < 0∧¬ x.AQ > x.top - 16 * r∧¬ (x.kind = 1∧x.top≠16 * r))∧(if x.kind = 2 then 0≤x.AT∧x.AT≤3 else x.AT = -1):=by
  unfold Hj;rw[hb];simp only[z_b,ZA,Z7,z_d,beq_iff_eq,beq_eq_false_iff_ne];by_cases h2:x.kind = 2
  ·rw[if_pos h2,h2];simp;omega
  ·rw[if_neg h2,show (x.kind == 2) = false from beq_eq_false_iff_ne.2 h2];by_cases ho:0≤x.AT
   ·simp[ho];omega
   ·simp[ho];omega
 have fin:∀{c:Bool} {D:Chs} [Sf D F],c = Hj r x→J R D (Er R F (λv' _ _=>v' = .bool (Hj r x)) (.bool c)):=λ{c D} _ hc=>BA (A:=[]) (RM.le.refl R) (by rw[hc])
 refine jor [Pt b,I (16 * r)] ((decide (x.kind < 1)) || (decide (x.kind > 4))) (λK' hK'=>?_) (λe c u ho he=>?_)
 ·refine jl (v:=I x.kind) rfl (jlt (BM (λh1=>?_) (λh1=>?_)))
  ·refine jl (v:=I x.kind) rfl (jgr (hK' _ _ _ (h1▸Aj) (by rw[h1,Yk])))
  ·exact hK' _ _ _ (h1▸Al) (by rw[h1,Ym])
 simp only[List.map,zc,zl,zj,z_t] at he;simp only[he];obtain⟨B1,hB1⟩:∃B1,B1 = (decide (x.kind < 1) || decide (x.kind > 4)):=⟨_,rfl⟩;rw[← hB1] at ho;refine jor [Pt b,I (16 * r)] ((B1) || (decide (x.top < 16 * r))) (λK' hK'=>?_) (λe c u ho he=>?_)
 ·rw[ho];refine BM (λh1=>?_) (λh1=>?_)
  ·refine jl (v:=I x.top) rfl (jlt (hK' _ _ _ (h1▸Aj) (by rw[h1,Yk])))
  ·exact hK' _ _ _ (h1▸Al) (by rw[h1,Ym])
 simp only[List.map,zc,zl,zj,z_t] at he;simp only[he];obtain⟨B2,hB2⟩:∃B2,B2 = (B1 || decide (x.top < 16 * r)):=⟨_,rfl⟩;rw[← hB2] at ho;refine jor [Pt b,I (16 * r)] ((B2) || (decide (x.top > 16 * r + 16))) (λK' hK'=>?_) (λe c u ho he=>?_)
 ·rw[ho];refine BM (λh1=>?_) (λh1=>?_)
  ·refine jl (v:=I x.top) rfl (jad (jgr (hK' _ _ _ (h1▸Aj) (by rw[h1,Yk]))))
  ·exact hK' _ _ _ (h1▸Al) (by rw[h1,Ym])
 simp only[List.map,zc,zl,zj,z_t] at he;simp only[he];obtain⟨B3,hB3⟩:∃B3,B3 = (B2 || decide (x.top > 16 * r + 16)):=⟨_,rfl⟩;rw[← hB3] at ho;refine jor [Pt b,I (16 * r)] ((B3) || (decide (x.Az < 16 * r))) (λK' hK'=>?_) (λe c u ho he=>?_)
 ·rw[ho];refine BM (λh1=>?_) (λh1=>?_)
  ·refine jl (v:=I x.Az) rfl (jlt (hK' _ _ _ (h1▸Aj) (by rw[h1,Yk])))
  ·exact hK' _ _ _ (h1▸Al) (by rw[h1,Ym])
 simp only[List.map,zc,zl,zj,z_t] at he;simp only[he];obtain⟨B4,hB4⟩:∃B4,B4 = (B3 || decide (x.Az < 16 * r)):=⟨_,rfl⟩;rw[← hB4] at ho;refine jor [Pt b,I (16 * r)] ((B4) || (decide (x.Az > x.top))) (λK' hK'=>?_) (λe c u ho he=>?_)
 ·rw[ho];refine BM (λh1=>?_) (λh1=>?_)
  ·refine jl (v:=I x.Az) rfl (jl (v:=I x.top) rfl (jgr (hK' _ _ _ (h1▸Aj) (by rw[h1,Yk]))))
  ·exact hK' _ _ _ (h1▸Al) (by rw[h1,Ym])
 simp only[List.map,zc,zl,zj,z_t] at he;simp only[he];obtain⟨B5,hB5⟩:∃B5,B5 = (B4 || decide (x.Az > x.top)):=⟨_,rfl⟩;rw[← hB5] at ho;refine jor [Pt b,I (16 * r)] ((B5) || (decide (x.AQ < 0))) (λK' hK'=>?_) (λe c u ho he=>?_)
 ·rw[ho];refine BM (λh1=>?_) (λh1=>?_)
  ·refine jl (v:=I x.AQ) rfl (jlt (hK' _ _ _ (h1▸Aj) (by rw[h1,Yk])))
  ·exact hK' _ _ _ (h1▸Al) (by rw[h1,Ym])
 simp only[List.map,zc,zl,zj,z_t] at he;simp only[he];obtain⟨B6,hB6⟩:∃B6,B6 = (B5 || decide (x.AQ < 0)):=⟨_,rfl⟩;rw[← hB6] at ho;have hsub:B6 = false→inR (x.top - 16 * r):=λh=>by
  rw[hB6,hB5,hB4,hB3,hB2] at h;simp only[Z1,decide_eq_false_iff_not] at h;constructor<;>omega
 refine jor [Pt b,I (16 * r)] ((B6) || (decide (x.AQ > x.top - 16 * r))) (λK' hK'=>?_) (λe c u ho he=>?_)
 ·rw[ho];refine BM (λh1=>?_) (λh1=>?_)
  ·refine jl (v:=I x.AQ) rfl (jl (v:=I x.top) rfl (RV (hsub h1) (jgr (hK' _ _ _ (h1▸Aj) (by rw[h1,Yk])))))
  ·exact hK' _ _ _ (h1▸Al) (by rw[h1,Ym])
 simp only[List.map,zc,zl,zj,z_t] at he;simp only[he];rw[ho];refine jif (λh=>fin ?_) (λh=>?_)
 ·symm;rw[Zk];intro hk;obtain⟨⟨k1,k2,k3,k4,k5,k6,k7,k8,k9⟩,k10⟩:=key.1 hk;rw[hB6,hB5,hB4,hB3,hB2,hB1] at h;simp only[ZA,z_d] at h;omega
 rw[hB6,hB5,hB4,hB3,hB2,hB1] at h;simp only[Z1,decide_eq_false_iff_not] at h;obtain⟨⟨⟨⟨⟨⟨⟨k1,k2⟩,k3⟩,k4⟩,k5⟩,k6⟩,k7⟩,k8⟩:=h;clear ho hsub;refine jan [Pt b] ((x.kind == 1) && (x.top != 16 * r)) (λK' hK'=>?_) (λe c u ho he=>?_)
 ·refine jl (v:=I x.kind) rfl (jeq (Bm (λh1=>?_) (λh1=>?_)))
  ·refine jl (v:=I x.top) rfl (jne (hK' _ _ _ (h1▸Aq) (by rw[h1,Yx])))
  ·exact hK' _ _ _ (h1▸Av) (by rw[h1,Yy])
 simp only[List.map,zc,zl,zj,z_t] at he;simp only[he];rw[ho];refine jif (λh=>fin ?_) (λh=>?_)
 ·symm;rw[Zk];intro hk;simp only[z_b,beq_iff_eq,bne_iff_ne] at h;exact (key.1 hk).1.2.2.2.2.2.2.2.2 h
 have k9:¬ (x.kind = 1∧x.top≠16 * r):=λhh=>by
  rw[show (x.kind == 1) = true from beq_iff_eq.2 hh.1,show (x.top != 16 * r) = true from bne_iff_ne.2 hh.2] at h;cases h
 refine jl (v:=I x.kind) rfl (jeq (jif (λh2=>?_) (λh2=>?_)))
 ·have h2:=eq_of_beq h2;refine jan [] ((decide (x.AT≥0)) && (decide (x.AT≤3))) (λK' hK'=>?_) (λe c u ho he=>?_)
  ·refine jl (v:=I x.AT) rfl (jge (Bm (λh1=>?_) (λh1=>?_)))
   ·refine jl (v:=I x.AT) rfl (jle (hK' _ _ _ (h1▸Aq) (by rw[h1,Yx])))
   ·exact hK' _ _ _ (h1▸Av) (by rw[h1,Yy])
  simp only[List.map,zc,zl,zj,z_t] at he;simp only[he];rw[ho];refine fin ?_;rw[ZT,key,if_pos h2];simp only[z_b,z_d];exact⟨λh=>⟨⟨k1,k2,k3,k4,k5,k6,k7,k8,k9⟩,h⟩,λh=>h.2⟩
 ·have h2:=ne_of_beq_false h2;refine jl (v:=I x.AT) rfl (jeq (fin ?_));rw[ZT,key,if_neg h2];exact⟨λh=>⟨⟨k1,k2,k3,k4,k5,k6,k7,k8,k9⟩,eq_of_beq h⟩,λh=>beq_iff_eq.2 h.2⟩
end Go.Lf
end
