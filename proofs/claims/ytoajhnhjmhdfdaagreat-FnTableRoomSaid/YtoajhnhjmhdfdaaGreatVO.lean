/- A part of the proof of the given row: the walk of the law and of all that it calls. Conditions: none. -/
import Derived.MapKept
import Derived.ChangeMaps4
import Derived.Test.YtoajhnhjmhdfdaaGreatVN
set_option linter.unusedVariables false
set_option linter.unusedSimpArgs false
section
namespace Go.Lf
open Go Sm
@[reducible] def eCf (c:Cfg):List Value:=[I c.regions,I c.threads,I c.reserve]
theorem SO.sln {l:List Int} {v:Value} {A:Chs} (h:SO l v A):∃a c,v = .slice a l.length c:=by
 rcases h with ⟨rfl,rfl,_⟩ | ⟨b,c,sp,_,_,rfl,_⟩<;>exact⟨_,_,rfl⟩
section draws
variable {R:RM} {rb:Nat} {v:Value} {m:Int}
theorem d_l20Progs {c:Cfg} (hc:configOk c = true) (hb:Byt R v) (hm:0≤m∧m < 200000000):Dr F_s_l20Progs [.pointer (some ⟨rb,0,none⟩),.agg #[I c.regions,I c.threads,I c.reserve]] R rb v m 10000 (λx R'=>∃l:List (List Sm.Op),(l.length:Int) = c.threads∧(∀p∈l,p.length≤40∧Vs p)∧Progs R' x l):=by
 refine s_s_l20Progs λF=>?_
 unfold c_s_l20Progs
 simp only[configOk,z_b,z_d] at hc
 obtain⟨n,hn⟩:∃n:Nat,c.threads = n:=⟨c.threads.toNat,by omega⟩
 refine ja λb=>jperm (D':=(rb,rdO v m) :: (b,C 67 (eCf c)) :: F) (List.Perm.swap _ _ _) ?_
 refine jcutq (λvs R' D'=>R.le R'∧∃(l:List (List Sm.Op)) (rows:List (List Value)) (ov:Value) (A:Chs) (m' : Int),l.length = n∧(∀p∈l,p.length≤40∧Vs p)∧PrW R' rows l∧SW 82 1 rows ov A∧m≤m'∧m'≤m + 10000∧D' = A ++ (rb,rdO v m') :: (b,C 67 (eCf c)) :: F∧vs = [ov]) (λK hK=>?_) ?_
 rotate_left
 ·rintro e R1 D1 ⟨hR,l,rows,ov,A,m',hl,hp,hrw,so,h1,h2,hD,he⟩
  rw[hD];clear hD
  simp only[List.map,lc,ln,lj,z_t] at he
  simp only[he]
  exact jprogs so hrw λR2 hR2 ho=>dr_ret m' (hR.trans hR2) ⟨l,by omega,hp,ho⟩ h1 h2
 refine jcutq (λvs R' D'=>R.le R'∧∃(l:List (List Sm.Op)) (rows:List (List Value)) (ov:Value) (A:Chs) (m' : Int),l.length = n∧(∀p∈l,p.length≤40∧Vs p)∧PrW R' rows l∧SW 82 1 rows ov A∧m≤m'∧m'≤m + 10000∧D' = A ++ (rb,rdO v m') :: (b,C 67 (eCf c)) :: F∧vs = [ov]) (λK2 hK2=>?_) ?_
 rotate_left
 ·rintro e R1 D1 ⟨hR,l,rows,ov,A,m',hl,hp,hrw,so,h1,h2,hD,he⟩
  simp only[List.map,lc,ln,lj,z_t] at he
  simp only[he]
  exact hK _ _ _ ⟨hR,l,rows,ov,A,m',hl,hp,hrw,so,h1,h2,hD,rfl⟩
 refine jlp (λmm vs R' D'=>R.le R'∧∃(i:Nat) (l:List (List Sm.Op)) (rows:List (List Value)) (ov:Value) (A:Chs) (m' : Int),i≤n∧l.length = i∧(∀p∈l,p.length≤40∧Vs p)∧PrW R' rows l∧SW 82 1 rows ov A∧m≤m'∧m'≤m + 3000 * i∧D' = A ++ (rb,rdO v m') :: (b,C 67 (eCf c)) :: F∧vs = [.pointer (some ⟨rb,0,none⟩),.pointer (some ⟨b,0,none⟩),ov,I i]∧mm = n - i)
  (n:=n) ⟨RM.le.refl R,0,[],[],.slice none 0 0,[],m,by omega,rfl,(λp hp=>by cases hp),Rw.nil,.inl ⟨rfl,rfl,rfl⟩,by omega,by omega,rfl,rfl,by omega⟩ ?_
 rintro mm e R1 D1 K3 ⟨hR,i,l,rows,ov,A,m',hi,hl,hp,hrw,so,h1,h2,hD,he,hmm⟩ hK3
 rw[hD];clear hD
 simp only[List.map,lc,ln,lj,z_t] at he
 simp only[he]
 refine jl (v:=I c.threads) rfl (jlt (jif (λh=>?_) (λh=>?_)))
 rotate_left
 ·have h:=z_g h
  exact hK2 _ _ _ ⟨hR,l,rows,ov,A,m',by omega,hp,hrw,so,h1,by omega,rfl,rfl⟩
 have h:=z_f h
 refine jpk (hb.le hR) ⟨by omega,by omega⟩ λy _ _=>jadd ⟨by omega,by omega⟩ ?_
 obtain⟨k,hk⟩:∃k:Nat,4 + y = k:=⟨(4 + y).toNat,by omega⟩
 rw[hk]
 refine jdr (d_l20Prog (n:=k) (by omega) (hb.le hR) ⟨by omega,by omega⟩) ?_
 rintro x R2 m2 hR2 ⟨q,⟨hq,hqv⟩,hops⟩ h3 h4
 obtain⟨xa,xc,hx⟩:=Fz.sl hops
 subst hx
 refine jbs (cs:=[.slice xa q.length xc]) rfl rfl λbs=>?_
 have hrl:=hrw.1
 refine jawn [[.slice xa q.length xc]] so rfl hrw.len (λr hr=>by rw[List.mem_singleton.1 hr];rfl) rfl rfl rfl (by decide) (by rw[List.length_singleton];omega) λv' A' so'=>?_
 refine jadd ⟨by omega,by omega⟩ ?_
 refine hK3 (n - (i + 1)) _ _ _ (by omega) ⟨hR.trans hR2,i + 1,l ++ [q],_,v',A',m2,by omega,by rw[List.length_append,hl];rfl,λp hp'=>?_,(hrw.le hR2).app (Rw.one ⟨_,rfl,hops⟩),so',by omega,by omega,rfl,rfl,rfl⟩
 rcases List.mem_append.1 hp' with hp' | hp'
 ·exact hp p hp'
 ·rw[List.mem_singleton.1 hp'];exact⟨by omega,hqv⟩
def Sml (l:List Int):Prop:=∀a∈l,0≤a∧a≤9
theorem Sml.snoc {l:List Int} {x:Int} (h:Sml l) (h0:0≤x) (h1:x≤9):Sml (l ++ [x]):=λa ha=>by
 rcases List.mem_append.1 ha with ha | ha
 ·exact h a ha
 ·rw[List.mem_singleton.1 ha];exact⟨h0,h1⟩
theorem d_l20Picks {c:Cfg} {n:Nat} (hc:configOk c = true) (hn:n≤4000) (hb:Byt R v) (hm:0≤m∧m < 200000000):Dr F_s_l20Picks [.pointer (some ⟨rb,0,none⟩),.agg #[I c.regions,I c.threads,I c.reserve],I n] R rb v m 500000 (λx R'=>∃l:List Int,l.length = n∧Sml l∧Ints R' x l):=by
 refine s_s_l20Picks λF=>?_
 unfold c_s_l20Picks
 simp only[configOk,z_b,z_d] at hc
 refine ja λb=>jperm (D':=(rb,rdO v m) :: (b,C 67 (eCf c)) :: F) (List.Perm.swap _ _ _) ?_
 refine jcutq (λvs R' D'=>R' = R∧∃(l:List Int) (ov:Value) (A:Chs) (m' : Int),n≤l.length∧Sml l∧SO l ov A∧m≤m'∧m'≤m + 500000∧D' = A ++ (rb,rdO v m') :: (b,C 67 (eCf c)) :: F∧vs = [I n,ov]) (λK hK=>?_) ?_
 rotate_left
 ·rintro e R1 D1 ⟨hR,l,ov,A,m',hl,hp,so,h1,h2,hD,he⟩
  subst hR
  rw[hD];clear hD
  simp only[List.map,lc,ln,lj,z_t] at he
  simp only[he]
  refine jfso so λR2 hR2 hi=>jslh hi (by omega) (by omega) λv' hv'=>dr_ret m' hR2 ⟨l.take n,by rw[List.length_take];omega,λa ha=>hp a (List.mem_of_mem_take ha),by rw[Int.toNat_natCast] at hv';exact hv'⟩ h1 h2
 refine jcutq (λvs R' D'=>R' = R∧∃(l:List Int) (ov:Value) (A:Chs) (m' : Int),n≤l.length∧Sml l∧SO l ov A∧m≤m'∧m'≤m + 500000∧D' = A ++ (rb,rdO v m') :: (b,C 67 (eCf c)) :: F∧vs = [I n,ov]) (λK2 hK2=>?_) ?_
 rotate_left
 ·rintro e R1 D1 ⟨hR,l,ov,A,m',hl,hp,so,h1,h2,hD,he⟩
  simp only[List.map,lc,ln,lj,z_t] at he
  simp only[he]
  exact hK _ _ _ ⟨hR,l,ov,A,m',hl,hp,so,h1,h2,hD,rfl⟩
 refine jlp (λmm vs R' D'=>R' = R∧∃(l:List Int) (ov:Value) (A:Chs) (m' : Int),l.length≤4100∧Sml l∧SO l ov A∧m≤m'∧m'≤m + 100 * l.length∧D' = A ++ (rb,rdO v m') :: (b,C 67 (eCf c)) :: F∧vs = [.pointer (some ⟨rb,0,none⟩),I n,.pointer (some ⟨b,0,none⟩),ov]∧mm = 4100 - l.length)
  (n:=4100) ⟨rfl,[],.slice none 0 0,[],m,by decide,(λp hp=>by cases hp),.inl ⟨rfl,rfl,rfl⟩,by omega,by simp,rfl,rfl,rfl⟩ ?_
 rintro mm e R1 D1 K3 ⟨hR,l,ov,A,m',hl,hp,so,h1,h2,hD,he,hmm⟩ hK3
 subst hR
 rw[hD];clear hD
 simp only[List.map,lc,ln,lj,z_t] at he
 simp only[he]
 refine jln_ so.sln (jlt (jif (λh=>?_) (λh=>?_)))
 rotate_left
 ·have h:=z_g h
  exact hK2 _ _ _ ⟨rfl,l,ov,A,m',by omega,hp,so,h1,by omega,rfl,rfl⟩
 have h:=z_f h
 refine jcutq (λvs R' D'=>R' = R1∧∃(l2:List Int) (ov:Value) (A:Chs) (m2:Int),l.length < l2.length∧l2.length≤l.length + 80∧Sml l2∧SO l2 ov A∧m'≤m2∧m2≤m' + 80∧D' = A ++ (rb,rdO v m2) :: (b,C 67 (eCf c)) :: F∧vs = [.pointer (some ⟨rb,0,none⟩),I n,.pointer (some ⟨b,0,none⟩),ov]) (λK4 hK4=>?_) ?_
 rotate_left
 ·rintro e Rx Dx ⟨hR,l2,ov,A,m2,q1,q2,hp2,so2,q3,q4,hD,he⟩
  subst hR
  rw[hD];clear hD
  simp only[List.map,lc,ln,lj,z_t] at he
  simp only[he]
  exact hK3 (4100 - l2.length) _ _ _ (by omega) ⟨rfl,l2,ov,A,m2,by omega,hp2,so2,by omega,by omega,rfl,rfl,rfl⟩
 refine jpk hb ⟨by omega,by omega⟩ λk _ _=>jadd ⟨by omega,by omega⟩ (jl (v:=I c.threads) rfl (jadd ⟨by omega,by omega⟩ (jpk hb ⟨by omega,by omega⟩ λp _ _=>?_)))
 refine jcutq (λvs R' D'=>R' = R1∧∃k p m2:Int,1≤k∧k≤36∧0≤p∧p≤9∧m'≤m2∧m2≤m' + 3∧D' = A ++ (rb,rdO v m2) :: (b,C 67 (eCf c)) :: F∧vs = [.pointer (some ⟨rb,0,none⟩),I n,.pointer (some ⟨b,0,none⟩),ov,I k,I p]) (λK5 hK5=>?_) ?_
 ·refine jpk hb ⟨by omega,by omega⟩ λz _ _=>jeq (jif (λ_=>jl (v:=I c.threads) rfl (jmul ⟨by omega,by omega⟩ ?_)) (λ_=>?_))<;>refine jpart A (G:=(rb,rdO v (m' + 1 + 1 + 1)) :: (b,C 67 (eCf c)) :: F) ?_
  ·exact hK5 _ _ _ ⟨rfl,_,_,_,by omega,by omega,by omega,by omega,by omega,by omega,rfl,rfl⟩
  ·exact hK5 _ _ _ ⟨rfl,_,_,_,by omega,by omega,by omega,by omega,by omega,by omega,rfl,rfl⟩
 rintro e Rx Dx ⟨hR,k,p,m2,k0,k1,p0,p1,q1,q2,hD,he⟩
 subst hR
 rw[hD];clear hD
 simp only[List.map,lc,ln,lj,z_t] at he
 simp only[he]
 refine jcutq (λvs R' D'=>R' = Rx∧∃(l2:List Int) (ov:Value) (A:Chs) (m3:Int),l.length≤l2.length∧l2.length≤l.length + 1∧Sml l2∧SO l2 ov A∧m'≤m3∧m3≤m' + 4∧D' = A ++ (rb,rdO v m3) :: (b,C 67 (eCf c)) :: F∧vs = [.pointer (some ⟨rb,0,none⟩),I n,.pointer (some ⟨b,0,none⟩),ov,I k,I p]) (λK5 hK5=>?_) ?_
 ·refine jpk hb ⟨by omega,by omega⟩ λz _ _=>jeq (jif (λ_=>?_) (λ_=>?_))
  ·refine jl (v:=I c.threads) rfl (jadd ⟨by omega,by omega⟩ (jbs (cs:=[I (c.threads + 1)]) rfl rfl λbs=>jas1 so (by omega) λv' A' so'=>?_))
   exact hK5 _ _ _ ⟨rfl,_,v',A',_,by simp,by simp,hp.snoc (by omega) (by omega),so',by omega,by omega,rfl,rfl⟩
  ·refine jpart A (G:=(rb,rdO v (m2 + 1)) :: (b,C 67 (eCf c)) :: F) ?_
   exact hK5 _ _ _ ⟨rfl,l,ov,A,_,by omega,by omega,hp,so,by omega,by omega,rfl,rfl⟩
 clear so
 rintro e Ry Dy ⟨hR,l2,ov,A,m3,q3,q4,hp2,so,q5,q6,hD,he⟩
 subst hR
 rw[hD];clear hD
 simp only[List.map,lc,ln,lj,z_t] at he
 simp only[he]
 refine jpk hb ⟨by omega,by omega⟩ λz _ _=>jeq (jif (λ_=>?_) (λ_=>?_))<;>refine jpart A (G:=(rb,rdO v (m3 + 1)) :: (b,C 67 (eCf c)) :: F) ?_
 ·refine jcutq (λvs R' D'=>R' = Ry∧∃(l2:List Int) (ov:Value) (A:Chs) (m2:Int),l.length < l2.length∧l2.length≤l.length + 80∧Sml l2∧SO l2 ov A∧m'≤m2∧m2≤m' + 80∧D' = A ++ (rb,rdO v m2) :: (b,C 67 (eCf c)) :: F∧vs = [.pointer (some ⟨rb,0,none⟩),I n,.pointer (some ⟨b,0,none⟩),ov]) (λK6 hK6=>?_) ?_
  rotate_left
  ·rintro e Rz Dz ⟨hR,l2,ov,A,m2,a1,a2,a3,a4,a5,a6,hD,he⟩
   simp only[List.map,lc,ln,lj,z_t] at he
   simp only[he]
   exact hK4 _ _ _ ⟨hR,l2,ov,A,m2,a1,a2,a3,a4,a5,a6,hD,rfl⟩
  refine jcutq (λvs R' D'=>R' = Ry∧∃(l2:List Int) (ov:Value) (A:Chs) (m2:Int),l.length < l2.length∧l2.length≤l.length + 80∧Sml l2∧SO l2 ov A∧m'≤m2∧m2≤m' + 80∧D' = A ++ (rb,rdO v m2) :: (b,C 67 (eCf c)) :: F∧vs = [.pointer (some ⟨rb,0,none⟩),I n,.pointer (some ⟨b,0,none⟩),ov]) (λK7 hK7=>?_) ?_
  rotate_left
  ·rintro e Rz Dz ⟨hR,l2,ov,A,m2,a1,a2,a3,a4,a5,a6,hD,he⟩
   simp only[List.map,lc,ln,lj,z_t] at he
   simp only[he]
   exact hK6 _ _ _ ⟨hR,l2,ov,A,m2,a1,a2,a3,a4,a5,a6,hD,rfl⟩
  refine jlp (λmm vs R' D'=>R' = Ry∧∃(i:Nat) (l3:List Int) (ov:Value) (A:Chs),(i:Int)≤2 * k∧l3.length = l2.length + i∧Sml l3∧SO l3 ov A∧D' = A ++ (rb,rdO v (m3 + 1 + i)) :: (b,C 67 (eCf c)) :: F∧vs = [.pointer (some ⟨rb,0,none⟩),I n,.pointer (some ⟨b,0,none⟩),ov,I k,I i]∧mm = 72 - i)
   (n:=72) ⟨rfl,0,l2,ov,A,by omega,by omega,hp2,so,by rw[show m3 + 1 + ((0:Nat):Int) = m3 + 1 from by omega],rfl,rfl⟩ ?_
  clear so
  rintro mm e Rz Dz K8 ⟨hR,i,l3,ov,A,i0,i1,hp3,so,hD,he,hmm⟩ hK8
  subst hR
  rw[hD];clear hD
  simp only[List.map,lc,ln,lj,z_t] at he
  simp only[he]
  refine jmul ⟨by omega,by omega⟩ (jlt (jif (λh=>?_) (λh=>?_)))
  ·have h:=z_f h
   refine jl (v:=I c.threads) rfl (jadd ⟨by omega,by omega⟩ (jpk hb ⟨by omega,by omega⟩ λy _ _=>jbs (cs:=[I y]) rfl rfl λbs=>jas1 so (by omega) λv' A' so'=>jadd ⟨by omega,by omega⟩ ?_))
   refine hK8 (72 - (i + 1)) _ _ _ (by omega) ⟨rfl,i + 1,_,v',A',by omega,by simp;omega,hp3.snoc (by omega) (by omega),so',by rw[show m3 + 1 + ((i + 1:Nat):Int) = m3 + 1 + i + 1 from by omega],rfl,rfl⟩
  ·have h:=z_g h
   exact hK7 _ _ _ ⟨rfl,l3,ov,A,_,by omega,by omega,hp3,so,by omega,by omega,rfl,rfl⟩
 ·refine jcutq (λvs R' D'=>R' = Ry∧∃(l2:List Int) (ov:Value) (A:Chs) (m2:Int),l.length < l2.length∧l2.length≤l.length + 80∧Sml l2∧SO l2 ov A∧m'≤m2∧m2≤m' + 80∧D' = A ++ (rb,rdO v m2) :: (b,C 67 (eCf c)) :: F∧vs = [.pointer (some ⟨rb,0,none⟩),I n,.pointer (some ⟨b,0,none⟩),ov]) (λK7 hK7=>?_) ?_
  rotate_left
  ·rintro e Rz Dz ⟨hR,l2,ov,A,m2,a1,a2,a3,a4,a5,a6,hD,he⟩
   simp only[List.map,lc,ln,lj,z_t] at he
   simp only[he]
   exact hK4 _ _ _ ⟨hR,l2,ov,A,m2,a1,a2,a3,a4,a5,a6,hD,rfl⟩
  refine jlp (λmm vs R' D'=>R' = Ry∧∃(i:Nat) (l3:List Int) (ov:Value) (A:Chs),(i:Int)≤k∧l3.length = l2.length + i∧Sml l3∧SO l3 ov A∧D' = A ++ (rb,rdO v (m3 + 1)) :: (b,C 67 (eCf c)) :: F∧vs = [.pointer (some ⟨rb,0,none⟩),I n,.pointer (some ⟨b,0,none⟩),ov,I k,I p,I i]∧mm = 72 - i)
   (n:=72) ⟨rfl,0,l2,ov,A,by omega,by omega,hp2,so,rfl,rfl,rfl⟩ ?_
  clear so
  rintro mm e Rz Dz K8 ⟨hR,i,l3,ov,A,i0,i1,hp3,so,hD,he,hmm⟩ hK8
  subst hR
  rw[hD];clear hD
  simp only[List.map,lc,ln,lj,z_t] at he
  simp only[he]
  refine jlt (jif (λh=>?_) (λh=>?_))
  ·have h:=z_f h
   refine jbs (cs:=[I p]) rfl rfl λbs=>jas1 so (by omega) λv' A' so'=>jadd ⟨by omega,by omega⟩ ?_
   refine hK8 (72 - (i + 1)) _ _ _ (by omega) ⟨rfl,i + 1,_,v',A',by omega,by simp;omega,hp3.snoc (by omega) (by omega),so',rfl,rfl,rfl⟩
  ·have h:=z_g h
   exact hK7 _ _ _ ⟨rfl,l3,ov,A,_,by omega,by omega,hp3,so,by omega,by omega,rfl,rfl⟩
end draws
end Go.Lf
end
section
namespace Go.Lf
open Go Sm
@[reducible] def FoD (rb b p:Nat) (v:Value) (m:Int) (A F:Chs) (S:Sim) (g:Img) (c:Cfg):Chs:=(rb,rdO v m) :: (A ++ (simD p S g ++ (b,C 67 (eCf c)) :: F))
def FoC (rb b p:Nat) (v ov:Value) (m' q k:Int) (n:Nat) (A F:Chs) (S:Sim) (g:Img) (c:Cfg) (R:RM) (vs:List Value) (R' : RM) (D' : Chs):Prop:=
 R' = R∧(∃m2,m'≤m2∧m2≤m' + 2∧D' = FoD rb b p v m2 A F S g c)∧∃x u w,And2 x u w∧vs = [.pointer (some ⟨rb,0,none⟩),I n,.pointer (some ⟨b,0,none⟩),ov,.pointer (some ⟨p,0,none⟩),I q,I k,x,u]
def FoQ (rb b p:Nat) (v ov:Value) (m' : Int) (n:Nat) (A F:Chs) (S:Sim) (g:Img) (c:Cfg) (R:RM) (vs:List Value) (R' : RM) (D' : Chs):Prop:=
 R' = R∧∃q k m2:Int,0≤q∧q≤9∧1≤k∧k≤9∧m'≤m2∧m2≤m' + 15∧D' = FoD rb b p v m2 A F S g c∧vs = [.pointer (some ⟨rb,0,none⟩),I n,.pointer (some ⟨b,0,none⟩),ov,.pointer (some ⟨p,0,none⟩),I q,I k]
section draws
variable {R:RM} {rb:Nat} {v:Value} {m:Int}
theorem d_l20Focus {c:Cfg} {n:Nat} {pv:Value} {progs:List (List Sm.Op)} (hc:configOk c = true) (hpl:(progs.length:Int) = c.threads) (hp40:∀p∈progs,p.length≤40) (hp:Progs R pv progs) (hn:n≤2000) (hb:Byt R v) (hm:0≤m∧m < 200000000) :
  Dr F_s_l20Focus [.pointer (some ⟨rb,0,none⟩),.agg #[I c.regions,I c.threads,I c.reserve],pv,I n] R rb v m 500000 (λx R'=>∃l:List Int,l.length = n∧Sml l∧Ints R' x l):=by
 refine s_s_l20Focus λF=>?_
 unfold c_s_l20Focus
 have hst:storyOk c progs [] = true:=by
  unfold storyOk
  simp only[z_b,z_d,List.all_eq_true]
  exact⟨⟨⟨hc,hpl⟩,by simp⟩,hp40⟩
 obtain⟨g0,i0,B0⟩:=start_ok hc hpl hp40
 have hcc:=hc
 simp only[configOk,z_b,z_d] at hc
 refine ja λb=>jla (l:=eCf c) (by exact z_n 3) rfl (jro (r_StoryOk hp (picks:=[]) (.inl ⟨rfl,rfl,rfl⟩)) ?_)
 rw[hst]
 refine jiff (jla (l:=eCf c) (by exact z_n 3) rfl ?_)
 refine jc (A:=[]) (t_l8Start hcc hp) ?_
 rintro _ R1 _ hR1 ⟨p,g,rfl,rfl,ok⟩
 refine jperm (D':=FoD rb b p v m [] F (Sm.start c progs) g c) (by
  show (simD p (Sm.start c progs) g ++ ((b,C 67 (eCf c)) :: (rb,rdO v m) :: F)).Perm ((rb,rdO v m) :: (simD p (Sm.start c progs) g ++ (b,C 67 (eCf c)) :: F))
  exact ((List.Perm.swap _ _ _).append_left _).trans List.perm_middle) ?_
 refine jcutq (λvs R' D'=>R.le R'∧∃(S:Sim) (g:Img) (l:List Int) (ov:Value) (A:Chs) (m' : Int),n≤l.length∧Sml l∧SO l ov A∧m≤m'∧m'≤m + 500000∧D' = FoD rb b p v m' A F S g c∧vs = [I n,ov]) (λK hK=>?_) ?_
 rotate_left
 ·rintro e R1 D1 ⟨hR,S,g,l,ov,A,m',hl,hp,so,h1,h2,hD,he⟩
  rw[hD];clear hD
  simp only[List.map,lc,ln,lj,z_t] at he
  simp only[he]
  refine jperm List.perm_middle.symm (jfso so λR2 hR2 hi=>jslh hi (by omega) (by omega) λv' hv'=>dr_ret m' (hR.trans hR2) ⟨l.take n,by rw[List.length_take];omega,λa ha=>hp a (List.mem_of_mem_take ha),by rw[Int.toNat_natCast] at hv';exact hv'⟩ h1 h2)
 refine jcutq (λvs R' D'=>R.le R'∧∃(S:Sim) (g:Img) (l:List Int) (ov:Value) (A:Chs) (m' : Int),n≤l.length∧Sml l∧SO l ov A∧m≤m'∧m'≤m + 500000∧D' = FoD rb b p v m' A F S g c∧vs = [I n,ov]) (λK2 hK2=>?_) ?_
 rotate_left
 ·rintro e R1 D1 ⟨hR,S,g,l,ov,A,m',hl,hp,so,h1,h2,hD,he⟩
  simp only[List.map,lc,ln,lj,z_t] at he
  simp only[he]
  exact hK _ _ _ ⟨hR,S,g,l,ov,A,m',hl,hp,so,h1,h2,hD,rfl⟩
 refine jlp (λmm vs R' D'=>R.le R'∧∃(S:Sim) (g:Img) (gh:Gh) (l:List Int) (ov:Value) (A:Chs) (m' : Int),IG progs S gh∧Bd (5 * l.length) S∧Ok R' S g∧l.length≤2100∧Sml l∧SO l ov A∧m≤m'∧m'≤m + 20 * l.length∧D' = FoD rb b p v m' A F S g c∧vs = [.pointer (some ⟨rb,0,none⟩),I n,.pointer (some ⟨b,0,none⟩),ov,.pointer (some ⟨p,0,none⟩)]∧mm = 2100 - l.length)
  (n:=2100) ⟨hR1,Sm.start c progs,g,g0,[],.slice none 0 0,[],m,i0,B0,ok,by decide,(λp hp=>by cases hp),.inl ⟨rfl,rfl,rfl⟩,by omega,by simp,rfl,rfl,rfl⟩ ?_
 clear i0 B0 ok
 rintro mm e R2 D1 K3 ⟨hR,S,g,gh,l,ov,A,m',i0,B0,ok,hl,hs,so,h1,h2,hD,he,hmm⟩ hK3
 rw[hD];clear hD
 simp only[List.map,lc,ln,lj,z_t] at he
 simp only[he]
 have hb2:=hb.le hR
 refine jln_ so.sln (jlt (jif (λh=>?_) (λh=>?_)))
 rotate_left
 ·have h:=z_g h
  exact hK2 _ _ _ ⟨hR,S,g,l,ov,A,m',by omega,hs,so,h1,by omega,rfl,rfl⟩
 have h:=z_f h
 refine jcutq (λvs R' D'=>R2.le R'∧∃(S:Sim) (g:Img) (gh:Gh) (l2:List Int) (ov:Value) (A:Chs) (m2:Int),IG progs S gh∧Bd (5 * l2.length) S∧Ok R' S g∧l.length < l2.length∧l2.length≤l.length + 9∧Sml l2∧SO l2 ov A∧m'≤m2∧m2≤m' + 15∧D' = FoD rb b p v m2 A F S g c∧vs = [.pointer (some ⟨rb,0,none⟩),I n,.pointer (some ⟨b,0,none⟩),ov,.pointer (some ⟨p,0,none⟩)]) (λK4 hK4=>?_) ?_
 rotate_left
 ·rintro e Rx Dx ⟨hRx,S,g,gh,l2,ov,A,m2,i0,B0,ok,q1,q2,hs2,so2,q3,q4,hD,he⟩
  rw[hD];clear hD
  simp only[List.map,lc,ln,lj,z_t] at he
  simp only[he]
  exact hK3 (2100 - l2.length) _ _ _ (by omega) ⟨hR.trans hRx,S,g,gh,l2,ov,A,m2,i0,B0,ok,by omega,hs2,so2,by omega,by omega,rfl,rfl,rfl⟩
 refine jl (v:=I c.threads) rfl (jadd ⟨by omega,by omega⟩ (jpk hb2 ⟨by omega,by omega⟩ λq0 _ _=>?_))
 refine jcutq (FoQ rb b p v ov m' n A F S g c R2) (λK5 hK5=>?_) ?_
 ·refine jcutq (FoQ rb b p v ov m' n A F S g c R2) (λK6 hK6=>?_) ?_
  rotate_left
  ·rintro e Rx Dx ⟨hRx,q,k,m2,q1,q2,q3,q4,q5,q6,hD,he⟩
   simp only[List.map,lc,ln,lj,z_t] at he
   simp only[he]
   exact hK5 _ _ _ ⟨hRx,q,k,m2,q1,q2,q3,q4,q5,q6,hD,rfl⟩
  have fin:∀q k m2:Int,0≤q→q≤9→1≤k→k≤9→m'≤m2→m2≤m' + 15→J R2 (FoD rb b p v m2 A F S g c) (K6 [.pointer (some ⟨rb,0,none⟩),I n,.pointer (some ⟨b,0,none⟩),ov,.pointer (some ⟨p,0,none⟩),I q,I k]):=λq k m2 a1 a2 a3 a4 a5 a6=>hK6 _ _ _ ⟨rfl,q,k,m2,a1,a2,a3,a4,a5,a6,rfl,rfl⟩
  clear hK3 hK4 hK5 hK6
  have cnd:∀(m0:Int) (K:List Value→M),(∀vs R' D',FoC rb b p v ov m0 q0 1 n A F S g c R2 vs R' D'→J R' D' (K vs))→∀m2,m0≤m2→m2≤m0 + 2→∀x u w,And2 x u w→J R2 (FoD rb b p v m2 A F S g c) (K [.pointer (some ⟨rb,0,none⟩),I n,.pointer (some ⟨b,0,none⟩),ov,.pointer (some ⟨p,0,none⟩),I q0,I 1,x,u]):=λm0 K hK m2 a1 a2 x u w ha=>hK _ _ _ ⟨rfl,⟨m2,a1,a2,rfl⟩,x,u,w,ha,rfl⟩
  refine jcutq (FoC rb b p v ov (m' + 1) q0 1 n A F S g c R2) (λK7 hK7=>?_) ?_
  ·refine jl (v:=I S.phase) rfl (jeq (jgtt (λh=>jl (v:=.bool S.stop) rfl ?_) (λh=>?_)))
   ·exact cnd _ _ hK7 _ (by omega) (by omega) _ _ _ (h▸and2_t)
   ·exact cnd _ _ hK7 _ (by omega) (by omega) _ _ _ (h▸and2_f)
  rintro e Rx Dx ⟨hRx,⟨m2,a1,a2,hD⟩,x,u,w,ha,he⟩
  subst hRx
  rw[hD];clear hD
  simp only[List.map,lc,ln,lj,z_t] at he
  simp only[he]
  refine jcutq (FoC rb b p v ov m2 q0 1 n A F S g c Rx) (λK7 hK7=>?_) ?_
  ·rw[ha]
   refine jgtt (λh=>jl (v:=.bool S.col.asked) rfl ?_) (λh=>?_)
   ·exact cnd _ _ hK7 _ (by omega) (by omega) _ _ _ (h▸and2_t)
   ·exact cnd _ _ hK7 _ (by omega) (by omega) _ _ _ (h▸and2_f)
  clear ha
  rintro e Ry Dx ⟨hRx,⟨m3,a3,a4,hD⟩,x,u,w,ha,he⟩
  subst hRx
  rw[hD];clear hD
  simp only[List.map,lc,ln,lj,z_t] at he
  simp only[he]
  refine jcutq (FoC rb b p v ov m3 q0 1 n A F S g c Ry) (λK7 hK7=>?_) ?_
  ·rw[ha]
   refine jgtt (λh=>jpk hb2 ⟨by omega,by omega⟩ λy _ _=>jeq ?_) (λh=>?_)
   ·exact cnd _ _ hK7 _ (by omega) (by omega) _ _ _ (h▸and2_t)
   ·exact cnd _ _ hK7 _ (by omega) (by omega) _ _ _ (h▸and2_f)
  clear ha
  rintro e Rx Dx ⟨hRx,⟨m4,a5,a6,hD⟩,x,u,w,ha,he⟩
  subst hRx
  rw[hD];clear hD
  simp only[List.map,lc,ln,lj,z_t] at he
  simp only[he]
  rw[ha]
  refine jif (λh=>jl (v:=I c.threads) rfl (jadd ⟨by omega,by omega⟩ ?_)) (λh=>?_)
  ·exact fin _ _ _ (by omega) (by omega) (by omega) (by omega) (by omega) (by omega)
  clear ha
  refine jcutq (FoC rb b p v ov m4 q0 1 n A F S g c Rx) (λK7 hK7=>?_) ?_
  ·refine jl (v:=I S.phase) rfl (jeq (jgtt (λh=>jl (v:=.bool S.stop) rfl ?_) (λh=>?_)))
   ·exact cnd _ _ hK7 _ (by omega) (by omega) _ _ _ (h▸and2_t)
   ·exact cnd _ _ hK7 _ (by omega) (by omega) _ _ _ (h▸and2_f)
  rintro e Ry Dx ⟨hRx,⟨m5,a7,a8,hD⟩,x,u,w,ha,he⟩
  subst hRx
  rw[hD];clear hD
  simp only[List.map,lc,ln,lj,z_t] at he
  simp only[he]
  rw[ha]
  refine jif (λh=>jpk hb2 ⟨by omega,by omega⟩ λy _ _=>jadd ⟨by omega,by omega⟩ ?_) (λh=>?_)
  ·exact fin _ _ _ (by omega) (by omega) (by omega) (by omega) (by omega) (by omega)
  clear ha
  refine jcutq (FoC rb b p v ov m5 q0 1 n A F S g c Ry) (λK7 hK7=>?_) ?_
  ·refine jl (v:=I S.phase) rfl (jeq (jgtt (λh=>jpk hb2 ⟨by omega,by omega⟩ λy _ _=>jgr ?_) (λh=>?_)))
   ·exact cnd _ _ hK7 _ (by omega) (by omega) _ _ _ (h▸and2_t)
   ·exact cnd _ _ hK7 _ (by omega) (by omega) _ _ _ (h▸and2_f)
  rintro e Rx Dx ⟨hRx,⟨m6,a9,a10,hD⟩,x,u,w,ha,he⟩
  subst hRx
  rw[hD];clear hD
  simp only[List.map,lc,ln,lj,z_t] at he
  simp only[he]
  rw[ha]
  refine jif (λh=>jl (v:=I c.threads) rfl (jpk hb2 ⟨by omega,by omega⟩ λy _ _=>jadd ⟨by omega,by omega⟩ ?_)) (λh=>?_)
  ·exact fin _ _ _ (by omega) (by omega) (by omega) (by omega) (by omega) (by omega)
  clear ha
  refine jcutq (FoC rb b p v ov m6 q0 1 n A F S g c Rx) (λK7 hK7=>?_) ?_
  ·refine jl (v:=.bool S.stop) rfl (jgtt (λh=>jpk hb2 ⟨by omega,by omega⟩ λy _ _=>jeq ?_) (λh=>?_))
   ·exact cnd _ _ hK7 _ (by omega) (by omega) _ _ _ (h▸and2_t)
   ·exact cnd _ _ hK7 _ (by omega) (by omega) _ _ _ (h▸and2_f)
  rintro e Ry Dx ⟨hRx,⟨m7,a11,a12,hD⟩,x,u,w,ha,he⟩
  subst hRx
  rw[hD];clear hD
  simp only[List.map,lc,ln,lj,z_t] at he
  simp only[he]
  rw[ha]
  refine jif (λh=>jl (v:=I c.threads) rfl ?_) (λh=>?_)
  ·exact fin _ _ _ (by omega) (by omega) (by omega) (by omega) (by omega) (by omega)
  ·exact fin _ _ _ (by omega) (by omega) (by omega) (by omega) (by omega) (by omega)
 rintro e Rx Dx ⟨hRx,q,k,m2,q1,q2,q3,q4,q5,q6,hD,he⟩
 subst hRx
 rw[hD];clear hD
 simp only[List.map,lc,ln,lj,z_t] at he
 simp only[he]
 refine jcutq (λvs R' D'=>Rx.le R'∧∃(S:Sim) (g:Img) (gh:Gh) (l2:List Int) (ov:Value) (A:Chs) (m2:Int),IG progs S gh∧Bd (5 * l2.length) S∧Ok R' S g∧l.length < l2.length∧l2.length≤l.length + 9∧Sml l2∧SO l2 ov A∧m'≤m2∧m2≤m' + 15∧D' = FoD rb b p v m2 A F S g c∧vs = [.pointer (some ⟨rb,0,none⟩),I n,.pointer (some ⟨b,0,none⟩),ov,.pointer (some ⟨p,0,none⟩)]) (λK7 hK7=>?_) ?_
 rotate_left
 ·rintro e Rz Dx hx
  obtain⟨hRz,S,g,gh,l2,ov,A,m2,i0,B0,ok,q1,q2,hs2,so2,q3,q4,hD,he⟩:=hx
  simp only[List.map,lc,ln,lj,z_t] at he
  simp only[he]
  exact hK4 _ _ _ ⟨hRz,S,g,gh,l2,ov,A,m2,i0,B0,ok,q1,q2,hs2,so2,q3,q4,hD,rfl⟩
 refine jlp (λmm vs R' D'=>Rx.le R'∧∃(i:Nat) (S:Sim) (g:Img) (gh:Gh) (l2:List Int) (ov:Value) (A:Chs),(i:Int)≤k∧IG progs S gh∧Bd (5 * l2.length) S∧Ok R' S g∧l2.length = l.length + i∧Sml l2∧SO l2 ov A∧D' = FoD rb b p v m2 A F S g c∧vs = [.pointer (some ⟨rb,0,none⟩),I n,.pointer (some ⟨b,0,none⟩),ov,.pointer (some ⟨p,0,none⟩),I q,I k,I i]∧mm = 9 - i)
  (n:=9) ⟨RM.le.refl _,0,S,g,gh,l,ov,A,by omega,i0,B0,ok,by omega,hs,so,rfl,rfl,rfl⟩ ?_
 clear i0 B0 ok so hs
 rintro mm e Ry Dy K8 ⟨hRy,i,S,g,gh,l2,ov,A,hi,i0,B0,ok,hl2,hs,so,hD,he,hmm⟩ hK8
 rw[hD];clear hD
 simp only[List.map,lc,ln,lj,z_t] at he
 simp only[he]
 refine jlt (jif (λh=>?_) (λh=>?_))
 rotate_left
 ·have h:=z_g h
  exact hK7 _ _ _ ⟨hRy,S,g,gh,l2,ov,A,m2,i0,B0,ok,by omega,by omega,hs,so,by omega,by omega,rfl,rfl⟩
 have h:=z_f h
 obtain⟨S2,gh2,i2,B2,-,ht⟩:=t_pickI (p:=p) (a:=q) i0 B0 (by omega) ⟨by omega,by omega⟩
 refine jcS (p:=p) (by exact ht _ _ ok) λ_ R3 g3 hR3 _ ok3=>?_
 refine jperm (D':=FoD rb b p v m2 A F S2 g3 c) (List.perm_middle.trans ((List.perm_append_comm_assoc _ _ _).cons _)) ?_
 refine jbs (cs:=[I q]) rfl rfl λbs=>jas1 so (by omega) λv' A' so'=>jadd ⟨by omega,by omega⟩ (jperm List.perm_middle ?_)
 refine hK8 (9 - (i + 1)) _ _ _ (by omega) ⟨hRy.trans hR3,i + 1,S2,g3,gh2,_,v',A',by omega,i2,?_,ok3,by simp;omega,hs.snoc (by omega) (by omega),so',rfl,rfl,rfl⟩
 rw[List.length_append,List.length_singleton,Nat.mul_add]
 exact B2
end draws
end Go.Lf
end
section
namespace Go.Lf
open Go Sm
section draws
variable {R:RM} {rb:Nat} {v:Value} {m:Int}
def QStory (x:Value) (R:RM):Prop:=∃(c:Cfg) (progs:List (List Sm.Op)) (picks:List Int) (pv kv:Value),x = .tuple #[.agg #[I c.regions,I c.threads,I c.reserve],pv,kv]∧(storyOk c progs picks = true∧∀p∈progs,Vs p)∧Sml picks∧Progs R pv progs∧Ints R kv picks
theorem story_ok {c:Cfg} {progs:List (List Sm.Op)} {picks:List Int} (hc:configOk c = true) (hl:(progs.length:Int) = c.threads) (hp:∀p∈progs,p.length≤40) (hk:picks.length≤4000):storyOk c progs picks = true:=by
 unfold storyOk
 simp only[z_b,z_d,List.all_eq_true]
 exact⟨⟨⟨hc,hl⟩,hk⟩,hp⟩
theorem Progs.sl {v:Value} {l:List (List Sm.Op)} (H:Progs R v l):∃a c,v = .slice a l.length c:=by
 obtain⟨vs,h,_⟩:=H
 exact h.sl
theorem d_l20Busy (hb:Byt R v) (hm:0≤m∧m < 150000000):Dr F_s_l20Busy [.pointer (some ⟨rb,0,none⟩)] R rb v m 1000000 QStory:=by
 refine s_s_l20Busy λF=>?_
 unfold c_s_l20Busy
 refine ja λb1=>jpk hb ⟨by omega,by omega⟩ λy1 _ _=>jadd ⟨by omega,by omega⟩ (jpk hb ⟨by omega,by omega⟩ λy2 _ _=>jadd ⟨by omega,by omega⟩ ?_)
 refine jbs (cs:=[I 32,I 48,I 100,I 16]) rfl rfl λb6=>jpk hb ⟨by omega,by omega⟩ λy3 _ _=>jia (by omega) (by omega) ?_
 have h3:=sel_in (l:=[32,48,100,16]) (x:=y3) (by omega) (by show _ < (4:Int);omega)
 refine jl (sel_get [32,48,100,16] (by omega) (by show _ < (4:Int);omega)) ?_
 generalize sel [32,48,100,16] y3 = y at h3
 simp only[List.mem_cons,List.not_mem_nil,or_false] at h3
 obtain⟨c,hcf⟩:∃c:Cfg,c = ⟨5 + y1,1 + y2,y⟩:=⟨_,rfl⟩
 have hc:configOk c = true:=by
  rw[hcf]
  simp only[configOk,z_b,z_d];omega
 refine jbd (cs:=eCf c) rfl (by rw[hcf];rfl) (ja λb=>js (cs':=eCf c) rfl rfl (by exact z_n 3) rfl ?_)
 obtain⟨n,hn⟩:∃n:Nat,c.threads = n:=⟨c.threads.toNat,by rw[hcf];show 1 + y2 = ((1 + y2).toNat:Int);omega⟩
 have hcc:=hc
 simp only[configOk,z_b,z_d] at hcc
 refine jk3 (F:=F) rb b b1 ?_
 refine jcutq (λvs R' D'=>R.le R'∧∃(l:List (List Sm.Op)) (rows:List (List Value)) (ov:Value) (A:Chs) (m' : Int),l.length = n∧(∀p∈l,p.length≤40∧Vs p)∧PrW R' rows l∧SW 82 1 rows ov A∧m≤m'∧m'≤m + 10000∧D' = A ++ (rb,rdO v m') :: (b,C 67 (eCf c)) :: (b1,C 67 (cl z67)) :: F∧vs = [.pointer (some ⟨rb,0,none⟩),.pointer (some ⟨b1,0,none⟩),.pointer (some ⟨b,0,none⟩),ov]) (λK hK=>?_) ?_
 ·refine jcutq (λvs R' D'=>R.le R'∧∃(l:List (List Sm.Op)) (rows:List (List Value)) (ov:Value) (A:Chs) (m' : Int),l.length = n∧(∀p∈l,p.length≤40∧Vs p)∧PrW R' rows l∧SW 82 1 rows ov A∧m≤m'∧m'≤m + 10000∧D' = A ++ (rb,rdO v m') :: (b,C 67 (eCf c)) :: (b1,C 67 (cl z67)) :: F∧vs = [.pointer (some ⟨rb,0,none⟩),.pointer (some ⟨b1,0,none⟩),.pointer (some ⟨b,0,none⟩),ov]) (λK2 hK2=>?_) ?_
  rotate_left
  ·rintro e R1 D1 ⟨hR,l,rows,ov,A,m',hl,hp,hrw,so,h1,h2,hD,he⟩
   simp only[List.map,lc,ln,lj,z_t] at he
   simp only[he]
   exact hK _ _ _ ⟨hR,l,rows,ov,A,m',hl,hp,hrw,so,h1,h2,hD,rfl⟩
  refine jlp (λmm vs R' D'=>R.le R'∧∃(i:Nat) (l:List (List Sm.Op)) (rows:List (List Value)) (ov:Value) (A:Chs) (m' : Int),i≤n∧l.length = i∧(∀p∈l,p.length≤40∧Vs p)∧PrW R' rows l∧SW 82 1 rows ov A∧m≤m'∧m'≤m + 10 + 1100 * i∧D' = A ++ (rb,rdO v m') :: (b,C 67 (eCf c)) :: (b1,C 67 (cl z67)) :: F∧vs = [.pointer (some ⟨rb,0,none⟩),.pointer (some ⟨b1,0,none⟩),.pointer (some ⟨b,0,none⟩),ov,I i]∧mm = n - i)
   (n:=n) ⟨RM.le.refl R,0,[],[],.slice none 0 0,[],m + 1 + 1 + 1,by omega,rfl,(λp hp=>by cases hp),Rw.nil,.inl ⟨rfl,rfl,rfl⟩,by omega,by omega,rfl,rfl,by omega⟩ ?_
  rintro mm e R1 D1 K3 ⟨hR,i,l,rows,ov,A,m',hi,hl,hp,hrw,so,h1,h2,hD,he,hmm⟩ hK3
  rw[hD];clear hD
  simp only[List.map,lc,ln,lj,z_t] at he
  simp only[he]
  refine jl (v:=I c.threads) rfl (jlt (jif (λh=>?_) (λh=>?_)))
  rotate_left
  ·have h:=z_g h
   exact hK2 _ _ _ ⟨hR,l,rows,ov,A,m',by omega,hp,hrw,so,h1,by omega,rfl,rfl⟩
  have h:=z_f h
  refine jpk (hb.le hR) ⟨by omega,by omega⟩ λz _ _=>jadd ⟨by omega,by omega⟩ ?_
  obtain⟨k,hk⟩:∃k:Nat,20 + z = k:=⟨(20 + z).toNat,by omega⟩
  rw[hk]
  refine jdr (d_l20Churn (n:=k) (by omega) (hb.le hR) ⟨by omega,by omega⟩) ?_
  rintro x R2 m2 hR2 ⟨q,⟨hq,hqv⟩,hops⟩ h5 h6
  obtain⟨xa,xc,hx⟩:=Fz.sl hops
  subst hx
  refine jbs (cs:=[.slice xa q.length xc]) rfl rfl λbs=>?_
  have hrl:=hrw.1
  refine jawn [[.slice xa q.length xc]] so rfl hrw.len (λr hr=>by rw[List.mem_singleton.1 hr];rfl) rfl rfl rfl (by decide) (by rw[List.length_singleton];omega) λv' A' so'=>?_
  refine jadd ⟨by omega,by omega⟩ ?_
  refine hK3 (n - (i + 1)) _ _ _ (by omega) ⟨hR.trans hR2,i + 1,l ++ [q],_,v',A',m2,by omega,by rw[List.length_append,hl];rfl,λp hp'=>?_,(hrw.le hR2).app (Rw.one ⟨_,rfl,hops⟩),so',by omega,by omega,rfl,rfl,rfl⟩
  rcases List.mem_append.1 hp' with hp' | hp'
  ·exact hp p hp'
  ·rw[List.mem_singleton.1 hp'];exact⟨hq,hqv⟩
 rintro e R1 D1 ⟨hR,l,rows,ov,A,m',hl,hp,hrw,so,h1,h2,hD,he⟩
 rw[hD];clear hD
 simp only[List.map,lc,ln,lj,z_t] at he
 simp only[he]
 refine jprogs so hrw λR2 hR2 ho=>?_
 have hb2:=hb.le (hR.trans hR2)
 refine jla (l:=eCf c) (by exact z_n 3) rfl (jla (l:=eCf c) (by exact z_n 3) rfl (jpk hb2 ⟨by omega,by omega⟩ λz _ _=>jadd ⟨by omega,by omega⟩ ?_))
 refine jand (jla (l:=eCf c) (by exact z_n 3) rfl jev) (jand (jla (l:=eCf c) (by exact z_n 3) rfl jev) ?_)
 obtain⟨k,hk⟩:∃k:Nat,150 + z = k:=⟨(150 + z).toNat,by omega⟩
 rw[hk]
 refine jdr (d_l20Focus (n:=k) hc (by omega) (λp h=>(hp p h).1) ho (by omega) hb2 ⟨by omega,by omega⟩) ?_
 rintro x R3 m3 hR3 ⟨q,hq,hs,hi⟩ h5 h6
 refine jand (jla (l:=eCf c) (by exact z_n 3) rfl jev) ?_
 refine js (cs':=eCf c) rfl rfl (by exact z_n 3) rfl (jla (l:=eCf c) (by exact z_n 3) rfl ?_)
 exact dr_ret m3 ((hR.trans hR2).trans hR3) ⟨c,l,q,ov,x,rfl,⟨story_ok hc (by omega) (λp h=>(hp p h).1) (by omega),λp h=>(hp p h).2⟩,hs,ho.le hR3,hi⟩ (by omega) (by omega)
end draws
end Go.Lf
end
section
namespace Go.Lf
open Go Sm
structure StB (r:Nat) (s:Sm.State):Prop where
 wr:∀x∈s.words,Rn x
 wl:s.words.length = 16 * s.table.length
 t0:2≤s.table.length
 t1:s.table.length≤12
 tp:∀x∈s.table,-100 * (r:Int)≤x.top∧x.top≤100 * r
 n0:1≤s.threads.length
 n1:s.threads.length≤3
 rl:∀t∈s.threads,t.roots.length≤r
 pl:s.pins.length≤8
 pv:∀a∈s.pins,0≤a∧a≤1000
 ol:s.old.length≤100000
 ml:s.marks.length = s.words.length
 cy:0≤s.cycles∧s.cycles≤100000
 fu:0≤s.fulls∧s.fulls≤100000
theorem play_rn {c0:Cfg} {progs:List (List Sm.Op)} {picks:List Int} {S' : Sim} (hok:storyOk c0 progs picks = true) (hv:∀p∈progs,Vs p) (h:Sim.picks picks (Sm.start c0 progs) = some S'):RS S':=by
 obtain⟨h1,h2,h3,h4⟩:=storyOk_iff hok
 obtain⟨g0,I0,B0⟩:=start_ok h1 h2 h4
 exact picks_rn picks 0 _ S' g0 (by omega) I0 B0 (start_rn hv) h
theorem view_b {P0:List (List Sm.Op)} {S:Sim} {gh:Gh} (i0:IG P0 S gh) (B:Bd 20000 S) (hr:RS S):StB 8 S.view:=by
 have T:=i0.sh.g.ok
 have n0:=T.n0
 have n1:=T.n1
 have hl:=i0.sh.g.len
 have hl:(S.words.length:Int) = 16 * S.table.length:=hl
 have wl:=i0.wl
 refine⟨hr.w,by show S.words.length = 16 * S.table.length;omega,n0,n1,λx hx=>?_,by show 1≤(S.th.map _).length;rw[List.length_map];exact i0.n0,by show (S.th.map _).length≤3;rw[List.length_map];exact i0.n1,λt ht=>?_,B.pn,λa ha=>?_,by have:=B.old;show S.old.length≤_;omega,i0.sh.ml,⟨B.cy.1,by have:=B.cy.2;show S.cycles≤_;omega⟩,⟨B.fu.1,by have:=B.fu.2;show S.fulls≤_;omega⟩⟩
 ·have hx:x∈S.table:=hx
  have n1:S.table.length≤12:=n1
  obtain⟨k,hk,rfl⟩:=List.getElem_of_mem hx
  by_cases h0:k = 0
  ·subst h0
   have:=T.e
   rw[show (0:Int) = ((0:Nat):Int) from rfl] at this
   have e:=(rv_at (t:=S.table) hk).symm.trans this
   rw[e];decide
  ·have r:=T.row k (by omega) (by show (k:Int) < S.table.length;omega)
   have e:=rv_at (t:=S.table) hk
   have t0:=r.t0
   have t1:=r.t1
   have e' : rv (xof S gh).t k = S.table[k]:=e
   rw[e'] at t0 t1
   omega
 ·obtain⟨t',ht',rfl⟩:=List.mem_map.1 ht
  have:=i0.roots t' ht'
  show t'.roots.length≤8;omega
 ·have h1:=i0.sh.pl a ha
  obtain⟨h4,_,_,_,_,h5,h6,_⟩:=i0.sh.g.inn (i0.sh.lb a h1.1)
  have h5:a + sz S.words a≤S.words.length:=h5
  have h6:2≤sz S.words a:=h6
  omega
theorem StB.mono {s:Sm.State} (h:StB 8 s):StB 9 s:={ h with rl:=λt ht=>(by have:=h.rl t ht;omega),tp:=λx hx=>(by have:=h.tp x hx;omega) }
theorem StB.row {s:Sm.State} (h:StB 8 s) (k:Nat) {x:Rg} (h0:-900≤x.top) (h1:x.top≤900):StB 9 { s with table:=s.table.set k x }:=
 { h.mono with wl:=by simpa using h.wl,t0:=by simpa using h.t0,t1:=by simpa using h.t1,tp:=λy hy=>(by
   rcases List.mem_or_eq_of_mem_set hy with hy | hy
   ·exact h.mono.tp y hy
   ·subst hy;omega) }
def StQ (rl rb b16 b1:Nat) (v:Value) (m c:Int) (F:Chs) (R:RM) (D:Chs):Prop:=
 ∃(s:Sm.State) (rows:List (List Value)) (thv mv ov pv:Value) (A:Chs) (wb nw wc:Nat) (wsp:List Value) (tb nt tc:Nat) (tsp:List Value) (m' : Int),
  StB rl s∧s.words.length = nw∧nw≤wc∧s.table.length = nt∧nt≤tc∧Rw (ThrC R) rows s.threads∧SW 78 4 rows thv A∧Bls R mv s.marks∧Ints R ov s.old∧Ints R pv s.pins∧m≤m'∧m'≤m + c∧
  D = (rb,rdO v m') :: (b16,C T_State (eSt s (.slice (some ⟨wb,0,none⟩) nw wc) (.slice (some ⟨tb,0,none⟩) nt tc) mv thv ov pv)) :: (A ++ (wb,C T_int (s.words.map I ++ wsp)) :: (tb,C T_Region (rowsE eRg s.table ++ tsp)) :: (b1,C T_State (cl z58)) :: F)
def DSt (R:RM) (rb:Nat) (v:Value) (m c:Int) (x:Value) (R' : RM) (A:Chs):Prop:=
 ∃(s:Sm.State) (wv mv thv ov pv:Value) (tb tc:Nat) (tsp:List Value) (m' : Int),StB 9 s∧Ints R' wv s.words∧Bls R' mv s.marks∧Ths R' thv s.threads∧Ints R' ov s.old∧Ints R' pv s.pins∧s.table.length≤tc∧m≤m'∧m'≤m + c∧
  x = .agg (eSt s wv (.slice (some ⟨tb,0,none⟩) s.table.length tc) mv thv ov pv).toArray∧A = [(rb,rdO v m'),(tb,C T_Region (rowsE eRg s.table ++ tsp))]
theorem st_flat {s:Sm.State} {mv ov pv thv:Value} {x:Option Addr} {y:Option Addr} {l q l2 q2:Nat} (h1:flat mv = true) (h2:flat thv = true) (h3:flat ov = true) (h4:flat pv = true):allFlat (eSt s (.slice x l q) (.slice y l2 q2) mv thv ov pv) = true:=by
 show (true && (true && (flat mv && (true && (true && (true && (true && (true && (flat thv && (flat ov && (flat pv && (true && (true && true))))))))))))) = true
 rw[h1,h2,h3,h4];rfl
theorem jfront {R:RM} {D E:Chs} {o:Obj} {m:M} (b:Nat) [t:Tk D b o E] (H:J R ((b,o) :: E) m):J R D m:=λh hs=>H h (hs.perm t.p)
theorem SW.flat {t w:Nat} {rows:List (List Value)} {v:Value} {A:Chs} (h:SW t w rows v A):flat v = true:=by
 obtain⟨a,c,e⟩:=h.sl
 rw[e];rfl
theorem jjunk {R:RM} {X D E:Chs} {m:M} (hp:D.Perm (X ++ E)) (H:J R E m):J R D m:=λh hs=>H h ((hs.perm hp).drop)
theorem th0 {R:RM} {rows:List (List Value)} {l:List Th} {thv:Value} {A:Chs} (hrw:Rw (ThrC R) rows l) (so:SW 78 4 rows thv A) (hn:1≤l.length):∃t ts rv rr b c sp,l = t :: ts∧rows = [rv,I t.next,.bool t.busy,I t.tried] :: rr∧Ints R rv t.roots∧Rw (ThrC R) rr ts∧
  rows.length≤c∧sp.length = (c - rows.length) * 4∧thv = .slice (some ⟨b,0,none⟩) rows.length c∧A = [(b,C 78 (rows.flatten ++ sp))]:=by
 cases l with
 | nil=>simp at hn
 | cons t ts=>
  cases rows with
  | nil=>have:=hrw.1;simp at this
  | cons r0 rr=>
   obtain⟨rv,e,hi⟩:=hrw.2 0 (by simp) (by simp)
   simp only[List.getElem_cons_zero] at e hi
   subst e
   rcases so with ⟨h,_,_⟩ | ⟨b,c,sp,h1,h2,h3,h4⟩
   ·cases h
   ·refine⟨t,ts,rv,rr,b,c,sp,rfl,rfl,hi,⟨by have:=hrw.1;simpa using this,λi h h'=>?_⟩,h1,h2,h3,h4⟩
    have:=hrw.2 (i + 1) (by simpa using h) (by simpa using h')
    simpa using this
section draws
variable {R:RM} {rb:Nat} {v:Value} {m:Int}
theorem d_l20State (hb:Byt R v) (hm:0≤m∧m < 100000000):Fn P F_s_l20State [.pointer (some ⟨rb,0,none⟩)] R [(rb,rdO v m)] (DSt R rb v m 2000000):=by
 refine s_s_l20State λF=>?_
 unfold c_s_l20State
 refine ja λb1=>jdr (d_l20Config hb ⟨by omega,by omega⟩) ?_
 rintro _ R1 m1 - ⟨hR1,c,rfl,hc⟩ g1 g2
 subst hR1
 refine ja λb3=>js (cs':=eCf c) rfl rfl (by exact z_n 3) rfl (jla (l:=eCf c) (by exact z_n 3) rfl ?_)
 refine jdr (d_l20Progs hc hb ⟨by omega,by omega⟩) ?_
 rintro pv R2 m2 hR2 ⟨progs,hpl,hp40,hp⟩ g3 g4
 have hb2:=hb.le hR2
 refine jla (l:=eCf c) (by exact z_n 3) rfl (jpk hb2 ⟨by omega,by omega⟩ λz _ _=>jadd ⟨by omega,by omega⟩ (jand (jla (l:=eCf c) (by exact z_n 3) rfl jev) ?_))
 obtain⟨n,hn⟩:∃n:Nat,40 + z = n:=⟨(40 + z).toNat,by omega⟩
 rw[hn]
 refine jdr (d_l20Picks hc (n:=n) (by omega) hb2 ⟨by omega,by omega⟩) ?_
 rintro kv R3 m3 hR3 ⟨picks,hkl,hks,hk⟩ g5 g6
 have hb3:=hb2.le hR3
 refine jk3 (F:=F) rb b3 b1 ?_
 refine jcutq (λvs R' D'=>R3.le R'∧∃(c:Cfg) (progs:List (List Sm.Op)) (picks:List Int) (pv kv:Value) (m4:Int),(storyOk c progs picks = true∧∀p∈progs,Vs p)∧Sml picks∧Progs R' pv progs∧Ints R' kv picks∧m≤m4∧m4≤m + 1600000∧D' = (rb,rdO v m4) :: (b3,C 67 (eCf c)) :: (b1,C T_State (cl z58)) :: F∧vs = [.pointer (some ⟨rb,0,none⟩),.pointer (some ⟨b1,0,none⟩),.pointer (some ⟨b3,0,none⟩),pv,kv]) (λK hK=>?_) ?_
 ·refine jpk hb3 ⟨by omega,by omega⟩ λy _ _=>jgr (jif (λ_=>?_) (λ_=>?_))
  ·refine jdr (d_l20Busy hb3 ⟨by omega,by omega⟩) ?_
   rintro _ R4 m4 hR4 ⟨c',progs',picks',pv',kv',rfl,hok,hs',hp',hk'⟩ g7 g8
   refine jex rfl (jex rfl (jex rfl (js (cs':=eCf c') rfl rfl (by exact z_n 3) rfl ?_)))
   exact hK _ _ _ ⟨hR4,c',progs',picks',pv',kv',m4,hok,hs',hp',hk',by omega,by omega,rfl,rfl⟩
  ·exact hK _ _ _ ⟨RM.le.refl _,c,progs,picks,pv,kv,_,⟨story_ok hc hpl (λp h=>(hp40 p h).1) (by omega),λp h=>(hp40 p h).2⟩,hks,hp.le hR3,hk,by omega,by omega,rfl,rfl⟩
 have hR03:=hR2.trans hR3
 clear hp hk hks hc hpl hp40 hkl hb2 hn
 rintro e R4 D4 ⟨hR4,c,progs,picks,pv,kv,m4,⟨hok,hvs⟩,hs,hp,hk,g7,g8,hD,he⟩
 rw[hD];clear hD
 simp only[List.map,lc,ln,lj,z_t] at he
 simp only[he]
 obtain⟨S,gh,i0,B0,hpk,hpl⟩:=t_play hok λa ha=>⟨by have:=(hs a ha).1;omega,by have:=(hs a ha).2;omega⟩
 refine jla (l:=eCf c) (by exact z_n 3) rfl (jc (A:=[]) (hpl R4 pv kv hp hk) ?_)
 rintro _ R5 _ hR5 ⟨p,g,rows,thv,A,ok,hrw,so,rfl,rfl⟩
 have hSB:=view_b i0 B0 (play_rn hok hvs hpk)
 refine jex rfl (jex rfl ?_)
 unfold simD
 refine jjunk (X:=(p,C T_l8Sim (eSim S g)) :: (g.hb,C T_l8Thread (eThs S.th g.rv ++ g.hsp)) :: evD S g) (E:=(A ++ [(g.wb,C T_int (S.words.map I ++ g.wsp)),(g.tb,C T_Region (rowsE eRg S.table ++ g.tsp)),(g.mb,C T_bool (S.marks.map Value.bool ++ g.msp))]) ++ ((rb,rdO v m4) :: (b3,C 67 (eCf c)) :: (b1,C T_State (cl z58)) :: F)) ?_ ?_
 ·refine (List.Perm.append_right _ List.perm_middle).trans (List.Perm.cons _ ?_)
  have:=List.perm_append_comm_assoc (A ++ [(g.wb,C T_int (S.words.map I ++ g.wsp)),(g.tb,C T_Region (rowsE eRg S.table ++ g.tsp)),(g.mb,C T_bool (S.marks.map Value.bool ++ g.msp))]) ((g.hb,C T_l8Thread (eThs S.th g.rv ++ g.hsp)) :: evD S g) ((rb,rdO v m4) :: (b3,C 67 (eCf c)) :: (b1,C T_State (cl z58)) :: F)
  simpa using this
 refine jfreeze (b:=g.mb) λR6 hR6 hmb=>?_
 have hmv:=bls_of hmb ok.mk_
 have hR16:=(hR4.trans hR5).trans hR6
 have hb6:=hb3.le hR16
 have hov:=ok.old.le hR6
 have hpv:=ok.pins.le hR6
 have hrw:=hrw.mono λ_ _=>ThrC.le hR6
 obtain⟨tha,thc,hthv⟩:=so.sl
 refine ja λb16=>js (cs':=eSt S.view (wS S g) (tS S g) (mS S g) thv g.old g.pins) rfl (st_flat rfl so.flat (Fz.flat hov) (Fz.flat hpv)) (by exact z_n 13) rfl ?_
 have h0:StQ 8 rb b16 b1 v m 1600000 F R6 ((rb,rdO v m4) :: (b16,C T_State (eSt S.view (wS S g) (tS S g) (mS S g) thv g.old g.pins)) :: (A ++ (g.wb,C T_int (S.words.map I ++ g.wsp)) :: (g.tb,C T_Region (rowsE eRg S.table ++ g.tsp)) :: (b1,C T_State (cl z58)) :: F)):=
  ⟨S.view,rows,thv,mS S g,g.old,g.pins,A,g.wb,S.words.length,g.wc,g.wsp,g.tb,S.table.length,g.tc,g.tsp,m4,hSB,rfl,ok.wk,rfl,ok.tk,hrw,so,hmv,hov,hpv,by omega,by omega,rfl⟩
 refine jfront b16 (jfront rb (jfront b3 (jdrop ?_)))
 simp only[List.append_assoc,lc,ln]
 generalize (rb,rdO v m4) :: (b16,C T_State (eSt S.view (wS S g) (tS S g) (mS S g) thv g.old g.pins)) :: (A ++ (g.wb,C T_int (S.words.map I ++ g.wsp)) :: (g.tb,C T_Region (rowsE eRg S.table ++ g.tsp)) :: (b1,C T_State (cl z58)) :: F) = D6 at h0 ⊢
 have hR06:=hR03.trans hR16
 clear hmb hmv hov hpv hrw so hpl ok hSB
 refine jcutq (λvs R' D'=>R6.le R'∧StQ 9 rb b16 b1 v m 1600010 F R' D'∧vs = [.pointer (some ⟨b1,0,none⟩),.pointer (some ⟨b16,0,none⟩)]) (λK hK=>?_) ?_
 rotate_left
 ·rintro e R7 D7 ⟨hR7,⟨s,rows,thv,mv,ov,pv,A,wb,nw,wc,wsp,tb,nt,tc,tsp,m',sb,w1,w2,w3,w4,hrw,so,hmv,hov,hpv,h1,h2,hD⟩,he⟩
  rw[hD];clear hD
  simp only[List.map,lc,ln,lj,z_t] at he
  simp only[he]
  subst w1 w3
  obtain⟨tha,thc,hthv⟩:=so.sl
  have hfl:=st_flat (s:=s) (x:=some ⟨wb,0,none⟩) (y:=some ⟨tb,0,none⟩) (l:=s.words.length) (q:=wc) (l2:=s.table.length) (q2:=tc) (Fz.flat hmv) so.flat (Fz.flat hov) (Fz.flat hpv)
  refine jla (l:=eSt s (.slice (some ⟨wb,0,none⟩) s.words.length wc) (.slice (some ⟨tb,0,none⟩) s.table.length tc) mv thv ov pv) (by exact z_n 13) rfl ?_
  refine js (cs':=eSt s (.slice (some ⟨wb,0,none⟩) s.words.length wc) (.slice (some ⟨tb,0,none⟩) s.table.length tc) mv thv ov pv) rfl hfl (by exact z_n 13) rfl ?_
  refine jla (l:=eSt s (.slice (some ⟨wb,0,none⟩) s.words.length wc) (.slice (some ⟨tb,0,none⟩) s.table.length tc) mv thv ov pv) (by exact z_n 13) rfl ?_
  refine jfront b16 (jdrop (jfront wb (jfreeze (b:=wb) λR8 hR8 hwb=>jfront rb (jperm List.perm_middle.symm (jfw so (hrw.all λ_ _=>ThrC.len) λR9 hR9 hfz=>?_)))))
  have hR79:=hR8.trans hR9
  exact jret (A:=[(rb,rdO v m'),(tb,C T_Region (rowsE eRg s.table ++ tsp))]) ((hR06.trans hR7).trans hR79) ⟨s,_,mv,thv,ov,pv,tb,tc,tsp,m',sb,(ints_of hwb w2).le hR9,Fz.le hR79 hmv,⟨rows,hrw.mono λ_ _=>ThrC.le hR79,hfz⟩,hov.le hR79,hpv.le hR79,w4,h1,by omega,rfl,rfl⟩
 obtain⟨s,rows,thv,mv,ov,pv,A,wb,nw,wc,wsp,tb,nt,tc,tsp,m',sb,w1,w2,w3,w4,hrw,so,hmv,hov,hpv,h1,h2,hD⟩:=h0
 rw[hD];clear hD
 have wl:=sb.wl
 have t0:=sb.t0
 have t1:=sb.t1
 refine jpk hb6 ⟨by omega,by omega⟩ λy _ _=>?_
 refine jcutq (λvs R' D'=>R6.le R'∧StQ 9 rb b16 b1 v m 1600010 F R' D'∧vs = [.pointer (some ⟨b1,0,none⟩),.pointer (some ⟨b16,0,none⟩)]) (λK2 hK2=>?_) ?_
 rotate_left
 ·rintro e R7 D7 ⟨hR7,hD,he⟩
  simp only[List.map,lc,ln,lj,z_t] at he
  simp only[he]
  exact hK _ _ _ ⟨hR7,hD,rfl⟩
 have fin:∀(s' : Sm.State) (m2:Int) (thv' : Value) (rows' : List (List Value)) (A' : Chs) (R' : RM),R6.le R'→StB 9 s'→s'.words.length = nw→s'.table.length = nt→s'.marks = s.marks→s'.old = s.old→s'.pins = s.pins→Rw (ThrC R') rows' s'.threads→SW 78 4 rows' thv' A'→m≤m2→m2≤m' + 8→
   J R' ((rb,rdO v m2) :: (b16,C T_State (eSt s' (.slice (some ⟨wb,0,none⟩) nw wc) (.slice (some ⟨tb,0,none⟩) nt tc) mv thv' ov pv)) :: (A' ++ (wb,C T_int (s'.words.map I ++ wsp)) :: (tb,C T_Region (rowsE eRg s'.table ++ tsp)) :: (b1,C T_State (cl z58)) :: F)) (K2 [.pointer (some ⟨b1,0,none⟩),.pointer (some ⟨b16,0,none⟩)]):=λs' m2 thv' rows' A' R' a0 a1 a2 a3 a4 a5 a6 a7 a8 a9 a10=>
  hK2 _ _ _ ⟨a0,⟨s',rows',thv',mv,ov,pv,A',wb,nw,wc,wsp,tb,nt,tc,tsp,m2,a1,a2,w2,a3,w4,a7,a8,by rw[a4];exact Fz.le a0 hmv,by rw[a5];exact hov.le a0,by rw[a6];exact hpv.le a0,a9,by omega,rfl⟩,rfl⟩
 clear hK hK2
 refine jeq (jif (λ_=>?_) (λ_=>jeq (jif (λ_=>?_) (λ_=>jeq (jif (λ_=>?_) (λ_=>jeq (jif (λ_=>?_) (λ_=>jeq (jif (λ_=>?_) (λ_=>jeq (jif (λ_=>?_) (λ_=>?_))))))))))))
 ·refine jl (v:=.slice (some ⟨wb,0,none⟩) nw wc) rfl (jl (v:=.slice (some ⟨wb,0,none⟩) nw wc) rfl (jln (jpk hb6 ⟨by omega,by omega⟩ λi _ _=>jand (jl (v:=.slice (some ⟨wb,0,none⟩) nw wc) rfl jev) (jpk hb6 ⟨by omega,by omega⟩ λx _ _=>jia (by omega) (by omega) (jand (jl (v:=.slice (some ⟨wb,0,none⟩) nw wc) rfl jev) ?_)))))
  refine jsi (l:=s.words) (by omega) ?_
  exact fin { s with words:=s.words.set i.toNat x } _ thv rows A R6 (RM.le.refl _) { sb.mono with wl:=by simpa using sb.wl,ml:=by simpa using sb.ml,wr:=λy hy=>(List.mem_or_eq_of_mem_set hy).elim (sb.wr y) λe=>by rw[e];unfold Rn;omega } (by simpa using w1) w3 rfl rfl rfl hrw so (by omega) (by omega)
 ·obtain⟨t,ts,rv,rr,bt,ct,sp,e1,e2,hrv,hrr,q1,q2,e3,e4⟩:=th0 hrw so sb.n0
  subst e2 e3 e4
  obtain⟨ra,rc,e5⟩:=hrv.sl
  subst e5
  have h8:=sb.rl t (by rw[e1];simp)
  refine jl (v:=.slice (some ⟨bt,0,none⟩) _ ct) rfl (jia (by omega) (by simp) (jla (l:=[.slice ra t.roots.length rc,I t.next,.bool t.busy,I t.tried]) (by simp) rfl ?_))
  refine ja λb38=>js (cs':=[.slice ra t.roots.length rc,I t.next,.bool t.busy,I t.tried]) rfl rfl (by exact z_n 4) rfl ?_
  refine jl (v:=.slice ra t.roots.length rc) rfl (jl (v:=.slice (some ⟨wb,0,none⟩) nw wc) rfl (jln ?_))
  refine jc (A:=[]) (t_l5Ints hrv (by omega)) ?_
  rintro _ R7 _ hR7 ⟨b5,c5,sp5,hc5,hsp5,rfl,rfl⟩
  have hb7:=hb6.le hR7
  refine jand (jl (v:=.slice (some ⟨wb,0,none⟩) nw wc) rfl jev) (jpk hb7 ⟨by omega,by omega⟩ λx _ _=>jbs (cs:=[I x]) rfl rfl λbs=>?_)
  refine jas1 (l:=t.roots) (A:=[(b5,C T_int (t.roots.map I ++ sp5))]) (.inr ⟨b5,c5,sp5,hc5,hsp5,rfl,rfl⟩) (by omega) λv' A' so'=>jfso so' λR8 hR8 hi=>?_
  obtain⟨xa,xc,e6⟩:=hi.sl
  subst e6
  refine js (cs':=[.slice xa (t.roots ++ [x]).length xc,I t.next,.bool t.busy,I t.tried]) rfl rfl (by simp) rfl ?_
  refine jl (v:=.slice (some ⟨bt,0,none⟩) _ ct) rfl (jla (l:=[.slice xa (t.roots ++ [x]).length xc,I t.next,.bool t.busy,I t.tried]) (by exact z_n 4) rfl (jia (by omega) (by simp) ?_))
  refine js (cs':=([.slice xa (t.roots ++ [x]).length xc,I t.next,.bool t.busy,I t.tried] :: rr).flatten ++ sp) rfl rfl (by simp) rfl ?_
  refine jfront b38 (jdrop ?_)
  refine fin { s with threads:={ t with roots:=t.roots ++ [x] } :: ts } _ (.slice (some ⟨bt,0,none⟩) _ ct) ([.slice xa (t.roots ++ [x]).length xc,I t.next,.bool t.busy,I t.tried] :: rr) [(bt,C 78 (([.slice xa (t.roots ++ [x]).length xc,I t.next,.bool t.busy,I t.tried] :: rr).flatten ++ sp))] R8 (hR7.trans hR8) { sb.mono with n0:=by simp,n1:=by have:=sb.n1;rw[e1] at this;simpa using this,rl:=λu hu=>?_ } w1 w3 rfl rfl rfl ?_ (.inr ⟨bt,ct,sp,q1,q2,rfl,rfl⟩) (by omega) (by omega)
  ·rcases List.mem_cons.1 hu with hu | hu
   ·subst hu;show (t.roots ++ [x]).length≤9;rw[List.length_append];simp;omega
   ·exact sb.mono.rl u (by rw[e1];exact List.mem_cons_of_mem _ hu)
  ·exact Rw.app (r1:=[_]) (l1:=[_]) (Rw.one ⟨_,rfl,hi⟩) (hrr.mono λ_ _=>ThrC.le (hR7.trans hR8))
 ·refine jl (v:=.slice (some ⟨tb,0,none⟩) nt tc) rfl (jln (jsub ⟨by omega,by omega⟩ (jpk hb6 ⟨by omega,by omega⟩ λi _ _=>jadd ⟨by omega,by omega⟩ ?_)))
  obtain⟨k,hk⟩:∃k:Nat,1 + i = k:=⟨(1 + i).toNat,by omega⟩
  rw[hk]
  have hkl:k < s.table.length:=by omega
  obtain⟨p0,p1⟩:=sb.tp _ (List.getElem_mem hkl)
  refine jl (v:=.slice (some ⟨tb,0,none⟩) nt tc) rfl (jian (by omega) (jlrow hkl (ja λb64=>js (cs':=eRg s.table[k]) rfl rfl (by exact z_n 5) rfl ?_)))
  refine jl (v:=I (s.table[k]).top) rfl (jpk hb6 ⟨by omega,by omega⟩ λz _ _=>jadd ⟨by omega,by omega⟩ (jsub ⟨by omega,by omega⟩ (jand (jl (v:=I (s.table[k]).top) rfl jev) ?_)))
  refine js (cs':=eRg { s.table[k] with top:=(s.table[k]).top + z - 1 }) rfl rfl (by simp) rfl ?_
  refine jl (v:=.slice (some ⟨tb,0,none⟩) nt tc) rfl (jla (l:=eRg { s.table[k] with top:=(s.table[k]).top + z - 1 }) (by exact z_n 5) rfl (jian (by omega) ?_))
  refine jsrow (x:={ s.table[k] with top:=(s.table[k]).top + z - 1 }) hkl ?_
  refine jfront b64 (jdrop ?_)
  exact fin { s with table:=s.table.set k { s.table[k] with top:=(s.table[k]).top + z - 1 } } _ thv rows A R6 (RM.le.refl _) (sb.row k (by show -900≤(s.table[k]).top + z - 1;omega) (by show (s.table[k]).top + z - 1≤900;omega)) w1 (by simpa using w3) rfl rfl rfl hrw so (by omega) (by omega)
 ·refine jbs (cs:=[I (-1),I 4,I 2]) rfl rfl λbt=>jpk hb6 ⟨by omega,by omega⟩ λz _ _=>jia (by omega) (by omega) (jl (sel_get [-1,4,2] (by omega) (by show _ < (3:Int);omega)) ?_)
  refine js (cs':=eSt { s with phase:=sel [-1,4,2] z } (.slice (some ⟨wb,0,none⟩) nw wc) (.slice (some ⟨tb,0,none⟩) nt tc) mv thv ov pv) rfl rfl (by exact Nat.le_of_ble_eq_true rfl) rfl (jfront bt (jdrop ?_))
  exact fin { s with phase:=sel [-1,4,2] z } _ thv rows A R6 (RM.le.refl _) { sb.mono with } w1 w3 rfl rfl rfl hrw so (by omega) (by omega)
 ·obtain⟨t,ts,rv,rr,bt,ct,sp,e1,e2,hrv,hrr,q1,q2,e3,e4⟩:=th0 hrw so sb.n0
  subst e2 e3 e4
  obtain⟨ra,rc,e5⟩:=hrv.sl
  subst e5
  refine jl (v:=.slice (some ⟨bt,0,none⟩) _ ct) rfl (jia (by omega) (by simp) (jla (l:=[.slice ra t.roots.length rc,I t.next,.bool t.busy,I t.tried]) (by simp) rfl ?_))
  refine ja λb38=>js (cs':=[.slice ra t.roots.length rc,I t.next,.bool t.busy,I t.tried]) rfl rfl (by exact z_n 4) rfl ?_
  refine jl (v:=.bool t.busy) rfl (js (cs':=[.slice ra t.roots.length rc,I t.next,.bool (!t.busy),I t.tried]) rfl rfl (by simp) rfl ?_)
  refine jl (v:=.slice (some ⟨bt,0,none⟩) _ ct) rfl (jla (l:=[.slice ra t.roots.length rc,I t.next,.bool (!t.busy),I t.tried]) (by exact z_n 4) rfl (jia (by omega) (by simp) ?_))
  refine js (cs':=([.slice ra t.roots.length rc,I t.next,.bool (!t.busy),I t.tried] :: rr).flatten ++ sp) rfl rfl (by simp) rfl ?_
  refine jfront b38 (jdrop ?_)
  refine fin { s with threads:={ t with busy:=!t.busy } :: ts } _ (.slice (some ⟨bt,0,none⟩) _ ct) ([.slice ra t.roots.length rc,I t.next,.bool (!t.busy),I t.tried] :: rr) [(bt,C 78 (([.slice ra t.roots.length rc,I t.next,.bool (!t.busy),I t.tried] :: rr).flatten ++ sp))] R6 (RM.le.refl _) { sb.mono with n0:=by simp,n1:=by have:=sb.n1;rw[e1] at this;simpa using this,rl:=λu hu=>?_ } w1 w3 rfl rfl rfl ?_ (.inr ⟨bt,ct,sp,q1,q2,rfl,rfl⟩) (by omega) (by omega)
  ·rcases List.mem_cons.1 hu with hu | hu
   ·subst hu;exact sb.mono.rl t (by rw[e1];simp)
   ·exact sb.mono.rl u (by rw[e1];exact List.mem_cons_of_mem _ hu)
  ·exact Rw.app (r1:=[_]) (l1:=[_]) (Rw.one ⟨_,rfl,hrv⟩) hrr
 ·refine jl (v:=.slice (some ⟨tb,0,none⟩) nt tc) rfl (jln (jsub ⟨by omega,by omega⟩ (jpk hb6 ⟨by omega,by omega⟩ λi _ _=>jadd ⟨by omega,by omega⟩ ?_)))
  obtain⟨k,hk⟩:∃k:Nat,1 + i = k:=⟨(1 + i).toNat,by omega⟩
  rw[hk]
  have hkl:k < s.table.length:=by omega
  refine jl (v:=.slice (some ⟨tb,0,none⟩) nt tc) rfl (jian (by omega) (jlrow hkl (ja λb64=>js (cs':=eRg s.table[k]) rfl rfl (by exact z_n 5) rfl ?_)))
  refine jpk hb6 ⟨by omega,by omega⟩ λz _ _=>js (cs':=eRg { s.table[k] with kind:=z }) rfl rfl (by simp) rfl ?_
  refine jl (v:=.slice (some ⟨tb,0,none⟩) nt tc) rfl (jla (l:=eRg { s.table[k] with kind:=z }) (by exact z_n 5) rfl (jian (by omega) ?_))
  refine jsrow (x:={ s.table[k] with kind:=z }) hkl ?_
  refine jfront b64 (jdrop ?_)
  obtain⟨p0,p1⟩:=sb.tp _ (List.getElem_mem hkl)
  exact fin { s with table:=s.table.set k { s.table[k] with kind:=z } } _ thv rows A R6 (RM.le.refl _) (sb.row k (by show -900≤(s.table[k]).top;omega) (by show (s.table[k]).top≤900;omega)) w1 (by simpa using w3) rfl rfl rfl hrw so (by omega) (by omega)
 ·exact fin s _ thv rows A R6 (RM.le.refl _) sb.mono w1 w3 rfl rfl rfl hrw so (by omega) (by omega)
end draws
end Go.Lf
end
section
namespace Go.Lf
open Go Sm
section draws
variable {R:RM} {rb:Nat} {v:Value} {m:Int}
def DTb (R:RM) (rb:Nat) (v:Value) (m c:Int) (x:Value) (R' : RM) (A:Chs):Prop:=
 ∃(t:List Rg) (tb tc:Nat) (tsp:List Value) (m' : Int),1≤t.length∧t.length≤12∧t.length≤tc∧m≤m'∧m'≤m + c∧x = .slice (some ⟨tb,0,none⟩) t.length tc∧A = [(rb,rdO v m'),(tb,C T_Region (rowsE eRg t ++ tsp))]
theorem d_l20Table (hb:Byt R v) (hm:0≤m∧m < 100000000):Fn P F_s_l20Table [.pointer (some ⟨rb,0,none⟩)] R [(rb,rdO v m)] (DTb R rb v m 2100000):=by
 refine s_s_l20Table λF=>?_
 unfold c_s_l20Table
 refine jc (A:=[(rb,rdO v m)]) (d_l20State hb hm) ?_
 rintro _ R1 _ hR1 ⟨s,wv,mv,thv,ov,pv,tb,tc,tsp,m1,sb,hw,hmv,hth,hov,hpv,htc,h1,h2,rfl,rfl⟩
 have t0:=sb.t0
 have t1:=sb.t1
 have hb1:=hb.le hR1
 show J R1 ([(rb,rdO v m1),(tb,C T_Region (rowsE eRg s.table ++ tsp))] ++ F) (CUT _ _ _)
 obtain⟨nt,hnt⟩:∃nt,s.table.length = nt:=⟨_,rfl⟩
 rw[hnt]
 have htp:∀x∈s.table,-900≤x.top∧x.top≤900:=λx hx=>by have:=sb.tp x hx;omega
 have n0:2≤nt:=by omega
 have n1:nt≤12:=by omega
 have n2:nt≤tc:=by omega
 generalize s.table = t at hnt htp ⊢
 refine jcutq (λvs R' D'=>R' = R1∧∃(t:List Rg) (m2:Int),t.length = nt∧(∀x∈t,-900≤x.top∧x.top≤900)∧m≤m2∧m2≤m + 2050000∧D' = (rb,rdO v m2) :: (tb,C T_Region (rowsE eRg t ++ tsp)) :: F∧vs = [.pointer (some ⟨rb,0,none⟩),.slice (some ⟨tb,0,none⟩) nt tc]) (λK hK=>?_) ?_
 ·refine jcutq (λvs R' D'=>R' = R1∧∃(t:List Rg) (m2:Int),t.length = nt∧(∀x∈t,-900≤x.top∧x.top≤900)∧m≤m2∧m2≤m + 2050000∧D' = (rb,rdO v m2) :: (tb,C T_Region (rowsE eRg t ++ tsp)) :: F∧vs = [.pointer (some ⟨rb,0,none⟩),.slice (some ⟨tb,0,none⟩) nt tc]) (λK2 hK2=>?_) ?_
  rotate_left
  ·rintro e R2 D2 ⟨hR2,t,m2,q1,q2,q3,q4,hD,he⟩
   simp only[List.map,lc,ln,lj,z_t] at he
   simp only[he]
   exact hK _ _ _ ⟨hR2,t,m2,q1,q2,q3,q4,hD,rfl⟩
  refine jlp (λmm vs R' D'=>R' = R1∧∃(i:Nat) (t:List Rg) (m2:Int),1≤i∧i≤12∧t.length = nt∧(∀x∈t,-900≤x.top∧x.top≤900)∧m≤m2∧m2≤m1 + 2 * i∧D' = (rb,rdO v m2) :: (tb,C T_Region (rowsE eRg t ++ tsp)) :: F∧vs = [.pointer (some ⟨rb,0,none⟩),.slice (some ⟨tb,0,none⟩) nt tc,I i]∧mm = 12 - i)
   (n:=11) ⟨rfl,1,t,m1,by omega,by omega,hnt,htp,by omega,by omega,rfl,rfl,rfl⟩ ?_
  clear hnt htp
  rintro mm e R2 D2 K3 ⟨hR2,i,t,m2,i1,i2,hnt,htp,q3,q4,hD,he,hmm⟩ hK3
  subst hR2
  rw[hD];clear hD
  simp only[List.map,lc,ln,lj,z_t] at he
  simp only[he]
  refine jln (jlt (jif (λh=>?_) (λh=>?_)))
  rotate_left
  ·exact hK2 _ _ _ ⟨rfl,t,m2,hnt,htp,q3,by omega,rfl,rfl⟩
  have h:=z_f h
  have hil:i < t.length:=by omega
  refine jcutq (λvs R' D'=>R' = R2∧∃(t:List Rg) (m3:Int),t.length = nt∧(∀x∈t,-900≤x.top∧x.top≤900)∧m2≤m3∧m3≤m2 + 2∧D' = (rb,rdO v m3) :: (tb,C T_Region (rowsE eRg t ++ tsp)) :: F∧vs = [.pointer (some ⟨rb,0,none⟩),.slice (some ⟨tb,0,none⟩) nt tc,I i]) (λK4 hK4=>?_) ?_
  rotate_left
  ·rintro e R3 D3 ⟨hR3,t,m3,q5,q6,q7,q8,hD,he⟩
   subst hR3
   rw[hD];clear hD
   simp only[List.map,lc,ln,lj,z_t] at he
   simp only[he]
   refine jadd ⟨by omega,by omega⟩ ?_
   exact hK3 (12 - (i + 1)) _ _ _ (by omega) ⟨rfl,i + 1,t,m3,by omega,by omega,q5,q6,by omega,by omega,rfl,rfl,rfl⟩
  refine jcutq (λvs R' D'=>R' = R2∧∃(t:List Rg) (m3:Int),t.length = nt∧(∀x∈t,-900≤x.top∧x.top≤900)∧m2≤m3∧m3≤m2 + 2∧D' = (rb,rdO v m3) :: (tb,C T_Region (rowsE eRg t ++ tsp)) :: F∧vs = [.pointer (some ⟨rb,0,none⟩),.slice (some ⟨tb,0,none⟩) nt tc,I i]) (λK5 hK5=>?_) ?_
  rotate_left
  ·rintro e R3 D3 ⟨hR3,t,m3,q5,q6,q7,q8,hD,he⟩
   simp only[List.map,lc,ln,lj,z_t] at he
   simp only[he]
   exact hK4 _ _ _ ⟨hR3,t,m3,q5,q6,q7,q8,hD,rfl⟩
  refine jcutq (λvs R' D'=>R' = R2∧∃c u w,And2 c u w∧D' = (rb,rdO v (m2 + 1)) :: (tb,C T_Region (rowsE eRg t ++ tsp)) :: F∧vs = [.pointer (some ⟨rb,0,none⟩),.slice (some ⟨tb,0,none⟩) nt tc,I i,c,u]) (λK6 hK6=>?_) ?_
  ·refine jpk hb1 ⟨by omega,by omega⟩ λy _ _=>jeq (jgtt (λq=>jian (by omega) (jfo (jl (v:=I (t[i]).kind) (by rw[Nat.zero_add];exact row_cell (f:=0) hil rfl) (jeq ?_)))) (λq=>?_))
   ·exact hK6 _ _ _ ⟨rfl,_,_,_,q▸and2_t,rfl,rfl⟩
   ·exact hK6 _ _ _ ⟨rfl,_,_,_,q▸and2_f,rfl,rfl⟩
  rintro e R3 D3 ⟨hR3,c,u,w,ho,hD,he⟩
  subst hR3
  rw[hD];clear hD
  simp only[List.map,lc,ln,lj,z_t] at he
  simp only[he]
  rw[ho]
  refine jif (λhw=>?_) (λhw=>?_)
  ·obtain⟨p0,p1⟩:=htp _ (List.getElem_mem hil)
   have hbase:regionBase (i:Int) = 16 * i:=by unfold regionBase;split<;>omega
   refine jian (by omega) (jlrow hil (ja λb52=>js (cs':=eRg t[i]) rfl rfl (by exact z_n 5) rfl ?_))
   refine jl (v:=I (t[i]).top) rfl (js (cs':=eRg { t[i] with tams:=(t[i]).top }) rfl rfl (by simp) rfl ?_)
   refine jl (v:=I (t[i]).top) rfl (jp (p_RegionBase i) ?_)
   rw[hbase]
   refine jsub ⟨by omega,by omega⟩ (jadd ⟨by omega,by omega⟩ (jand (jl (v:=I (t[i]).top) rfl jev) (jpk hb1 ⟨by omega,by omega⟩ λz _ _=>?_)))
   refine js (cs':=eRg { t[i] with tams:=(t[i]).top,live:=z }) rfl rfl (by simp) rfl ?_
   refine jla (l:=eRg { t[i] with tams:=(t[i]).top,live:=z }) (by exact z_n 5) rfl (jian (by omega) ?_)
   refine jsrow (x:={ t[i] with tams:=(t[i]).top,live:=z }) hil (jk2 (F:=F) rb tb ?_)
   refine hK5 _ _ _ ⟨rfl,t.set i { t[i] with tams:=(t[i]).top,live:=z },_,by simpa using hnt,λx hx=>?_,by omega,by omega,rfl,rfl⟩
   rcases List.mem_or_eq_of_mem_set hx with hx | hx
   ·exact htp x hx
   ·subst hx;exact⟨p0,p1⟩
  ·exact hK5 _ _ _ ⟨rfl,t,_,hnt,htp,by omega,by omega,rfl,rfl⟩
 clear hnt htp
 rintro e R2 D2 ⟨hR2,t,m2,hnt,htp,q3,q4,hD,he⟩
 subst hR2
 rw[hD];clear hD
 simp only[List.map,lc,ln,lj,z_t] at he
 simp only[he]
 have fin:∀(t' : List Rg) (sp' : List Value) (m3:Int),1≤t'.length→t'.length≤nt→m2≤m3→m3≤m2 + 5→J R2 ((rb,rdO v m3) :: (tb,C T_Region (rowsE eRg t' ++ sp')) :: F) (POST R F (DTb R rb v m 2100000) (.slice (some ⟨tb,0,none⟩) t'.length tc)):=λt' sp' m3 a1 a2 a3 a4=>
  jret (A:=[(rb,rdO v m3),(tb,C T_Region (rowsE eRg t' ++ sp'))]) hR1 ⟨t',tb,tc,sp',m3,a1,by omega,by omega,by omega,by omega,rfl,rfl⟩
 refine jcutq (λvs R' D'=>R' = R2∧∃(t' : List Rg) (sp' : List Value) (m3:Int),1≤t'.length∧t'.length≤nt∧m2≤m3∧m3≤m2 + 5∧D' = (rb,rdO v m3) :: (tb,C T_Region (rowsE eRg t' ++ sp')) :: F∧vs = [.slice (some ⟨tb,0,none⟩) t'.length tc]) (λK hK=>?_) ?_
 rotate_left
 ·rintro e R3 D3 ⟨hR3,t',sp',m3,a1,a2,a3,a4,hD,he⟩
  subst hR3
  rw[hD];clear hD
  simp only[List.map,lc,ln,lj,z_t] at he
  simp only[he]
  exact fin t' sp' m3 a1 a2 a3 a4
 refine jpk hb1 ⟨by omega,by omega⟩ λy _ _=>?_
 refine jcutq (λvs R' D'=>R' = R2∧∃(t' : List Rg) (sp' : List Value) (m3:Int),1≤t'.length∧t'.length≤nt∧m2≤m3∧m3≤m2 + 5∧D' = (rb,rdO v m3) :: (tb,C T_Region (rowsE eRg t' ++ sp')) :: F∧vs = [.slice (some ⟨tb,0,none⟩) t'.length tc]) (λK2 hK2=>?_) ?_
 rotate_left
 ·rintro e R3 D3 ⟨hR3,t',sp',m3,a1,a2,a3,a4,hD,he⟩
  simp only[List.map,lc,ln,lj,z_t] at he
  simp only[he]
  exact hK _ _ _ ⟨hR3,t',sp',m3,a1,a2,a3,a4,hD,rfl⟩
 have row:∀(k:Nat) (x:Rg) (m3:Int),k < t.length→m2≤m3→m3≤m2 + 5→J R2 ((rb,rdO v m3) :: (tb,C T_Region (rowsE eRg (t.set k x) ++ tsp)) :: F) (K2 [.slice (some ⟨tb,0,none⟩) nt tc]):=λk x m3 _ a3 a4=>
  hK2 _ _ _ ⟨rfl,t.set k x,tsp,m3,by rw[List.length_set];omega,by rw[List.length_set];omega,a3,a4,rfl,by rw[List.length_set,hnt]⟩
 have h0:0 < t.length:=by omega
 have h1' : 1 < t.length:=by omega
 refine jeq (jif (λ_=>?_) (λ_=>jeq (jif (λ_=>?_) (λ_=>jeq (jif (λ_=>?_) (λ_=>jeq (jif (λ_=>?_) (λ_=>?_))))))))
 ·intro h hs
  refine⟨⟨by decide,by omega⟩,?_⟩
  have e1:rowsE eRg t = rowsE eRg (t.take 1) ++ rowsE eRg (t.drop 1):=by
   unfold rowsE
   rw[← List.flatten_append,← List.map_append,List.take_append_drop]
  rw[e1,List.append_assoc] at hs
  have hl1:(t.take 1).length = 1:=by rw[List.length_take];omega
  exact hK2 _ _ _ ⟨rfl,t.take 1,_,m2 + 1,by omega,by omega,by omega,by omega,rfl,by rw[hl1];rfl⟩ h hs
 ·refine jian (r:=1) (by omega) (jlrow h1' (ja λb52=>js (cs':=eRg t[1]) rfl rfl (by exact z_n 5) rfl ?_))
  refine jpk hb1 ⟨by omega,by omega⟩ λz _ _=>jsub ⟨by omega,by omega⟩ (js (cs':=eRg { t[1] with owner:=z - 2 }) rfl rfl (by simp) rfl ?_)
  refine jla (l:=eRg { t[1] with owner:=z - 2 }) (by exact z_n 5) rfl (jian (r:=1) (by omega) ?_)
  refine jsrow (x:={ t[1] with owner:=z - 2 }) h1' (jk2 (F:=F) rb tb ?_)
  exact row 1 _ _ h1' (by omega) (by omega)
 ·obtain⟨p0,p1⟩:=htp _ (List.getElem_mem h1')
  refine jian (r:=1) (by omega) (jlrow h1' (ja λb52=>js (cs':=eRg t[1]) rfl rfl (by exact z_n 5) rfl ?_))
  refine jl (v:=I (t[1]).top) rfl (jadd ⟨by omega,by omega⟩ (js (cs':=eRg { t[1] with tams:=(t[1]).top + 1 }) rfl rfl (by simp) rfl ?_))
  refine jla (l:=eRg { t[1] with tams:=(t[1]).top + 1 }) (by exact z_n 5) rfl (jian (r:=1) (by omega) ?_)
  refine jsrow (x:={ t[1] with tams:=(t[1]).top + 1 }) h1' (jk2 (F:=F) rb tb ?_)
  exact row 1 _ _ h1' (by omega) (by omega)
 ·refine jian (r:=0) (by omega) (jlrow h0 (ja λb52=>js (cs':=eRg t[0]) rfl rfl (by exact z_n 5) rfl ?_))
  refine js (cs':=eRg { t[0] with kind:=1 }) rfl rfl (by simp) rfl ?_
  refine jla (l:=eRg { t[0] with kind:=1 }) (by exact z_n 5) rfl (jian (r:=0) (by omega) ?_)
  refine jsrow (x:={ t[0] with kind:=1 }) h0 (jk2 (F:=F) rb tb ?_)
  exact row 0 _ _ h0 (by omega) (by omega)
 ·exact hK2 _ _ _ ⟨rfl,t,tsp,_,by omega,by omega,by omega,by omega,rfl,by rw[hnt]⟩
end draws
end Go.Lf
end
section
namespace Go.Lf
open Go Sm
section rules
variable {R:RM} {D:Chs} {k:Value→M}
end rules
theorem p_i_RegionBase (r:Int):Pu F_i_RegionBase [I r] (I (regionBase r)):=λR=>s_i_RegionBase λF=>q_RegionBase r R F
end Go.Lf
end
section
namespace Go.Lf
open Go Sm
end Go.Lf
end
section
namespace Go.Lf
open Go Sm
def Cod (R:RM) (v:Value):Prop:=∃n,Bsl R v n
theorem d_DrawTableRoom {R:RM} {v:Value} (hc:Cod R v):Fn P F_s_DrawTableRoom [v] R [] (λx R' A=>∃(t:List Rg) (tb tc:Nat) (tsp:List Value) (o z:Int),x = .tuple #[.slice (some ⟨tb,0,none⟩) t.length tc,I o,I z]∧1≤t.length∧t.length≤12∧t.length≤tc∧-1≤o∧o≤4∧-1≤z∧z≤17∧A = [(tb,C T_Region (rowsE eRg t ++ tsp))]):=by
 refine s_s_DrawTableRoom λF=>?_
 unfold c_s_DrawTableRoom
 obtain⟨n,hf⟩:=hc
 refine jc (A:=[]) (d_l1Open hf) ?_
 rintro _ R1 _ _ ⟨hR,rb,v',rfl,rfl,hb⟩
 subst hR
 refine jc (A:=[(rb,rdO v' 0)]) (d_l20Table hb (by decide)) ?_
 rintro _ R2 _ hR2 ⟨t,tb,tc,tsp,m2,h1,h2,h3,h4,h5,rfl,rfl⟩
 refine jpk (hb.le hR2) ⟨by omega,by omega⟩ λy _ _=>jsub ⟨by omega,by omega⟩ (jpk (hb.le hR2) ⟨by omega,by omega⟩ λz _ _=>jsub ⟨by omega,by omega⟩ ?_)
 exact jret (A:=[(tb,C T_Region (rowsE eRg t ++ tsp))]) hR2 ⟨t,tb,tc,tsp,_,_,rfl,h1,h2,h3,by omega,by omega,by omega,by omega,rfl⟩
end Go.Lf
end
section
namespace Go.Lf
open Go Sm
end Go.Lf
end
section
namespace Go.Lf
open Go Sm
end Go.Lf
end
section
namespace Go.Lf
open Go Sm
theorem x_map:P.underlying 48 = some (.map 3 4):=by kernel_rfl
theorem x_int:P.underlying 3 = some (.int .i64):=by kernel_rfl
theorem x_zb (w:World):(zeroValue 4).run P w = .ok (.bool false) w:=by kernel_rfl
def MpI (o:Obj) (q:Int→Prop):Prop:=∃es clock,o = .map es clock∧(∀e∈es.toList,∃x,e.key = I x∧q x∧e.val = .bool true)∧∀x,q x→∃e∈es.toList,e.key = I x
section rules
variable {R:RM} {D:Chs} {k:Value→M}
theorem jXr {s:Sem Value} (H:∀h,St h R D→∀w:World,w.heap = h→∃v w',s.run P w = .ok v w'∧Same w w'∧∃D',St w'.heap R D'∧J R D' (k v)):J R D (X P s k):=by
 intro h hs w hw
 have:=H h hs w hw
 generalize s.run P w = r at this
 obtain⟨v,w',rfl,h1,D',h2,h3⟩:=this
 exact⟨h1,h3 _ h2⟩
theorem jmap (H:∀b o,MpI o (λ_=>False)→J R ((b,o) :: D) (k (.map (some b)))):J R D (X P (Instr.makeMap 48 none) k):=by
 intro h hs w hw
 rw[show (Instr.makeMap 48 none).run P w = .ok (.map (some w.heap.size)) (w.alloc (.map #[] 0)) from rfl]
 subst hw
 exact⟨⟨rfl,rfl⟩,H _ _ ⟨#[],0,rfl,by simp,λ_ hx=>hx.elim⟩ _ hs.push⟩
theorem keys_is {es:Array MapEntry} {q:Int→Prop} (h:∀e∈es.toList,∃x,e.key = I x∧q x∧e.val = .bool true):∀e∈es.toList,MapKept.IsKey (.int .i64) e.key:=λe he=>by
 obtain⟨x,hx,_⟩:=h e he
 rw[hx];rfl
theorem lk_run {w:World} {b:Nat} {o:Obj} {q:Int→Prop} {x:Int} {t:Bool} (hb:w.heap[b]? = some o) (hm:MpI o q) (ht:q x↔t = true):(Instr.lookup 48 (.map (some b)) (I x) false).run P w = .ok (.bool t) w:=by
 obtain⟨es,clock,rfl,h1,h2⟩:=hm
 have hk:MapKept.IsKey (.int .i64) (I x):=rfl
 have run:∃c,(Instr.lookup 48 (.map (some b)) (I x) false).run P w = .ok (.bool c) w∧(c = true↔q x):=by
  rcases MapKept.findNow_spec hk es.toList 0 (keys_is h1) with ⟨f1,f2⟩ | ⟨j,e0,f1,f2,f3⟩
  ·refine⟨false,?_,⟨(λh=>by cases h),λhq=>?_⟩⟩
   ·simp[Instr.lookup,run_underlying x_map,MapKept.run_getObj_map hb,MapKept.run_checkKey x_int hk,MapKept.run_findKey x_int f1,x_zb,Result.andThen]
   ·obtain⟨e,he,hx⟩:=h2 x hq
    exact absurd hx (f2 e he)
  ·obtain⟨y,hy,hq,hv⟩:=h1 e0 (List.mem_of_getElem? f2)
   have:y = x:=by
    have:=hy.symm.trans f3
    exact (Value.int.inj this).2
   subst this
   refine⟨true,?_,⟨λ_=>hq,λ_=>rfl⟩⟩
   simp[Instr.lookup,run_underlying x_map,MapKept.run_getObj_map hb,MapKept.run_checkKey x_int hk,MapKept.run_findKey x_int f1,hv,Result.andThen]
 obtain⟨c,hr,hc⟩:=run
 have:c = t:=by
  have:=hc.trans ht
  cases c<;>cases t<;>simp_all
 subst this
 exact hr
theorem jlk {b:Nat} {o:Obj} {q:Int→Prop} {x:Int} {t:Bool} [a:At D b o] (hm:MpI o q) (ht:q x↔t = true) (H:J R D (k (.bool t))):J R D (X P (Instr.lookup 48 (.map (some b)) (I x) false) k):=
 @jXr R D k _ λh hs w hw=>⟨_,_,lk_run (by rw[hw];exact (hs.at_ b _ a.m).1) hm ht,Same.refl _,D,by rw[hw];exact hs,H⟩
theorem mu_run {w:World} {b:Nat} {o:Obj} {q:Int→Prop} {x:Int} (hb:w.heap[b]? = some o) (hm:MpI o q):∃o',MpI o' (λy=>q y∨y = x)∧(do Instr.mapUpdate 48 (.map (some b)) (I x) (.bool true);pure undef).run P w = .ok U (ChangeMaps.setBlock w b o')∧(∀b',b'≠b→(ChangeMaps.setBlock w b o').heap[b']? = w.heap[b']?)∧(ChangeMaps.setBlock w b o').heap[b]? = some o':=by
 obtain⟨es,clock,rfl,h1,h2⟩:=hm
 have hk:MapKept.IsKey (.int .i64) (I x):=rfl
 have run:∃es' clock',(Instr.mapUpdate 48 (.map (some b)) (I x) (.bool true)).run P w = .ok () (ChangeMaps.setBlock w b (.map es' clock'))∧MpI (.map es' clock') (λy=>q y∨y = x):=by
  rcases MapKept.findNow_spec hk es.toList 0 (keys_is h1) with ⟨f1,f2⟩ | ⟨j,e0,f1,f2,f3⟩
  ·refine⟨es.push ⟨I x,.bool true,clock⟩,clock + 1,?_,_,_,rfl,?_,?_⟩
   ·simp[Instr.mapUpdate,run_underlying x_map,MapKept.run_getObj_map hb,MapKept.run_checkKey x_int hk,MapKept.run_findKey x_int f1,MapKept.run_setObj_map _ hb,Result.andThen,ChangeMaps.setBlock]
   ·intro e he
    simp only[Array.toList_push,List.mem_append,List.mem_singleton] at he
    rcases he with he | rfl
    ·obtain⟨y,a1,a2,a3⟩:=h1 e he
     exact⟨y,a1,.inl a2,a3⟩
    ·exact⟨x,rfl,.inr rfl,rfl⟩
   ·rintro y (hy | rfl)
    ·obtain⟨e,he,a1⟩:=h2 y hy
     exact⟨e,by simp only[Array.toList_push,List.mem_append];exact .inl he,a1⟩
    ·exact⟨⟨I y,.bool true,clock⟩,by simp,rfl⟩
  ·have hj:es[j]? = some e0:=by rw[← Array.getElem?_toList];exact f2
   have hlt:j < es.size:=(Array.getElem?_eq_some_iff.1 hj).1
   obtain⟨x0,hx0,hq0,hv0⟩:=h1 e0 (List.mem_of_getElem? f2)
   have hx:x0 = x:=(Value.int.inj (hx0.symm.trans f3)).2
   subst hx
   refine⟨es.modify j (λe=>{ e with key:=I x0,val:=.bool true }),clock,?_,_,_,rfl,?_,?_⟩
   ·simp[Instr.mapUpdate,run_underlying x_map,MapKept.run_getObj_map hb,MapKept.run_checkKey x_int hk,MapKept.run_findKey x_int f1,hj,f3,MapKept.run_keyThatStays hk,MapKept.run_setObj_map _ hb,Result.andThen,ChangeMaps.setBlock]
   ·intro e he
    obtain⟨i,hi⟩:=List.mem_iff_getElem?.1 he
    rw[Array.getElem?_toList,Array.getElem?_modify] at hi
    split at hi
    ·rename_i hij;subst hij
     rw[hj] at hi
     cases hi
     exact⟨x0,rfl,.inr rfl,rfl⟩
    ·obtain⟨y,a1,a2,a3⟩:=h1 e (by rw[← Array.getElem?_toList] at hi;exact List.mem_of_getElem? hi)
     exact⟨y,a1,.inl a2,a3⟩
   ·intro y hy
    have hy:q y:=by rcases hy with hy | rfl;exact hy;exact hq0
    obtain⟨e,he,a1⟩:=h2 y hy
    obtain⟨i,hi⟩:=List.mem_iff_getElem?.1 he
    rw[Array.getElem?_toList] at hi
    by_cases hij:j = i
    ·subst hij
     rw[hj] at hi;cases hi
     exact⟨{ e0 with key:=I x0,val:=.bool true },List.mem_of_getElem? (i:=j) (by rw[Array.getElem?_toList,Array.getElem?_modify,if_pos rfl,hj];rfl),by show I x0 = I y;rw[← hx0];exact a1⟩
    ·exact⟨e,List.mem_of_getElem? (i:=i) (by rw[Array.getElem?_toList,Array.getElem?_modify,if_neg hij];exact hi),a1⟩
 obtain⟨es',clock',hr,hq⟩:=run
 have hst:=MapKept.heap_set (o':=.map es' clock') hb
 exact⟨_,hq,by rw[Sem.run_bind,hr];rfl,hst.2,hst.1⟩
theorem jmu {b:Nat} {o:Obj} {E:Chs} {q:Int→Prop} {x:Int} [t:Tk D b o E] (hm:MpI o q) (H:∀o',MpI o' (λy=>q y∨y = x)→J R ((b,o') :: E) (k U)):J R D (X P (do Instr.mapUpdate 48 (.map (some b)) (I x) (.bool true);pure undef) k):=
 @jXr R D k _ λh hs w hw=>(mu_run (w:=w) (x:=x) (by rw[hw];exact ((hs.perm t.p).at_ b _ (.head _)).1) hm).elim λo' h=>⟨U,_,h.2.1,⟨rfl,rfl⟩,_,(hs.perm t.p).turn (b:=b) (o:=o) (o':=o') h.2.2.2 (by rw[← hw];exact h.2.2.1),H _ h.1⟩
end rules
end Go.Lf
end
section
namespace Go.Lf
open Go Sm
set_option maxHeartbeats 1000000 in
theorem p_i_Region_ok (x:Rg) {r:Int} (r0:0≤r) (r1:r < 12):Pu F_i_Region_ok [.agg (eRg x).toArray,I r] (.bool (rowOk r x)):=by
 intro R
 refine s_i_Region_ok λF=>?_
 unfold c_i_Region_ok
 have hb:regionBase r = 16 * r:=base_eq r0 r1
 refine ja λb=>jp (p_i_RegionBase r) ?_
 rw[hb]
 have key:rowOk r x = true↔(¬ x.kind < 1∧¬ x.kind > 4∧¬ x.top < 16 * r∧¬ x.top > 16 * r + 16∧¬ x.tams < 16 * r∧¬ x.tams > x.top∧¬ x.live < 0∧¬ x.live > x.top - 16 * r∧¬ (x.kind = 1∧x.top≠16 * r))∧(if x.kind = 2 then 0≤x.owner∧x.owner≤3 else x.owner = -1):=by
  unfold rowOk
  rw[hb]
  simp only[z_b,Bool.or_eq_true,Bool.not_eq_true',z_d,beq_iff_eq,beq_eq_false_iff_ne]
  by_cases h2:x.kind = 2
  ·rw[if_pos h2,h2];simp;omega
  ·rw[if_neg h2,show (x.kind == 2) = false from beq_eq_false_iff_ne.2 h2]
   by_cases ho:0≤x.owner
   ·simp[ho];omega
   ·simp[ho];omega
 have fin:∀{c:Bool} {D:Chs} [Sf D F],c = rowOk r x→J R D (POST R F (λv' _ _=>v' = .bool (rowOk r x)) (.bool c)):=λ{c D} _ hc=>jret (A:=[]) (RM.le.refl R) (by rw[hc])
 refine jor [.pointer (some ⟨b,0,none⟩),I (16 * r)] ((decide (x.kind < 1)) || (decide (x.kind > 4))) (λK' hK'=>?_) (λe c u ho he=>?_)
 ·refine jl (v:=I x.kind) rfl (jlt (jgtf (λh1=>?_) (λh1=>?_)))
  ·refine jl (v:=I x.kind) rfl (jgr (hK' _ _ _ (h1▸or2_f) (by rw[h1,Bool.false_or])))
  ·exact hK' _ _ _ (h1▸or2_t) (by rw[h1,Bool.true_or])
 simp only[List.map,lc,ln,lj,z_t] at he
 simp only[he]
 obtain⟨B1,hB1⟩:∃B1,B1 = (decide (x.kind < 1) || decide (x.kind > 4)):=⟨_,rfl⟩
 rw[← hB1] at ho
 refine jor [.pointer (some ⟨b,0,none⟩),I (16 * r)] ((B1) || (decide (x.top < 16 * r))) (λK' hK'=>?_) (λe c u ho he=>?_)
 ·rw[ho]
  refine jgtf (λh1=>?_) (λh1=>?_)
  ·refine jl (v:=I x.top) rfl (jlt (hK' _ _ _ (h1▸or2_f) (by rw[h1,Bool.false_or])))
  ·exact hK' _ _ _ (h1▸or2_t) (by rw[h1,Bool.true_or])
 simp only[List.map,lc,ln,lj,z_t] at he
 simp only[he]
 obtain⟨B2,hB2⟩:∃B2,B2 = (B1 || decide (x.top < 16 * r)):=⟨_,rfl⟩
 rw[← hB2] at ho
 refine jor [.pointer (some ⟨b,0,none⟩),I (16 * r)] ((B2) || (decide (x.top > 16 * r + 16))) (λK' hK'=>?_) (λe c u ho he=>?_)
 ·rw[ho]
  refine jgtf (λh1=>?_) (λh1=>?_)
  ·refine jl (v:=I x.top) rfl (jadd ⟨by omega,by omega⟩ (jgr (hK' _ _ _ (h1▸or2_f) (by rw[h1,Bool.false_or]))))
  ·exact hK' _ _ _ (h1▸or2_t) (by rw[h1,Bool.true_or])
 simp only[List.map,lc,ln,lj,z_t] at he
 simp only[he]
 obtain⟨B3,hB3⟩:∃B3,B3 = (B2 || decide (x.top > 16 * r + 16)):=⟨_,rfl⟩
 rw[← hB3] at ho
 refine jor [.pointer (some ⟨b,0,none⟩),I (16 * r)] ((B3) || (decide (x.tams < 16 * r))) (λK' hK'=>?_) (λe c u ho he=>?_)
 ·rw[ho]
  refine jgtf (λh1=>?_) (λh1=>?_)
  ·refine jl (v:=I x.tams) rfl (jlt (hK' _ _ _ (h1▸or2_f) (by rw[h1,Bool.false_or])))
  ·exact hK' _ _ _ (h1▸or2_t) (by rw[h1,Bool.true_or])
 simp only[List.map,lc,ln,lj,z_t] at he
 simp only[he]
 obtain⟨B4,hB4⟩:∃B4,B4 = (B3 || decide (x.tams < 16 * r)):=⟨_,rfl⟩
 rw[← hB4] at ho
 refine jor [.pointer (some ⟨b,0,none⟩),I (16 * r)] ((B4) || (decide (x.tams > x.top))) (λK' hK'=>?_) (λe c u ho he=>?_)
 ·rw[ho]
  refine jgtf (λh1=>?_) (λh1=>?_)
  ·refine jl (v:=I x.tams) rfl (jl (v:=I x.top) rfl (jgr (hK' _ _ _ (h1▸or2_f) (by rw[h1,Bool.false_or]))))
  ·exact hK' _ _ _ (h1▸or2_t) (by rw[h1,Bool.true_or])
 simp only[List.map,lc,ln,lj,z_t] at he
 simp only[he]
 obtain⟨B5,hB5⟩:∃B5,B5 = (B4 || decide (x.tams > x.top)):=⟨_,rfl⟩
 rw[← hB5] at ho
 refine jor [.pointer (some ⟨b,0,none⟩),I (16 * r)] ((B5) || (decide (x.live < 0))) (λK' hK'=>?_) (λe c u ho he=>?_)
 ·rw[ho]
  refine jgtf (λh1=>?_) (λh1=>?_)
  ·refine jl (v:=I x.live) rfl (jlt (hK' _ _ _ (h1▸or2_f) (by rw[h1,Bool.false_or])))
  ·exact hK' _ _ _ (h1▸or2_t) (by rw[h1,Bool.true_or])
 simp only[List.map,lc,ln,lj,z_t] at he
 simp only[he]
 obtain⟨B6,hB6⟩:∃B6,B6 = (B5 || decide (x.live < 0)):=⟨_,rfl⟩
 rw[← hB6] at ho
 have hsub:B6 = false→inR (x.top - 16 * r):=λh=>by
  rw[hB6,hB5,hB4,hB3,hB2] at h
  simp only[Bool.or_eq_false_iff,decide_eq_false_iff_not] at h
  constructor<;>omega
 refine jor [.pointer (some ⟨b,0,none⟩),I (16 * r)] ((B6) || (decide (x.live > x.top - 16 * r))) (λK' hK'=>?_) (λe c u ho he=>?_)
 ·rw[ho]
  refine jgtf (λh1=>?_) (λh1=>?_)
  ·refine jl (v:=I x.live) rfl (jl (v:=I x.top) rfl (jsub (hsub h1) (jgr (hK' _ _ _ (h1▸or2_f) (by rw[h1,Bool.false_or])))))
  ·exact hK' _ _ _ (h1▸or2_t) (by rw[h1,Bool.true_or])
 simp only[List.map,lc,ln,lj,z_t] at he
 simp only[he]
 rw[ho]
 refine jif (λh=>fin ?_) (λh=>?_)
 ·symm
  rw[Bool.eq_false_iff]
  intro hk
  obtain⟨⟨k1,k2,k3,k4,k5,k6,k7,k8,k9⟩,k10⟩:=key.1 hk
  rw[hB6,hB5,hB4,hB3,hB2,hB1] at h
  simp only[Bool.or_eq_true,z_d] at h
  omega
 rw[hB6,hB5,hB4,hB3,hB2,hB1] at h
 simp only[Bool.or_eq_false_iff,decide_eq_false_iff_not] at h
 obtain⟨⟨⟨⟨⟨⟨⟨k1,k2⟩,k3⟩,k4⟩,k5⟩,k6⟩,k7⟩,k8⟩:=h
 clear ho hsub
 refine jan [.pointer (some ⟨b,0,none⟩)] ((x.kind == 1) && (x.top != 16 * r)) (λK' hK'=>?_) (λe c u ho he=>?_)
 ·refine jl (v:=I x.kind) rfl (jeq (jgtt (λh1=>?_) (λh1=>?_)))
  ·refine jl (v:=I x.top) rfl (jne (hK' _ _ _ (h1▸and2_t) (by rw[h1,Bool.true_and])))
  ·exact hK' _ _ _ (h1▸and2_f) (by rw[h1,Bool.false_and])
 simp only[List.map,lc,ln,lj,z_t] at he
 simp only[he]
 rw[ho]
 refine jif (λh=>fin ?_) (λh=>?_)
 ·symm
  rw[Bool.eq_false_iff]
  intro hk
  simp only[z_b,beq_iff_eq,bne_iff_ne] at h
  exact (key.1 hk).1.2.2.2.2.2.2.2.2 h
 have k9:¬ (x.kind = 1∧x.top≠16 * r):=λhh=>by
  rw[show (x.kind == 1) = true from beq_iff_eq.2 hh.1,show (x.top != 16 * r) = true from bne_iff_ne.2 hh.2] at h
  cases h
 refine jl (v:=I x.kind) rfl (jeq (jif (λh2=>?_) (λh2=>?_)))
 ·have h2:=eq_of_beq h2
  refine jan [] ((decide (x.owner≥0)) && (decide (x.owner≤3))) (λK' hK'=>?_) (λe c u ho he=>?_)
  ·refine jl (v:=I x.owner) rfl (jge (jgtt (λh1=>?_) (λh1=>?_)))
   ·refine jl (v:=I x.owner) rfl (jle (hK' _ _ _ (h1▸and2_t) (by rw[h1,Bool.true_and])))
   ·exact hK' _ _ _ (h1▸and2_f) (by rw[h1,Bool.false_and])
  simp only[List.map,lc,ln,lj,z_t] at he
  simp only[he]
  rw[ho]
  refine fin ?_
  rw[Bool.eq_iff_iff,key,if_pos h2]
  simp only[z_b,z_d]
  exact⟨λh=>⟨⟨k1,k2,k3,k4,k5,k6,k7,k8,k9⟩,h⟩,λh=>h.2⟩
 ·have h2:=ne_of_beq_false h2
  refine jl (v:=I x.owner) rfl (jeq (fin ?_))
  rw[Bool.eq_iff_iff,key,if_neg h2]
  exact⟨λh=>⟨⟨k1,k2,k3,k4,k5,k6,k7,k8,k9⟩,eq_of_beq h⟩,λh=>beq_iff_eq.2 h.2⟩
end Go.Lf
end
section
namespace Go.Lf
open Go Sm
theorem p_i_edge:Pu F_i_edge [] (.agg (eRg edge).toArray):=by
 intro R
 refine s_i_edge λF=>?_
 unfold c_i_edge
 refine ja λb=>jbd (cs:=eRg edge) rfl rfl (js (cs':=eRg edge) rfl rfl (by exact z_n 5) rfl (jla (l:=eRg edge) (by exact z_n 5) rfl ?_))
 exact jret (A:=[]) (RM.le.refl R) rfl
theorem p_i_free (r:Int):Pu F_i_free [I r] (.agg (eRg ⟨1,-1,regionBase r,regionBase r,0⟩).toArray):=by
 intro R
 refine s_i_free λF=>?_
 unfold c_i_free
 refine ja λb=>jp (p_i_RegionBase r) (jbd (cs:=eRg ⟨1,-1,regionBase r,regionBase r,0⟩) rfl rfl (js (cs':=eRg ⟨1,-1,regionBase r,regionBase r,0⟩) rfl rfl (by exact z_n 5) rfl (jla (l:=eRg ⟨1,-1,regionBase r,regionBase r,0⟩) (by exact z_n 5) rfl ?_)))
 exact jret (A:=[]) (RM.le.refl R) rfl
theorem MpI.iff {o:Obj} {q q' : Int→Prop} (h:MpI o q) (e:∀x,q x↔q' x):MpI o q':=by
 have:q = q':=funext λx=>propext (e x)
 rw[← this];exact h
section
variable {R:RM} {D:Chs} {t:List Rg} {sp:List Value} {b cap:Nat}
set_option maxHeartbeats 1000000 in
theorem r_i_TableOk (hl:t.length < 1000000) [a:At D b (C T_Region (rowsE eRg t ++ sp))]:Ro F_i_TableOk [.slice (some ⟨b,0,none⟩) t.length cap] (.bool (tableOk t)) R D:=by
 refine s_i_TableOk λF=>?_
 unfold c_i_TableOk
 have nok:(TOk t→False)→Value.bool false = Value.bool (tableOk t):=λh=>by
  cases hh:tableOk t
  ·rfl
  ·exact (h (tableOk_iff.1 hh)).elim
 refine jcutq (λvs R' D'=>R' = R∧D' = D ++ F∧vs = [.slice (some ⟨b,0,none⟩) t.length cap,.bool ((decide ((t.length:Int) < 2) || decide ((t.length:Int) > 12)) || !(rv t 0 == edge))]) (λK hK=>?_) ?_
 ·refine jor [.slice (some ⟨b,0,none⟩) t.length cap] ((decide ((t.length:Int) < 2)) || (decide ((t.length:Int) > 12))) (λK' hK'=>?_) (λe c u ho he=>?_)
  ·refine jln (jlt (jgtf (λh1=>?_) (λh1=>?_)))
   ·refine jln (jgr (hK' _ _ _ (h1▸or2_f) (by rw[h1,Bool.false_or])))
   ·exact hK' _ _ _ (h1▸or2_t) (by rw[h1,Bool.true_or])
  simp only[List.map,lc,ln,lj,z_t] at he
  simp only[he]
  refine jcutq (λvs R' D'=>R' = R∧D' = D ++ F∧(((decide ((t.length:Int) < 2) || decide ((t.length:Int) > 12)) = false∧∃h:0 < t.length,vs = [.slice (some ⟨b,0,none⟩) t.length cap,.bool false,.pointer (some ⟨b,0 + (0:Int).toNat * 5,none⟩),.agg (eRg (t[0])).toArray])∨((decide ((t.length:Int) < 2) || decide ((t.length:Int) > 12)) = true∧vs = [.slice (some ⟨b,0,none⟩) t.length cap,.bool true,U,U]))) (λK2 hK2=>?_) ?_
  ·rw[ho]
   refine jgtf (λh1=>?_) (λh1=>?_)
   ·have h1':=h1
    simp only[Bool.or_eq_false_iff,decide_eq_false_iff_not] at h1'
    have h0:0 < t.length:=by omega
    refine jia (by omega) (by omega) ?_
    refine jla (l:=eRg (t[0])) (row_len h0) (rowsE_get (f:=eRg) (w:=5) (λ_=>rfl) h0) ?_
    exact hK2 _ _ _ ⟨rfl,rfl,.inl ⟨h1,h0,by rw[h1]⟩⟩
   ·exact hK2 _ _ _ ⟨rfl,rfl,.inr ⟨h1,by rw[h1]⟩⟩
  rintro e2 R2 D2 ⟨hR,hD,h⟩
  subst hR
  rw[hD];clear hD
  rcases h with ⟨h1,h0,he⟩ | ⟨h1,he⟩
  ·simp only[List.map,lc,ln,lj,z_t] at he
   simp only[he]
   refine jff (jp p_i_edge (jand (jla (l:=eRg (t[0])) (row_len h0) (rowsE_get (f:=eRg) (w:=5) (λ_=>rfl) h0) jev) ?_))
   refine @jxrg (t[0]) edge _ _ _ _ _ (jpkf ?_)
   refine hK _ _ _ ⟨rfl,rfl,?_⟩
   rw[h1,Bool.false_or,show rv t 0 = t[0] from rv_at h0]
  ·simp only[List.map,lc,ln,lj,z_t] at he
   simp only[he]
   refine jtf (jand jev (jpkt ?_))
   refine hK _ _ _ ⟨rfl,rfl,?_⟩
   rw[h1,Bool.true_or]
 rintro e R2 D2 ⟨hR,hD,he⟩
 subst hR
 rw[hD];clear hD
 simp only[List.map,lc,ln,lj,z_t] at he
 simp only[he]
 refine jif (λh0=>?_) (λh0=>?_)
 ·refine ro_ret (nok λT=>?_)
  have n0:=T.n0
  have n1:=T.n1
  have e:=T.e
  simp only[Bool.or_eq_true,z_d,Bool.not_eq_true',beq_eq_false_iff_ne] at h0
  rcases h0 with (h | h) | h
  ·omega
  ·omega
  ·exact h e
 simp only[Bool.or_eq_false_iff,decide_eq_false_iff_not,Bool.not_eq_false',beq_iff_eq] at h0
 obtain⟨⟨n0,n1⟩,hedge⟩:=h0
 refine @jmap _ _ _ λmb o hm=>jln ?_
 refine jlp (λn vs R' D'=>R' = R2∧∃(i:Nat) (o:Obj),D' = (mb,o) :: (D ++ F)∧i≤t.length∧vs = [.map (some mb),.slice (some ⟨b,0,none⟩) t.length cap,I t.length,I i]∧n = t.length - i∧MpI o (λy=>∃k:Nat,1≤k∧k < i∧(rv t k).owner = y)∧(∀k:Nat,1≤k→k < i→RowP k (rv t k)∧∀m:Nat,1≤m→m < k→0≤(rv t k).owner→(rv t m).owner≠(rv t k).owner))
  (n:=t.length) ⟨rfl,0,o,rfl,by omega,rfl,rfl,hm.iff λx=>⟨λh=>h.elim,λ⟨k,_,h,_⟩=>by omega⟩,λk h1 h2=>by omega⟩ ?_
 clear hm
 rintro n e R' D' K ⟨hR,i,o,hD,hi,he,hn,hm,hinv⟩ hK
 subst hR
 rw[hD];clear hD
 simp only[List.map,lc,ln,lj,z_t] at he
 simp only[he]
 refine jlt (jif (λhc=>?_) (λhc=>?_))
 rotate_left
 ·have hc:=z_g hc
  refine jpart [] (G:=D ++ F) (ro_ret ?_)
  rw[tableOk_iff.2 ⟨by omega,by omega,hedge,λq q0 q1=>?_,λq s q0 q1 s0 s1 hoo heq=>?_⟩]
  ·have:=(hinv q.toNat (by omega) (by omega)).1
   rwa [show ((q.toNat:Nat):Int) = q from by omega] at this
  ·have h1:=(hinv q.toNat (by omega) (by omega)).2 s.toNat (by omega)
   have h2:=(hinv s.toNat (by omega) (by omega)).2 q.toNat (by omega)
   rw[show ((q.toNat:Nat):Int) = q from by omega,show ((s.toNat:Nat):Int) = s from by omega] at h1 h2
   rcases Int.lt_trichotomy q s with c | c | c
   ·exact absurd heq (h2 (by omega) (by rw[← heq];exact hoo))
   ·exact c
   ·exact absurd heq.symm (h1 (by omega) hoo)
 have hc:=z_f hc
 have hil:i < t.length:=by omega
 have hrv:=rv_at hil
 refine jcutq (λvs R3 D3=>R3 = R'∧∃o',D3 = (mb,o') :: (D ++ F)∧MpI o' (λy=>∃k:Nat,1≤k∧k < i + 1∧(rv t k).owner = y)∧(∀k:Nat,1≤k→k < i + 1→RowP k (rv t k)∧∀m:Nat,1≤m→m < k→0≤(rv t k).owner→(rv t m).owner≠(rv t k).owner)∧vs = [.map (some mb),.slice (some ⟨b,0,none⟩) t.length cap,I t.length,I i]) (λK2 hK2=>?_) ?_
 rotate_left
 ·rintro e3 R3 D3 ⟨hR,o',hD,hm',hinv',he⟩
  subst hR
  rw[hD];clear hD
  simp only[List.map,lc,ln,lj,z_t] at he
  simp only[he]
  exact jadd ⟨by omega,by omega⟩ (hK (t.length - (i + 1)) _ _ _ (by omega) ⟨rfl,i + 1,o',rfl,by omega,rfl,rfl,hm',hinv'⟩)
 refine jcutq (λvs R3 D3=>R3 = R'∧∃o',D3 = (mb,o') :: (D ++ F)∧MpI o' (λy=>∃k:Nat,1≤k∧k < i + 1∧(rv t k).owner = y)∧(∀k:Nat,1≤k→k < i + 1→RowP k (rv t k)∧∀m:Nat,1≤m→m < k→0≤(rv t k).owner→(rv t m).owner≠(rv t k).owner)∧vs = [.map (some mb),.slice (some ⟨b,0,none⟩) t.length cap,I t.length,I i]) (λK3 hK3=>?_) ?_
 rotate_left
 ·rintro e3 R3 D3 ⟨hR,o',hD,hm',hinv',he⟩
  subst hR
  rw[hD];clear hD
  simp only[List.map,lc,ln,lj,z_t] at he
  simp only[he]
  exact hK2 _ _ _ ⟨rfl,o',rfl,hm',hinv',rfl⟩
 refine jian hil (jlrow hil ?_)
 refine ja λb13=>js (cs':=eRg (t[i])) rfl rfl (by exact z_n 5) rfl (jeq (jif (λhz=>?_) (λhz=>?_)))
 ·have hz:=eq_of_beq hz
  have hz:i = 0:=by omega
  refine jk1 (F:=D ++ F) mb ?_
  refine hK3 _ _ _ ⟨rfl,o,rfl,hm.iff λy=>⟨λ⟨k,h1,h2,h3⟩=>by omega,λ⟨k,h1,h2,h3⟩=>by omega⟩,λk h1 h2=>by omega,rfl⟩
 have hz:=ne_of_beq_false hz
 have hi1:1≤i:=by omega
 obtain⟨sb,hsb⟩:∃sb:Bool,((∃k:Nat,1≤k∧k < i∧(rv t k).owner = (t[i]).owner)↔sb = true):=by
  by_cases h:∃k:Nat,1≤k∧k < i∧(rv t k).owner = (t[i]).owner
  ·exact⟨true,by simp[h]⟩
  ·exact⟨false,by simp[h]⟩
 refine jor [.map (some mb),.pointer (some ⟨b13,0,none⟩),.slice (some ⟨b,0,none⟩) t.length cap,I t.length,I i] (!rowOk i (t[i]) || (decide ((t[i]).owner≥0) && sb)) (λK' hK'=>?_) (λe c u ho he=>?_)
 ·refine jla (l:=eRg (t[i])) (by exact z_n 5) rfl (jp (p_i_Region_ok (t[i]) (by omega) (by omega)) (jgtf (λh1=>?_) (λh1=>?_)))
  ·refine jl (v:=I (t[i]).owner) rfl (jge (jgtt (λh2=>?_) (λh2=>?_)))
   ·refine jl (v:=I (t[i]).owner) rfl ?_
    refine @jlk _ _ _ mb o _ _ sb _ hm hsb ?_
    rw[h2]
    exact jpkt (hK' _ _ _ (h1▸or2_f) (by rw[h1,h2];rfl))
   ·rw[h2]
    exact jpkf (hK' _ _ _ (h1▸or2_f) (by rw[h1,h2];rfl))
  ·exact hK' _ _ _ (h1▸or2_t) (by rw[h1];rfl)
 simp only[List.map,lc,ln,lj,z_t] at he
 simp only[he]
 rw[ho]
 refine jif (λhv=>?_) (λhv=>?_)
 ·refine jpart [] (G:=D ++ F) (ro_ret (nok λT=>?_))
  simp only[Bool.or_eq_true,Bool.not_eq_true',z_b,z_d] at hv
  rcases hv with hv | ⟨hv1,hv2⟩
  ·have:=(rowOk_iff (by omega) (by omega)).2 (T.row i (by omega) (by omega))
   rw[hrv,hv] at this
   cases this
  ·obtain⟨k,k1,k2,k3⟩:=hsb.2 hv2
   have:=T.own i k (by omega) (by omega) (by omega) (by omega) (by rw[hrv];exact hv1) (by rw[hrv,k3])
   omega
 ·simp only[Bool.or_eq_false_iff,Bool.not_eq_false',Bool.and_eq_false_iff,decide_eq_false_iff_not] at hv
  obtain⟨hv1,hv2⟩:=hv
  refine jl (v:=I (t[i]).owner) rfl ?_
  refine @jmu _ _ _ mb o _ _ _ _ hm λo' hm'=>?_
  refine jk1 (F:=D ++ F) mb ?_
  refine hK3 _ _ _ ⟨rfl,o',rfl,hm'.iff λy=>⟨?_,?_⟩,λk h1 h2=>?_,rfl⟩
  ·rintro (⟨k,h1,h2,h3⟩ | rfl)
   ·exact⟨k,h1,by omega,h3⟩
   ·exact⟨i,hi1,by omega,by rw[hrv]⟩
  ·rintro⟨k,h1,h2,h3⟩
   by_cases hk:k = i
   ·subst hk;rw[hrv] at h3;exact .inr h3.symm
   ·exact .inl ⟨k,h1,by omega,h3⟩
  ·by_cases hk:k = i
   ·subst hk
    rw[hrv]
    refine⟨(rowOk_iff (by omega) (by omega)).1 hv1,λm m1 m2 h0 heq=>?_⟩
    rcases hv2 with hv2 | hv2
    ·omega
    ·have:=hsb.1 ⟨m,m1,m2,heq⟩
     rw[hv2] at this;cases this
   ·exact hinv k h1 (by omega)
end
end Go.Lf
end
section
namespace Go.Lf
open Go Sm
theorem lay_set {cs:List Value} {o:Nat} {v:Value} (h:o < cs.length):lay cs o [v] = cs.set o v:=by
 unfold lay
 rw[List.set_eq_take_append_cons_drop,if_pos h]
 simp
theorem lay_in {cs:List Value} {o f n:Nat} (h:o + n≤cs.length) (hf:f < n) (v:Value):lay cs (o + f) [v] = lay cs o (((cs.drop o).take n).set f v):=by
 rw[lay_set (by omega)]
 unfold lay
 have hl:(((cs.drop o).take n).set f v).length = n:=by simp;omega
 apply List.ext_getElem?
 intro i
 rw[hl,List.getElem?_set,List.append_assoc]
 by_cases h1:i < o
 ·rw[List.getElem?_append_left (by simp;omega),List.getElem?_take,if_pos h1,if_neg (by omega)]
 ·rw[List.getElem?_append_right (by simp;omega)]
  have e:(cs.take o).length = o:=by simp;omega
  rw[e]
  by_cases h2:i < o + n
  ·rw[List.getElem?_append_left (by rw[hl];omega),List.getElem?_set,List.getElem?_take,List.getElem?_drop]
   by_cases h3:o + f = i
   ·rw[if_pos h3,if_pos (by omega),if_pos (by omega),if_pos (by simp;omega)]
   ·rw[if_neg h3,if_neg (by omega),if_pos (by omega)]
    congr 1;omega
  ·rw[List.getElem?_append_right (by rw[hl];omega),hl,List.getElem?_drop,if_neg (by omega)]
   congr 1;omega
section
variable {R:RM} {D:Chs} {t:List Rg} {sp:List Value} {b cap:Nat}
theorem jsf {k f:Nat} {x:Rg} {v:Value} {D' : Chs} {m:M} (hk:k < t.length) (hf:f < 5) (hx:eRg x = (eRg (t[k])).set f v) (hv:flat v = true) (h1:cl v = [v]) [a:At D b (C T_Region (rowsE eRg t ++ sp))] [u:Up D b (C T_Region (rowsE eRg t ++ sp)) (C T_Region (rowsE eRg (t.set k x) ++ sp)) D'] (H:J R D' m) :
  J R D (ST 1 (.pointer (some ⟨b,0 + k * 5 + f,none⟩)) v m):=by
 have hl:=row_len (sp:=sp) hk
 refine js (cs:=rowsE eRg t ++ sp) (cs':=rowsE eRg (t.set k x) ++ sp) (by rw[h1];rfl) (by rw[h1];simp[allFlat,hv]) (by omega) ?_ H
 rw[h1,Nat.zero_add,lay_in hl hf,rowsE_get (f:=eRg) (w:=5) (λ_=>rfl) hk,← hx]
 exact rowsE_set (f:=eRg) (w:=5) (λ_=>rfl) hk
end
theorem x_eqt (x y:Operand) (a:Addr) (n c:Nat) (w:World):(do eqGuard .eql 23 x y (.slice (some a) n c) (.slice none 0 0);binOp .eql 23 (.slice (some a) n c) (.slice none 0 0):Sem Value).run P w = .ok (.bool false) w:=by kernel_rfl
theorem jnilt {a:Addr} {n c:Nat} {x y:Operand} {R:RM} {D:Chs} {k:Value→M} (H1:J R D (k (.bool false))):J R D (X P (do eqGuard .eql 23 x y (.slice (some a) n c) (.slice none 0 0);binOp .eql 23 (.slice (some a) n c) (.slice none 0 0)) k):=by
 intro h hs w hw
 rw[x_eqt]
 subst hw
 exact⟨Same.refl _,H1 _ hs⟩
theorem jroF {f:Nat} {args:List Value} {v:Value} {R:RM} {D F:Chs} {k:Value→M} (hF:Ro f args v R D) (H:J R (D ++ F) (k v)):J R (D ++ F) (CA P f args k):=by
 intro h hs
 refine CA_mono ?_ (hF F h hs)
 rintro v' h' ⟨R',A',h1,h2,rfl,rfl⟩
 exact H h' (h2.le h1)
theorem p_i_TableTake_1 (x:Rg):Pu F_i_TableTake_1 [.agg (eRg x).toArray] (.bool (x.kind == 1)):=by
 intro R
 refine s_i_TableTake_1 λF=>?_
 unfold c_i_TableTake_1
 refine ja λb=>jl (v:=I x.kind) rfl (jeq ?_)
 exact jret (A:=[]) (RM.le.refl R) rfl
theorem ro_of {f:Nat} {args:List Value} {v:Value} {R:RM} {D:Chs} (h:Pu f args v):Ro f args v R D:=by
 intro F h' hs
 refine CA_mono ?_ (h R (D ++ F) h' hs)
 rintro v' h2 ⟨R',A',q1,q2,rfl⟩
 exact⟨R',D,q1,q2.drop,rfl,rfl⟩
theorem find0 {p:Rg→Bool} {t:List Rg} (h:tableOk t = true) (hp:p edge = false):findFrom p 0 t = findFrom p 1 t.tail:=by
 cases t with
 | nil=>rfl
 | cons e r=>
  have:e = edge:=(tableOk_iff.1 h).e
  subst this
  show (if p edge then ((0:Nat):Int) else findFrom p (0 + 1) r) = _
  rw[if_neg (by rw[hp];decide)];rfl
section
variable {R:RM} {D:Chs} {t:List Rg} {sp:List Value} {b cap:Nat}
theorem r_i_own_1 (x:Rg) {o:Int} {b3:Nat} [a:At D b3 (C 3 [I o])]:Ro F_i_own_1 [.agg (eRg x).toArray,.pointer (some ⟨b3,0,none⟩)] (.bool (x.kind == 2 && x.owner == o)) R D:=by
 refine s_i_own_1 λF=>?_
 unfold c_i_own_1
 refine ja λb4=>?_
 refine jan [] ((x.kind == 2) && (x.owner == o)) (λK' hK'=>?_) (λe c u ho he=>?_)
 ·refine jl (v:=I x.kind) rfl (jeq (jgtt (λh1=>?_) (λh1=>?_)))
  ·refine jl (v:=I x.owner) rfl (jl (v:=I o) rfl (jeq (hK' _ _ _ (h1▸and2_t) (by rw[h1,Bool.true_and]))))
  ·exact hK' _ _ _ (h1▸and2_f) (by rw[h1,Bool.false_and])
 simp only[List.map,lc,ln,lj,z_t] at he
 simp only[he]
 rw[ho]
 exact jpart [] (G:=D ++ F) (ro_ret rfl)
theorem r_IndexFunc {f:Nat} {cv:List Value} {p:Rg→Bool} (hf:okFn P f = true) (hp:∀x,Ro f (.agg (eRg x).toArray :: cv) (.bool (p x)) R D) (hl:t.length < 1000000) [a:At D b (C T_Region (rowsE eRg t ++ sp))] :
  Ro F_slices_IndexFunc [.slice (some ⟨b,0,none⟩) t.length cap,.func (.func f) #[] cv.toArray] (I (findFrom p 0 t)) R D:=by
 refine s_slices_IndexFunc λF=>?_
 unfold c_slices_IndexFunc
 refine jln ?_
 refine jlp (λn vs R' D'=>R' = R∧D' = D ++ F∧∃i:Nat,i≤t.length∧vs = [.slice (some ⟨b,0,none⟩) t.length cap,.func (.func f) #[] cv.toArray,I t.length,I i]∧n = t.length - i∧findFrom p 0 t = findFrom p i (t.drop i)) (n:=t.length) ⟨rfl,rfl,0,by omega,rfl,rfl,by rw[List.drop_zero]⟩ ?_
 rintro n e R' D' K ⟨hR,hD,i,hi,he,hn,hinv⟩ hK
 subst hR
 rw[hD];clear hD
 simp only[List.map,lc,ln,lj,z_t] at he
 simp only[he]
 refine jlt (jif (λhc=>?_) (λhc=>?_))
 rotate_left
 ·have hc:=z_g hc
  refine ro_ret ?_
  rw[hinv,List.drop_eq_nil_of_le (by omega)];rfl
 have hc:=z_f hc
 have hil:i < t.length:=by omega
 refine jian hil (jlrow hil ?_)
 have hcv:∀k:Value→M,J R' (D ++ F) (k (.bool (p (t[i]))))→J R' (D ++ F) (CV P (.func (.func f) #[] cv.toArray) [.agg (eRg (t[i])).toArray] k):=λk hk h hs=>⟨hf,jroF (hp (t[i])) hk h hs⟩
 refine hcv _ ?_
 have ed:t.drop i = t[i] :: t.drop (i + 1):=List.drop_eq_getElem_cons hil
 rw[ed] at hinv
 simp only[findFrom] at hinv
 refine jif (λhq=>?_) (λhq=>?_)
 ·rw[if_pos hq] at hinv
  exact ro_ret (by rw[hinv])
 ·rw[if_neg (by rw[hq];decide)] at hinv
  exact jadd ⟨by omega,by omega⟩ (hK (t.length - (i + 1)) _ _ _ (by omega) ⟨rfl,rfl,i + 1,by omega,rfl,rfl,hinv⟩)
theorem r_i_own (o:Int) (hok:tableOk t = true) [a:At D b (C T_Region (rowsE eRg t ++ sp))]:Ro F_i_own [.slice (some ⟨b,0,none⟩) t.length cap,I o] (I (own t o)) R D:=by
 refine s_i_own λF=>?_
 unfold c_i_own
 have n1:=(tableOk_iff.1 hok).n1
 refine ja λb3=>?_
 refine jro (r_IndexFunc (D:=(b3,C 3 [I o]) :: (D ++ F)) (p:=λx=>x.kind == 2 && x.owner == o) (cv:=[.pointer (some ⟨b3,0,none⟩)]) (by kernel_rfl) (λx=>r_i_own_1 x) (by omega)) ?_
 refine jpart [] (G:=D ++ F) (ro_ret ?_)
 rw[find0 hok rfl];rfl
theorem r_i_hasRegion (r:Int) (hl:t.length < 1000000) [a:At D b (C T_Region (rowsE eRg t ++ sp))]:Ro F_i_hasRegion [.slice (some ⟨b,0,none⟩) t.length cap,I r] (.bool ((tableOk t && decide (r≥1)) && decide (r < t.length))) R D:=by
 refine s_i_hasRegion λF=>?_
 unfold c_i_hasRegion
 refine jan [.slice (some ⟨b,0,none⟩) t.length cap,I r] ((tableOk t) && (decide (r≥1))) (λK' hK'=>?_) (λe c u ho he=>?_)
 ·refine jro (r_i_TableOk hl) (jgtt (λh1=>?_) (λh1=>?_))
  ·refine jge (hK' _ _ _ (h1▸and2_t) (by rw[h1,Bool.true_and]))
  ·exact hK' _ _ _ (h1▸and2_f) (by rw[h1,Bool.false_and])
 simp only[List.map,lc,ln,lj,z_t] at he
 simp only[he]
 refine jan [] ((tableOk t && decide (r≥1)) && (decide (r < t.length))) (λK' hK'=>?_) (λe c u ho he=>?_)
 ·rw[ho]
  refine jgtt (λh1=>?_) (λh1=>?_)
  ·refine jln (jlt (hK' _ _ _ (h1▸and2_t) (by rw[h1,Bool.true_and])))
  ·exact hK' _ _ _ (h1▸and2_f) (by rw[h1,Bool.false_and])
 simp only[List.map,lc,ln,lj,z_t] at he
 simp only[he]
 rw[ho]
 exact ro_ret rfl
theorem m_i_Clone (hl:t.length < 1000000) [a:At D b (C T_Region (rowsE eRg t ++ sp))]:Mk F_slices_Clone [.slice (some ⟨b,0,none⟩) t.length cap] R D (OwnT t):=by
 refine s_slices_Clone λF=>?_
 unfold c_slices_Clone
 have hsz:=rowsE_size (f:=eRg) (w:=5) (λ_=>rfl) t
 refine @jnilt _ _ _ _ _ _ _ _ (jiff ?_)
 refine jbs (cs:=[]) rfl rfl λb0=>?_
 have hr:Reads R ((b0,C 29 []) :: (D ++ F)) (some ⟨b,0,none⟩) (t.length * 5) (rowsE eRg t):=by
  have:=Reads.held (R:=R) (D:=(b0,C 29 []) :: (D ++ F)) (b:=b) (o:=0) (n:=t.length * 5) (t:=T_Region) (cs:=rowsE eRg t ++ sp) (by simp[hsz])
  rw[List.drop_zero,List.take_append_of_le_length (by omega),← hsz,List.take_length] at this
  rw[← hsz];exact this
 refine jap0 (new:=rowsE eRg t) hr (by decide) (by omega) (λ_=>rfl) (λh0=>?_) (λb' c hc=>?_)
 ·have ht:t = []:=List.length_eq_zero_iff.1 h0
  subst ht
  exact mk_ret [(b0,C 29 [])] ⟨b0,0,[],z_n _,rfl,rfl⟩
 ·exact mk_ret [(b',C 29 (rowsE eRg t ++ (List.replicate (c - t.length) (cl z29)).flatten))] ⟨b',c,_,hc,rfl,rfl⟩
theorem m_i_TableClose (r:Int) (hl:t.length < 1000000) [a:At D b (C T_Region (rowsE eRg t ++ sp))]:Mk F_i_TableClose [.slice (some ⟨b,0,none⟩) t.length cap,I r] R D (QDrop (tableClose t r)):=by
 refine s_i_TableClose λF=>?_
 unfold c_i_TableClose
 refine jor [.slice (some ⟨b,0,none⟩) t.length cap,I r] (!((tableOk t && decide (r≥1)) && decide (r < t.length)) || ((rv t r).kind != 2)) (λK' hK'=>?_) (λe c u ho he=>?_)
 ·refine jro (r_i_hasRegion r hl) (jgtf (λh1=>?_) (λh1=>?_))
  ·have h1':=h1
   simp only[Bool.not_eq_false',z_b,z_d] at h1'
   obtain⟨⟨_,h2⟩,h3⟩:=h1'
   obtain⟨k,rfl⟩:∃k:Nat,r = k:=⟨r.toNat,by omega⟩
   have hk:k < t.length:=by omega
   refine jian hk ?_
   refine jl (v:=I t[k].kind) (by rw[Nat.zero_add];exact row_cell (f:=0) hk rfl) ?_
   exact jne (hK' _ _ _ (h1▸or2_f) (by rw[h1,Bool.false_or,rv_at hk]))
  ·exact hK' _ _ _ (h1▸or2_t) (by rw[h1,Bool.true_or])
 simp only[List.map,lc,ln,lj,z_t] at he
 simp only[he]
 rw[ho]
 refine jif (λh0=>?_) (λh0=>?_)
 ·refine mk_ret [] ?_
  have:tableClose t r = none:=by
   unfold tableClose
   split
   ·rename_i hh
    simp only[Bool.or_eq_true,Bool.not_eq_true',Bool.and_eq_false_iff,decide_eq_false_iff_not,z_d,z_b,bne_iff_ne,ne_eq] at h0 hh
    by_cases c:r < t.length
    ·rw[idx_rv (by omega) c]
     simp only
     rw[if_neg]
     intro h2
     rcases h0 with ((h | h) | h) | h
     ·rw[hh.1] at h;cases h
     ·omega
     ·omega
     ·exact h (by simpa using h2)
    ·unfold idx
     rw[if_pos (by omega),List.getElem?_eq_none (by omega)]
   ·rfl
  rw[this];exact⟨rfl,rfl⟩
 simp only[Bool.or_eq_false_iff,Bool.not_eq_false',z_b,z_d,bne_eq_false_iff_eq] at h0
 obtain⟨⟨⟨hok,h2⟩,h3⟩,h4⟩:=h0
 obtain⟨k,rfl⟩:∃k:Nat,r = k:=⟨r.toNat,by omega⟩
 have hk:k < t.length:=by omega
 refine jmk (m_i_Clone hl) ?_
 rintro _ _ ⟨b',c',sp',hc',rfl,rfl⟩
 refine jian hk (jsf (f:=0) (x:={ t[k] with kind:=3 }) hk (by decide) rfl rfl rfl ?_)
 have hl' : ∀x:Rg,(t.set k x).length = t.length:=λx=>by simp
 have hk' : k < (t.set k { t[k] with kind:=3 }).length:=by simpa using hk
 refine jian hk ?_
 refine jsf (f:=1) (t:=t.set k { t[k] with kind:=3 }) (x:={ t[k] with kind:=3,owner:=-1 }) hk' (by decide) (by rw[List.getElem_set_self];rfl) rfl rfl ?_
 rw[List.set_set]
 refine mk_ret [(b',C T_Region (rowsE eRg (t.set k { t[k] with kind:=3,owner:=-1 }) ++ sp'))] ?_
 have:tableClose t k = some (seti t k { t[k] with kind:=3,owner:=-1 }):=by
  unfold tableClose
  rw[if_pos (by simp[hok];omega),idx_rv (by omega) (by omega),rv_at hk]
  simp only
  rw[rv_at hk] at h4
  rw[if_pos (by simpa using h4)]
 rw[this]
 exact⟨_,⟨b',c',sp',by simpa [seti] using hc',rfl,by simp[seti]⟩,by simp⟩
theorem m_i_TableTake (owner:Int) (hl:t.length < 1000000) [a:At D b (C T_Region (rowsE eRg t ++ sp))]:Mk F_i_TableTake [.slice (some ⟨b,0,none⟩) t.length cap,I owner] R D (QTake (tableTake t owner)):=by
 refine s_i_TableTake λF=>?_
 unfold c_i_TableTake
 refine jor [.slice (some ⟨b,0,none⟩) t.length cap,I owner] ((!tableOk t) || (decide (owner < 0))) (λK' hK'=>?_) (λe c u ho he=>?_)
 ·refine jro (r_i_TableOk hl) (jgtf (λh1=>?_) (λh1=>?_))
  ·refine jlt (hK' _ _ _ (h1▸or2_f) (by rw[h1,Bool.false_or]))
  ·exact hK' _ _ _ (h1▸or2_t) (by rw[h1,Bool.true_or])
 simp only[List.map,lc,ln,lj,z_t] at he
 simp only[he]
 refine jor [.slice (some ⟨b,0,none⟩) t.length cap,I owner] ((!tableOk t || decide (owner < 0)) || (decide (owner > 3))) (λK' hK'=>?_) (λe c u ho he=>?_)
 ·rw[ho]
  refine jgtf (λh1=>?_) (λh1=>?_)
  ·refine jgr (hK' _ _ _ (h1▸or2_f) (by rw[h1,Bool.false_or]))
  ·exact hK' _ _ _ (h1▸or2_t) (by rw[h1,Bool.true_or])
 simp only[List.map,lc,ln,lj,z_t] at he
 simp only[he]
 have hok1:((!tableOk t || decide (owner < 0)) || decide (owner > 3)) = false→tableOk t = true:=λh=>by
  simp only[Bool.or_eq_false_iff,Bool.not_eq_false'] at h
  exact h.1.1
 refine jor [.slice (some ⟨b,0,none⟩) t.length cap,I owner] (((!tableOk t || decide (owner < 0)) || decide (owner > 3)) || (decide (own t owner≥0))) (λK' hK'=>?_) (λe c u ho he=>?_)
 ·rw[ho]
  refine jgtf (λh1=>?_) (λh1=>?_)
  ·refine jro (r_i_own owner (hok1 h1)) (jge (hK' _ _ _ (h1▸or2_f) (by rw[h1,Bool.false_or])))
  ·exact hK' _ _ _ (h1▸or2_t) (by rw[h1,Bool.true_or])
 simp only[List.map,lc,ln,lj,z_t] at he
 simp only[he]
 rw[ho]
 refine jif (λh0=>?_) (λh0=>?_)
 ·refine mk_ret [] ?_
  have:tableTake t owner = none:=by
   unfold tableTake
   rw[if_neg]
   intro hh
   simp only[Bool.or_eq_true,Bool.not_eq_true',z_d,z_b] at h0 hh
   rcases h0 with ((h | h) | h) | h
   ·rw[hh.1.1.1] at h;cases h
   ·omega
   ·omega
   ·omega
  rw[this];exact⟨rfl,rfl⟩
 simp only[Bool.or_eq_false_iff,Bool.not_eq_false',decide_eq_false_iff_not] at h0
 obtain⟨⟨⟨hok,h2⟩,h3⟩,h4⟩:=h0
 have n1:=(tableOk_iff.1 hok).n1
 have eq:tableTake t owner = (let i:=findFrom (λx=>x.kind == 1) 1 t.tail;if i < 0 then none else some (seti t i ⟨2,owner,regionBase i,regionBase i,0⟩,i)):=by
  unfold tableTake
  rw[if_pos (by simp[hok];omega)]
 refine jro (r_IndexFunc (p:=λx=>x.kind == 1) (cv:=[]) (by kernel_rfl) (λx=>ro_of (p_i_TableTake_1 x)) hl) ?_
 rw[find0 hok rfl]
 have hfr:=find_row (λx=>x.kind == 1) t
 generalize findFrom (λx=>x.kind == 1) 1 t.tail = r at eq hfr
 refine jlt (jif (λh=>?_) (λh=>?_))
 ·have h:=z_f h
  refine mk_ret [] ?_
  rw[eq]
  simp only
  rw[if_pos h];exact⟨rfl,rfl⟩
 have h:=z_g h
 rcases hfr with ⟨h5,_⟩ | ⟨h5,h6,h7⟩
 ·omega
 obtain⟨k,rfl⟩:∃k:Nat,r = k:=⟨r.toNat,by omega⟩
 have hk:k < t.length:=by omega
 refine jmk (m_i_Clone hl) ?_
 rintro _ _ ⟨b',c',sp',hc',rfl,rfl⟩
 refine jp (p_i_free k) (jian hk (jsrow (x:=⟨1,-1,regionBase k,regionBase k,0⟩) hk ?_))
 have hk1:k < (t.set k ⟨1,-1,regionBase k,regionBase k,0⟩).length:=by simpa using hk
 refine jian hk (jsf (f:=0) (t:=t.set k ⟨1,-1,regionBase k,regionBase k,0⟩) (x:=⟨2,-1,regionBase k,regionBase k,0⟩) hk1 (by decide) (by rw[List.getElem_set_self];rfl) rfl rfl ?_)
 rw[List.set_set]
 have hk2:k < (t.set k ⟨2,-1,regionBase k,regionBase k,0⟩).length:=by simpa using hk
 refine jian hk (jsf (f:=1) (t:=t.set k ⟨2,-1,regionBase k,regionBase k,0⟩) (x:=⟨2,owner,regionBase k,regionBase k,0⟩) hk2 (by decide) (by rw[List.getElem_set_self];rfl) rfl rfl ?_)
 rw[List.set_set]
 refine mk_ret [(b',C T_Region (rowsE eRg (t.set k ⟨2,owner,regionBase k,regionBase k,0⟩) ++ sp'))] ?_
 rw[eq]
 simp only
 rw[if_neg (by omega)]
 exact⟨_,⟨b',c',sp',by simpa [seti] using hc',rfl,by simp[seti]⟩,by simp⟩
end
end Go.Lf
end
section
namespace Go.Lf
open Go Sm
section
variable {R:RM} {D:Chs} {t:List Rg} {sp:List Value} {b cap:Nat}
set_option maxHeartbeats 1000000 in
theorem m_i_TableRoom (owner size:Int) (hl:t.length < 1000000) [a:At D b (C T_Region (rowsE eRg t ++ sp))]:Mk F_i_TableRoom [.slice (some ⟨b,0,none⟩) t.length cap,I owner,I size] R D (QTake (tableRoom t owner size)):=by
 refine s_i_TableRoom λF=>?_
 unfold c_i_TableRoom
 refine jor [.slice (some ⟨b,0,none⟩) t.length cap,I owner,I size] ((!tableOk t) || (decide (owner < 0))) (λK' hK'=>?_) (λe c u ho he=>?_)
 ·refine jro (r_i_TableOk hl) (jgtf (λh1=>?_) (λh1=>?_))
  ·refine jlt (hK' _ _ _ (h1▸or2_f) (by rw[h1,Bool.false_or]))
  ·exact hK' _ _ _ (h1▸or2_t) (by rw[h1,Bool.true_or])
 simp only[List.map,lc,ln,lj,z_t] at he
 simp only[he]
 refine jor [.slice (some ⟨b,0,none⟩) t.length cap,I owner,I size] ((!tableOk t || decide (owner < 0)) || (decide (owner > 3))) (λK' hK'=>?_) (λe c u ho he=>?_)
 ·rw[ho]
  refine jgtf (λh1=>?_) (λh1=>?_)
  ·refine jgr (hK' _ _ _ (h1▸or2_f) (by rw[h1,Bool.false_or]))
  ·exact hK' _ _ _ (h1▸or2_t) (by rw[h1,Bool.true_or])
 simp only[List.map,lc,ln,lj,z_t] at he
 simp only[he]
 refine jor [.slice (some ⟨b,0,none⟩) t.length cap,I owner,I size] (((!tableOk t || decide (owner < 0)) || decide (owner > 3)) || (decide (size < 1))) (λK' hK'=>?_) (λe c u ho he=>?_)
 ·rw[ho]
  refine jgtf (λh1=>?_) (λh1=>?_)
  ·refine jlt (hK' _ _ _ (h1▸or2_f) (by rw[h1,Bool.false_or]))
  ·exact hK' _ _ _ (h1▸or2_t) (by rw[h1,Bool.true_or])
 simp only[List.map,lc,ln,lj,z_t] at he
 simp only[he]
 refine jor [.slice (some ⟨b,0,none⟩) t.length cap,I owner,I size] ((((!tableOk t || decide (owner < 0)) || decide (owner > 3)) || decide (size < 1)) || (decide (size > 16))) (λK' hK'=>?_) (λe c u ho he=>?_)
 ·rw[ho]
  refine jgtf (λh1=>?_) (λh1=>?_)
  ·refine jgr (hK' _ _ _ (h1▸or2_f) (by rw[h1,Bool.false_or]))
  ·exact hK' _ _ _ (h1▸or2_t) (by rw[h1,Bool.true_or])
 simp only[List.map,lc,ln,lj,z_t] at he
 simp only[he]
 rw[ho]
 refine jif (λh0=>?_) (λh0=>?_)
 ·refine mk_ret [] ?_
  have:tableRoom t owner size = none:=by
   unfold tableRoom
   rw[if_neg]
   intro hh
   simp only[Bool.or_eq_true,Bool.not_eq_true',z_d,z_b] at h0 hh
   rcases h0 with (((h | h) | h) | h) | h
   ·rw[hh.1.1.1.1] at h;cases h
   ·omega
   ·omega
   ·omega
   ·omega
  rw[this];exact⟨rfl,rfl⟩
 simp only[Bool.or_eq_false_iff,Bool.not_eq_false',decide_eq_false_iff_not] at h0
 obtain⟨⟨⟨⟨hok,h2⟩,h3⟩,h4⟩,h5⟩:=h0
 have n1:=(tableOk_iff.1 hok).n1
 have T:=tableOk_iff.1 hok
 have eq:tableRoom t owner size = (match (if 0≤own t owner then idx t (own t owner) else none) with
  | some x=>if x.top + size≤regionBase (own t owner) + 16 then some (t,x.top) else
    (match tableTake ((tableClose t (own t owner)).getD []) owner with | some (u,n)=>some (u,regionBase n) | none=>none)
  | none=>(match tableTake t owner with | some (u,n)=>some (u,regionBase n) | none=>none)):=by
  unfold tableRoom
  rw[if_pos (by simp[hok];omega)]
  rfl
 have tail:∀(t2:List Rg) (D2:Chs) (b2 c2:Nat) (sp2:List Value) [At D2 b2 (C T_Region (rowsE eRg t2 ++ sp2))] [Sf D2 (D ++ F)],t2.length < 1000000→tableRoom t owner size = (match tableTake t2 owner with | some (u,n)=>some (u,regionBase n) | none=>none)→
   J R D2 (CA P 22 [.slice (some ⟨b2,0,none⟩) t2.length c2,I owner] λx24=>EX 0 x24 λx25=>EX 1 x24 λx26=>EX 2 x24 λx27=>NT x27 λx28=>IF x28 (POST R F (λv _ A=>∃N,A = N ++ D∧QTake (tableRoom t owner size) v N) (.tuple #[(.slice none 0 0),(I 0),(.bool false)])) (CA P 15 [x26] λx29=>POST R F (λv _ A=>∃N,A = N ++ D∧QTake (tableRoom t owner size) v N) (.tuple #[x25,x29,(.bool true)]))):=by
  intro t2 D2 b2 c2 sp2 _ _ hl2 he2
  refine jmk (m_i_TableTake owner hl2) ?_
  intro v N hq
  cases hr:tableTake t2 owner with
  | none=>
   rw[hr] at hq he2
   obtain⟨rfl,rfl⟩:=hq
   refine jex rfl (jex rfl (jex rfl (jift (mk_ret [] ?_))))
   rw[he2];exact⟨rfl,rfl⟩
  | some un=>
   obtain⟨u,n⟩:=un
   rw[hr] at hq he2
   obtain⟨sv,⟨b3,c3,sp3,hc3,rfl,rfl⟩,rfl⟩:=hq
   refine jex rfl (jex rfl (jex rfl (jiff (jp (p_i_RegionBase n) (mk_ret [(b3,C T_Region (rowsE eRg u ++ sp3))] ?_)))))
   rw[he2]
   exact⟨_,⟨b3,c3,sp3,hc3,rfl,rfl⟩,rfl⟩
 refine jro (r_i_own owner hok) ?_
 have hfr:=find_row (λx=>x.kind == 2 && x.owner == owner) t
 rw[show findFrom (λx=>x.kind == 2 && x.owner == owner) 1 t.tail = own t owner from rfl] at hfr
 generalize own t owner = r at eq hfr
 rcases hfr with ⟨h6,_⟩ | ⟨h6,h7,h8⟩
 ·subst h6
  rw[if_neg (by decide)] at eq
  refine jcutq (λvs R' D'=>R' = R∧D' = D ++ F∧vs = [.slice (some ⟨b,0,none⟩) t.length cap,I owner,I (-1),.bool false]) (λK hK=>?_) ?_
  ·refine jcutq (λvs R' D'=>R' = R∧D' = D ++ F∧vs = [.slice (some ⟨b,0,none⟩) t.length cap,I owner,I (-1),.bool false,U,U,U,U]) (λK2 hK2=>?_) ?_
   ·exact jge (jft (hK2 _ _ _ ⟨rfl,rfl,rfl⟩))
   rintro e R2 D2 ⟨hR,hD,he⟩
   subst hR
   rw[hD];clear hD
   simp only[List.map,lc,ln,lj,z_t] at he
   simp only[he]
   exact jft (jpkf (jand jev (hK _ _ _ ⟨rfl,rfl,rfl⟩)))
  rintro e R2 D2 ⟨hR,hD,he⟩
  subst hR
  rw[hD];clear hD
  simp only[List.map,lc,ln,lj,z_t] at he
  simp only[he]
  refine jiff ?_
  refine jcutq (λvs R' D'=>R' = R2∧D' = D ++ F∧vs = [.slice (some ⟨b,0,none⟩) t.length cap,I owner]) (λK hK=>?_) ?_
  ·exact jge (jiff (hK _ _ _ ⟨rfl,rfl,rfl⟩))
  rintro e R3 D3 ⟨hR,hD,he⟩
  subst hR
  rw[hD];clear hD
  simp only[List.map,lc,ln,lj,z_t] at he
  simp only[he]
  exact tail t (D ++ F) b cap sp hl eq
 obtain⟨k,rfl⟩:∃k:Nat,r = k:=⟨r.toNat,by omega⟩
 have hk:k < t.length:=by omega
 rw[if_pos (by omega),idx_rv (by omega) (by omega),rv_at hk] at eq
 simp only at eq
 rw[rv_at hk] at h8
 simp only[z_b,beq_iff_eq] at h8
 have Rk:=T.row k (by omega) (by omega)
 rw[rv_at hk] at Rk
 have rt0:=Rk.t0
 have rt1:=Rk.t1
 have hb:=base_eq (r:=(k:Int)) (by omega) (by omega)
 refine jcutq (λvs R' D'=>R' = R∧D' = D ++ F∧vs = [.slice (some ⟨b,0,none⟩) t.length cap,I owner,I k,.bool (decide ((t[k]).top + size≤regionBase k + 16))]) (λK hK=>?_) ?_
 ·refine jcutq (λvs R' D'=>R' = R∧D' = D ++ F∧vs = [.slice (some ⟨b,0,none⟩) t.length cap,I owner,I k,.bool true,.pointer (some ⟨b,0 + k * 5 + 2,none⟩),I (t[k]).top,I ((t[k]).top + size),I k]) (λK2 hK2=>?_) ?_
  ·refine jge ?_
   rw[show decide ((k:Int)≥0) = true from decide_eq_true (by omega)]
   refine jtt (jian hk ?_)
   refine jl (v:=I (t[k]).top) (by rw[Nat.zero_add];exact row_cell (f:=2) hk rfl) ?_
   exact jadd ⟨by omega,by omega⟩ (hK2 _ _ _ ⟨rfl,rfl,rfl⟩)
  rintro e R2 D2 ⟨hR,hD,he⟩
  subst hR
  rw[hD];clear hD
  simp only[List.map,lc,ln,lj,z_t] at he
  simp only[he]
  refine jtt (jp (p_i_RegionBase k) (jadd ⟨by omega,by omega⟩ (jle (jpkt (jand ?_ (hK _ _ _ ⟨rfl,rfl,rfl⟩))))))
  exact jl (v:=I (t[k]).top) (by rw[Nat.zero_add];exact row_cell (f:=2) hk rfl) jev
 rintro e R2 D2 ⟨hR,hD,he⟩
 subst hR
 rw[hD];clear hD
 simp only[List.map,lc,ln,lj,z_t] at he
 simp only[he]
 refine jif (λhc=>?_) (λhc=>?_)
 ·have hc:=z_f hc
  rw[if_pos hc] at eq
  refine jian hk ?_
  refine jl (v:=I (t[k]).top) (by rw[Nat.zero_add];exact row_cell (f:=2) hk rfl) ?_
  refine jmk (m_i_Clone hl) ?_
  rintro _ _ ⟨b',c',sp',hc',rfl,rfl⟩
  refine jand (jl (v:=I (t[k]).top) (by rw[Nat.zero_add];exact row_cell (f:=2) hk rfl) jev) (jand (jl (v:=I (t[k]).top) (by rw[Nat.zero_add];exact row_cell (f:=2) hk rfl) jev) ?_)
  refine mk_ret [(b',C T_Region (rowsE eRg t ++ sp'))] ?_
  rw[eq]
  exact⟨_,⟨b',c',sp',hc',rfl,rfl⟩,rfl⟩
 ·have hc:=z_g hc
  rw[if_neg hc] at eq
  have ecl:tableClose t k = some (seti t k { t[k] with kind:=3,owner:=-1 }):=by
   unfold tableClose
   rw[if_pos (by simp[hok];omega),idx_rv (by omega) (by omega),rv_at hk]
   simp only
   rw[if_pos (by simpa using h8.1)]
  rw[ecl] at eq
  have hl2:(seti t k { t[k] with kind:=3,owner:=-1 }).length = t.length:=by simp[seti]
  refine jcutq (λvs R' D'=>R' = R2∧∃b' c' sp',D' = (b',C T_Region (rowsE eRg (seti t k { t[k] with kind:=3,owner:=-1 }) ++ sp')) :: (D ++ F)∧vs = [.slice (some ⟨b',0,none⟩) (seti t k { t[k] with kind:=3,owner:=-1 }).length c',I owner]) (λK hK=>?_) ?_
  ·refine jge ?_
   rw[show decide ((k:Int)≥0) = true from decide_eq_true (by omega)]
   refine jift (jmk (m_i_TableClose k hl) ?_)
   rw[ecl]
   rintro _ _ ⟨sv,⟨b',c',sp',hc',rfl,rfl⟩,rfl⟩
   exact jex rfl (jex rfl (hK _ _ _ ⟨rfl,b',c',sp',rfl,rfl⟩))
  rintro e R3 D3 ⟨hR,b',c',sp',hD,he⟩
  subst hR
  rw[hD];clear hD
  simp only[List.map,lc,ln,lj,z_t] at he
  simp only[he]
  exact tail _ _ b' c' sp' (by rw[hl2];exact hl) eq
end
end Go.Lf
end
section
namespace Go.Lf
open Go Sm
theorem room_in {t:List Rg} {o z:Int} {u:List Rg} {a:Int} (h:tableRoom t o z = some (u,a)):tableOk t = true∧0≤o∧o≤3∧1≤z∧z≤16:=by
 unfold tableRoom at h
 split at h
 ·rename_i hh
  simp only[z_b,z_d] at hh
  exact⟨hh.1.1.1.1,hh.1.1.1.2,hh.1.1.2,hh.1.2,hh.2⟩
 ·cases h
end Go.Lf
end
section
namespace Go.Lf
open Go Sm
end Go.Lf
end
