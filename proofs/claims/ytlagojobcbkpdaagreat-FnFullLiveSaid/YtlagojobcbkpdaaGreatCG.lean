/- A part of the proof of the given row: the walk of the law and of all that it calls. Conditions: none. -/
import Derived.Test.YtlagojobcbkpdaaGreatCF
set_option linter.unusedVariables false
set_option linter.unusedSimpArgs false
section
namespace Go.Lf
open Go Sm
theorem X4 {S S1:Sim} {v:Int} (h:S.oldV v = some S1):S1.th = S.th:=by
 simp only[Sim.oldV] at h;split at h
 ·cases h
 ·cases h;split<;>rfl
theorem W5 {p:Nat} {S S' : Sim} {g:Img} {i:Int} {R:RM} (hok:Ok R S g) (hS:S.field i = some S') :
  Fn P JN [Pt p,I i] R (AY p S g) (Ci p S' λ_=>True):=by
 refine PE λF=>?_
 unfold JE;obtain⟨t,ht,hS⟩:=AE hS;obtain⟨o,ho,hS⟩:=AE hS;obtain⟨q1,hq1,hS⟩:=AE hS;obtain⟨ref,hq2,hS⟩:=AE hS;obtain⟨q3,hq3,hS⟩:=AE hS;obtain⟨num,hq4,hS⟩:=AE hS;obtain⟨rfl,in1⟩:=Aw hq1;obtain⟨rfl,in2⟩:=Aw hq2;obtain⟨rfl,in3⟩:=Aw hq3;obtain⟨rfl,in4⟩:=Aw hq4;obtain⟨h0,h1,h2,h3⟩:=Ap ht;refine GC (p:=p) hok ht rfl λb a cap hv=>?_
 refine WB (p:=p) hok ho λb2=>?_
 refine jl (v:=I t.h) rfl (Cd in1 (jl (v:=I o.f) rfl (Cd in2 (jl (v:=I t.h) rfl (Cd in1 (jl (v:=I t.sh.refs) rfl (Cd in3 (jl (v:=I o.f) rfl (Cd in4 (jl (v:=I t.pc) rfl ?_))))))))));refine AJ (λvs R' D'=>R' = R∧D' = (b2,C 183 (eOp o)) :: (b,C AV (Ad t (.slice a t.AD.length cap))) :: (AY p S g ++ F)∧∃v:Bool,vs = [Pt p,I i,Pt b,Pt b2,I (t.h + 2 + o.f),I (t.h + 2 + t.sh.refs + o.f),I t.pc,.bool v]∧(v = true↔t.pc = 5∨t.pc = 12)) (λK hK=>?_) ?_
 ·refine jeq (jif (λh=>hK _ _ _ ⟨rfl,rfl,_,rfl,?_⟩) (λh=>jeq (hK _ _ _ ⟨rfl,rfl,_,rfl,?_⟩)))
  ·rw[h];simp[eq_of_beq h]
  ·simp[ne_of_beq_false h]
 rintro e R1 D1 ⟨rfl,hD,v,he,hv5⟩;rw[hD];clear hD;simp only[List.map,zc,zl,zj,z_t] at he;simp only[he];refine jif (λhvt=>?_) (λhvf=>?_)
 ·rw[if_pos (hv5.1 hvt)] at hS;obtain⟨⟨w,S1⟩,hrd,hS⟩:=AE hS;refine jcS (p:=p) (by exact Cm hok hrd) λ_ R2 g2 hR2 hr ok2=>?_
  subst hr;refine jcS (p:=p) (by exact XI ok2 hS) λ_ R3 g3 hR3 hr ok3=>?_
  exact Ar (hR2.trans hR3) trivial rfl ok3
 rw[if_neg (λh=>by rw[hv5.2 h] at hvf;cases hvf)] at hS;refine jeq (jif (λc=>?_) (λc=>?_))
 ·rw[if_pos (eq_of_beq c)] at hS;obtain⟨⟨w,S1⟩,hrd,hS⟩:=AE hS;have e1:=Cb hrd;subst e1;obtain⟨S2,hol,hS⟩:=AE hS;cases hS;have e2:=X4 hol;refine jcS (p:=p) (by exact Cm hok hrd) λ_ R2 g2 hR2 hr ok2=>?_
  subst hr;refine jcS (p:=p) (by exact WO ok2 hol) λ_ R3 g3 hR3 hr ok3=>?_
  refine js (cs':=Ad { t with pc:=7 } (.slice a t.AD.length cap)) rfl rfl (by simp[Ad]) rfl ?_;refine GB (p:=p) (S2.setT i { t with pc:=7 }) (by exact ok3) h0 (by rw[e2];exact h1) (by exact hv.le (hR2.trans hR3)) (by rfl) λg4 ok4=>?_
  exact Ar (hR2.trans hR3) trivial rfl ok4
 rw[if_neg (ne_of_beq_false c)] at hS;refine jeq (jif (λc=>?_) (λc=>?_))
 ·rw[if_pos (eq_of_beq c)] at hS;obtain⟨S1,hwr,hS⟩:=AE hS;refine jl (v:=I t.g) rfl ?_;refine jcS (p:=p) (by exact DN hok hwr) λ_ R2 g2 hR2 hr ok2=>?_
  refine jcS (p:=p) (by exact D0 ok2 hS) λ_ R3 g3 hR3 hr ok3=>?_
  exact Ar (hR2.trans hR3) trivial rfl ok3
 rw[if_neg (ne_of_beq_false c)] at hS;refine jeq (jif (λc=>?_) (λc=>?_))
 ·rw[if_pos (eq_of_beq c)] at hS;obtain⟨S1,hwr,hS⟩:=AE hS;refine jl (v:=I o.v) rfl ?_;refine jcS (p:=p) (by exact DN hok hwr) λ_ R2 g2 hR2 hr ok2=>?_
  refine jcS (p:=p) (by exact D0 ok2 hS) λ_ R3 g3 hR3 hr ok3=>?_
  exact Ar (hR2.trans hR3) trivial rfl ok3
 rw[if_neg (ne_of_beq_false c)] at hS;refine jeq (jif (λc=>?_) (λc=>?_))
 ·rw[if_pos (eq_of_beq c)] at hS;obtain⟨⟨w,S1⟩,hrd,hS⟩:=AE hS;refine jcS (p:=p) (by exact Cm hok hrd) λ_ R2 g2 hR2 hr ok2=>?_
  subst hr;refine jcS (p:=p) (by exact D0 ok2 hS) λ_ R3 g3 hR3 hr ok3=>?_
  exact Ar (hR2.trans hR3) trivial rfl ok3
 rw[if_neg (ne_of_beq_false c)] at hS;refine jeq (jif (λc=>?_) (λc=>?_))
 ·rw[if_pos (eq_of_beq c)] at hS;obtain⟨⟨w,S1⟩,hrd,hS⟩:=AE hS;refine jcS (p:=p) (by exact Cm hok hrd) λ_ R2 g2 hR2 hr ok2=>?_
  subst hr;refine jcS (p:=p) (by exact UC ok2 hS) λ_ R3 g3 hR3 hr ok3=>?_
  exact Ar (hR2.trans hR3) trivial rfl ok3
 rw[if_neg (ne_of_beq_false c)] at hS;refine jeq (jif (λc=>?_) (λc=>?_))
 ·rw[if_pos (eq_of_beq c)] at hS;obtain⟨⟨w,S1⟩,hrd,hS⟩:=AE hS;have e1:=Cb hrd;subst e1;dsimp only at hS;refine jl (v:=I t.u) rfl ?_;refine jcS (p:=p) (by exact Cm hok hrd) λ_ R2 g2 hR2 hr ok2=>?_
  subst hr;refine jeq (Ae (jl (v:=I t.u) rfl jev) (jif (λc2=>?_) (λc2=>?_)))
  ·rw[if_pos (eq_of_beq c2)] at hS;obtain⟨S2,hwr,hS⟩:=AE hS;refine jl (v:=I t.k) rfl ?_;refine jcS (p:=p) (by exact DN ok2 hwr) λ_ R3 g3 hR3 hr ok3=>?_
   refine jcS (p:=p) (by exact D0 ok3 hS) λ_ R4 g4 hR4 hr ok4=>?_
   exact Ar ((hR2.trans hR3).trans hR4) trivial rfl ok4
  ·rw[if_neg (ne_of_beq_false c2)] at hS;cases hS;refine js (cs':=Ad { t with pc:=10 } (.slice a t.AD.length cap)) rfl rfl (by simp[Ad]) rfl ?_;refine GB (p:=p) (({ S with used:=true }:Sim).setT i { t with pc:=10 }) (by exact ok2) h0 (by exact h1) (by exact hv.le hR2) (by rfl) λg4 ok4=>?_
   exact Ar hR2 trivial rfl ok4
 rw[if_neg (ne_of_beq_false c)] at hS;refine jeq (jif (λc=>?_) (λc=>?_))
 ·rw[if_pos (eq_of_beq c)] at hS;refine jl (v:=I t.v) rfl (jl (v:=I t.g) rfl (jeq (jif (λc2=>?_) (λc2=>?_))))
  ·rw[if_pos (eq_of_beq c2)] at hS;cases hS;refine js (cs':=Ad { t with pc:=14 } (.slice a t.AD.length cap)) rfl rfl (by simp[Ad]) rfl ?_;refine GB (p:=p) (S.setT i { t with pc:=14 }) (by exact hok) h0 (by exact h1) (by exact hv) (by rfl) λg4 ok4=>?_
   exact Ar (RM.le.refl _) trivial rfl ok4
  ·rw[if_neg (ne_of_beq_false c2)] at hS;obtain⟨⟨w,S1⟩,hrd,hS⟩:=AE hS;refine jcS (p:=p) (by exact Cm hok hrd) λ_ R2 g2 hR2 hr ok2=>?_
   subst hr;refine jcS (p:=p) (by exact UC ok2 hS) λ_ R3 g3 hR3 hr ok3=>?_
   exact Ar (hR2.trans hR3) trivial rfl ok3
 ·rw[if_neg (ne_of_beq_false c)] at hS;cases hS;exact Ar (RM.le.refl _) trivial rfl hok
theorem Vd {p:Nat} {S S' : Sim} {g:Img} {i:Int} {R:RM} (hok:Ok R S g) (hS:S.shape i = some S') :
  Fn P Jt [Pt p,I i] R (AY p S g) (Ci p S' λ_=>True):=by
 refine P7 λF=>?_
 unfold JY;obtain⟨t,ht,hS⟩:=AE hS;split at hS
 ·cases hS
 rename_i hsz;have hsz:=Fa (by simpa using hsz:S.sz = true);obtain⟨o,hop,hS⟩:=AE hS;obtain⟨h0,h1,h2,h3⟩:=Ap ht;refine GC (p:=p) hok ht rfl λb a cap hv=>?_
 refine WB (p:=p) hok hop λb2=>?_
 refine jl (v:=I o.kind) rfl (jeq (jif (λc=>?_) (λc=>?_)))
 ·rw[if_pos (eq_of_beq c)] at hS;refine jl (v:=I t.h) rfl (jl (v:=I t.g) rfl (jeq (jp (Vv (t.h == t.g)) ?_)));refine jcS (p:=p) (by exact D0 hok hS) λ_ R3 g3 hR3 hr ok3=>?_
  exact Ar hR3 trivial rfl ok3
 rw[if_neg (ne_of_beq_false c)] at hS;refine jor [Pt p,I i,Pt b,Pt b2] ((o.kind == 10) || (o.kind == 11)) (λK' hK'=>?_) (λe c u ho he=>?_)
 ·refine jl (v:=I o.kind) rfl (jeq (BM (λh1=>?_) (λh1=>?_)))
  ·refine jl (v:=I o.kind) rfl (jeq (hK' _ _ _ (h1▸Aj) (by rw[h1,Yk])))
  ·exact hK' _ _ _ (h1▸Al) (by rw[h1,Ym])
 simp only[List.map,zc,zl,zj,z_t] at he;simp only[he];rw[ho];refine jif (λhk=>?_) (λhk=>?_)
 ·rw[if_pos (by simpa using hk)] at hS;refine jl (v:=g.AO) rfl (jl (v:=I o.kind) rfl (jl (v:=I t.h) rfl ?_));refine jc (A:=[]) (Tg o.kind t.h hok.AO (by exact hsz.2.2.2.1)) ?_;intro v R1 A hR1 hq;have ok1:=hok.le hR1;cases hp:FF S.AO o.kind t.h with
  | none=>
   rw[hp] at hq hS;obtain⟨rfl,rfl⟩:=hq;refine jex rfl (jex rfl (DO ?_));refine jcS (p:=p) (D:=(b2,C 183 (eOp o)) :: (b,C AV (Ad t (.slice a t.AD.length cap))) :: (AY p S g ++ F)) (by exact D0 ok1 hS) λ_ R3 g3 hR3 hr ok3=>?_
   exact Ar (hR1.trans hR3) trivial rfl ok3
  | some l=>
   rw[hp] at hq hS;obtain⟨sv,⟨b4,c4,sp4,hc4,hsp4,rfl,rfl⟩,rfl⟩:=hq;refine jex rfl (jex rfl (Cn ?_));refine Bh (b:=b4) λR2 hR2 hb4=>?_
   have hv2:=C7 (c:=c4) hb4 hc4;refine BH (D':=(b2,C 183 (eOp o)) :: (b,C AV (Ad t (.slice a t.AD.length cap))) :: (AY p S g ++ F)) (ZP _) ?_;refine jss { S with AO:=l } { g with AO:=S0 b4 l.length c4 } rfl rfl (by decide) (by rfl) (by rfl) ?_;refine jcS (p:=p) (by exact D0 (S:={ S with AO:=l }) { ok1.le hR2 with AO:=hv2 } hS) λ_ R3 g3 hR3 hr ok3=>?_
   exact Ar ((hR1.trans hR2).trans hR3) trivial rfl ok3
 rw[if_neg (by simpa using hk)] at hS;obtain⟨q,hq,hS⟩:=AE hS;obtain⟨rfl,hin⟩:=Aw hq;obtain⟨⟨w,S1⟩,hrd,hS⟩:=AE hS;have e1:=Cb hrd;subst e1;dsimp only at hS;refine jl (v:=I t.h) rfl (Cd hin ?_);refine jcS (p:=p) (by exact Cm hok hrd) λ_ R1 g1 hR1 hr ok1=>?_
 subst hr;refine jp (EH w) (jex rfl (jex rfl ?_));refine ja λb3=>?_
 refine js (cs':=[I (AH w).1.refs,I (AH w).1.nums]) rfl rfl (by exact z_n 2) rfl ?_;refine jla (l:=eOp o) (by exact z_n 8) (by rfl) ?_;refine jl (v:=I (AH w).1.refs) rfl (jl (v:=I (AH w).1.nums) rfl ?_);refine jp (TY o (AH w).1.refs (AH w).1.nums) (jif (λhf=>?_) (λhf=>?_))
 ·rw[if_pos hf] at hS;refine jcS (p:=p) (by exact D0 ok1 hS) λ_ R3 g3 hR3 hr ok3=>?_
  exact Ar (hR1.trans hR3) trivial rfl ok3
 rw[if_neg (by rw[hf];decide)] at hS;refine jla (l:=[I (AH w).1.refs,I (AH w).1.nums]) (by exact z_n 2) (by rfl) ?_;refine js (cs':=Ad { t with sh:=(AH w).1 } (.slice a t.AD.length cap)) rfl rfl (by simp[Ad]) rfl ?_;have fin:∀(R2:RM) (D2:Chs) (q:Int) (m:M),q = (if o.kind = 2 then 5 else if o.kind = 3 then (if S.Aa = 1 then 6 else 7) else if o.kind = 4 then 8 else if o.kind = 5 then 9 else if o.kind = 7 then 10 else t.pc)→S' = ({ S with used:=true }:Sim).setT i { t with sh:=(AH w).1,pc:=q }:=λR2 D2 q m hq=>by
  rw[hq];simp only[Yr] at hS;exact hS.symm
 refine AJ (λvs R' D'=>R' = R1∧∃q,S' = ({ S with used:=true }:Sim).setT i { t with sh:=(AH w).1,pc:=q }∧D' = AY p { S with used:=true } g1 ++ (b,C AV (Ad { t with sh:=(AH w).1,pc:=q } (.slice a t.AD.length cap))) :: F∧vs = [Pt p,I i,Pt b]) (λK hK=>?_) ?_;rotate_left
 ·rintro e R2 D2 ⟨rfl,q,rfl,hD,he⟩;rw[hD];clear hD;simp only[List.map,zc,zl,zj,z_t] at he;simp only[he];refine GB (p:=p) (({ S with used:=true }:Sim).setT i { t with sh:=(AH w).1,pc:=q }) (by exact ok1) h0 (by exact h1) (by exact hv.le hR1) (by rfl) λg4 ok4=>?_
  exact Ar hR1 trivial rfl ok4
 refine jl (v:=I o.kind) rfl ?_;refine AJ (λvs R' D'=>R' = R1∧∃q,S' = ({ S with used:=true }:Sim).setT i { t with sh:=(AH w).1,pc:=q }∧D' = AY p { S with used:=true } g1 ++ (b,C AV (Ad { t with sh:=(AH w).1,pc:=q } (.slice a t.AD.length cap))) :: F∧vs = [Pt p,I i,Pt b]) (λK2 hK2=>?_) ?_;rotate_left
 ·rintro e R2 D2 ⟨rfl,q,hq,hD,he⟩;rw[hD];clear hD;simp only[List.map,zc,zl,zj,z_t] at he;simp only[he];exact hK _ _ _ ⟨rfl,q,hq,rfl,rfl⟩
 have leaf:∀q:Int,q = (if o.kind = 2 then 5 else if o.kind = 3 then (if S.Aa = 1 then 6 else 7) else if o.kind = 4 then 8 else if o.kind = 5 then 9 else if o.kind = 7 then 10 else t.pc)→
   J R1 ((b3,C 60 [I (AH w).1.refs,I (AH w).1.nums]) :: (AY p { S with used:=true } g1 ++ (b2,C 183 (eOp o)) :: (b,C AV (Ad { t with sh:=(AH w).1,pc:=q } (.slice a t.AD.length cap))) :: F)) (K2 [Pt p,I i,Pt b]):=λq hq=>by
  refine Ai (AY p { S with used:=true } g1) (G:=(b,C AV (Ad { t with sh:=(AH w).1,pc:=q } (.slice a t.AD.length cap))) :: F) ?_;exact hK2 _ _ _ ⟨rfl,q,fin R1 [] q (λ_=>True) hq,rfl,rfl⟩
 refine jeq (jif (λc2=>?_) (λc2=>?_))
 ·refine js (cs':=Ad { t with sh:=(AH w).1,pc:=5 } (.slice a t.AD.length cap)) rfl rfl (by simp[Ad]) rfl ?_;exact leaf 5 (by rw[if_pos (eq_of_beq c2)])
 refine jeq (jif (λc3=>?_) (λc3=>?_))
 ·refine js (cs':=Ad { t with sh:=(AH w).1,pc:=7 } (.slice a t.AD.length cap)) rfl rfl (by simp[Ad]) rfl ?_;refine jl (v:=I S.Aa) rfl (jeq (jif (λph=>?_) (λph=>?_)))
  ·refine js (cs':=Ad { t with sh:=(AH w).1,pc:=6 } (.slice a t.AD.length cap)) rfl rfl (by simp[Ad]) rfl ?_;exact leaf 6 (by rw[if_neg (ne_of_beq_false c2),if_pos (eq_of_beq c3),if_pos (eq_of_beq ph)])
  ·exact leaf 7 (by rw[if_neg (ne_of_beq_false c2),if_pos (eq_of_beq c3),if_neg (ne_of_beq_false ph)])
 refine jeq (jif (λc4=>?_) (λc4=>?_))
 ·refine js (cs':=Ad { t with sh:=(AH w).1,pc:=8 } (.slice a t.AD.length cap)) rfl rfl (by simp[Ad]) rfl ?_;exact leaf 8 (by rw[if_neg (ne_of_beq_false c2),if_neg (ne_of_beq_false c3),if_pos (eq_of_beq c4)])
 refine jeq (jif (λc5=>?_) (λc5=>?_))
 ·refine js (cs':=Ad { t with sh:=(AH w).1,pc:=9 } (.slice a t.AD.length cap)) rfl rfl (by simp[Ad]) rfl ?_;exact leaf 9 (by rw[if_neg (ne_of_beq_false c2),if_neg (ne_of_beq_false c3),if_neg (ne_of_beq_false c4),if_pos (eq_of_beq c5)])
 refine jeq (jif (λc7=>?_) (λc7=>?_))
 ·refine js (cs':=Ad { t with sh:=(AH w).1,pc:=10 } (.slice a t.AD.length cap)) rfl rfl (by simp[Ad]) rfl ?_;exact leaf 10 (by rw[if_neg (ne_of_beq_false c2),if_neg (ne_of_beq_false c3),if_neg (ne_of_beq_false c4),if_neg (ne_of_beq_false c5),if_pos (eq_of_beq c7)])
 ·exact leaf t.pc (by rw[if_neg (ne_of_beq_false c2),if_neg (ne_of_beq_false c3),if_neg (ne_of_beq_false c4),if_neg (ne_of_beq_false c5),if_neg (ne_of_beq_false c7)])
theorem UI {p:Nat} {S S' : Sim} {g:Img} {i:Int} {R:RM} (hok:Ok R S g) (hS:S.making i = some S') :
  Fn P Hc [Pt p,I i] R (AY p S g) (Ci p S' λ_=>True):=by
 refine NX λF=>?_
 unfold IZ;obtain⟨t,ht,hS⟩:=AE hS;obtain⟨o,hop,hS⟩:=AE hS;obtain⟨h0,h1,h2,h3⟩:=Ap ht;refine GC (p:=p) hok ht rfl λb a cap hv=>?_
 refine WB (p:=p) hok hop λb2=>?_
 refine AJ (λvs R' D'=>R.le R'∧∃S1 g1 t1,S1.th = S.th∧t1.AD = t.AD∧Ok R' S1 g1∧t.pc≠30∧t.pc≠31∧(let t2:={ t1 with pc:=33 };let S2:=S1.setT i t2;if t2.i = t2.size then (do (← S2.top t2.dst t2.size).push i t2.dst) else some S2) = some S'∧
   D' = AY p S1 g1 ++ (b,C AV (Ad t1 (.slice a t.AD.length cap))) :: F∧vs = [Pt p,I i,Pt b]) (λK hK=>?_) ?_
 rotate_left
 ·rintro e R2 D2 ⟨hR,S1,g1,t1,hth,hr,ok1,_,_,hS,hD,he⟩;rw[hD];clear hD;simp only[List.map,zc,zl,zj,z_t] at he;simp only[he];dsimp only at hS;refine js (cs':=Ad { t1 with pc:=33 } (.slice a t.AD.length cap)) rfl rfl (by simp[Ad]) rfl ?_;refine GB (p:=p) (S1.setT i { t1 with pc:=33 }) (by exact ok1) h0 (by rw[hth];exact h1) (by rw[hr];exact hv.le hR) (by rfl) λg3 ok3=>?_
  refine jl (v:=I t1.i) rfl (jl (v:=I t1.size) rfl (jeq (jif (λhz=>?_) (λhz=>?_))))
  ·rw[if_pos (eq_of_beq hz)] at hS;obtain⟨S3,htp,hS⟩:=AE hS;refine jl (v:=I t1.dst) rfl (jl (v:=I t1.size) rfl ?_);refine jcS (p:=p) (by exact UK ok3 htp) λ_ R4 g4 hR4 hr ok4=>?_
   refine jl (v:=I t1.dst) rfl ?_;refine jcS (p:=p) (by exact OC ok4 hS) λ_ R5 g5 hR5 hr ok5=>?_
   exact Ar ((hR.trans hR4).trans hR5) trivial rfl ok5
  ·rw[if_neg (ne_of_beq_false hz)] at hS;cases hS;exact Ar hR trivial rfl ok3
 refine jl (v:=I t.pc) rfl ?_;refine AJ (λvs R' D'=>R.le R'∧∃S1 g1 t1,S1.th = S.th∧t1.AD = t.AD∧Ok R' S1 g1∧t.pc≠30∧t.pc≠31∧(let t2:={ t1 with pc:=33 };let S2:=S1.setT i t2;if t2.i = t2.size then (do (← S2.top t2.dst t2.size).push i t2.dst) else some S2) = some S'∧
   D' = AY p S1 g1 ++ (b,C AV (Ad t1 (.slice a t.AD.length cap))) :: F∧vs = [Pt p,I i,Pt b]) (λK2 hK2=>?_) ?_
 rotate_left
 ·rintro e R2 D2 ⟨hR,S1,g1,t1,hth,hr,ok1,n1,n2,hS,hD,he⟩;rw[hD];clear hD;simp only[List.map,zc,zl,zj,z_t] at he;simp only[he];exact hK _ _ _ ⟨hR,S1,g1,t1,hth,hr,ok1,n1,n2,hS,rfl,rfl⟩
 refine jeq (jif (λc30=>?_) (λc30=>?_))
 ·have c30:=eq_of_beq c30;rw[if_pos c30] at hS;dsimp only at hS;refine jfo (jla (l:=[I o.sh.refs,I o.sh.nums]) (by exact z_n 8) (by rfl) ?_);refine jp (CC o.sh) ?_;refine js (cs':=Ad { t with size:=AF o.sh } (.slice a t.AD.length cap)) rfl rfl (by simp[Ad]) rfl ?_;refine jl (v:=.slice (some ⟨g.tb,0,none⟩) S.A0.length g.tc) rfl ?_;refine jl (v:=I (AF o.sh)) rfl ?_;refine jmk (by exact Fr (t:=S.A0) (sp:=g.tsp) i (AF o.sh) (by have:=hok.tl;omega)) ?_;intro v N hq2;cases hrm:BP S.A0 i (AF o.sh) with
  | none=>
   rw[hrm] at hq2 hS;obtain⟨rfl,rfl⟩:=hq2;dsimp only at hS;refine BH (D':=(b2,C 183 (eOp o)) :: (b,C AV (Ad { t with size:=AF o.sh } (.slice a t.AD.length cap))) :: (AY p S g ++ F)) (ZP _) ?_;refine jex rfl (jex rfl (jex rfl ?_));refine AJ (λvs R' D'=>R' = R∧D' = (b2,C 183 (eOp o)) :: (b,C AV (Ad { t with size:=AF o.sh } (.slice a t.AD.length cap))) :: (AY p S g ++ F)∧∃c u,vs = [Pt p,I i,Pt b,.slice none 0 0,I 0,.bool false,c,u]∧Fh c u (t.Au == 2)) (λK3 hK3=>?_) ?_
   ·refine jtt (jl (v:=I t.Au) rfl (jeq (hK3 _ _ _ ⟨rfl,rfl,_,_,rfl,Aq⟩)))
   ·rintro e R2 D2 ⟨rfl,hD,c,u,he,ha⟩;rw[hD];clear hD;simp only[List.map,zc,zl,zj,z_t] at he;simp only[he];rw[ha];refine jif (λh2=>?_) (λh2=>?_)
    ·rw[if_pos (eq_of_beq h2)] at hS;refine jcS (p:=p) (by exact D0 hok hS) λ_ R3 g3 hR3 hr ok3=>?_
     exact Ar hR3 trivial rfl ok3
    ·rw[if_neg (ne_of_beq_false h2)] at hS;refine DO ?_;refine jcS (p:=p) (by exact Ux hok hS) λ_ R3 g3 hR3 hr ok3=>?_
     exact Ar hR3 trivial rfl ok3
  | some td=>
   obtain⟨t',d⟩:=td;rw[hrm] at hq2 hS;obtain⟨sv,⟨b4,c4,sp4,hc4,rfl,rfl⟩,rfl⟩:=hq2;simp only[Yr] at hS;have hlen:=Kr hrm;refine jex rfl (jex rfl (jex rfl ?_));refine AJ (λvs R' D'=>R' = R∧D' = [(b4,C AI (Ab eRg t' ++ sp4))] ++ ((b2,C 183 (eOp o)) :: (b,C AV (Ad { t with size:=AF o.sh } (.slice a t.AD.length cap))) :: (AY p S g ++ F))∧∃c u,vs = [Pt p,I i,Pt b,S0 b4 t'.length c4,I d,.bool true,c,u]∧Fh c u false) (λK3 hK3=>?_) ?_
   ·exact jft (hK3 _ _ _ ⟨rfl,rfl,_,_,rfl,Av⟩)
   ·rintro e R2 D2 ⟨rfl,hD,c,u,he,ha⟩;rw[hD];clear hD;simp only[List.map,zc,zl,zj,z_t] at he;simp only[he];rw[ha];refine Cn (Cn ?_);refine P5 (p:=p) ?_;refine js (cs':=Ad { t with size:=AF o.sh,dst:=d } (.slice a t.AD.length cap)) rfl rfl (by simp[Ad]) rfl ?_;refine js (cs':=Ad { t with size:=AF o.sh,dst:=d,i:=2 } (.slice a t.AD.length cap)) rfl rfl (by simp[Ad]) rfl ?_;refine js (cs':=Ad { t with size:=AF o.sh,dst:=d,i:=2,pc:=31 } (.slice a t.AD.length cap)) rfl rfl (by simp[Ad]) rfl ?_;refine GB (p:=p) (({ S with A0:=t' }:Sim).setT i { t with size:=AF o.sh,dst:=d,i:=2,pc:=31 }) (by exact hok.tab (by rw[hlen];exact hok.tl) _ _ _ hc4) h0 (by exact h1) (by exact hv) (by rfl) λg3 ok3=>?_
    subst hS;exact Ar (RM.le.refl _) trivial rfl ok3
 have c30:t.pc≠30:=by simpa using c30
 rw[if_neg c30] at hS;refine jeq (jif (λc31=>?_) (λc31=>?_))
 ·have c31:=eq_of_beq c31;rw[if_pos c31] at hS;obtain⟨S1,hwr,hS⟩:=AE hS;have e1:=E0 hwr;subst e1;cases hS;refine jl (v:=I t.dst) rfl (jl (v:=I t.dst) rfl ?_);refine jcS (p:=p) (by exact DN hok hwr) λ_ R1 g1 hR1 hr ok1=>?_
  refine js (cs':=Ad { t with pc:=32 } (.slice a t.AD.length cap)) rfl rfl (by simp[Ad]) rfl ?_;refine GB (p:=p) (({ S with used:=true,AB:=AW S.AB t.dst t.dst }:Sim).setT i { t with pc:=32 }) (by exact ok1) h0 (by exact h1) (by exact hv.le hR1) (by rfl) λg3 ok3=>?_
  exact Ar hR1 trivial rfl ok3
 have c31:t.pc≠31:=by simpa using c31
 rw[if_neg c31] at hS;obtain⟨⟨S2,t2⟩,hst,hS⟩:=AE hS;dsimp only at hS;refine jeq (jif (λc32=>?_) (λc32=>?_))
 ·have c32:=eq_of_beq c32;rw[if_pos c32] at hst;obtain⟨q,hq,hst⟩:=AE hst;obtain⟨rfl,hin⟩:=Aw hq;obtain⟨S1,hwr,hst⟩:=AE hst;have e1:=E0 hwr;subst e1;cases hst;refine jl (v:=I t.dst) rfl (Cd hin ?_);refine jfo (jla (l:=[I o.sh.refs,I o.sh.nums]) (by exact z_n 8) (by rfl) ?_);refine jp (E2 o.sh) (Ae (jl (v:=I t.dst) rfl jev) ?_);refine jcS (p:=p) (by exact DN hok hwr) λ_ R1 g1 hR1 hr ok1=>?_
  refine Ai (AY p { S with used:=true,AB:=AW S.AB (t.dst + 1) (Am o.sh) } g1) (G:=(b,C AV (Ad t (.slice a t.AD.length cap))) :: F) ?_;exact hK2 _ _ _ ⟨hR1,{ S with used:=true,AB:=AW S.AB (t.dst + 1) (Am o.sh) },g1,t,rfl,rfl,ok1,c30,c31,hS,rfl,rfl⟩
 have c32:t.pc≠32:=by simpa using c32
 rw[if_neg c32] at hst;refine jeq (jif (λc33=>?_) (λc33=>?_))
 ·have c33:=eq_of_beq c33;rw[if_pos c33] at hst;obtain⟨q,hq,hst⟩:=AE hst;obtain⟨rfl,hin⟩:=Aw hq;obtain⟨S1,hwr,hst⟩:=AE hst;have e1:=E0 hwr;subst e1;obtain⟨n,hn,hst⟩:=AE hst;obtain⟨rfl,hin2⟩:=Aw hn;cases hst;refine jl (v:=I t.dst) rfl (jl (v:=I t.i) rfl (Cd hin ?_));refine jcS (p:=p) (by exact DN hok hwr) λ_ R1 g1 hR1 hr ok1=>?_
  refine jl (v:=I t.i) rfl (Cd hin2 ?_);refine js (cs':=Ad { t with i:=t.i + 1 } (.slice a t.AD.length cap)) rfl rfl (by simp[Ad]) rfl ?_;refine Ai (AY p { S with used:=true,AB:=AW S.AB (t.dst + t.i) 0 } g1) (G:=(b,C AV (Ad { t with i:=t.i + 1 } (.slice a t.AD.length cap))) :: F) ?_;exact hK2 _ _ _ ⟨hR1,{ S with used:=true,AB:=AW S.AB (t.dst + t.i) 0 },g1,{ t with i:=t.i + 1 },rfl,rfl,ok1,c30,c31,hS,rfl,rfl⟩
 have c33:t.pc≠33:=by simpa using c33
 rw[if_neg c33] at hst;cases hst;refine Ai (AY p S g) (G:=(b,C AV (Ad t (.slice a t.AD.length cap))) :: F) ?_;exact hK2 _ _ _ ⟨RM.le.refl _,S,g,t,rfl,rfl,hok,c30,c31,hS,rfl,rfl⟩
theorem Ol {l:List Thr} {rv sp:List Value} {i f:Nat} {v:Value} (h:i < l.length) (h' : i < rv.length) (hv:(Ad (l[i]) (rv[i]))[f]? = some v):(Dh l rv ++ sp)[i * 17 + f]? = some v:=by
 have:=S6 (sp:=sp) h h';have e2:=congrArg (λl=>l[f]?) this;simp only[Zr,Zl] at e2;have hf:f < 17:=by
  by_cases c:f < 17
  ·exact c
  ·have:(Ad (l[i]) (rv[i]))[f]? = none:=ZW (by show 17≤f;omega);rw[this] at hv;cases hv
 rw[if_pos hf] at e2;rw[e2,hv]
theorem jpc {R:RM} {D G:Chs} {p:Nat} {S:Sim} {g:Img} {i:Int} {t:Thr} {k:Value→M} [w:Fd D p S g G] (hok:Ok R S g) (ht:idx S.th i = some t) (H:J R D (k (I t.pc))) :
  J R D (L1 (.pointer (some ⟨p,17,none⟩)) λx=>IA 17 x (I i) λy=>FO 3 y λz=>L1 z k):=by
 obtain⟨h0,h1,h2,h3⟩:=Ap ht;have h2' : i.toNat < g.rv.length:=by have:=hok.rvl;omega
 have H' : J R (AY p S g ++ G) (k (I t.pc)):=BH w.ex.symm H;have l1:J R (AY p S g ++ G) (L1 (.pointer (some ⟨p,17,none⟩)) λx=>IA 17 x (I i) λy=>FO 3 y λz=>L1 z k):=by
  refine jl rfl (jia h0 h1 (jl (v:=I t.pc) ?_ H'));rw[Z6];exact Ol h2 h2' (by rw[h3];rfl)
 exact BH w.ex l1
theorem Uq {n p:Nat} {S S' : Sim} {g:Img} {i:Int} {R:RM} (hok:Ok R S g) (hS:S.thread n i = some S') :
  Fn P Hi [Pt p,I i] R (AY p S g) (Ci p S' λ_=>True):=by
 refine O2 λF=>?_
 unfold IV;obtain⟨t,ht,hS⟩:=AE hS;obtain⟨h0,h1,h2,h3⟩:=Ap ht;refine GC (p:=p) hok ht rfl λb a cap hv=>?_
 refine jl (v:=I t.pc) rfl (jeq (jif (λhp=>?_) (λhp=>?_)))
 ·rw[if_pos (eq_of_beq hp)] at hS;refine AJ (λvs R' D'=>R' = R∧D' = (b,C AV (Ad t (.slice a t.AD.length cap))) :: (AY p S g ++ F)∧∃c u v,vs = [Pt p,I i,c,u]∧Fh c u v∧(if v = true then S.begin_ i else some S) = some S') (λK hK=>?_) ?_;rotate_left
  ·rintro e R1 D1 ⟨rfl,hD,c,u,v,he,ha,hq⟩;rw[hD];clear hD;simp only[List.map,zc,zl,zj,z_t] at he;simp only[he];rw[ha];refine jif (λhc=>?_) (λhc=>?_)
   ·rw[if_pos hc] at hq;refine jcS (p:=p) (by exact Vc hok hq) λ_ R2 g2 hR2 hr ok2=>?_
    exact Ar hR2 trivial rfl ok2
   ·rw[if_neg (by rw[hc];decide)] at hq;cases hq;exact Ar (RM.le.refl _) trivial rfl hok
  refine jl (v:=.bool S.stop) rfl ?_;cases hst:S.stop with
  | true=>
   rw[hst,if_pos rfl] at hS;exact jft (hK _ _ _ ⟨rfl,rfl,_,_,false,rfl,Av,by rw[if_neg (by decide)];exact hS⟩)
  | false=>
   rw[hst,if_neg (by decide)] at hS;obtain⟨pr,hpr,hS⟩:=AE hS;obtain⟨i0,i1,i2,i3⟩:=Ap hpr;refine jtt (jl (v:=I t.next) rfl (jl (v:=g.AX) rfl ?_));obtain⟨vs,f1,f2,f3⟩:=hok.AX;obtain⟨x,f4,f5⟩:=f3 i.toNat i2;rw[i3] at f5;rcases f1 with ⟨_,h,_⟩ | ⟨bp,op_,cp,tp,cs,e1,e2,e3,e4,e5⟩
   ·omega
   have hx:cs[op_ + i.toNat * 1]? = some x:=by
    have:=congrArg (λl=>l[i.toNat]?) e4;simp only[Zr,Zl] at this;rw[if_pos (by omega)] at this;rw[Zt,this,f4]
   rw[e1];refine jia i0 (by omega) (jlr e2 hx (J2 f5 (jlt (hK _ _ _ ⟨rfl,rfl,_,_,_,rfl,Aq,?_⟩))));by_cases hc:t.next < pr.length
   ·rw[if_pos hc] at hS;rw[if_pos (decide_eq_true hc)];exact hS
   ·rw[if_neg hc] at hS;rw[if_neg (by rw[decide_eq_false hc];decide)];exact hS
 ·rw[if_neg (ne_of_beq_false hp)] at hS;refine jss { S with used:=false } g rfl rfl (by decide) (by rfl) (by rfl) ?_;refine Ai (AY p { S with used:=false } g) (G:=F) ?_;refine jlp (λm vs R' D'=>R.le R'∧∃S1 g1,Ok R' S1 g1∧D' = AY p S1 g1 ++ F∧vs = [Pt p,I i]∧Sim.tloop m S1 i = some S') (n:=n) ⟨RM.le.refl _,{ S with used:=false },g,{ hok with },rfl,rfl,hS⟩ ?_;rintro m e R1 D1 K ⟨hR,S1,g1,ok1,hD,he,hl⟩ hK;rw[hD];clear hD;simp only[List.map,zc,zl,zj,z_t] at he;simp only[he];cases m with
  | zero=>cases hl
  | succ m=>
   obtain⟨t1,ht1,hl⟩:=AE hl;refine AJ (λvs R' D'=>R' = R1∧D' = AY p S1 g1 ++ F∧∃c u,vs = [Pt p,I i,c,u]∧Fh c u (!S1.used && t1.pc != 0)) (λK2 hK2=>?_) ?_
   ·refine jl (v:=.bool S1.used) rfl ?_;cases hu:S1.used with
    | true=>exact jft (hK2 _ _ _ ⟨rfl,rfl,_,_,rfl,by rw[hu];exact Av⟩)
    | false=>
     refine jtt (jpc (p:=p) ok1 ht1 (jne (hK2 _ _ _ ⟨rfl,rfl,_,_,rfl,?_⟩)));rw[hu];exact Aq
   rintro e R2 D2 ⟨rfl,hD,c,u,he,ha⟩;rw[hD];clear hD;simp only[List.map,zc,zl,zj,z_t] at he;simp only[he];rw[ha];refine jif (λhc=>?_) (λhc=>?_);rotate_left
   ·rw[if_pos (by
     cases hu:S1.used
     ·rw[hu] at hc;right;simpa using hc
     ·exact .inl rfl)] at hl
    cases hl;exact Ar hR trivial rfl ok1
   have hc' : ¬ (S1.used = true∨t1.pc = 0):=by
    simp only[z_b,Z7,bne_iff_ne,ne_eq] at hc;rintro (h | h)
    ·rw[hc.1] at h;cases h
    ·exact hc.2 h
   rw[if_neg hc'] at hl;obtain⟨S2,hst,hl⟩:=AE hl;unfold Sim.tstep at hst;rw[ht1] at hst;simp only[Yo,z_o] at hst;refine AJ (λvs R' D'=>R.le R'∧∃g2,Ok R' S2 g2∧D' = AY p S2 g2 ++ F∧vs = [Pt p,I i]) (λK3 hK3=>?_) ?_;rotate_left
   ·rintro e R3 D3 ⟨hR3,g2,ok2,hD,he⟩;rw[hD];clear hD;simp only[List.map,zc,zl,zj,z_t] at he;simp only[he];exact hK m _ _ _ (by omega) ⟨hR3,S2,g2,ok2,rfl,rfl,hl⟩
   refine jpc (p:=p) ok1 ht1 ?_;refine AJ (λvs R' D'=>R.le R'∧∃g2,Ok R' S2 g2∧D' = AY p S2 g2 ++ F∧vs = [Pt p,I i]) (λK4 hK4=>?_) ?_;rotate_left
   ·rintro e R3 D3 ⟨hR3,g2,ok2,hD,he⟩;rw[hD];clear hD;simp only[List.map,zc,zl,zj,z_t] at he;simp only[he];exact hK3 _ _ _ ⟨hR3,g2,ok2,rfl,rfl⟩
   refine jor [Pt p,I i,I t1.pc] ((decide (t1.pc≤3)) || (t1.pc == 11)) (λK' hK'=>?_) (λe c u ho he=>?_)
   ·refine jle (BM (λh1=>?_) (λh1=>?_))
    ·refine jeq (hK' _ _ _ (h1▸Aj) (by rw[h1,Yk]))
    ·exact hK' _ _ _ (h1▸Al) (by rw[h1,Ym])
   simp only[List.map,zc,zl,zj,z_t] at he;simp only[he];refine jor [Pt p,I i,I t1.pc] ((decide (t1.pc≤3) || t1.pc == 11) || (t1.pc == 15)) (λK' hK'=>?_) (λe c u ho he=>?_)
   ·rw[ho];refine BM (λh1=>?_) (λh1=>?_)
    ·refine jeq (hK' _ _ _ (h1▸Aj) (by rw[h1,Yk]))
    ·exact hK' _ _ _ (h1▸Al) (by rw[h1,Ym])
   simp only[List.map,zc,zl,zj,z_t] at he;simp only[he];rw[ho];refine jif (λc1=>?_) (λc1=>?_)
   ·rw[if_pos (by simpa [or_assoc] using c1)] at hst;refine jcS (p:=p) (by exact SV ok1 hst) λ_ R2 g2 hR2 hr ok2=>?_
    exact hK4 _ _ _ ⟨hR.trans hR2,g2,ok2,rfl,rfl⟩
   rw[if_neg (by
    intro h
    have:((decide (t1.pc≤3) || t1.pc == 11) || t1.pc == 15) = true:=by simpa [or_assoc] using h
    rw[c1] at this;cases this)] at hst
   refine jeq (jif (λc2=>?_) (λc2=>?_))
   ·rw[if_pos (eq_of_beq c2)] at hst;refine jcS (p:=p) (by exact Vd ok1 hst) λ_ R2 g2 hR2 hr ok2=>?_
    exact hK4 _ _ _ ⟨hR.trans hR2,g2,ok2,rfl,rfl⟩
   rw[if_neg (ne_of_beq_false c2)] at hst;refine jge (jif (λc3=>?_) (λc3=>?_))
   ·rw[if_pos (z_f c3)] at hst;refine jcS (p:=p) (by exact UI ok1 hst) λ_ R2 g2 hR2 hr ok2=>?_
    exact hK4 _ _ _ ⟨hR.trans hR2,g2,ok2,rfl,rfl⟩
   rw[if_neg (z_g c3)] at hst;refine jge (jif (λc4=>?_) (λc4=>?_))
   ·rw[if_pos (z_f c4)] at hst;refine jcS (p:=p) (by exact TT ok1 hst) λ_ R2 g2 hR2 hr ok2=>?_
    exact hK4 _ _ _ ⟨hR.trans hR2,g2,ok2,rfl,rfl⟩
   rw[if_neg (z_g c4)] at hst;refine jcS (p:=p) (by exact W5 ok1 hst) λ_ R2 g2 hR2 hr ok2=>?_
   exact hK4 _ _ _ ⟨hR.trans hR2,g2,ok2,rfl,rfl⟩
theorem Ww {p:Nat} {S:Sim} {g:Img} {R:RM} (hok:Ok R S g) :
  Fn P KV [Pt p] R (AY p S g) (Ci p S (· = .bool S.calm)):=by
 refine Qo λF=>?_
 unfold Lv;refine jlp (λn vs R' D'=>R' = R∧D' = AY p S g ++ F∧∃i:Nat,i≤S.th.length∧vs = [Pt p,I i]∧n = S.th.length - i∧∀k (h:k < S.th.length),k < i→(S.th[k]).pc = 0)
  (n:=S.th.length) ⟨rfl,rfl,0,by omega,rfl,by omega,λk _ h=>by omega⟩ ?_
 rintro n e R1 D1 K ⟨rfl,hD,i,hi,he,hn,Bp⟩ hK;rw[hD];clear hD;simp only[List.map,zc,zl,zj,z_t] at he;simp only[he];have hl:=hok.hl;refine jl (v:=.slice (some ⟨g.hb,0,none⟩) S.th.length g.hc) rfl (jln (jlt (jif (λhc=>?_) (λhc=>?_))))
 ·have hc:i < S.th.length:=by have:=z_f hc;omega
  have ht:idx S.th i = some (S.th[i]):=by unfold idx;rw[if_pos (by omega),Yj,Yl hc]
  refine jpc (p:=p) hok ht (jne (jif (λhp=>?_) (λhp=>?_)))
  ·refine Ar (RM.le.refl _) ?_ rfl hok;have hp:(S.th[i]).pc≠0:=by simpa using hp
   have:S.calm = false:=by
    unfold Sim.calm;rw[List.all_eq_false];exact⟨S.th[i],Yv hc,by simpa using hp⟩
   rw[this]
  ·have hp:(S.th[i]).pc = 0:=by simpa using hp
   refine jad ?_;refine hK (S.th.length - (i + 1)) _ _ _ (by omega) ⟨rfl,rfl,i + 1,by omega,rfl,rfl,λk hk hki=>?_⟩;by_cases c:k = i
   ·subst c;exact hp
   ·exact Bp k hk (by omega)
 ·have hc:¬ i < S.th.length:=by have:=z_g hc;omega
  refine Ar (RM.le.refl _) ?_ rfl hok;have:S.calm = true:=by
   unfold Sim.calm;rw[ZE];intro x hx;obtain⟨k,hk,rfl⟩:=ZH hx;simpa using Bp k hk (by omega)
  rw[this]
instance (priority:=low) Sp.appr (X D A F:Chs) [s:Sp D A F]:Sp (X ++ D) A (X ++ F):=⟨(s.p.append_left X).trans (by rw[← Ys,← Ys];exact aG F aB)⟩
section col
variable {R:RM} {D G:Chs} {p:Nat} {S:Sim} {g:Img} {m:M} {k:Value→M}
theorem PT {x:Col} {sv:Value} (h:flat sv = true):CG (Ah x sv) = true:=by
 show (true && (true && (true && (flat sv && true)))) = true;rw[h];rfl
theorem It [w:Fd D p S g G] (hok:Ok R S g) (H:∀b,J R ((b,C Ax (Ah S.col g.AG)) :: D) (k (Pt b))) :
  J R D (LA 15 (.pointer (some ⟨p,18,none⟩)) λx3=>AL Ax HJ λx4=>ST 15 x4 x3 (k x4)):=by
 refine BH w.ex ?_;refine jla (t:=BZ) (cs:=Br S g) (l:=Ah S.col g.AG) (by show 18 + 15≤35;omega) rfl ?_;refine ja λb=>?_
 refine js (cs':=Ah S.col g.AG) rfl (PT (Fz.flat hok.AG)) (by exact z_n 15) (by rfl) ?_;exact BH (w.ex.symm.cons _) (H b)
theorem Ht {b:Nat} {x:Col} {sv:Value} (S' : Sim) [w:Fd D p S g G] [at_:At D b (C Ax (Ah x sv))] (hok:Ok R S g) (hv:BC R sv x.AG) (hS:S' = { S with col:=x })
  (H:∀g',Ok R S' g'→J R (AY p S' g' ++ G) m):J R D (LA 15 (Pt b) λx10=>ST 15 (.pointer (some ⟨p,18,none⟩)) x10 m):=by
 subst hS;refine jla (t:=Ax) (cs:=Ah x sv) (l:=Ah x sv) (z_n 15) rfl ?_;refine jss (p:=p) { S with col:=x } { g with AG:=sv } rfl (PT (Fz.flat hv)) (by decide) (by rfl) (by rfl) ?_;exact H _ { hok with AG:=hv }
theorem jsm {i:Nat} {v:Bool} (S' : Sim) [w:Fd D p S g G] (hi:i < S.AR.length) (hS:S' = { S with AR:=S.AR.set i v }) (H:J R (AY p S' g ++ G) m):J R D (ST 1 (.pointer (some ⟨g.mb,i,none⟩)) (.bool v) m):=by
 subst hS;intro h hs;refine js (R:=R) (D:=AY p S g ++ G) (t:=BK) (cs:=S.AR.map Value.bool ++ g.msp) (cs':=(S.AR.set i v).map Value.bool ++ g.msp) (D':=AY p { S with AR:=S.AR.set i v } g ++ G) rfl rfl (by simp;omega) ?_ H h (hs.perm w.ex) (u:=?_)
 ·rw[show cl (Value.bool v) = [Value.bool v] from rfl,GS (by simp;omega),List.set_append_left _ _ (by simpa using hi),List.map_set]
 ·have e1:Br { S with AR:=S.AR.set i v } g = Br S g:=by simp[Br,evV]
  unfold AY evD;rw[e1];exact inferInstance
end col
theorem Lk {x x' : Col} (a:Option Addr) (n c:Nat) (h:Fm x = some x'):Pu MA [.agg (Ah x (.slice a n c)).toArray] (.agg (Ah x' (.slice a n c)).toArray):=by
 intro R;refine QE λF=>?_
 unfold Ll;obtain⟨i,hi,h⟩:=AE h;obtain⟨rfl,hin⟩:=Aw hi;simp only[Yr] at h;subst h;refine ja λb=>ja λb2=>?_
 have e:cl (.agg (Ah x (.slice a n c)).toArray) = Ah x (.slice a n c):=rfl;rw[e];refine jl (v:=I x.i) rfl (Cd hin ?_);refine js (cs':=Ah { x with i:=x.i + 1 } (.slice a n c)) rfl rfl (by simp[Ah]) rfl ?_;refine js (cs':=Ah { x with i:=x.i + 1,pc:=7 } (.slice a n c)) rfl rfl (by simp[Ah]) rfl ?_;refine AJ (λvs R' D'=>R' = R∧D' = (b2,C 165 (cl HJ)) :: (b,C 165 (Ah { x with i:=x.i + 1,pc:=if x.i + 1 = x.sh.refs then 6 else 7 } (.slice a n c))) :: ([] ++ F)∧vs = [Pt b,Pt b2]) (λK hK=>?_) ?_
 ·refine jl (v:=I (x.i + 1)) rfl (jl (v:=I x.sh.refs) rfl (jeq (jif (λhc=>?_) (λhc=>?_))))
  ·refine js (cs':=Ah { x with i:=x.i + 1,pc:=6 } (.slice a n c)) rfl rfl (by simp[Ah]) rfl ?_;exact hK _ _ _ ⟨rfl,by rw[if_pos (eq_of_beq hc)],rfl⟩
  ·exact hK _ _ _ ⟨rfl,by rw[if_neg (ne_of_beq_false hc)],rfl⟩
 ·rintro e R1 D1 ⟨rfl,hD,he⟩;rw[hD];clear hD;simp only[List.map,zc,zl,zj,z_t] at he;simp only[he];refine jla (l:=Ah { x with i:=x.i + 1,pc:=if x.i + 1 = x.sh.refs then 6 else 7 } (.slice a n c)) (by exact z_n 15) (by rfl) ?_;refine js (cs':=Ah { x with i:=x.i + 1,pc:=if x.i + 1 = x.sh.refs then 6 else 7 } (.slice a n c)) rfl rfl (by exact z_n 15) (by rfl) ?_;refine jla (l:=Ah { x with i:=x.i + 1,pc:=if x.i + 1 = x.sh.refs then 6 else 7 } (.slice a n c)) (by exact z_n 15) (by rfl) ?_;exact BA (A:=[]) (RM.le.refl _) rfl
theorem US {p:Nat} {S S' : Sim} {g:Img} {R:RM} (hok:Ok R S g) (hS:S.look = some S') :
  Fn P Kq [Pt p] R (AY p S g) (Ci p S' λ_=>True):=by
 refine Qy λF=>?_
 unfold MR;unfold Sim.look at hS;split at hS
 ·cases hS
 rename_i hsz;have hsz:=Fa (by simpa using hsz:S.sz = true);dsimp only at hS;obtain⟨q1,hq1,hS⟩:=AE hS;obtain⟨rfl,in1⟩:=Aw hq1;obtain⟨q2,hq2,hS⟩:=AE hS;obtain⟨rfl,in2⟩:=Aw hq2;obtain⟨⟨v,S1⟩,hrd,hS⟩:=AE hS;have e1:=Cb hrd;subst e1;dsimp only at hS;obtain⟨i1,hi1,hS⟩:=AE hS;obtain⟨rfl,in3⟩:=Aw hi1;refine It (p:=p) hok λb=>?_
 obtain⟨a,cap,hsv,-⟩:=BC.reads (D:=[]) hok.AG;rw[hsv];have hst0:=hok.AG;rw[hsv] at hst0;refine jl (v:=I S.col.p) rfl (Cd in1 (jl (v:=I S.col.i) rfl (Cd in2 ?_)));refine jcS (p:=p) (by exact Cm hok hrd) λ_ R1 g1 hR1 hr ok1=>?_
 subst hr;refine AJ (λvs R' D'=>R1.le R'∧∃a2 n2 c2,BC R' (.slice a2 n2 c2) (if v≠0 then S.col.AG ++ [v] else S.col.AG)∧D' = AY p { S with used:=true } g1 ++ (b,C Ax (Ah { S.col with AG:=if v≠0 then S.col.AG ++ [v] else S.col.AG } (.slice a2 n2 c2))) :: F∧vs = [Pt p,Pt b]) (λK hK=>?_) ?_
 ·refine jne (jif (λhv=>?_) (λhv=>?_))
  ·have hv:v≠0:=by simpa using hv
   refine jl (v:=.slice a S.col.AG.length cap) rfl ?_;refine jc (A:=[]) (C9 (hst0.le hR1) (by exact hsz.2.2.1)) ?_;rintro _ R' _ hR ⟨b4,c,sp,hc,hsp,rfl,rfl⟩;refine jbs (cs:=[I v]) rfl rfl λb1=>?_
   refine VR (v:=v) hc hsp (by exact hsz.2.2.1) (BQ.held (t:=Ac) (cs:=[I v]) (o:=0) (n:=1 * 1) (z_n 1)) λb' c' sp' hc' hsp'=>?_
   refine Bh (b:=b') λR2 hR2 hb'=>?_
   have hi:=C7 (c:=c') hb' (by simpa using hc');rw[Yn,Z4] at hi;refine js (cs':=Ah { S.col with AG:=S.col.AG ++ [v] } (.slice (some ⟨b',0,none⟩) (S.col.AG.length + 1) c')) rfl rfl (by simp[Ah]) rfl ?_;refine Ai (AY p { S with used:=true } g1) (G:=(b,C Ax (Ah { S.col with AG:=S.col.AG ++ [v] } (.slice (some ⟨b',0,none⟩) (S.col.AG.length + 1) c'))) :: F) ?_;refine hK _ _ _ ⟨hR.trans hR2,some ⟨b',0,none⟩,S.col.AG.length + 1,c',by rw[if_pos hv];exact hi,by rw[if_pos hv],rfl⟩
  ·have hv:¬ v≠0:=by simpa using hv
   exact hK _ _ _ ⟨RM.le.refl _,a,S.col.AG.length,cap,by rw[if_neg hv];exact hst0.le hR1,by rw[if_neg hv],rfl⟩
 ·rintro e R2 D2 ⟨hR2,a2,n2,c2,hi,hD,he⟩;rw[hD];clear hD;simp only[List.map,zc,zl,zj,z_t] at he;simp only[he];have ok2:=ok1.le hR2;generalize hnew:(if v≠0 then S.col.AG ++ [v] else S.col.AG) = st2 at hi hS ⊢;refine jl (v:=I S.col.i) rfl (Cd in3 ?_);refine js (cs':=Ah { S.col with AG:=st2,i:=S.col.i + 1 } (.slice a2 n2 c2)) rfl rfl (by simp[Ah]) rfl ?_;refine AJ (λvs R' D'=>R' = R2∧D' = AY p { S with used:=true } g1 ++ (b,C Ax (Ah { S.col with AG:=st2,i:=S.col.i + 1,pc:=if S.col.i + 1 = S.col.sh.refs then 1 else S.col.pc } (.slice a2 n2 c2))) :: F∧vs = [Pt p,Pt b]) (λK hK=>?_) ?_
  ·refine jl (v:=I (S.col.i + 1)) rfl (jl (v:=I S.col.sh.refs) rfl (jeq (jif (λhc=>?_) (λhc=>?_))))
   ·refine js (cs':=Ah { S.col with AG:=st2,i:=S.col.i + 1,pc:=1 } (.slice a2 n2 c2)) rfl rfl (by simp[Ah]) rfl ?_;exact hK _ _ _ ⟨rfl,by rw[if_pos (eq_of_beq hc)],rfl⟩
   ·exact hK _ _ _ ⟨rfl,by rw[if_neg (ne_of_beq_false hc)],rfl⟩
  ·rintro e R3 D3 ⟨rfl,hD,he⟩;rw[hD];clear hD;simp only[List.map,zc,zl,zj,z_t] at he;simp only[he];refine Ht (p:=p) (({ S with used:=true }:Sim).setC { S.col with AG:=st2,i:=S.col.i + 1,pc:=if S.col.i + 1 = S.col.sh.refs then 1 else S.col.pc }) (by exact ok2) (by exact hi) (by rfl) λg3 ok3=>?_
   simp only[Yr] at hS;subst hS;exact Ar (hR1.trans hR2) trivial rfl ok3
theorem Tx {p:Nat} {S S' : Sim} {g:Img} {R:RM} (hok:Ok R S g) (hS:S.mark = some S') :
  Fn P LC [Pt p] R (AY p S g) (Ci p S' λ_=>True):=by
 refine RQ λF=>?_
 unfold KY;unfold Sim.mark at hS;split at hS
 ·cases hS
 rename_i hsz;have hsz:=Fa (by simpa using hsz:S.sz = true);dsimp only at hS;refine It (p:=p) hok λb=>?_
 obtain⟨a,cap,hsv,-⟩:=BC.reads (D:=[]) hok.AG;rw[hsv];have hst0:=hok.AG;rw[hsv] at hst0;refine jl (v:=.slice a S.col.AG.length cap) rfl (jln (jeq (jif (λh0=>?_) (λh0=>?_))))
 ·have h0:S.col.AG.length = 0:=by have:=eq_of_beq h0;omega
  rw[if_pos h0] at hS;refine AJ (λvs R' D'=>R.le R'∧∃S2 g2 x2 sv2,S' = { S2 with col:=x2 }∧Ok R' S2 g2∧BC R' sv2 x2.AG∧D' = AY p S2 g2 ++ (b,C Ax (Ah x2 sv2)) :: F∧vs = [Pt p,Pt b]) (λK hK=>?_) ?_;rotate_left
  ·rintro e R2 D2 ⟨hR2,S2,g2,x2,sv2,e1,ok2,hi,hD,he⟩;rw[hD];clear hD;simp only[List.map,zc,zl,zj,z_t] at he;simp only[he];refine Ht (p:=p) { S2 with col:=x2 } (by exact ok2) (by exact hi) (by rfl) λg3 ok3=>?_
   subst e1;exact Ar hR2 trivial rfl ok3
  refine jl (v:=g.old) rfl (J2 hok.old (jeq (jif (λh1=>?_) (λh1=>?_))))
  ·have h1:S.old = []:=by have:=eq_of_beq h1;exact ZK.1 (by omega)
   rw[h1] at hS;simp only[Yr] at hS;refine jss (p:=p) { S with stop:=true } g rfl rfl (by decide) (by rfl) (by rfl) ?_;refine js (cs':=Ah { S.col with want:=2 } (.slice a S.col.AG.length cap)) rfl rfl (by simp[Ah]) rfl ?_;exact hK _ _ _ ⟨RM.le.refl _,{ S with stop:=true },g,{ S.col with want:=2 },_,hS.symm▸by rw[h1],{ hok with },hst0,rfl,rfl⟩
  ·have h1:S.old.length≠0:=by have:=ne_of_beq_false h1;omega
   obtain⟨a0,l,hol⟩:∃a l,S.old = a :: l:=by cases h:S.old with | nil=>rw[h] at h1;exact absurd rfl h1 | cons a l=>exact⟨a,l,rfl⟩
   rw[hol] at hS;simp only[Yr] at hS;refine jl (v:=g.old) rfl (Bv hok.old (by omega) (by omega) ?_);have e0:S.old[(0:Int).toNat]'(by simp;omega) = a0:=by simp[hol]
   rw[e0];refine jbs (cs:=[I a0]) rfl rfl λb1=>?_
   refine js (cs':=Ah { S.col with AG:=[a0] } (S0 b1 1 1)) rfl rfl (by simp[Ah]) rfl ?_;refine Bh (b:=b1) λR2 hR2 hb1=>?_
   have hi1:BC R2 (S0 b1 [a0].length 1) [a0]:=C7 (l:=[a0]) (c:=1) (sp:=[]) (by simpa using hb1) (z_n 1);refine jl (v:=g.old) rfl (Xw (hok.old.le hR2) (by omega) (by rw[hol];simp;omega) λv1 hv1=>?_);rw[hol] at hv1;refine jc (A:=[]) (C9 (l:=l) hv1 (by have:=hsz.2.1;rw[hol] at this;simp at this;omega)) ?_;rintro _ R3 _ hR3 ⟨b4,c4,sp4,hc4,hsp4,rfl,rfl⟩;refine Bh (b:=b4) λR4 hR4 hb4=>?_
   have hi4:=C7 (c:=c4) hb4 hc4;refine jss (p:=p) { S with old:=l } { g with old:=S0 b4 l.length c4 } rfl rfl (by decide) (by rfl) (by rfl) ?_;have hR:=(hR2.trans hR3).trans hR4;refine Ai (AY p { S with old:=l } { g with old:=S0 b4 l.length c4 }) (G:=(b,C Ax (Ah { S.col with AG:=[a0] } (S0 b1 1 1))) :: F) ?_;exact hK _ _ _ ⟨hR,{ S with old:=l },{ g with old:=S0 b4 l.length c4 },{ S.col with AG:=[a0] },_,hS.symm,{ hok.le hR with old:=hi4 },(hi1.le hR3).le hR4,rfl,rfl⟩
 have h0:S.col.AG.length≠0:=by have:=ne_of_beq_false h0;omega
 rw[if_neg h0] at hS;obtain⟨av,hav,hS⟩:=AE hS;obtain⟨row,hrow,hS⟩:=AE hS;obtain⟨go,hgo,hS⟩:=AE hS;obtain⟨r0,r1,r2,r3⟩:=Ap hrow;have htl:=hok.tl;have hlast:S.col.AG[S.col.AG.length - 1]'(by omega) = av:=by
  rw[List.getLast?_eq_getElem?] at hav;rw[Yl (by omega)] at hav;exact Zb hav
 have hss:=hsz.2.2.1;refine jl (v:=.slice a S.col.AG.length cap) rfl (jl (v:=.slice a S.col.AG.length cap) rfl (jln (jsu ?_)));refine Bv hst0 (by omega) (by omega) ?_;have e0:S.col.AG[((S.col.AG.length:Int) - 1).toNat]'(by omega) = av:=by
  rw[← hlast];congr 1;omega
 rw[e0];refine jl (v:=.slice a S.col.AG.length cap) rfl (jl (v:=.slice a S.col.AG.length cap) rfl (jln (jsu ?_)));refine Tn hst0 (by omega) (by omega) λv1 hv1=>?_
 rw[show ((S.col.AG.length:Int) - 1).toNat = S.col.AG.length - 1 from by omega,← List.dropLast_eq_take] at hv1;refine jc (A:=[]) (C9 hv1 (by simp;omega)) ?_;rintro _ R1 _ hR1 ⟨b4,c4,sp4,hc4,hsp4,rfl,rfl⟩;refine Bh (b:=b4) λR2 hR2 hb4=>?_
 have hi4:=C7 (c:=c4) hb4 hc4;have hR12:=hR1.trans hR2;have ok2:=hok.le hR12;refine js (cs':=Ah { S.col with AG:=S.col.AG.dropLast } (S0 b4 S.col.AG.dropLast.length c4)) rfl rfl (by simp[Ah]) rfl ?_;refine jp (CJ av (by omega)) ?_;refine AJ (λvs R' D'=>R2.le R'∧∃S3 g3 x3,S' = { S3 with col:=x3 }∧Ok R' S3 g3∧x3.AG = S.col.AG.dropLast∧D' = AY p S3 g3 ++ (b,C Ax (Ah x3 (S0 b4 S.col.AG.dropLast.length c4))) :: F∧vs = [Pt p,Pt b]) (λK hK=>?_) ?_;rotate_left
 ·rintro e R3 D3 ⟨hR3,S3,g3,x3,e1,ok3,ex,hD,he⟩;rw[hD];clear hD;simp only[List.map,zc,zl,zj,z_t] at he;simp only[he];refine Ht (p:=p) { S3 with col:=x3 } (by exact ok3) (by rw[ex];exact hi4.le hR3) (by rfl) λg4 ok4=>?_
  subst e1;exact Ar (hR12.trans hR3) trivial rfl ok4
 refine AJ (λvs R' D'=>R' = R2∧D' = (b,C Ax (Ah { S.col with AG:=S.col.AG.dropLast } (S0 b4 S.col.AG.dropLast.length c4))) :: (AY p S g ++ F)∧∃c u,vs = [Pt p,Pt b,I av,I (AS av),c,u]∧Fh c u go) (λK2 hK2=>?_) ?_
 ·refine jl (v:=.slice (some ⟨g.tb,0,none⟩) S.A0.length g.tc) rfl (jia r0 r1 ?_);refine jl (v:=I row.Az) (by rw[Z6];exact Bu (f:=3) r2 (by rw[r3];rfl)) (jlt ?_);by_cases hlt:av < row.Az
  ·rw[if_pos hlt] at hgo;obtain⟨mk,hmk,hgo⟩:=AE hgo;cases hgo;obtain⟨m0,m1,m2,m3⟩:=Ap hmk;rw[decide_eq_true hlt];refine jtt (jl (v:=.slice (some ⟨g.mb,0,none⟩) S.AR.length g.mc) rfl (jia m0 m1 ?_));refine jl (v:=.bool mk) (by rw[Z6,Zt,Iz m2,m3]) ?_;exact hK2 _ _ _ ⟨rfl,rfl,_,_,rfl,Aq⟩
  ·rw[if_neg hlt] at hgo;cases hgo;rw[decide_eq_false hlt];exact jft (hK2 _ _ _ ⟨rfl,rfl,_,_,rfl,Av⟩)
 rintro e R3 D3 ⟨hR3,hD,c,u,he,ha⟩;subst hR3;rw[hD];clear hD;simp only[List.map,zc,zl,zj,z_t] at he;simp only[he];rw[ha];refine jif (λhg=>?_) (λhg=>?_)
 ·rw[hg,if_pos rfl] at hS;rw[hg] at hgo;have hm:idx S.AR av = some false:=by
   split at hgo
   ·obtain⟨mk,hmk,hgo⟩:=AE hgo;cases mk
    ·exact hmk
    ·cases hgo
   ·cases hgo
  obtain⟨m0,m1,m2,m3⟩:=Ap hm;obtain⟨q1,hq1,hS⟩:=AE hS;obtain⟨rfl,in1⟩:=Aw hq1;obtain⟨⟨w,S1⟩,hrd,hS⟩:=AE hS;have e1:=Cb hrd;subst e1;dsimp only at hS;obtain⟨lv,hlv,hS⟩:=AE hS;obtain⟨rfl,in2⟩:=Aw hlv;simp only[Yr] at hS;refine jl (v:=.slice (some ⟨g.mb,0,none⟩) S.AR.length g.mc) rfl (jia m0 m1 ?_);rw[Z6,Zt];refine jsm (p:=p) { S with AR:=AW S.AR av true } (by exact m2) (by rfl) ?_;refine Cd in1 ?_;have ok3:Ok R3 { S with AR:=AW S.AR av true } g:={ ok2 with ml:=by simpa [AW] using ok2.ml,mk_:=by simpa [AW] using ok2.mk_ };refine jcS (p:=p) (by exact Cm ok3 hrd) λ_ R4 g4 hR4 hr ok4=>?_
  subst hr;refine jp (EH w) (jex rfl (jex rfl ?_));refine ja λb5=>?_
  refine js (cs':=[I (AH w).1.refs,I (AH w).1.nums]) rfl rfl (by exact z_n 2) rfl ?_;refine jl (v:=.slice (some ⟨g4.tb,0,none⟩) S.A0.length g4.tc) rfl (jia r0 r1 ?_);refine Qm (p:=p) (by exact r2) ?_;have er:({ S with used:=true,AR:=AW S.AR av true }:Sim).A0[(AS av).toNat]'r2 = row:=r3;rw[er];refine ja λb6=>?_
  refine js (cs':=eRg row) rfl rfl (by simp) rfl ?_;refine jl (v:=I row.AQ) rfl ?_;refine jla (l:=[I (AH w).1.refs,I (AH w).1.nums]) (by exact z_n 2) (by rfl) ?_;refine jp (CC (AH w).1) (Cd in2 (Ae (jl (v:=I row.AQ) rfl jev) ?_));refine js (cs':=eRg { row with AQ:=row.AQ + AF (AH w).1 }) rfl rfl (by simp) rfl ?_;refine jl (v:=.slice (some ⟨g4.tb,0,none⟩) S.A0.length g4.tc) rfl ?_;refine jla (l:=eRg { row with AQ:=row.AQ + AF (AH w).1 }) (by simp) rfl ?_;refine jia r0 r1 ?_;refine Si (p:=p) (x:={ row with AQ:=row.AQ + AF (AH w).1 }) { S with used:=true,AR:=AW S.AR av true,A0:=AW S.A0 (AS av) { row with AQ:=row.AQ + AF (AH w).1 } } (by exact r2) (by rfl) ?_;have ok5:Ok R4 { S with used:=true,AR:=AW S.AR av true,A0:=AW S.A0 (AS av) { row with AQ:=row.AQ + AF (AH w).1 } } g4:={ ok4 with tl:=by simpa [AW] using ok4.tl,tk:=by simpa [AW] using ok4.tk };refine js (cs':=Ah { S.col with AG:=S.col.AG.dropLast,p:=av } (S0 b4 S.col.AG.dropLast.length c4)) rfl rfl (by simp[Ah]) rfl ?_;refine js (cs':=Ah { S.col with AG:=S.col.AG.dropLast,p:=av,i:=0 } (S0 b4 S.col.AG.dropLast.length c4)) rfl rfl (by simp[Ah]) rfl ?_;refine jla (l:=[I (AH w).1.refs,I (AH w).1.nums]) (by exact z_n 2) (by rfl) ?_;refine js (cs':=Ah { S.col with AG:=S.col.AG.dropLast,p:=av,i:=0,sh:=(AH w).1 } (S0 b4 S.col.AG.dropLast.length c4)) rfl rfl (by simp[Ah]) rfl ?_;refine jl (v:=I (AH w).1.refs) rfl (jgr (jif (λhc=>?_) (λhc=>?_)))
  ·rw[if_pos (z_f hc)] at hS;refine js (cs':=Ah { S.col with AG:=S.col.AG.dropLast,p:=av,i:=0,sh:=(AH w).1,pc:=2 } (S0 b4 S.col.AG.dropLast.length c4)) rfl rfl (by simp[Ah]) rfl ?_;refine Ai (AY p { S with used:=true,AR:=AW S.AR av true,A0:=AW S.A0 (AS av) { row with AQ:=row.AQ + AF (AH w).1 } } g4) (G:=(b,C Ax (Ah { S.col with AG:=S.col.AG.dropLast,p:=av,i:=0,sh:=(AH w).1,pc:=2 } (S0 b4 S.col.AG.dropLast.length c4))) :: F) ?_;exact hK _ _ _ ⟨hR4,_,g4,{ S.col with AG:=S.col.AG.dropLast,p:=av,i:=0,sh:=(AH w).1,pc:=2 },hS.symm,ok5,rfl,rfl,rfl⟩
  ·rw[if_neg (z_g hc)] at hS;refine Ai (AY p { S with used:=true,AR:=AW S.AR av true,A0:=AW S.A0 (AS av) { row with AQ:=row.AQ + AF (AH w).1 } } g4) (G:=(b,C Ax (Ah { S.col with AG:=S.col.AG.dropLast,p:=av,i:=0,sh:=(AH w).1 } (S0 b4 S.col.AG.dropLast.length c4))) :: F) ?_;exact hK _ _ _ ⟨hR4,{ S with used:=true,AR:=AW S.AR av true,A0:=AW S.A0 (AS av) { row with AQ:=row.AQ + AF (AH w).1 } },g4,{ S.col with AG:=S.col.AG.dropLast,p:=av,i:=0,sh:=(AH w).1 },hS.symm,ok5,rfl,rfl,rfl⟩
 ·rw[hg,if_neg (by decide)] at hS;simp only[Yr] at hS;refine Ai (AY p S g) (G:=(b,C Ax (Ah { S.col with AG:=S.col.AG.dropLast } (S0 b4 S.col.AG.dropLast.length c4))) :: F) ?_;exact hK _ _ _ ⟨RM.le.refl _,S,g,{ S.col with AG:=S.col.AG.dropLast },hS.symm,ok2,rfl,rfl,rfl⟩
end Go.Lf
end
section
namespace Go.Lf
open Go Sm
theorem WD {p:Nat} {S S' : Sim} {g:Img} {R:RM} (hok:Ok R S g) (hS:S.carry = some S') :
  Fn P JH [Pt p] R (AY p S g) (Ci p S' λ_=>True):=by
 refine OX λF=>?_
 unfold KC;unfold Sim.carry at hS;dsimp only at hS;refine It (p:=p) hok λb=>?_
 obtain⟨a,cap,hsv,-⟩:=BC.reads (D:=[]) hok.AG;rw[hsv];have hst0:=hok.AG;rw[hsv] at hst0;refine AJ (λvs R' D'=>R.le R'∧∃S2 g2 x2,S' = S2.setC x2∧Ok R' S2 g2∧x2.AG = S.col.AG∧D' = AY p S2 g2 ++ (b,C Ax (Ah x2 (.slice a S.col.AG.length cap))) :: F∧vs = [Pt p,Pt b]) (λK hK=>?_) ?_;rotate_left
 ·rintro e R2 D2 ⟨hR2,S2,g2,x2,e1,ok2,ex,hD,he⟩;rw[hD];clear hD;simp only[List.map,zc,zl,zj,z_t] at he;simp only[he];refine Ht (p:=p) (S2.setC x2) (by exact ok2) (by rw[ex];exact hst0.le hR2) (by rfl) λg3 ok3=>?_
  subst e1;exact Ar hR2 trivial rfl ok3
 refine jl (v:=I S.col.pc) rfl ?_;refine AJ (λvs R' D'=>R.le R'∧∃S2 g2 x2,S' = S2.setC x2∧Ok R' S2 g2∧x2.AG = S.col.AG∧D' = AY p S2 g2 ++ (b,C Ax (Ah x2 (.slice a S.col.AG.length cap))) :: F∧vs = [Pt p,Pt b]) (λK2 hK2=>?_) ?_;rotate_left
 ·rintro e R2 D2 ⟨hR2,S2,g2,x2,e1,ok2,ex,hD,he⟩;rw[hD];clear hD;simp only[List.map,zc,zl,zj,z_t] at he;simp only[he];exact hK _ _ _ ⟨hR2,S2,g2,x2,e1,ok2,ex,rfl,rfl⟩
 refine jeq (jif (λc20=>?_) (λc20=>?_))
 ·rw[if_pos (eq_of_beq c20)] at hS;obtain⟨q,hq,hS⟩:=AE hS;obtain⟨rfl,hin⟩:=Aw hq;obtain⟨⟨w,S1⟩,hrd,hS⟩:=AE hS;have e1:=Cb hrd;subst e1;dsimp only at hS;refine jl (v:=I S.col.src) rfl (Cd hin ?_);refine jcS (p:=p) (by exact Cm hok hrd) λ_ R1 g1 hR1 hr ok1=>?_
  subst hr;refine jp (EH w) (jex rfl (jex rfl ?_));refine ja λb3=>?_
  refine js (cs':=[I (AH w).1.refs,I (AH w).1.nums]) rfl rfl (by exact z_n 2) rfl ?_;refine jla (l:=[I (AH w).1.refs,I (AH w).1.nums]) (by exact z_n 2) (by rfl) ?_;refine jp (CC (AH w).1) ?_;refine js (cs':=Ah { S.col with size:=AF (AH w).1 } (.slice a S.col.AG.length cap)) rfl rfl (by simp[Ah]) rfl ?_;refine jl (v:=.slice (some ⟨g1.tb,0,none⟩) S.A0.length g1.tc) rfl ?_;refine jl (v:=.slice (some ⟨g1.hb,0,none⟩) S.th.length g1.hc) rfl (jln ?_);refine jl (v:=I (AF (AH w).1)) rfl ?_;refine jmk (by exact Fr (t:=S.A0) (sp:=g1.tsp) S.th.length (AF (AH w).1) (by have:=hok.tl;omega)) ?_;intro v N hq2;cases hrm:BP S.A0 S.th.length (AF (AH w).1) with
  | none=>
   rw[hrm] at hq2 hS;obtain⟨rfl,rfl⟩:=hq2;simp only[Yr] at hS;subst hS;refine jex rfl (jex rfl (jex rfl (DO ?_)));refine jss (p:=p) { S with used:=true,full:=true } g1 rfl rfl (by decide) (by rfl) (by rfl) ?_;refine jss (p:=p) { S with used:=true,full:=true,stop:=true } g1 rfl rfl (by decide) (by rfl) (by rfl) ?_;exact Ar hR1 trivial rfl { ok1 with }
  | some td=>
   obtain⟨t',d⟩:=td;rw[hrm] at hq2 hS;obtain⟨sv,⟨b4,c4,sp4,hc4,rfl,rfl⟩,rfl⟩:=hq2;simp only[Yr] at hS;have hlen:=Kr hrm;refine jex rfl (jex rfl (jex rfl (Cn ?_)));refine P5 (p:=p) ?_;refine js (cs':=Ah { S.col with size:=AF (AH w).1,dst:=d } (.slice a S.col.AG.length cap)) rfl rfl (by simp[Ah]) rfl ?_;refine js (cs':=Ah { S.col with size:=AF (AH w).1,dst:=d,i:=1 } (.slice a S.col.AG.length cap)) rfl rfl (by simp[Ah]) rfl ?_;refine js (cs':=Ah { S.col with size:=AF (AH w).1,dst:=d,i:=1,pc:=21 } (.slice a S.col.AG.length cap)) rfl rfl (by simp[Ah]) rfl ?_;refine Ai (AY p { S with used:=true,A0:=t' } { g1 with tb:=b4,tc:=c4,tsp:=sp4 }) (G:=(b,C Ax (Ah { S.col with size:=AF (AH w).1,dst:=d,i:=1,pc:=21 } (.slice a S.col.AG.length cap))) :: F) ?_;exact hK2 _ _ _ ⟨hR1,{ S with used:=true,A0:=t' },{ g1 with tb:=b4,tc:=c4,tsp:=sp4 },{ S.col with size:=AF (AH w).1,dst:=d,i:=1,pc:=21 },hS.symm,ok1.tab (by rw[hlen];exact hok.tl) _ _ _ hc4,rfl,rfl,rfl⟩
 rw[if_neg (ne_of_beq_false c20)] at hS;refine jeq (jif (λc21=>?_) (λc21=>?_))
 ·rw[if_pos (eq_of_beq c21)] at hS;obtain⟨q,hq,hS⟩:=AE hS;obtain⟨rfl,hin⟩:=Aw hq;obtain⟨⟨w,S1⟩,hrd,hS⟩:=AE hS;have e1:=Cb hrd;subst e1;cases hS;refine jl (v:=I S.col.src) rfl (jl (v:=I S.col.i) rfl (Cd hin ?_));refine jcS (p:=p) (by exact Cm hok hrd) λ_ R1 g1 hR1 hr ok1=>?_
  subst hr;refine js (cs':=Ah { S.col with word:=w } (.slice a S.col.AG.length cap)) rfl rfl (by simp[Ah]) rfl ?_;refine js (cs':=Ah { S.col with word:=w,pc:=22 } (.slice a S.col.AG.length cap)) rfl rfl (by simp[Ah]) rfl ?_;exact hK2 _ _ _ ⟨hR1,{ S with used:=true },g1,{ S.col with word:=w,pc:=22 },rfl,ok1,rfl,rfl,rfl⟩
 rw[if_neg (ne_of_beq_false c21)] at hS;refine jeq (jif (λc22=>?_) (λc22=>?_))
 ·rw[if_pos (eq_of_beq c22)] at hS;obtain⟨q,hq,hS⟩:=AE hS;obtain⟨rfl,hin⟩:=Aw hq;obtain⟨S1,hwr,hS⟩:=AE hS;have e1:=E0 hwr;subst e1;obtain⟨n,hn,hS⟩:=AE hS;obtain⟨rfl,hin2⟩:=Aw hn;cases hS;refine jl (v:=I S.col.dst) rfl (jl (v:=I S.col.i) rfl (Cd hin (jl (v:=I S.col.word) rfl ?_)));refine jcS (p:=p) (by exact DN hok hwr) λ_ R1 g1 hR1 hr ok1=>?_
  refine jl (v:=I S.col.i) rfl (Cd hin2 ?_);refine js (cs':=Ah { S.col with i:=S.col.i + 1 } (.slice a S.col.AG.length cap)) rfl rfl (by simp[Ah]) rfl ?_;refine js (cs':=Ah { S.col with i:=S.col.i + 1,pc:=21 } (.slice a S.col.AG.length cap)) rfl rfl (by simp[Ah]) rfl ?_;refine jl (v:=I (S.col.i + 1)) rfl (jl (v:=I S.col.size) rfl (jeq (jif (λhz=>?_) (λhz=>?_))))
  ·refine js (cs':=Ah { S.col with i:=S.col.i + 1,pc:=23 } (.slice a S.col.AG.length cap)) rfl rfl (by simp[Ah]) rfl ?_;exact hK2 _ _ _ ⟨hR1,{ S with used:=true,AB:=AW S.AB (S.col.dst + S.col.i) S.col.word },g1,{ S.col with i:=S.col.i + 1,pc:=23 },(by rw[if_pos (eq_of_beq hz)]),ok1,rfl,rfl,rfl⟩
  ·exact hK2 _ _ _ ⟨hR1,{ S with used:=true,AB:=AW S.AB (S.col.dst + S.col.i) S.col.word },g1,{ S.col with i:=S.col.i + 1,pc:=21 },(by rw[if_neg (ne_of_beq_false hz)]),ok1,rfl,rfl,rfl⟩
 rw[if_neg (ne_of_beq_false c22)] at hS;refine jeq (jif (λc23=>?_) (λc23=>?_))
 ·rw[if_pos (eq_of_beq c23)] at hS;obtain⟨S1,hwr,hS⟩:=AE hS;have e1:=E0 hwr;subst e1;cases hS;refine jl (v:=I S.col.dst) rfl (jl (v:=I S.col.dst) rfl ?_);refine jcS (p:=p) (by exact DN hok hwr) λ_ R1 g1 hR1 hr ok1=>?_
  refine js (cs':=Ah { S.col with pc:=24 } (.slice a S.col.AG.length cap)) rfl rfl (by simp[Ah]) rfl ?_;exact hK2 _ _ _ ⟨hR1,{ S with used:=true,AB:=AW S.AB S.col.dst S.col.dst },g1,{ S.col with pc:=24 },rfl,ok1,rfl,rfl,rfl⟩
 rw[if_neg (ne_of_beq_false c23)] at hS;refine jeq (jif (λc24=>?_) (λc24=>?_));rotate_left
 ·rw[if_neg (ne_of_beq_false c24)] at hS;cases hS;exact BH ZG.symm (hK2 _ _ _ ⟨RM.le.refl _,S,g,S.col,rfl,hok,rfl,rfl,rfl⟩)
 rw[if_pos (eq_of_beq c24)] at hS;obtain⟨⟨w,S1⟩,hrd,hS⟩:=AE hS;have e1:=Cb hrd;subst e1;dsimp only at hS;obtain⟨S3,h3,hS⟩:=AE hS;cases hS;refine AJ (λvs R' D'=>R.le R'∧∃g2,Ok R' S3 g2∧D' = AY p S3 g2 ++ (b,C Ax (Ah S.col (.slice a S.col.AG.length cap))) :: F∧vs = [Pt p,Pt b]) (λK3 hK3=>?_) ?_;rotate_left
 ·rintro e R2 D2 ⟨hR,g2,ok2,hD,he⟩;rw[hD];clear hD;simp only[List.map,zc,zl,zj,z_t] at he;simp only[he];refine js (cs':=Ah { S.col with pc:=5 } (.slice a S.col.AG.length cap)) rfl rfl (by simp[Ah]) rfl ?_;exact hK2 _ _ _ ⟨hR,S3,g2,{ S.col with pc:=5 },rfl,ok2,rfl,rfl,rfl⟩
 refine jl (v:=I S.col.src) rfl (jl (v:=I S.col.src) rfl ?_);refine jcS (p:=p) (by exact Cm hok hrd) λ_ R1 g1 hR1 hr ok1=>?_
 subst hr;refine jeq (Ae (jl (v:=I S.col.src) rfl jev) (jif (λhw=>?_) (λhw=>?_)))
 ·rw[if_pos (eq_of_beq hw)] at h3;obtain⟨S2,hwr,h3⟩:=AE h3;refine jl (v:=I S.col.src) rfl (jl (v:=I S.col.dst) rfl ?_);refine jcS (p:=p) (by exact DN ok1 hwr) λ_ R2 g2 hR2 hr ok2=>?_
  refine jl (v:=I S.col.dst) rfl (jl (v:=I S.col.size) rfl ?_);refine jcS (p:=p) (by exact UK ok2 h3) λ_ R3 g3 hR3 hr ok3=>?_
  exact hK3 _ _ _ ⟨(hR1.trans hR2).trans hR3,g3,ok3,rfl,rfl⟩
 ·rw[if_neg (ne_of_beq_false hw)] at h3;cases h3;exact hK3 _ _ _ ⟨hR1,g1,ok1,rfl,rfl⟩
theorem O6 {R:RM} {S:Sim} {g:Img} {r:Int} {row:Rg} (h:idx S.A0 r = some row) {f:Nat} {v:Value} (hv:(eRg row)[f]? = some v):(Ab eRg S.A0 ++ g.tsp)[0 + r.toNat * 5 + f]? = some v:=by
 obtain⟨h0,h1,h2,h3⟩:=Ap h;rw[Z6];exact Bu (f:=f) h2 (by rw[h3];exact hv)
theorem XL {p:Nat} {S S' : Sim} {g:Img} {R:RM} (hok:Ok R S g) (hS:S.walk = some S') :
  Fn P Lj [Pt p] R (AY p S g) (Ci p S' λ_=>True):=by
 refine Ra λF=>?_
 unfold M6;unfold Sim.walk at hS;dsimp only at hS;obtain⟨⟨r,q⟩,hwo,hS⟩:=AE hS;dsimp only at hS;have htl:=hok.tl;have hml:=hok.ml;refine It (p:=p) hok λb=>?_
 obtain⟨a,cap,hsv,-⟩:=BC.reads (D:=[]) hok.AG;rw[hsv];have hst0:=hok.AG;rw[hsv] at hst0;refine AJ (λvs R' D'=>R' = R∧D' = (b,C Ax (Ah { S.col with r:=r,p:=q } (.slice a S.col.AG.length cap))) :: (AY p S g ++ F)∧vs = [Pt p,Pt b]) (λK hK=>?_) ?_
 ·refine AJ (λvs R' D'=>R' = R∧D' = (b,C Ax (Ah { S.col with r:=r,p:=q } (.slice a S.col.AG.length cap))) :: (AY p S g ++ F)∧vs = [Pt p,Pt b]) (λK2 hK2=>?_) ?_;rotate_left
  ·rintro e R2 D2 ⟨rfl,hD,he⟩;rw[hD];clear hD;simp only[List.map,zc,zl,zj,z_t] at he;simp only[he];exact hK _ _ _ ⟨rfl,rfl,rfl⟩
  refine jlp (λn vs R' D'=>R' = R∧∃r1 q1,D' = (b,C Ax (Ah { S.col with r:=r1,p:=q1 } (.slice a S.col.AG.length cap))) :: (AY p S g ++ F)∧vs = [Pt p,Pt b]∧S.walkOut n r1 q1 = some (r,q))
   (n:=S.A0.length + 2) ⟨rfl,S.col.r,S.col.p,rfl,rfl,hwo⟩ ?_
  rintro n e R1 D1 K3 ⟨hR1,r1,q1,hD,he,hw⟩ hK3;subst hR1;rw[hD];clear hD;simp only[List.map,zc,zl,zj,z_t] at he;simp only[he];cases n with
  | zero=>cases hw
  | succ n=>
   unfold Sim.walkOut at hw;refine jl (v:=I r1) rfl (jl (v:=.slice (some ⟨g.tb,0,none⟩) S.A0.length g.tc) rfl (jln (jlt (jif (λhc=>?_) (λhc=>?_)))));rotate_left
   ·rw[if_neg (z_g hc)] at hw;cases hw;exact hK2 _ _ _ ⟨rfl,rfl,rfl⟩
   have hc:=z_f hc;rw[if_pos hc] at hw;obtain⟨row,hrow,hw⟩:=AE hw;obtain⟨q2,hwi,hw⟩:=AE hw;obtain⟨r0,r1',r2,r3⟩:=Ap hrow;refine jl (v:=.slice (some ⟨g.tb,0,none⟩) S.A0.length g.tc) rfl (jl (v:=I r1) rfl (jia r0 r1' ?_));have hget:=DB (f:=eRg) (w:=5) (λ_=>rfl) (sp:=g.tsp) r2;rw[r3] at hget;refine jla (l:=eRg row) (by rw[Z6];exact Ec r2) (by rw[Z6];exact hget) ?_;refine ja λb5=>?_
   refine Ae (jl (v:=.slice (some ⟨g.tb,0,none⟩) S.A0.length g.tc) rfl jev) (Ae (jl (v:=I r1) rfl jev) ?_);refine Ae (jla (l:=eRg row) (by rw[Z6];exact Ec r2) (by rw[Z6];exact hget) jev) ?_;refine js (cs':=eRg row) rfl rfl (by exact z_n 5) rfl ?_;refine AJ (λvs R' D'=>R' = R1∧D' = (b5,C 66 (eRg row)) :: (b,C Ax (Ah { S.col with r:=r1,p:=q2 } (.slice a S.col.AG.length cap))) :: (AY p S g ++ F)∧vs = [Pt p,Pt b,Pt b5]) (λK4 hK4=>?_) ?_
   ·refine AJ (λvs R' D'=>R' = R1∧D' = (b5,C 66 (eRg row)) :: (b,C Ax (Ah { S.col with r:=r1,p:=q2 } (.slice a S.col.AG.length cap))) :: (AY p S g ++ F)∧vs = [Pt p,Pt b,Pt b5]) (λK5 hK5=>?_) ?_;rotate_left
    ·rintro e R2 D2 ⟨rfl,hD,he⟩;rw[hD];clear hD;simp only[List.map,zc,zl,zj,z_t] at he;simp only[he];exact hK4 _ _ _ ⟨rfl,rfl,rfl⟩
    refine jlp (λm vs R' D'=>R' = R1∧∃q3,D' = (b5,C 66 (eRg row)) :: (b,C Ax (Ah { S.col with r:=r1,p:=q3 } (.slice a S.col.AG.length cap))) :: (AY p S g ++ F)∧vs = [Pt p,Pt b,Pt b5]∧Im S.AR row m q3 = some q2)
     (n:=20) ⟨rfl,q1,rfl,rfl,hwi⟩ ?_
    rintro m e R2 D2 K6 ⟨hR2,q3,hD,he,hwi⟩ hK6;subst hR2;rw[hD];clear hD;simp only[List.map,zc,zl,zj,z_t] at he;simp only[he];cases m with
    | zero=>cases hwi
    | succ m=>
     unfold Im at hwi;refine jan [Pt p,Pt b,Pt b5] ((row.kind == 4) && (decide (q3 < row.top))) (λK' hK'=>?_) (λe c u ho he=>?_)
     ·refine jl (v:=I row.kind) rfl (jeq (Bm (λh1=>?_) (λh1=>?_)))
      ·refine jl (v:=I q3) rfl (jl (v:=I row.top) rfl (jlt (hK' _ _ _ (h1▸Aq) (by rw[h1,Yx]))))
      ·exact hK' _ _ _ (h1▸Av) (by rw[h1,Yy])
     simp only[List.map,zc,zl,zj,z_t] at he;simp only[he];by_cases hk:row.kind = 4∧q3 < row.top
     ·rw[if_pos hk] at hwi;obtain⟨mk,hmk,hwi⟩:=AE hwi;obtain⟨m0,m1,m2,m3⟩:=Ap hmk;have hkb:(row.kind == 4 && decide (q3 < row.top)) = true:=by simp[hk.1,hk.2]
      refine jan [Pt p,Pt b,Pt b5] (!mk) (λK' hK'=>?_) (λe c u ho2 he=>?_)
      ·rw[ho,hkb];refine jtt (jl (v:=.slice (some ⟨g.mb,0,none⟩) S.AR.length g.mc) rfl (jl (v:=I q3) rfl (jia m0 m1 ?_)));refine jl (v:=.bool mk) (by rw[Z6,Zt,Iz m2,m3]) ?_;exact hK' _ _ _ Aq rfl
      ·simp only[List.map,zc,zl,zj,z_t] at he;simp only[he];rw[ho2];cases mk with
       | true=>
        simp only[if_true] at hwi;cases hwi;exact Cn (hK5 _ _ _ ⟨rfl,rfl,rfl⟩)
       | false=>
        simp only[ZC,if_false] at hwi;refine DO (jl (v:=I q3) rfl (jad ?_));refine js (cs':=Ah { S.col with r:=r1,p:=q3 + 1 } (.slice a S.col.AG.length cap)) rfl rfl (by simp[Ah]) rfl ?_;exact hK6 m _ _ _ (by omega) ⟨rfl,q3 + 1,rfl,rfl,hwi⟩
     ·rw[if_neg hk] at hwi;have hkb:(row.kind == 4 && decide (q3 < row.top)) = false:=by
       rw[aM,decide_eq_false_iff_not,beq_eq_false_iff_ne];by_cases h:row.kind = 4
       ·exact .inr λh2=>hk ⟨h,h2⟩
       ·exact .inl h
      refine jan [Pt p,Pt b,Pt b5] false (λK' hK'=>?_) (λe c u ho2 he=>?_)
      ·rw[ho,hkb];exact jft (hK' _ _ _ Av rfl)
      ·simp only[List.map,zc,zl,zj,z_t] at he;simp only[he];rw[ho2];cases hwi;exact Cn (hK5 _ _ _ ⟨rfl,rfl,rfl⟩)
   ·rintro e R2 D2 ⟨hR2,hD,he⟩;subst hR2;rw[hD];clear hD;simp only[List.map,zc,zl,zj,z_t] at he;simp only[he];refine jan [Pt p,Pt b] ((row.kind == 4) && (decide (q2 < row.top))) (λK' hK'=>?_) (λe c u ho he=>?_)
    ·refine jl (v:=I row.kind) rfl (jeq (Bm (λh1=>?_) (λh1=>?_)))
     ·refine jl (v:=I q2) rfl (jl (v:=I row.top) rfl (jlt (hK' _ _ _ (h1▸Aq) (by rw[h1,Yx]))))
     ·exact hK' _ _ _ (h1▸Av) (by rw[h1,Yy])
    simp only[List.map,zc,zl,zj,z_t] at he;simp only[he];rw[ho];refine jif (λhk=>?_) (λhk=>?_)
    ·rw[if_pos (by simpa using hk)] at hw;cases hw;exact C4 (hK2 _ _ _ ⟨rfl,rfl,rfl⟩)
    ·rw[if_neg (by intro h;simp[h.1,h.2] at hk)] at hw;refine jl (v:=I r1) rfl (jad ?_);refine js (cs':=Ah { S.col with r:=r1 + 1,p:=q2 } (.slice a S.col.AG.length cap)) rfl rfl (by simp[Ah]) rfl ?_;refine jl (v:=I (r1 + 1)) rfl (GX ⟨by omega,by omega⟩ ?_);refine js (cs':=Ah { S.col with r:=r1 + 1,p:=(r1 + 1) * 16 } (.slice a S.col.AG.length cap)) rfl rfl (by simp[Ah]) rfl ?_;exact C4 (hK3 n _ _ _ (by omega) ⟨rfl,r1 + 1,(r1 + 1) * 16,rfl,rfl,hw⟩)
 ·rintro e R2 D2 ⟨hR2,hD,he⟩;subst hR2;rw[hD];clear hD;simp only[List.map,zc,zl,zj,z_t] at he;simp only[he];refine jl (v:=I r) rfl (jl (v:=.slice (some ⟨g.tb,0,none⟩) S.A0.length g.tc) rfl (jln (jeq (jif (λhc=>?_) (λhc=>?_)))))
  ·rw[if_pos (by have:=eq_of_beq hc;exact this)] at hS;cases hS;refine jss (p:=p) { S with stop:=true } g rfl rfl (by decide) (by rfl) (by rfl) ?_;refine js (cs':=Ah { S.col with r:=r,p:=q,want:=3 } (.slice a S.col.AG.length cap)) rfl rfl (by simp[Ah]) rfl ?_;refine Ht (p:=p) { S with stop:=true,col:={ S.col with r:=r,p:=q,want:=3 } } (by exact { hok with }) (by exact hst0) (by rfl) λg3 ok3=>?_
   exact Ar (RM.le.refl _) trivial rfl ok3
  ·rw[if_neg (by have:=ne_of_beq_false hc;exact this)] at hS;obtain⟨q1,hq1,hS⟩:=AE hS;obtain⟨rfl,in1⟩:=Aw hq1;obtain⟨⟨w,S1⟩,hrd,hS⟩:=AE hS;have hrd2:=hrd;simp only[Sim.read] at hrd2;have hq0:0≤q:=by
    split at hrd2
    ·exact (Ap (by assumption)).1
    ·cases hrd2
   have hin:inR q:=⟨by omega,by have:=in1.2;omega⟩;have e1:=Cb hrd;subst e1;simp only[Yr] at hS;refine jl (v:=I q) rfl (Cd in1 ?_);refine js (cs':=Ah { S.col with r:=r,p:=q + 1 } (.slice a S.col.AG.length cap)) rfl rfl (by simp[Ah]) rfl ?_;have esub:q + 1 - 1 = q:=by omega
   refine AJ (λvs R' D'=>R2.le R'∧∃g2,Ok R' { S with used:=true } g2∧D' = AY p { S with used:=true } g2 ++ (b,C Ax (Ah (if w = q then { S.col with r:=r,p:=q + 1,src:=q,pc:=20 } else { S.col with r:=r,p:=q + 1 }) (.slice a S.col.AG.length cap))) :: F∧vs = [Pt p,Pt b]) (λK hK=>?_) ?_
   ·refine jl (v:=I (q + 1)) rfl (RV (by rw[esub];exact hin) (jl (v:=I (q + 1)) rfl (RV (by rw[esub];exact hin) ?_)));rw[esub];refine jcS (p:=p) (by exact Cm hok hrd) λ_ R1 g1 hR1 hr ok1=>?_
    subst hr;refine jeq (Ae (jl (v:=I (q + 1)) rfl ?_) (jif (λhw=>?_) (λhw=>?_)))
    ·exact jev
    ·refine jl (v:=I (q + 1)) rfl (RV (by rw[esub];exact hin) ?_);rw[esub];refine js (cs':=Ah { S.col with r:=r,p:=q + 1,src:=q } (.slice a S.col.AG.length cap)) rfl rfl (by simp[Ah]) rfl ?_;refine js (cs':=Ah { S.col with r:=r,p:=q + 1,src:=q,pc:=20 } (.slice a S.col.AG.length cap)) rfl rfl (by simp[Ah]) rfl ?_;exact hK _ _ _ ⟨hR1,g1,ok1,by rw[if_pos (eq_of_beq hw)],rfl⟩
    ·exact hK _ _ _ ⟨hR1,g1,ok1,by rw[if_neg (ne_of_beq_false hw)],rfl⟩
   ·rintro e R3 D3 ⟨hR3,g2,ok2,hD,he⟩;rw[hD];clear hD;simp only[List.map,zc,zl,zj,z_t] at he;simp only[he];have hx:(if w = q then { S.col with r:=r,p:=q + 1,src:=q,pc:=20 } else { S.col with r:=r,p:=q + 1 }:Col).AG = S.col.AG:=by split<;>rfl
    refine Ht (p:=p) (({ S with used:=true }:Sim).setC (if w = q then { S.col with r:=r,p:=q + 1,src:=q,pc:=20 } else { S.col with r:=r,p:=q + 1 })) (by exact ok2) (by rw[hx];exact hst0.le hR3) (by rfl) λg3 ok3=>?_
    subst hS;exact Ar hR3 trivial rfl ok3
theorem jgu {R:RM} {D:Chs} {w:Bool} {a b:M} (H:J R D b):J R D (GT (.tuple #[]) w a b):=H
theorem VZ {p:Nat} {S S' : Sim} {g:Img} {R:RM} (hok:Ok R S g) (hS:S.renew = some S') :
  Fn P Jn [Pt p] R (AY p S g) (Ci p S' λ_=>True):=by
 refine On λF=>?_
 unfold J7;unfold Sim.renew at hS;dsimp only at hS;have htl:=hok.tl;have hml:=hok.ml;refine It (p:=p) hok λb=>?_
 obtain⟨a,cap,hsv,-⟩:=BC.reads (D:=[]) hok.AG;rw[hsv];have hst0:=hok.AG;rw[hsv] at hst0;refine AJ (λvs R' D'=>R.le R'∧∃S2 g2 x2,S' = S2.setC x2∧Ok R' S2 g2∧x2.AG = S.col.AG∧D' = AY p S2 g2 ++ (b,C Ax (Ah x2 (.slice a S.col.AG.length cap))) :: F∧vs = [Pt p,Pt b]) (λK hK=>?_) ?_;rotate_left
 ·rintro e R2 D2 ⟨hR2,S2,g2,x2,e1,ok2,ex,hD,he⟩;rw[hD];clear hD;simp only[List.map,zc,zl,zj,z_t] at he;simp only[he];refine Ht (p:=p) (S2.setC x2) (by exact ok2) (by rw[ex];exact hst0.le hR2) (by rfl) λg3 ok3=>?_
  subst e1;exact Ar hR2 trivial rfl ok3
 refine jl (v:=I S.col.pc) rfl ?_;refine AJ (λvs R' D'=>R.le R'∧∃S2 g2 x2,S' = S2.setC x2∧Ok R' S2 g2∧x2.AG = S.col.AG∧D' = AY p S2 g2 ++ (b,C Ax (Ah x2 (.slice a S.col.AG.length cap))) :: F∧vs = [Pt p,Pt b]) (λK2 hK2=>?_) ?_;rotate_left
 ·rintro e R2 D2 ⟨hR2,S2,g2,x2,e1,ok2,ex,hD,he⟩;rw[hD];clear hD;simp only[List.map,zc,zl,zj,z_t] at he;simp only[he];exact hK _ _ _ ⟨hR2,S2,g2,x2,e1,ok2,ex,rfl,rfl⟩
 have back:∀(R' : RM) (S2:Sim) (g2:Img) (x2:Col),R.le R'→S' = S2.setC x2→Ok R' S2 g2→x2.AG = S.col.AG→J R' (AY p S2 g2 ++ (b,C Ax (Ah x2 (.slice a S.col.AG.length cap))) :: F) (K2 [Pt p,Pt b]):=λR' S2 g2 x2 h1 h2 h3 h4=>hK2 _ _ _ ⟨h1,S2,g2,x2,h2,h3,h4,rfl,rfl⟩
 refine jeq (jif (λc6=>?_) (λc6=>?_))
 ·rw[if_pos (eq_of_beq c6)] at hS;obtain⟨⟨r,q⟩,hro,hS⟩:=AE hS;dsimp only at hS;refine AJ (λvs R' D'=>R' = R∧D' = (b,C Ax (Ah { S.col with r:=r,p:=q } (.slice a S.col.AG.length cap))) :: (AY p S g ++ F)∧vs = [Pt p,Pt b]) (λK3 hK3=>?_) ?_
  ·refine AJ (λvs R' D'=>R' = R∧D' = (b,C Ax (Ah { S.col with r:=r,p:=q } (.slice a S.col.AG.length cap))) :: (AY p S g ++ F)∧vs = [Pt p,Pt b]) (λK4 hK4=>?_) ?_;rotate_left
   ·rintro e R2 D2 ⟨hR2,hD,he⟩;subst hR2;rw[hD];clear hD;simp only[List.map,zc,zl,zj,z_t] at he;simp only[he];exact hK3 _ _ _ ⟨rfl,rfl,rfl⟩
   refine jlp (λn vs R' D'=>R' = R∧∃r1 q1,D' = (b,C Ax (Ah { S.col with r:=r1,p:=q1 } (.slice a S.col.AG.length cap))) :: (AY p S g ++ F)∧vs = [Pt p,Pt b]∧S.renewTo n r1 q1 = some (r,q))
    (n:=S.A0.length + 2) ⟨rfl,S.col.r,S.col.p,rfl,rfl,hro⟩ ?_
   rintro n e R1 D1 K5 ⟨hR1,r1,q1,hD,he,hw⟩ hK5;subst hR1;rw[hD];clear hD;simp only[List.map,zc,zl,zj,z_t] at he;simp only[he];cases n with
   | zero=>cases hw
   | succ n=>
    unfold Sim.renewTo at hw;refine AJ (λvs R' D'=>R' = R1∧D' = (b,C Ax (Ah { S.col with r:=r1,p:=q1 } (.slice a S.col.AG.length cap))) :: (AY p S g ++ F)∧∃v:Bool,vs = [Pt p,Pt b,.bool v]∧((v = true∧S.renewTo n (r1 + 1) ((r1 + 1) * 16) = some (r,q)∧r1 < S.A0.length∧0≤r1)∨(v = false∧r1 = r∧q1 = q))) (λK6 hK6=>?_) ?_;rotate_left
    ·rintro e R2 D2 ⟨hR2,hD,v,he,hv⟩;subst hR2;rw[hD];clear hD;simp only[List.map,zc,zl,zj,z_t] at he;simp only[he];rcases hv with ⟨rfl,hw2,hlt,hge⟩ | ⟨rfl,rfl,rfl⟩
     ·refine DO (jl (v:=I r1) rfl (jad ?_));refine js (cs':=Ah { S.col with r:=r1 + 1,p:=q1 } (.slice a S.col.AG.length cap)) rfl rfl (by simp[Ah]) rfl ?_;refine jl (v:=I (r1 + 1)) rfl (GX ⟨by omega,by omega⟩ ?_);refine js (cs':=Ah { S.col with r:=r1 + 1,p:=(r1 + 1) * 16 } (.slice a S.col.AG.length cap)) rfl rfl (by simp[Ah]) rfl ?_;exact hK5 n _ _ _ (by omega) ⟨rfl,r1 + 1,(r1 + 1) * 16,rfl,rfl,hw2⟩
     ·exact Cn (hK4 _ _ _ ⟨rfl,rfl,rfl⟩)
    by_cases hc:r1 < S.A0.length
    ·rw[if_pos hc] at hw;obtain⟨row,hrow,hw⟩:=AE hw;obtain⟨vv,hvv,hw⟩:=AE hw;obtain⟨r0,r1',r2,r3⟩:=Ap hrow;refine Ct (jl (v:=I r1) rfl (jl (v:=.slice (some ⟨g.tb,0,none⟩) S.A0.length g.tc) rfl (jln (jlt ?_))));rw[decide_eq_true hc];refine jtt (jl (v:=.slice (some ⟨g.tb,0,none⟩) S.A0.length g.tc) rfl (jl (v:=I r1) rfl (jia r0 r1' ?_)));refine jl (v:=I row.kind) (O6 (R:=R1) hrow (f:=0) rfl) (jeq ?_);by_cases hk:row.kind = 4
     ·rw[if_pos hk] at hvv;cases hvv;rw[show (row.kind == 4) = true from by simp[hk]];refine jtf (CH λe he=>?_);simp only[List.map,zc,zl,zj,z_t] at he;simp only[he];refine jtf (Ct (jtf (CH λe he=>?_)));simp only[List.map,zc,zl,zj,z_t] at he;simp only[he];refine Ct (jtt (ED (CH λe he=>?_)));simp only[List.map,zc,zl,zj,z_t] at he;simp only[he];refine ED (Ae (jtf jev) (Ae (jtf jev) (Ae (jtf jev) (Ae (jtf jev) ?_))));exact hK6 _ _ _ ⟨rfl,rfl,true,rfl,.inl ⟨rfl,hw,hc,r0⟩⟩
     ·rw[if_neg hk] at hvv;obtain⟨bl,hbl,hvv⟩:=AE hvv;obtain⟨rfl,hin⟩:=Aw hbl;cases hvv;rw[show (row.kind == 4) = false from by simp[hk]];refine jff (jl (v:=I q1) rfl (jl (v:=I r1) rfl (jl (v:=.slice (some ⟨g.tb,0,none⟩) S.A0.length g.tc) rfl (jl (v:=I r1) rfl (jia r0 r1' ?_)))));refine jl (v:=I row.AQ) (O6 (R:=R1) hrow (f:=4) rfl) (CH λe he=>?_);simp only[List.map,zc,zl,zj,z_t] at he;simp only[he];refine jff (jp (BV r1) (Ct (jff (Cd hin (jge (CH λe he=>?_))))));simp only[List.map,zc,zl,zj,z_t] at he;simp only[he];refine Ct (jtt (EC (CH λe he=>?_)));simp only[List.map,zc,zl,zj,z_t] at he;simp only[he];refine ED (Ae (jff (jl (v:=I q1) rfl jev)) (Ae (jff (jl (v:=.slice (some ⟨g.tb,0,none⟩) S.A0.length g.tc) rfl jev)) (Ae (jff (jl (v:=I r1) rfl jev)) (Ae (jff (jl (v:=I row.AQ) (O6 (R:=R1) hrow (f:=4) rfl) jev)) ?_))));refine hK6 _ _ _ ⟨rfl,rfl,decide (q1≥AM r1 + row.AQ),rfl,?_⟩;by_cases hd:AM r1 + row.AQ≤q1
      ·rw[decide_eq_true hd,if_pos rfl] at hw;exact .inl ⟨decide_eq_true hd,hw,hc,r0⟩
      ·rw[decide_eq_false hd,if_neg (by decide)] at hw;cases hw;exact .inr ⟨decide_eq_false hd,rfl,rfl⟩
    ·rw[if_neg hc] at hw;simp only[Yr,Prod.mk.injEq] at hw;refine Ct (jl (v:=I r1) rfl (jl (v:=.slice (some ⟨g.tb,0,none⟩) S.A0.length g.tc) rfl (jln (jlt ?_))));rw[decide_eq_false hc];refine jft (CH λe he=>?_);simp only[List.map,zc,zl,zj,z_t] at he;simp only[he];refine jgu (Ct (jgu (CH λe he=>?_)));simp only[List.map,zc,zl,zj,z_t] at he;simp only[he];refine Ct (jft (CH λe he=>?_));simp only[List.map,zc,zl,zj,z_t] at he;simp only[he];refine EC (Ae (jgu jev) (Ae (jgu jev) (Ae (jgu jev) (Ae (jgu jev) ?_))));exact hK6 _ _ _ ⟨rfl,rfl,false,rfl,.inr ⟨rfl,hw.1,hw.2⟩⟩
  ·rintro e R2 D2 ⟨hR2,hD,he⟩;subst hR2;rw[hD];clear hD;simp only[List.map,zc,zl,zj,z_t] at he;simp only[he];refine jl (v:=I r) rfl (jl (v:=.slice (some ⟨g.tb,0,none⟩) S.A0.length g.tc) rfl (jln (jeq (jif (λhc=>?_) (λhc=>?_)))))
   ·rw[if_pos (by have:=eq_of_beq hc;exact this)] at hS;refine jss (p:=p) { S with stop:=true } g rfl rfl (by decide) (by rfl) (by rfl) ?_;refine js (cs':=Ah { S.col with r:=r,p:=q,want:=0 } (.slice a S.col.AG.length cap)) rfl rfl (by simp[Ah]) rfl ?_;exact back _ { S with stop:=true } g { S.col with r:=r,p:=q,want:=0 } (RM.le.refl _) (Zb hS).symm { hok with } rfl
   ·rw[if_neg (by have:=ne_of_beq_false hc;exact this)] at hS;obtain⟨q1,hq1,hS⟩:=AE hS;obtain⟨rfl,in1⟩:=Aw hq1;obtain⟨⟨w,S1⟩,hrd,hS⟩:=AE hS;have e1:=Cb hrd;subst e1;dsimp only at hS;obtain⟨q2,hq2,hS⟩:=AE hS;obtain⟨rfl,in2⟩:=Aw hq2;obtain⟨row,hrow,hS⟩:=AE hS;obtain⟨go,hgo,hS⟩:=AE hS;obtain⟨r0,r1',r2,r3⟩:=Ap hrow;refine jl (v:=I q) rfl ?_;refine js (cs':=Ah { S.col with r:=r,p:=q,f:=q } (.slice a S.col.AG.length cap)) rfl rfl (by simp[Ah]) rfl ?_;refine jl (v:=I q) rfl (Cd in1 ?_);refine jcS (p:=p) (by exact Cm hok hrd) λ_ R1 g1 hR1 hr ok1=>?_
    subst hr;refine jp (EH w) (jex rfl (jex rfl ?_));refine ja λb3=>?_
    refine js (cs':=[I (AH w).1.refs,I (AH w).1.nums]) rfl rfl (by exact z_n 2) rfl ?_;refine jla (l:=[I (AH w).1.refs,I (AH w).1.nums]) (by exact z_n 2) (by rfl) ?_;refine js (cs':=Ah { S.col with r:=r,p:=q,f:=q,sh:=(AH w).1 } (.slice a S.col.AG.length cap)) rfl rfl (by simp[Ah]) rfl ?_;refine jl (v:=I q) rfl ?_;refine jfo (jla (l:=[I (AH w).1.refs,I (AH w).1.nums]) (by simp[Ah]) (by rfl) ?_);refine jp (CC (AH w).1) (Cd in2 (Ae (jl (v:=I q) rfl jev) ?_));refine js (cs':=Ah { S.col with r:=r,p:=q + AF (AH w).1,f:=q,sh:=(AH w).1 } (.slice a S.col.AG.length cap)) rfl rfl (by simp[Ah]) rfl ?_;refine js (cs':=Ah { S.col with r:=r,p:=q + AF (AH w).1,f:=q,sh:=(AH w).1,i:=0 } (.slice a S.col.AG.length cap)) rfl rfl (by simp[Ah]) rfl ?_;refine AJ (λvs R' D'=>R' = R1∧D' = AY p { S with used:=true } g1 ++ (b,C Ax (Ah { S.col with r:=r,p:=q + AF (AH w).1,f:=q,sh:=(AH w).1,i:=0 } (.slice a S.col.AG.length cap))) :: F∧∃c u,vs = [Pt p,Pt b,c,u]∧Fh c u go) (λK7 hK7=>?_) ?_
    ·refine Ai (AY p { S with used:=true } g1) (G:=(b,C Ax (Ah { S.col with r:=r,p:=q + AF (AH w).1,f:=q,sh:=(AH w).1,i:=0 } (.slice a S.col.AG.length cap))) :: F) ?_;refine jl (v:=I (AH w).1.refs) rfl (jgr ?_);by_cases hrf:0 < (AH w).1.refs
     ·rw[if_pos hrf] at hgo;rw[decide_eq_true (show (AH w).1.refs > 0 from hrf)];refine jtt (jl (v:=I q) rfl (jl (v:=.slice (some ⟨g1.tb,0,none⟩) S.A0.length g1.tc) rfl (jl (v:=I r) rfl (jia r0 r1' ?_))));refine jl (v:=I row.Az) (O6 (R:=R1) (S:=S) hrow (f:=3) rfl) (jge ?_);by_cases ht:row.Az≤q
      ·rw[if_pos ht] at hgo;cases hgo;rw[decide_eq_true (show q≥row.Az from ht)];exact jtf (ED (hK7 _ _ _ ⟨rfl,rfl,_,_,rfl,Aq⟩))
      ·rw[if_neg ht] at hgo;rw[decide_eq_false (show ¬ q≥row.Az from ht)];obtain⟨m0,m1,m2,m3⟩:=Ap hgo;refine jff (jl (v:=.slice (some ⟨g1.mb,0,none⟩) S.AR.length g1.mc) rfl (jl (v:=I q) rfl (jia m0 m1 ?_)));refine jl (v:=.bool go) (by rw[Z6,Zt];show (S.AR.map Value.bool ++ g1.msp)[q.toNat]? = _;rw[Iz m2,m3]) ?_;exact EC (hK7 _ _ _ ⟨rfl,rfl,_,_,rfl,Aq⟩)
     ·rw[if_neg hrf] at hgo;cases hgo;rw[decide_eq_false (show ¬ (AH w).1.refs > 0 from hrf)];exact jft (hK7 _ _ _ ⟨rfl,rfl,_,_,rfl,Av⟩)
    ·rintro e R3 D3 ⟨hR3,hD,c,u,he,ha⟩;subst hR3;rw[hD];clear hD;simp only[List.map,zc,zl,zj,z_t] at he;simp only[he];rw[ha];refine jif (λhg=>?_) (λhg=>?_)
     ·rw[if_pos hg] at hS;refine js (cs':=Ah { S.col with r:=r,p:=q + AF (AH w).1,f:=q,sh:=(AH w).1,i:=0,pc:=7 } (.slice a S.col.AG.length cap)) rfl rfl (by simp[Ah]) rfl ?_;exact back _ { S with used:=true } g1 { S.col with r:=r,p:=q + AF (AH w).1,f:=q,sh:=(AH w).1,i:=0,pc:=7 } hR1 (Zb hS).symm ok1 rfl
     ·rw[if_neg (by rw[hg];decide)] at hS;exact back _ { S with used:=true } g1 { S.col with r:=r,p:=q + AF (AH w).1,f:=q,sh:=(AH w).1,i:=0 } hR1 (Zb hS).symm ok1 rfl
 rw[if_neg (ne_of_beq_false c6)] at hS;refine jeq (jif (λc7=>?_) (λc7=>?_))
 ·rw[if_pos (eq_of_beq c7)] at hS;obtain⟨q1,hq1,hS⟩:=AE hS;obtain⟨rfl,in1⟩:=Aw hq1;obtain⟨q2,hq2,hS⟩:=AE hS;obtain⟨rfl,in2⟩:=Aw hq2;obtain⟨⟨w,S1⟩,hrd,hS⟩:=AE hS;have e1:=Cb hrd;subst e1;dsimp only at hS;obtain⟨fr,hfr,hS⟩:=AE hS;refine jl (v:=I S.col.f) rfl (Cd in1 (jl (v:=I S.col.i) rfl (Cd in2 ?_)));refine jcS (p:=p) (by exact Cm hok hrd) λ_ R1 g1 hR1 hr ok1=>?_
  subst hr;refine js (cs':=Ah { S.col with v:=w } (.slice a S.col.AG.length cap)) rfl rfl (by simp[Ah]) rfl ?_;refine jl (v:=I w) rfl ?_;refine jcS (p:=p) (by exact Kb ok1 hfr) λ_ R2 g2 hR2 hr ok2=>?_
  subst hr;refine jif (λhf=>?_) (λhf=>?_)
  ·rw[if_pos hf] at hS;refine js (cs':=Ah { S.col with v:=w,pc:=8 } (.slice a S.col.AG.length cap)) rfl rfl (by simp[Ah]) rfl ?_;exact back _ { S with used:=true } g2 { S.col with v:=w,pc:=8 } (hR1.trans hR2) (Zb hS).symm ok2 rfl
  ·rw[if_neg (by rw[hf];decide)] at hS;obtain⟨x2,hx,hS⟩:=AE hS;have ex:x2.AG = S.col.AG:=by
    obtain⟨i1,_,h⟩:=AE hx;cases h;rfl
   refine jla (l:=Ah { S.col with v:=w } (.slice a S.col.AG.length cap)) (by exact z_n 15) (by rfl) ?_;refine jp (Lk (x:={ S.col with v:=w }) a S.col.AG.length cap hx) ?_;refine js (cs':=Ah x2 (.slice a S.col.AG.length cap)) rfl rfl (by exact z_n 15) rfl ?_;exact back _ { S with used:=true } g2 x2 (hR1.trans hR2) (Zb hS).symm ok2 ex
 rw[if_neg (ne_of_beq_false c7)] at hS;refine jeq (jif (λc8=>?_) (λc8=>?_))
 ·rw[if_pos (eq_of_beq c8)] at hS;obtain⟨⟨w,S1⟩,hrd,hS⟩:=AE hS;have e1:=Cb hrd;subst e1;dsimp only at hS;refine jl (v:=I S.col.v) rfl ?_;refine jcS (p:=p) (by exact Cm hok hrd) λ_ R1 g1 hR1 hr ok1=>?_
  subst hr;refine js (cs':=Ah { S.col with word:=w } (.slice a S.col.AG.length cap)) rfl rfl (by simp[Ah]) rfl ?_;refine js (cs':=Ah { S.col with word:=w,pc:=9 } (.slice a S.col.AG.length cap)) rfl rfl (by simp[Ah]) rfl ?_;refine jl (v:=I w) rfl (jl (v:=I S.col.v) rfl (jeq (jif (λhf=>?_) (λhf=>?_))))
  ·rw[if_pos (eq_of_beq hf)] at hS;obtain⟨x2,hx,hS⟩:=AE hS;have ex:x2.AG = S.col.AG:=by
    obtain⟨i1,_,h⟩:=AE hx;cases h;rfl
   refine jla (l:=Ah { S.col with word:=w,pc:=9 } (.slice a S.col.AG.length cap)) (by exact z_n 15) (by rfl) ?_;refine jp (Lk (x:={ S.col with word:=w,pc:=9 }) a S.col.AG.length cap hx) ?_;refine js (cs':=Ah x2 (.slice a S.col.AG.length cap)) rfl rfl (by exact z_n 15) rfl ?_;exact back _ { S with used:=true } g1 x2 hR1 (Zb hS).symm ok1 ex
  ·rw[if_neg (ne_of_beq_false hf)] at hS;exact back _ { S with used:=true } g1 { S.col with word:=w,pc:=9 } hR1 (Zb hS).symm ok1 rfl
 rw[if_neg (ne_of_beq_false c8)] at hS;refine jeq (jif (λc9=>?_) (λc9=>?_));rotate_left
 ·rw[if_neg (ne_of_beq_false c9)] at hS;exact BH ZG.symm (back _ S g S.col (RM.le.refl _) (Zb hS).symm hok rfl)
 rw[if_pos (eq_of_beq c9)] at hS;obtain⟨q1,hq1,hS⟩:=AE hS;obtain⟨rfl,in1⟩:=Aw hq1;obtain⟨q2,hq2,hS⟩:=AE hS;obtain⟨rfl,in2⟩:=Aw hq2;obtain⟨⟨w,S1⟩,hrd,hS⟩:=AE hS;have e1:=Cb hrd;subst e1;dsimp only at hS;obtain⟨S3,h3,hS⟩:=AE hS;obtain⟨x2,hx,hS⟩:=AE hS;have ex:x2.AG = S.col.AG:=by
  obtain⟨i1,_,h⟩:=AE hx;cases h;rfl
 refine AJ (λvs R' D'=>R.le R'∧∃g2,Ok R' S3 g2∧D' = AY p S3 g2 ++ (b,C Ax (Ah S.col (.slice a S.col.AG.length cap))) :: F∧vs = [Pt p,Pt b]) (λK3 hK3=>?_) ?_;rotate_left
 ·rintro e R2 D2 ⟨hR,g2,ok2,hD,he⟩;rw[hD];clear hD;simp only[List.map,zc,zl,zj,z_t] at he;simp only[he];refine jla (l:=Ah S.col (.slice a S.col.AG.length cap)) (by exact z_n 15) (by rfl) ?_;refine jp (Lk (x:=S.col) a S.col.AG.length cap hx) ?_;refine js (cs':=Ah x2 (.slice a S.col.AG.length cap)) rfl rfl (by exact z_n 15) rfl ?_;exact back _ S3 g2 x2 hR (Zb hS).symm ok2 ex
 refine jl (v:=I S.col.f) rfl (Cd in1 (jl (v:=I S.col.i) rfl (Cd in2 (jl (v:=I S.col.v) rfl ?_))));refine jcS (p:=p) (by exact Cm hok hrd) λ_ R1 g1 hR1 hr ok1=>?_
 subst hr;refine jeq (Ae (jl (v:=I S.col.v) rfl jev) (jif (λhw=>?_) (λhw=>?_)))
 ·rw[if_pos (eq_of_beq hw)] at h3;refine jl (v:=I S.col.f) rfl (Cd in1 (jl (v:=I S.col.i) rfl (Cd in2 (jl (v:=I S.col.word) rfl ?_))));refine jcS (p:=p) (by exact DN ok1 h3) λ_ R2 g2 hR2 hr ok2=>?_
  exact hK3 _ _ _ ⟨hR1.trans hR2,g2,ok2,rfl,rfl⟩
 ·rw[if_neg (ne_of_beq_false hw)] at h3;cases h3;exact hK3 _ _ _ ⟨hR1,g1,ok1,rfl,rfl⟩
theorem Wf {p:Nat} {S S' : Sim} {g:Img} {R:RM} (hok:Ok R S g) (hS:S.work = some S') :
  Fn P MI [Pt p] R (AY p S g) (Ci p S' λ_=>True):=by
 refine Qi λF=>?_
 unfold L9;unfold Sim.work at hS;refine jan [Pt p] ((S.Aa == 1) && (S.col.pc == 1)) (λK' hK'=>?_) (λe c u ho he=>?_)
 ·refine jl (v:=I S.Aa) rfl (jeq (Bm (λh1=>?_) (λh1=>?_)))
  ·refine jl (v:=I S.col.pc) rfl (jeq (hK' _ _ _ (h1▸Aq) (by rw[h1,Yx])))
  ·exact hK' _ _ _ (h1▸Av) (by rw[h1,Yy])
 simp only[List.map,zc,zl,zj,z_t] at he;simp only[he];rw[ho];refine jif (λhc=>?_) (λhc=>?_)
 ·rw[if_pos (by simpa using hc)] at hS;refine jcS (p:=p) (by exact Tx hok hS) λ_ R2 g2 hR2 hr ok2=>?_
  exact Ar hR2 trivial rfl ok2
 rw[if_neg (by intro h;simp[h.1,h.2] at hc)] at hS;refine jl (v:=I S.Aa) rfl (jeq (jif (λh1=>?_) (λh1=>?_)))
 ·rw[if_pos (eq_of_beq h1)] at hS;refine jcS (p:=p) (by exact US hok hS) λ_ R2 g2 hR2 hr ok2=>?_
  exact Ar hR2 trivial rfl ok2
 rw[if_neg (ne_of_beq_false h1)] at hS;refine jan [Pt p] ((S.Aa == 2) && (S.col.pc == 5)) (λK' hK'=>?_) (λe c u ho he=>?_)
 ·refine jl (v:=I S.Aa) rfl (jeq (Bm (λh1=>?_) (λh1=>?_)))
  ·refine jl (v:=I S.col.pc) rfl (jeq (hK' _ _ _ (h1▸Aq) (by rw[h1,Yx])))
  ·exact hK' _ _ _ (h1▸Av) (by rw[h1,Yy])
 simp only[List.map,zc,zl,zj,z_t] at he;simp only[he];rw[ho];refine jif (λhc=>?_) (λhc=>?_)
 ·rw[if_pos (by simpa using hc)] at hS;refine jcS (p:=p) (by exact XL hok hS) λ_ R2 g2 hR2 hr ok2=>?_
  exact Ar hR2 trivial rfl ok2
 rw[if_neg (by intro h;simp[h.1,h.2] at hc)] at hS;refine jl (v:=I S.Aa) rfl (jeq (jif (λh1=>?_) (λh1=>?_)))
 ·rw[if_pos (eq_of_beq h1)] at hS;refine jcS (p:=p) (by exact WD hok hS) λ_ R2 g2 hR2 hr ok2=>?_
  exact Ar hR2 trivial rfl ok2
 ·rw[if_neg (ne_of_beq_false h1)] at hS;refine jcS (p:=p) (by exact VZ hok hS) λ_ R2 g2 hR2 hr ok2=>?_
  exact Ar hR2 trivial rfl ok2
theorem Wk {R:RM} {D G:Chs} {p b c:Nat} {S:Sim} {g:Img} {ms:List Bool} {sp:List Value} {m:M} [w:Fd D p S g G]
  (H:J R (AY p { S with AR:=ms } { g with mb:=b,mc:=c,msp:=sp } ++ G) m) :
  J R ((b,C BK (ms.map Value.bool ++ sp)) :: D) (ST 1 (.pointer (some ⟨p,6,none⟩)) (S0 b ms.length c) m):=by
 refine BH ((w.ex.cons _).trans ZG.symm) ?_;have e2:Br { S with AR:=ms } { g with mb:=b,mc:=c,msp:=sp } = (Br S g).set 6 (S0 b ms.length c):=by
  simp[Br,evV]
 refine js (D:=AY p S g ++ (b,C BK (ms.map Value.bool ++ sp)) :: G) (t:=BZ) (cs:=Br S g) (cs':=Br { S with AR:=ms } { g with mb:=b,mc:=c,msp:=sp })
  (D':=(p,C BZ (Br { S with AR:=ms } { g with mb:=b,mc:=c,msp:=sp })) :: ((g.wb,C Ac (S.AB.map I ++ g.wsp)) :: (g.tb,C AI (Ab eRg S.A0 ++ g.tsp)) :: (g.mb,C BK (S.AR.map Value.bool ++ g.msp)) :: (g.hb,C AV (Dh S.th g.rv ++ g.hsp)) :: evD S g ++ (b,C BK (ms.map Value.bool ++ sp)) :: G)) rfl rfl (by simp[Br]) (by rw[e2,show cl (S0 b ms.length c) = [S0 b ms.length c] from rfl,GS (by simp[Br])]) ?_ (u:=?_)
 ·unfold AY;exact inferInstance
 ·refine Ai ((p,C BZ (Br { S with AR:=ms } { g with mb:=b,mc:=c,msp:=sp })) :: (g.wb,C Ac (S.AB.map I ++ g.wsp)) :: (g.tb,C AI (Ab eRg S.A0 ++ g.tsp)) :: (b,C BK (ms.map Value.bool ++ sp)) :: (g.hb,C AV (Dh S.th g.rv ++ g.hsp)) :: evD S g) (G:=G) ?_;exact H
theorem Q3 {p:Nat} {S:Sim} {g:Img} {R:RM} (hok:Ok R S g) :
  Fn P HT [Pt p] R (AY p S g) (Ci p { S with AR:=List.replicate S.AR.length false } λ_=>True):=by
 refine Nm λF=>?_
 unfold IS;have hml:=hok.ml;refine jl (v:=.slice (some ⟨g.mb,0,none⟩) S.AR.length g.mc) rfl (jln (jms (by omega) (by omega) (by omega) λb=>?_));rw[Yj];have e:(List.replicate S.AR.length (cl z4)).flatten = (List.replicate S.AR.length false).map Value.bool ++ []:=by
  rw[ZV,List.map_replicate,show cl z4 = [Value.bool false] from rfl,aH]
 rw[e];have:=Wk (p:=p) (R:=R) (D:=AY p S g ++ F) (b:=b) (c:=S.AR.length) (ms:=List.replicate S.AR.length false) (sp:=[]) (m:=Er R F (Ci p { S with AR:=List.replicate S.AR.length false } λ_=>True) (.tuple #[])) ?_
 ·rw[Z9] at this;exact this
 ·exact Ar (RM.le.refl _) trivial rfl (by exact { hok with ml:=by simpa using hok.ml,mk_:=by simp })
def Ba (f:Int→Rg→Rg) (k:Nat) (t:List Rg):List Rg:=t.mapIdx λi x=>if i = 0∨k≤i then x else f i x
theorem HO {f:Int→Rg→Rg} {t:List Rg}:Ba f 1 t = t:=by
 apply List.ext_getElem
 ·simp[Ba]
 ·intro i h1 h2;simp only[Ba,ab];rw[if_pos (by omega)]
theorem HN {f:Int→Rg→Rg} {t:List Rg} {k:Nat} (h:t.length≤k):Ba f k t = rows f t:=by
 apply List.ext_getElem
 ·simp[Ba,rows]
 ·intro i h1 h2;simp only[Ba,rows,ab];simp only[Ba,List.length_mapIdx] at h1;by_cases c:i = 0
  ·rw[if_pos (.inl c),if_pos c]
  ·rw[if_neg (by omega),if_neg c]
@[simp] theorem CI {f:Int→Rg→Rg} {t:List Rg} {k:Nat}:(Ba f k t).length = t.length:=by simp[Ba]
theorem HM {f:Int→Rg→Rg} {t:List Rg} {k:Nat} (h:k < t.length):(Ba f k t)[k]'(by simpa using h) = t[k]:=by
 simp only[Ba,ab];rw[if_pos (.inr (z_n k))]
theorem HK {f:Int→Rg→Rg} {t:List Rg} {k:Nat} (h1:1≤k) (h:k < t.length):(Ba f k t).set k (f k t[k]) = Ba f (k + 1) t:=by
 apply List.ext_getElem
 ·simp[Ba]
 ·intro i h2 h3;simp only[Ba,List.length_mapIdx] at h3;rw[List.getElem_set];simp only[Ba,ab];by_cases c:k = i
  ·subst c;rw[if_pos rfl,if_neg (by omega)]
  ·rw[if_neg c];by_cases d:i = 0∨k≤i
   ·rw[if_pos d,if_pos (by omega)]
   ·rw[if_neg d,if_neg (by omega)]
theorem UJ {p:Nat} {S S' : Sim} {g:Img} {R:RM} (hok:Ok R S g) (hS:S.idle = some S') :
  Fn P MQ [Pt p] R (AY p S g) (Ci p S' λ_=>True):=by
 refine QN λF=>?_
 unfold ML;unfold Sim.idle at hS;obtain⟨n,hn,hS⟩:=AE hS;obtain⟨rfl,hin⟩:=Aw hn;simp only[Yr] at hS;have htl:=hok.tl;refine jcS (p:=p) (by exact Q3 hok) λ_ R1 g1 hR1 hr ok1=>?_
 refine jss (p:=p) { S with AR:=List.replicate S.AR.length false,Aa:=0 } g1 rfl rfl (by decide) (by rfl) (by rfl) ?_;refine jl (v:=.bool S.col.Ag) rfl ?_;refine jbd (cs:=Ah (CR S.col.Ag 0) (.slice none 0 0)) rfl rfl ?_;refine jss (p:=p) { S with AR:=List.replicate S.AR.length false,Aa:=0,col:=CR S.col.Ag 0 } { g1 with AG:=.slice none 0 0 } rfl rfl (by decide) (by rfl) (by rfl) ?_;refine jl (v:=I S.B8) rfl (Cd hin ?_);refine jss (p:=p) { S with AR:=List.replicate S.AR.length false,Aa:=0,col:=CR S.col.Ag 0,B8:=S.B8 + 1 } { g1 with AG:=.slice none 0 0 } rfl rfl (by decide) (by rfl) (by rfl) ?_;refine jlp (λm vs R' D'=>R' = R1∧∃k:Nat,1≤k∧k≤S.A0.length + 1∧D' = AY p { S with AR:=List.replicate S.AR.length false,Aa:=0,col:=CR S.col.Ag 0,B8:=S.B8 + 1,A0:=Ba (λ_ x=>{ x with AQ:=0 }) k S.A0 } { g1 with AG:=.slice none 0 0 } ++ F∧vs = [Pt p,I k]∧m = S.A0.length + 1 - k)
  (n:=S.A0.length) ⟨rfl,1,z_n 1,by omega,by rw[HO],rfl,by omega⟩ ?_
 rintro m e R2 D2 K ⟨hR2,k,k0,k1,hD,he,hm⟩ hK;subst hR2;rw[hD];clear hD;simp only[List.map,zc,zl,zj,z_t] at he;simp only[he];refine jl (v:=.slice (some ⟨g1.tb,0,none⟩) (Ba (λ_ x=>{ x with AQ:=0 }) k S.A0).length g1.tc) rfl (jln (jlt (jif (λhc=>?_) (λhc=>?_))))
 ·have hc:k < S.A0.length:=by have:=z_f hc;rw[CI] at this;omega
  refine jl (v:=.slice (some ⟨g1.tb,0,none⟩) (Ba (λ_ x=>{ x with AQ:=0 }) k S.A0).length g1.tc) rfl (Cs (by rw[CI];exact hc) ?_);refine Qm (p:=p) (g:={ g1 with AG:=.slice none 0 0 }) (by simpa using hc) ?_;rw[show ({ S with AR:=List.replicate S.AR.length false,Aa:=0,col:=CR S.col.Ag 0,B8:=S.B8 + 1,A0:=Ba (λ_ x=>{ x with AQ:=0 }) k S.A0 }:Sim).A0[k]'(by simpa using hc) = S.A0[k] from HM (f:=λ_ x=>{ x with AQ:=0 }) hc];refine ja λb5=>?_
  refine js (cs':=eRg (S.A0[k])) rfl rfl (by simp) rfl ?_;refine js (cs':=eRg { S.A0[k] with AQ:=0 }) rfl rfl (by simp) rfl ?_;refine jl (v:=.slice (some ⟨g1.tb,0,none⟩) (Ba (λ_ x=>{ x with AQ:=0 }) k S.A0).length g1.tc) rfl ?_;refine jla (l:=eRg { S.A0[k] with AQ:=0 }) (by simp) rfl ?_;refine Cs (by rw[CI];exact hc) ?_;refine Si (p:=p) (g:={ g1 with AG:=.slice none 0 0 }) (x:={ S.A0[k] with AQ:=0 }) { S with AR:=List.replicate S.AR.length false,Aa:=0,col:=CR S.col.Ag 0,B8:=S.B8 + 1,A0:=Ba (λ_ x=>{ x with AQ:=0 }) (k + 1) S.A0 } (by simpa using hc) (by rw[← HK k0 hc]) ?_;refine jad ?_;refine Ai (AY p { S with AR:=List.replicate S.AR.length false,Aa:=0,col:=CR S.col.Ag 0,B8:=S.B8 + 1,A0:=Ba (λ_ x=>{ x with AQ:=0 }) (k + 1) S.A0 } { g1 with AG:=.slice none 0 0 }) (G:=F) ?_;exact hK (S.A0.length + 1 - (k + 1)) _ _ _ (by omega) ⟨rfl,k + 1,by omega,by omega,rfl,rfl,rfl⟩
 ·have hc:S.A0.length≤k:=by have:=z_g hc;rw[CI] at this;omega
  subst hS;refine Ar hR1 trivial (by rw[HN hc]) ?_;exact { ok1 with AG:=.inl ⟨rfl,rfl,rfl⟩,tl:=by simpa [rows] using hok.tl,tk:=by simpa [rows] using ok1.tk,ml:=by simpa using hok.ml,mk_:=by simpa using ok1.mk_ }
end Go.Lf
end
