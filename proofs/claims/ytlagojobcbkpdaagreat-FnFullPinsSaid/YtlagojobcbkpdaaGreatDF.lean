/- A part of the proof of the given row: the walk of the law and of all that it calls. Conditions: none. -/
import Derived.Test.YtlagojobcbkpdaaGreatDE
set_option linter.unusedVariables false
set_option linter.unusedSimpArgs false
set_option maxRecDepth 100000
section
namespace Go.Lf
open Go Sm
theorem Wl {S S1:Sim} {v:Int} (h:S.oldV v = some S1):S1.th = S.th:=by
 simp only[Sim.oldV] at h;split at h
 ·cases h
 ·cases h;split<;>rfl
theorem VQ {p:Nat} {S S' : Sim} {g:Img} {i:Int} {R:RM} (hok:Ok R S g) (hS:S.field i = some S') :
  Fn P JQ [Pt p,I i] R (Ab p S g) (D0 p S' λ_=>True):=by
 refine OM λF=>?_
 refine z_2 ?_;obtain⟨t,ht,hS⟩:=AD hS;obtain⟨o,ho,hS⟩:=AD hS;obtain⟨q1,hq1,hS⟩:=AD hS;obtain⟨ref,hq2,hS⟩:=AD hS;obtain⟨q3,hq3,hS⟩:=AD hS;obtain⟨num,hq4,hS⟩:=AD hS;obtain⟨rfl,in1⟩:=B8 hq1;obtain⟨rfl,in2⟩:=B8 hq2;obtain⟨rfl,in3⟩:=B8 hq3;obtain⟨rfl,in4⟩:=B8 hq4;obtain⟨h0,h1,h2,h3⟩:=Av ht;refine GI (p:=p) hok ht rfl λb a cap hv=>?_
 refine VI (p:=p) hok ho λb2=>?_
 refine jl (v:=I t.h) rfl (Cr in1 (jl (v:=I o.f) rfl (Cr in2 (jl (v:=I t.h) rfl (Cr in1 (jl (v:=I t.sh.refs) rfl (Cr in3 (jl (v:=I o.f) rfl (Cr in4 (jl (v:=I t.pc) rfl ?_))))))))));refine AR (λvs R' D'=>R' = R∧D' = (b2,C 183 (eOp o)) :: (b,C AY (Ak t (.slice a t.AC.length cap))) :: (Ab p S g ++ F)∧∃v:Bool,vs = [Pt p,I i,Pt b,Pt b2,I (t.h + 2 + o.f),I (t.h + 2 + t.sh.refs + o.f),I t.pc,.bool v]∧(v = true↔t.pc = 5∨t.pc = 12)) (λK hK=>?_) ?_
 ·refine jeq (jif (λh=>hK _ _ _ ⟨rfl,rfl,_,rfl,?_⟩) (λh=>jeq (hK _ _ _ ⟨rfl,rfl,_,rfl,?_⟩)))
  ·rw[h];simp[eq_of_beq h]
  ·simp[ne_of_beq_false h]
 rintro e R1 D1 ⟨rfl,hD,v,he,hv5⟩;refine z_W ?_;refine jif (λhvt=>?_) (λhvf=>?_)
 ·rw[if_pos (hv5.1 hvt)] at hS;obtain⟨⟨w,S1⟩,hrd,hS⟩:=AD hS;refine jcS (p:=p) (by exact Cz hok hrd) λ_ R2 g2 hR2 hr ok2=>?_
  subst hr;refine jcS (p:=p) (by exact WQ ok2 hS) λ_ R3 g3 hR3 hr ok3=>?_
  exact Ay (hR2.trans hR3) trivial rfl ok3
 rw[if_neg (λh=>by rw[hv5.2 h] at hvf;cases hvf)] at hS;refine jeq (jif (λc=>?_) (λc=>?_))
 ·rw[if_pos (eq_of_beq c)] at hS;obtain⟨⟨w,S1⟩,hrd,hS⟩:=AD hS;have e1:=Cn hrd;subst e1;obtain⟨S2,hol,hS⟩:=AD hS;cases hS;have e2:=Wl hol;refine jcS (p:=p) (by exact Cz hok hrd) λ_ R2 g2 hR2 hr ok2=>?_
  subst hr;refine jcS (p:=p) (by exact WJ ok2 hol) λ_ R3 g3 hR3 hr ok3=>?_
  refine jS (Ak { t with pc:=7 } (.slice a t.AC.length cap)) ?_;refine Gj (p:=p) (S2.setT i { t with pc:=7 }) (by exact ok3) h0 (by rw[e2];exact h1) (by exact hv.le (hR2.trans hR3)) τ λg4 ok4=>?_
  exact Ay (hR2.trans hR3) trivial rfl ok4
 rw[if_neg (ne_of_beq_false c)] at hS;refine jeq (jif (λc=>?_) (λc=>?_))
 ·rw[if_pos (eq_of_beq c)] at hS;obtain⟨S1,hwr,hS⟩:=AD hS;refine jl (v:=I t.g) rfl ?_;refine jcS (p:=p) (by exact Db hok hwr) λ_ R2 g2 hR2 hr ok2=>?_
  refine jcS (p:=p) (by exact DM ok2 hS) λ_ R3 g3 hR3 hr ok3=>?_
  exact Ay (hR2.trans hR3) trivial rfl ok3
 rw[if_neg (ne_of_beq_false c)] at hS;refine jeq (jif (λc=>?_) (λc=>?_))
 ·rw[if_pos (eq_of_beq c)] at hS;obtain⟨S1,hwr,hS⟩:=AD hS;refine jl (v:=I o.v) rfl ?_;refine jcS (p:=p) (by exact Db hok hwr) λ_ R2 g2 hR2 hr ok2=>?_
  refine jcS (p:=p) (by exact DM ok2 hS) λ_ R3 g3 hR3 hr ok3=>?_
  exact Ay (hR2.trans hR3) trivial rfl ok3
 rw[if_neg (ne_of_beq_false c)] at hS;refine jeq (jif (λc=>?_) (λc=>?_))
 ·rw[if_pos (eq_of_beq c)] at hS;obtain⟨⟨w,S1⟩,hrd,hS⟩:=AD hS;refine jcS (p:=p) (by exact Cz hok hrd) λ_ R2 g2 hR2 hr ok2=>?_
  subst hr;refine jcS (p:=p) (by exact DM ok2 hS) λ_ R3 g3 hR3 hr ok3=>?_
  exact Ay (hR2.trans hR3) trivial rfl ok3
 rw[if_neg (ne_of_beq_false c)] at hS;refine jeq (jif (λc=>?_) (λc=>?_))
 ·rw[if_pos (eq_of_beq c)] at hS;obtain⟨⟨w,S1⟩,hrd,hS⟩:=AD hS;refine jcS (p:=p) (by exact Cz hok hrd) λ_ R2 g2 hR2 hr ok2=>?_
  subst hr;refine jcS (p:=p) (by exact Ur ok2 hS) λ_ R3 g3 hR3 hr ok3=>?_
  exact Ay (hR2.trans hR3) trivial rfl ok3
 rw[if_neg (ne_of_beq_false c)] at hS;refine jeq (jif (λc=>?_) (λc=>?_))
 ·rw[if_pos (eq_of_beq c)] at hS;obtain⟨⟨w,S1⟩,hrd,hS⟩:=AD hS;have e1:=Cn hrd;subst e1;dsimp only at hS;refine jl (v:=I t.u) rfl ?_;refine jcS (p:=p) (by exact Cz hok hrd) λ_ R2 g2 hR2 hr ok2=>?_
  subst hr;refine jeq (Af (jl (v:=I t.u) rfl jev) (jif (λc2=>?_) (λc2=>?_)))
  ·rw[if_pos (eq_of_beq c2)] at hS;obtain⟨S2,hwr,hS⟩:=AD hS;refine jl (v:=I t.k) rfl ?_;refine jcS (p:=p) (by exact Db ok2 hwr) λ_ R3 g3 hR3 hr ok3=>?_
   refine jcS (p:=p) (by exact DM ok3 hS) λ_ R4 g4 hR4 hr ok4=>?_
   exact Ay ((hR2.trans hR3).trans hR4) trivial rfl ok4
  ·rw[if_neg (ne_of_beq_false c2)] at hS;cases hS;refine jS (Ak { t with pc:=10 } (.slice a t.AC.length cap)) ?_;refine Gj (p:=p) (({ S with used:=true }:Sim).setT i { t with pc:=10 }) (by exact ok2) h0 (by exact h1) (by exact hv.le hR2) τ λg4 ok4=>?_
   exact Ay hR2 trivial rfl ok4
 rw[if_neg (ne_of_beq_false c)] at hS;refine jeq (jif (λc=>?_) (λc=>?_))
 ·rw[if_pos (eq_of_beq c)] at hS;refine jl (v:=I t.v) rfl (jl (v:=I t.g) rfl (jeq (jif (λc2=>?_) (λc2=>?_))))
  ·rw[if_pos (eq_of_beq c2)] at hS;cases hS;refine jS (Ak { t with pc:=14 } (.slice a t.AC.length cap)) ?_;refine Gj (p:=p) (S.setT i { t with pc:=14 }) (by exact hok) h0 (by exact h1) (by exact hv) τ λg4 ok4=>?_
   exact Ay (RM.le.refl _) trivial rfl ok4
  ·rw[if_neg (ne_of_beq_false c2)] at hS;obtain⟨⟨w,S1⟩,hrd,hS⟩:=AD hS;refine jcS (p:=p) (by exact Cz hok hrd) λ_ R2 g2 hR2 hr ok2=>?_
   subst hr;refine jcS (p:=p) (by exact Ur ok2 hS) λ_ R3 g3 hR3 hr ok3=>?_
   exact Ay (hR2.trans hR3) trivial rfl ok3
 ·rw[if_neg (ne_of_beq_false c)] at hS;cases hS;exact Ay (RM.le.refl _) trivial rfl hok
theorem Vc {p:Nat} {S S' : Sim} {g:Img} {i:Int} {R:RM} (hok:Ok R S g) (hS:S.shape i = some S') :
  Fn P JV [Pt p,I i] R (Ab p S g) (D0 p S' λ_=>True):=by
 refine NY λF=>?_
 refine z_2 ?_;obtain⟨t,ht,hS⟩:=AD hS;split at hS
 ·cases hS
 rename_i hsz;have hsz:=G5 (by simpa using hsz:S.sz = true);obtain⟨o,hop,hS⟩:=AD hS;obtain⟨h0,h1,h2,h3⟩:=Av ht;refine GI (p:=p) hok ht rfl λb a cap hv=>?_
 refine VI (p:=p) hok hop λb2=>?_
 refine jl (v:=I o.kind) rfl (jeq (jif (λc=>?_) (λc=>?_)))
 ·rw[if_pos (eq_of_beq c)] at hS;refine jl (v:=I t.h) rfl (jl (v:=I t.g) rfl (jeq (jp (V7 (t.h == t.g)) ?_)));refine jcS (p:=p) (by exact DM hok hS) λ_ R3 g3 hR3 hr ok3=>?_
  exact Ay hR3 trivial rfl ok3
 rw[if_neg (ne_of_beq_false c)] at hS;refine jor [Pt p,I i,Pt b,Pt b2] ((o.kind == 10) || (o.kind == 11)) (λK' hK'=>?_) (λe c u ho he=>?_)
 ·refine jl (v:=I o.kind) rfl (jeq (BR (λh1=>?_) (λh1=>?_)))
  ·refine jl (v:=I o.kind) rfl (jeq (hK' _ _ _ (h1▸Ah) (by rw[h1,Yl])))
  ·exact hK' _ _ _ (h1▸Am) (by rw[h1,Yo])
 refine z_V ?_;rw[ho];refine jif (λhk=>?_) (λhk=>?_)
 ·rw[if_pos (by simpa using hk)] at hS;refine jl (v:=g.AG) rfl (jl (v:=I o.kind) rfl (jl (v:=I t.h) rfl ?_));refine jc (A:=[]) (UP o.kind t.h hok.AG (by exact hsz.2.2.2.1)) ?_;intro v R1 A hR1 hq;have ok1:=hok.le hR1;cases hp:G3 S.AG o.kind t.h with
  | none=>
   rw[hp] at hq hS;obtain⟨rfl,rfl⟩:=hq;refine jex rfl (jex rfl (DI ?_));refine jcS (p:=p) (D:=(b2,C 183 (eOp o)) :: (b,C AY (Ak t (.slice a t.AC.length cap))) :: (Ab p S g ++ F)) (by exact DM ok1 hS) λ_ R3 g3 hR3 hr ok3=>?_
   exact Ay (hR1.trans hR3) trivial rfl ok3
  | some l=>
   rw[hp] at hq hS;obtain⟨sv,⟨b4,c4,sp4,hc4,hsp4,rfl,rfl⟩,rfl⟩:=hq;refine jex rfl (jex rfl (CL ?_));refine BQ (b:=b4) λR2 hR2 hb4=>?_
   have hv2:=CH (c:=c4) hb4 hc4;refine BI (D':=(b2,C 183 (eOp o)) :: (b,C AY (Ak t (.slice a t.AC.length cap))) :: (Ab p S g ++ F)) (ZU _) ?_;refine jss { S with AG:=l } { g with AG:=S0 b4 l.length c4 } rfl rfl δ τ τ ?_;refine jcS (p:=p) (by exact DM (S:={ S with AG:=l }) { ok1.le hR2 with AG:=hv2 } hS) λ_ R3 g3 hR3 hr ok3=>?_
   exact Ay ((hR1.trans hR2).trans hR3) trivial rfl ok3
 rw[if_neg (by simpa using hk)] at hS;obtain⟨q,hq,hS⟩:=AD hS;obtain⟨rfl,hin⟩:=B8 hq;obtain⟨⟨w,S1⟩,hrd,hS⟩:=AD hS;have e1:=Cn hrd;subst e1;dsimp only at hS;refine jl (v:=I t.h) rfl (Cr hin ?_);refine jcS (p:=p) (by exact Cz hok hrd) λ_ R1 g1 hR1 hr ok1=>?_
 subst hr;refine jp (Ei w) (jex rfl (jex rfl ?_));refine ja λb3=>?_
 refine jS [I (AJ w).1.refs,I (AJ w).1.nums] ?_;refine jla (l:=eOp o) (by exact z_n 8) τ ?_;refine jl (v:=I (AJ w).1.refs) rfl (jl (v:=I (AJ w).1.nums) rfl ?_);refine jp (Sk o (AJ w).1.refs (AJ w).1.nums) (jif (λhf=>?_) (λhf=>?_))
 ·rw[if_pos hf] at hS;refine jcS (p:=p) (by exact DM ok1 hS) λ_ R3 g3 hR3 hr ok3=>?_
  exact Ay (hR1.trans hR3) trivial rfl ok3
 rw[if_neg (by rw[hf];decide)] at hS;refine jla (l:=[I (AJ w).1.refs,I (AJ w).1.nums]) (by exact z_n 2) τ ?_;refine jS (Ak { t with sh:=(AJ w).1 } (.slice a t.AC.length cap)) ?_;have fin:∀(R2:RM) (D2:Chs) (q:Int) (m:M),q = (if o.kind = 2 then 5 else if o.kind = 3 then (if S.Ad = 1 then 6 else 7) else if o.kind = 4 then 8 else if o.kind = 5 then 9 else if o.kind = 7 then 10 else t.pc)→S' = ({ S with used:=true }:Sim).setT i { t with sh:=(AJ w).1,pc:=q }:=λR2 D2 q m hq=>by
  rw[hq];simp only[Yu] at hS;exact hS.symm
 refine AR (λvs R' D'=>R' = R1∧∃q,S' = ({ S with used:=true }:Sim).setT i { t with sh:=(AJ w).1,pc:=q }∧D' = Ab p { S with used:=true } g1 ++ (b,C AY (Ak { t with sh:=(AJ w).1,pc:=q } (.slice a t.AC.length cap))) :: F∧vs = [Pt p,I i,Pt b]) (λK hK=>?_) ?_;rotate_left
 ·rintro e R2 D2 ⟨rfl,q,rfl,hD,he⟩;refine z_W ?_;refine Gj (p:=p) (({ S with used:=true }:Sim).setT i { t with sh:=(AJ w).1,pc:=q }) (by exact ok1) h0 (by exact h1) (by exact hv.le hR1) τ λg4 ok4=>?_
  exact Ay hR1 trivial rfl ok4
 refine jl (v:=I o.kind) rfl ?_;refine AR (λvs R' D'=>R' = R1∧∃q,S' = ({ S with used:=true }:Sim).setT i { t with sh:=(AJ w).1,pc:=q }∧D' = Ab p { S with used:=true } g1 ++ (b,C AY (Ak { t with sh:=(AJ w).1,pc:=q } (.slice a t.AC.length cap))) :: F∧vs = [Pt p,I i,Pt b]) (λK2 hK2=>?_) ?_;rotate_left
 ·rintro e R2 D2 ⟨rfl,q,hq,hD,he⟩;refine z_W ?_;exact hK _ _ _ ⟨rfl,q,hq,rfl,rfl⟩
 have leaf:∀q:Int,q = (if o.kind = 2 then 5 else if o.kind = 3 then (if S.Ad = 1 then 6 else 7) else if o.kind = 4 then 8 else if o.kind = 5 then 9 else if o.kind = 7 then 10 else t.pc)→
   J R1 ((b3,C 60 [I (AJ w).1.refs,I (AJ w).1.nums]) :: (Ab p { S with used:=true } g1 ++ (b2,C 183 (eOp o)) :: (b,C AY (Ak { t with sh:=(AJ w).1,pc:=q } (.slice a t.AC.length cap))) :: F)) (K2 [Pt p,I i,Pt b]):=λq hq=>by
  refine Aw (Ab p { S with used:=true } g1) (G:=(b,C AY (Ak { t with sh:=(AJ w).1,pc:=q } (.slice a t.AC.length cap))) :: F) ?_;exact hK2 _ _ _ ⟨rfl,q,fin R1 [] q (λ_=>True) hq,rfl,rfl⟩
 refine jeq (jif (λc2=>?_) (λc2=>?_))
 ·refine jS (Ak { t with sh:=(AJ w).1,pc:=5 } (.slice a t.AC.length cap)) ?_;exact leaf 5 (by rw[if_pos (eq_of_beq c2)])
 refine jeq (jif (λc3=>?_) (λc3=>?_))
 ·refine jS (Ak { t with sh:=(AJ w).1,pc:=7 } (.slice a t.AC.length cap)) ?_;refine jl (v:=I S.Ad) rfl (jeq (jif (λph=>?_) (λph=>?_)))
  ·refine jS (Ak { t with sh:=(AJ w).1,pc:=6 } (.slice a t.AC.length cap)) ?_;exact leaf 6 (by rw[if_neg (ne_of_beq_false c2),if_pos (eq_of_beq c3),if_pos (eq_of_beq ph)])
  ·exact leaf 7 (by rw[if_neg (ne_of_beq_false c2),if_pos (eq_of_beq c3),if_neg (ne_of_beq_false ph)])
 refine jeq (jif (λc4=>?_) (λc4=>?_))
 ·refine jS (Ak { t with sh:=(AJ w).1,pc:=8 } (.slice a t.AC.length cap)) ?_;exact leaf 8 (by rw[if_neg (ne_of_beq_false c2),if_neg (ne_of_beq_false c3),if_pos (eq_of_beq c4)])
 refine jeq (jif (λc5=>?_) (λc5=>?_))
 ·refine jS (Ak { t with sh:=(AJ w).1,pc:=9 } (.slice a t.AC.length cap)) ?_;exact leaf 9 (by rw[if_neg (ne_of_beq_false c2),if_neg (ne_of_beq_false c3),if_neg (ne_of_beq_false c4),if_pos (eq_of_beq c5)])
 refine jeq (jif (λc7=>?_) (λc7=>?_))
 ·refine jS (Ak { t with sh:=(AJ w).1,pc:=10 } (.slice a t.AC.length cap)) ?_;exact leaf 10 (by rw[if_neg (ne_of_beq_false c2),if_neg (ne_of_beq_false c3),if_neg (ne_of_beq_false c4),if_neg (ne_of_beq_false c5),if_pos (eq_of_beq c7)])
 ·exact leaf t.pc (by rw[if_neg (ne_of_beq_false c2),if_neg (ne_of_beq_false c3),if_neg (ne_of_beq_false c4),if_neg (ne_of_beq_false c5),if_neg (ne_of_beq_false c7)])
theorem UO {p:Nat} {S S' : Sim} {g:Img} {i:Int} {R:RM} (hok:Ok R S g) (hS:S.making i = some S') :
  Fn P Hg [Pt p,I i] R (Ab p S g) (D0 p S' λ_=>True):=by
 refine ND λF=>?_
 refine z_2 ?_;obtain⟨t,ht,hS⟩:=AD hS;obtain⟨o,hop,hS⟩:=AD hS;obtain⟨h0,h1,h2,h3⟩:=Av ht;refine GI (p:=p) hok ht rfl λb a cap hv=>?_
 refine VI (p:=p) hok hop λb2=>?_
 refine AR (λvs R' D'=>R.le R'∧∃S1 g1 t1,S1.th = S.th∧t1.AC = t.AC∧Ok R' S1 g1∧t.pc≠30∧t.pc≠31∧(let t2:={ t1 with pc:=33 };let S2:=S1.setT i t2;if t2.i = t2.size then (do (← S2.top t2.dst t2.size).push i t2.dst) else some S2) = some S'∧
   D' = Ab p S1 g1 ++ (b,C AY (Ak t1 (.slice a t.AC.length cap))) :: F∧vs = [Pt p,I i,Pt b]) (λK hK=>?_) ?_
 rotate_left
 ·rintro e R2 D2 ⟨hR,S1,g1,t1,hth,hr,ok1,_,_,hS,hD,he⟩;refine z_W ?_;dsimp only at hS;refine jS (Ak { t1 with pc:=33 } (.slice a t.AC.length cap)) ?_;refine Gj (p:=p) (S1.setT i { t1 with pc:=33 }) (by exact ok1) h0 (by rw[hth];exact h1) (by rw[hr];exact hv.le hR) τ λg3 ok3=>?_
  refine jl (v:=I t1.i) rfl (jl (v:=I t1.size) rfl (jeq (jif (λhz=>?_) (λhz=>?_))))
  ·rw[if_pos (eq_of_beq hz)] at hS;obtain⟨S3,htp,hS⟩:=AD hS;refine jl (v:=I t1.dst) rfl (jl (v:=I t1.size) rfl ?_);refine jcS (p:=p) (by exact TQ ok3 htp) λ_ R4 g4 hR4 hr ok4=>?_
   refine jl (v:=I t1.dst) rfl ?_;refine jcS (p:=p) (by exact MY ok4 hS) λ_ R5 g5 hR5 hr ok5=>?_
   exact Ay ((hR.trans hR4).trans hR5) trivial rfl ok5
  ·rw[if_neg (ne_of_beq_false hz)] at hS;cases hS;exact Ay hR trivial rfl ok3
 refine jl (v:=I t.pc) rfl ?_;refine AR (λvs R' D'=>R.le R'∧∃S1 g1 t1,S1.th = S.th∧t1.AC = t.AC∧Ok R' S1 g1∧t.pc≠30∧t.pc≠31∧(let t2:={ t1 with pc:=33 };let S2:=S1.setT i t2;if t2.i = t2.size then (do (← S2.top t2.dst t2.size).push i t2.dst) else some S2) = some S'∧
   D' = Ab p S1 g1 ++ (b,C AY (Ak t1 (.slice a t.AC.length cap))) :: F∧vs = [Pt p,I i,Pt b]) (λK2 hK2=>?_) ?_
 rotate_left
 ·rintro e R2 D2 ⟨hR,S1,g1,t1,hth,hr,ok1,n1,n2,hS,hD,he⟩;refine z_W ?_;exact hK _ _ _ ⟨hR,S1,g1,t1,hth,hr,ok1,n1,n2,hS,rfl,rfl⟩
 refine jeq (jif (λc30=>?_) (λc30=>?_))
 ·have c30:=eq_of_beq c30;rw[if_pos c30] at hS;dsimp only at hS;refine jfo (jla (l:=[I o.sh.refs,I o.sh.nums]) (by exact z_n 8) τ ?_);refine jp (CJ o.sh) ?_;refine jS (Ak { t with size:=AF o.sh } (.slice a t.AC.length cap)) ?_;refine jl (v:=.slice (some ⟨g.tb,0,none⟩) S.A0.length g.tc) rfl ?_;refine jl (v:=I (AF o.sh)) rfl ?_;refine jmk (by exact GN (t:=S.A0) (sp:=g.tsp) i (AF o.sh) (by have:=hok.tl;omega)) ?_;intro v N hq2;cases hrm:BX S.A0 i (AF o.sh) with
  | none=>
   rw[hrm] at hq2 hS;obtain⟨rfl,rfl⟩:=hq2;dsimp only at hS;refine BI (D':=(b2,C 183 (eOp o)) :: (b,C AY (Ak { t with size:=AF o.sh } (.slice a t.AC.length cap))) :: (Ab p S g ++ F)) (ZU _) ?_;refine jex rfl (jex rfl (jex rfl ?_));refine AR (λvs R' D'=>R' = R∧D' = (b2,C 183 (eOp o)) :: (b,C AY (Ak { t with size:=AF o.sh } (.slice a t.AC.length cap))) :: (Ab p S g ++ F)∧∃c u,vs = [Pt p,I i,Pt b,SN,I 0,.bool false,c,u]∧GY c u (t.Ai == 2)) (λK3 hK3=>?_) ?_
   ·refine jtt (jl (v:=I t.Ai) rfl (jeq (hK3 _ _ _ ⟨rfl,rfl,_,_,rfl,Ax⟩)))
   ·rintro e R2 D2 ⟨rfl,hD,c,u,he,ha⟩;refine z_W ?_;rw[ha];refine jif (λh2=>?_) (λh2=>?_)
    ·rw[if_pos (eq_of_beq h2)] at hS;refine jcS (p:=p) (by exact DM hok hS) λ_ R3 g3 hR3 hr ok3=>?_
     exact Ay hR3 trivial rfl ok3
    ·rw[if_neg (ne_of_beq_false h2)] at hS;refine DI ?_;refine jcS (p:=p) (by exact TV hok hS) λ_ R3 g3 hR3 hr ok3=>?_
     exact Ay hR3 trivial rfl ok3
  | some td=>
   obtain⟨t',d⟩:=td;rw[hrm] at hq2 hS;obtain⟨sv,⟨b4,c4,sp4,hc4,rfl,rfl⟩,rfl⟩:=hq2;simp only[Yu] at hS;have hlen:=Jp hrm;refine jex rfl (jex rfl (jex rfl ?_));refine AR (λvs R' D'=>R' = R∧D' = [(b4,C AI (Ac eRg t' ++ sp4))] ++ ((b2,C 183 (eOp o)) :: (b,C AY (Ak { t with size:=AF o.sh } (.slice a t.AC.length cap))) :: (Ab p S g ++ F))∧∃c u,vs = [Pt p,I i,Pt b,S0 b4 t'.length c4,I d,.bool true,c,u]∧GY c u false) (λK3 hK3=>?_) ?_
   ·exact jft (hK3 _ _ _ ⟨rfl,rfl,_,_,rfl,BB⟩)
   ·rintro e R2 D2 ⟨rfl,hD,c,u,he,ha⟩;refine z_W ?_;rw[ha];refine CL (CL ?_);refine P7 (p:=p) ?_;refine jS (Ak { t with size:=AF o.sh,dst:=d } (.slice a t.AC.length cap)) ?_;refine jS (Ak { t with size:=AF o.sh,dst:=d,i:=2 } (.slice a t.AC.length cap)) ?_;refine jS (Ak { t with size:=AF o.sh,dst:=d,i:=2,pc:=31 } (.slice a t.AC.length cap)) ?_;refine Gj (p:=p) (({ S with A0:=t' }:Sim).setT i { t with size:=AF o.sh,dst:=d,i:=2,pc:=31 }) (by exact hok.tab (by rw[hlen];exact hok.tl) _ _ _ hc4) h0 (by exact h1) (by exact hv) τ λg3 ok3=>?_
    subst hS;exact Ay (RM.le.refl _) trivial rfl ok3
 have c30:t.pc≠30:=by simpa using c30
 rw[if_neg c30] at hS;refine jeq (jif (λc31=>?_) (λc31=>?_))
 ·have c31:=eq_of_beq c31;rw[if_pos c31] at hS;obtain⟨S1,hwr,hS⟩:=AD hS;have e1:=EM hwr;subst e1;cases hS;refine jl (v:=I t.dst) rfl (jl (v:=I t.dst) rfl ?_);refine jcS (p:=p) (by exact Db hok hwr) λ_ R1 g1 hR1 hr ok1=>?_
  refine jS (Ak { t with pc:=32 } (.slice a t.AC.length cap)) ?_;refine Gj (p:=p) (({ S with used:=true,AA:=AT S.AA t.dst t.dst }:Sim).setT i { t with pc:=32 }) (by exact ok1) h0 (by exact h1) (by exact hv.le hR1) τ λg3 ok3=>?_
  exact Ay hR1 trivial rfl ok3
 have c31:t.pc≠31:=by simpa using c31
 rw[if_neg c31] at hS;obtain⟨⟨S2,t2⟩,hst,hS⟩:=AD hS;dsimp only at hS;refine jeq (jif (λc32=>?_) (λc32=>?_))
 ·have c32:=eq_of_beq c32;rw[if_pos c32] at hst;obtain⟨q,hq,hst⟩:=AD hst;obtain⟨rfl,hin⟩:=B8 hq;obtain⟨S1,hwr,hst⟩:=AD hst;have e1:=EM hwr;subst e1;cases hst;refine jl (v:=I t.dst) rfl (Cr hin ?_);refine jfo (jla (l:=[I o.sh.refs,I o.sh.nums]) (by exact z_n 8) τ ?_);refine jp (EO o.sh) (Af (jl (v:=I t.dst) rfl jev) ?_);refine jcS (p:=p) (by exact Db hok hwr) λ_ R1 g1 hR1 hr ok1=>?_
  refine Aw (Ab p { S with used:=true,AA:=AT S.AA (t.dst + 1) (AZ o.sh) } g1) (G:=(b,C AY (Ak t (.slice a t.AC.length cap))) :: F) ?_;exact hK2 _ _ _ ⟨hR1,{ S with used:=true,AA:=AT S.AA (t.dst + 1) (AZ o.sh) },g1,t,rfl,rfl,ok1,c30,c31,hS,rfl,rfl⟩
 have c32:t.pc≠32:=by simpa using c32
 rw[if_neg c32] at hst;refine jeq (jif (λc33=>?_) (λc33=>?_))
 ·have c33:=eq_of_beq c33;rw[if_pos c33] at hst;obtain⟨q,hq,hst⟩:=AD hst;obtain⟨rfl,hin⟩:=B8 hq;obtain⟨S1,hwr,hst⟩:=AD hst;have e1:=EM hwr;subst e1;obtain⟨n,hn,hst⟩:=AD hst;obtain⟨rfl,hin2⟩:=B8 hn;cases hst;refine jl (v:=I t.dst) rfl (jl (v:=I t.i) rfl (Cr hin ?_));refine jcS (p:=p) (by exact Db hok hwr) λ_ R1 g1 hR1 hr ok1=>?_
  refine jl (v:=I t.i) rfl (Cr hin2 ?_);refine jS (Ak { t with i:=t.i + 1 } (.slice a t.AC.length cap)) ?_;refine Aw (Ab p { S with used:=true,AA:=AT S.AA (t.dst + t.i) 0 } g1) (G:=(b,C AY (Ak { t with i:=t.i + 1 } (.slice a t.AC.length cap))) :: F) ?_;exact hK2 _ _ _ ⟨hR1,{ S with used:=true,AA:=AT S.AA (t.dst + t.i) 0 },g1,{ t with i:=t.i + 1 },rfl,rfl,ok1,c30,c31,hS,rfl,rfl⟩
 have c33:t.pc≠33:=by simpa using c33
 rw[if_neg c33] at hst;cases hst;refine Aw (Ab p S g) (G:=(b,C AY (Ak t (.slice a t.AC.length cap))) :: F) ?_;exact hK2 _ _ _ ⟨RM.le.refl _,S,g,t,rfl,rfl,hok,c30,c31,hS,rfl,rfl⟩
theorem O6 {l:List Thr} {rv sp:List Value} {i f:Nat} {v:Value} (h:i < l.length) (h' : i < rv.length) (hv:(Ak (l[i]) (rv[i]))[f]? = some v):(E3 l rv ++ sp)[i * 17 + f]? = some v:=by
 have:=Qy (sp:=sp) h h';have e2:=congrArg (λl=>l[f]?) this;simp only[Zl,ZY] at e2;have hf:f < 17:=by
  by_cases c:f < 17
  ·exact c
  ·have:(Ak (l[i]) (rv[i]))[f]? = none:=Zd (by show 17≤f;omega);rw[this] at hv;cases hv
 rw[if_pos hf] at e2;rw[e2,hv]
theorem jpc {R:RM} {D G:Chs} {p:Nat} {S:Sim} {g:Img} {i:Int} {t:Thr} {k:Value→M} [w:Fd D p S g G] (hok:Ok R S g) (ht:idx S.th i = some t) (H:J R D (k (I t.pc))) :
  J R D (L1 (.pointer (some ⟨p,17,none⟩)) λx=>IA 17 x (I i) λy=>FO 3 y λz=>L1 z k):=by
 obtain⟨h0,h1,h2,h3⟩:=Av ht;have h2' : i.toNat < g.rv.length:=by have:=hok.rvl;omega
 have H' : J R (Ab p S g ++ G) (k (I t.pc)):=BI w.ex.symm H;have l1:J R (Ab p S g ++ G) (L1 (.pointer (some ⟨p,17,none⟩)) λx=>IA 17 x (I i) λy=>FO 3 y λz=>L1 z k):=by
  refine jl rfl (jia h0 h1 (jl (v:=I t.pc) ?_ H'));rw[Z6];exact O6 h2 h2' (by rw[h3];rfl)
 exact BI w.ex l1
theorem Ui {n p:Nat} {S S' : Sim} {g:Img} {i:Int} {R:RM} (hok:Ok R S g) (hS:S.thread n i = some S') :
  Fn P Hs [Pt p,I i] R (Ab p S g) (D0 p S' λ_=>True):=by
 refine NN λF=>?_
 refine z_2 ?_;obtain⟨t,ht,hS⟩:=AD hS;obtain⟨h0,h1,h2,h3⟩:=Av ht;refine GI (p:=p) hok ht rfl λb a cap hv=>?_
 refine jl (v:=I t.pc) rfl (jeq (jif (λhp=>?_) (λhp=>?_)))
 ·rw[if_pos (eq_of_beq hp)] at hS;refine AR (λvs R' D'=>R' = R∧D' = (b,C AY (Ak t (.slice a t.AC.length cap))) :: (Ab p S g ++ F)∧∃c u v,vs = [Pt p,I i,c,u]∧GY c u v∧(if v = true then S.begin_ i else some S) = some S') (λK hK=>?_) ?_;rotate_left
  ·rintro e R1 D1 ⟨rfl,hD,c,u,v,he,ha,hq⟩;refine z_W ?_;rw[ha];refine jif (λhc=>?_) (λhc=>?_)
   ·rw[if_pos hc] at hq;refine jcS (p:=p) (by exact Vo hok hq) λ_ R2 g2 hR2 hr ok2=>?_
    exact Ay hR2 trivial rfl ok2
   ·rw[if_neg (by rw[hc];decide)] at hq;cases hq;exact Ay (RM.le.refl _) trivial rfl hok
  refine jl (v:=.bool S.stop) rfl ?_;cases hst:S.stop with
  | true=>
   rw[hst,if_pos rfl] at hS;exact jft (hK _ _ _ ⟨rfl,rfl,_,_,false,rfl,BB,by rw[if_neg δ];exact hS⟩)
  | false=>
   rw[hst,if_neg δ] at hS;obtain⟨pr,hpr,hS⟩:=AD hS;obtain⟨i0,i1,i2,i3⟩:=Av hpr;refine jtt (jl (v:=I t.next) rfl (jl (v:=g.Aa) rfl ?_));obtain⟨vs,f1,f2,f3⟩:=hok.Aa;obtain⟨x,f4,f5⟩:=f3 i.toNat i2;rw[i3] at f5;rcases f1 with ⟨_,h,_⟩ | ⟨bp,op_,cp,tp,cs,e1,e2,e3,e4,e5⟩
   ·omega
   have hx:cs[op_ + i.toNat * 1]? = some x:=by
    have:=congrArg (λl=>l[i.toNat]?) e4;simp only[Zl,ZY] at this;rw[if_pos ω] at this;rw[Zo,this,f4]
   rw[e1];refine jia i0 ω (jlr e2 hx (In f5 (jlt (hK _ _ _ ⟨rfl,rfl,_,_,_,rfl,Ax,?_⟩))));by_cases hc:t.next < pr.length
   ·rw[if_pos hc] at hS;rw[if_pos (decide_eq_true hc)];exact hS
   ·rw[if_neg hc] at hS;rw[if_neg (by rw[decide_eq_false hc];decide)];exact hS
 ·rw[if_neg (ne_of_beq_false hp)] at hS;refine jss { S with used:=false } g rfl rfl δ τ τ ?_;refine Aw (Ab p { S with used:=false } g) (G:=F) ?_;refine jlp (λm vs R' D'=>R.le R'∧∃S1 g1,Ok R' S1 g1∧D' = Ab p S1 g1 ++ F∧vs = [Pt p,I i]∧Sim.tloop m S1 i = some S') (n:=n) ⟨RM.le.refl _,{ S with used:=false },g,{ hok with },rfl,rfl,hS⟩ ?_;rintro m e R1 D1 K ⟨hR,S1,g1,ok1,hD,he,hl⟩ hK;refine z_W ?_;cases m with
  | zero=>cases hl
  | succ m=>
   obtain⟨t1,ht1,hl⟩:=AD hl;refine AR (λvs R' D'=>R' = R1∧D' = Ab p S1 g1 ++ F∧∃c u,vs = [Pt p,I i,c,u]∧GY c u (!S1.used && t1.pc != 0)) (λK2 hK2=>?_) ?_
   ·refine jl (v:=.bool S1.used) rfl ?_;cases hu:S1.used with
    | true=>exact jft (hK2 _ _ _ ⟨rfl,rfl,_,_,rfl,by rw[hu];exact BB⟩)
    | false=>
     refine jtt (jpc (p:=p) ok1 ht1 (jne (hK2 _ _ _ ⟨rfl,rfl,_,_,rfl,?_⟩)));rw[hu];exact Ax
   rintro e R2 D2 ⟨rfl,hD,c,u,he,ha⟩;refine z_W ?_;rw[ha];refine jif (λhc=>?_) (λhc=>?_);rotate_left
   ·rw[if_pos (by
     cases hu:S1.used
     ·rw[hu] at hc;right;simpa using hc
     ·exact .inl rfl)] at hl
    cases hl;exact Ay hR trivial rfl ok1
   have hc' : ¬ (S1.used = true∨t1.pc = 0):=by
    simp only[z_b,Z9,bne_iff_ne,ne_eq] at hc;rintro (h | h)
    ·rw[hc.1] at h;cases h
    ·exact hc.2 h
   rw[if_neg hc'] at hl;obtain⟨S2,hst,hl⟩:=AD hl;unfold Sim.tstep at hst;rw[ht1] at hst;simp only[Yn,z_o] at hst;refine AR (λvs R' D'=>R.le R'∧∃g2,Ok R' S2 g2∧D' = Ab p S2 g2 ++ F∧vs = [Pt p,I i]) (λK3 hK3=>?_) ?_;rotate_left
   ·rintro e R3 D3 ⟨hR3,g2,ok2,hD,he⟩;refine z_W ?_;exact hK m _ _ _ ω ⟨hR3,S2,g2,ok2,rfl,rfl,hl⟩
   refine jpc (p:=p) ok1 ht1 ?_;refine AR (λvs R' D'=>R.le R'∧∃g2,Ok R' S2 g2∧D' = Ab p S2 g2 ++ F∧vs = [Pt p,I i]) (λK4 hK4=>?_) ?_;rotate_left
   ·rintro e R3 D3 ⟨hR3,g2,ok2,hD,he⟩;refine z_W ?_;exact hK3 _ _ _ ⟨hR3,g2,ok2,rfl,rfl⟩
   refine jor [Pt p,I i,I t1.pc] ((decide (t1.pc≤3)) || (t1.pc == 11)) (λK' hK'=>?_) (λe c u ho he=>?_)
   ·refine jle (BR (λh1=>?_) (λh1=>?_))
    ·refine jeq (hK' _ _ _ (h1▸Ah) (by rw[h1,Yl]))
    ·exact hK' _ _ _ (h1▸Am) (by rw[h1,Yo])
   refine z_V ?_;refine jor [Pt p,I i,I t1.pc] ((decide (t1.pc≤3) || t1.pc == 11) || (t1.pc == 15)) (λK' hK'=>?_) (λe c u ho he=>?_)
   ·rw[ho];refine BR (λh1=>?_) (λh1=>?_)
    ·refine jeq (hK' _ _ _ (h1▸Ah) (by rw[h1,Yl]))
    ·exact hK' _ _ _ (h1▸Am) (by rw[h1,Yo])
   refine z_V ?_;rw[ho];refine jif (λc1=>?_) (λc1=>?_)
   ·rw[if_pos (by simpa [or_assoc] using c1)] at hst;refine jcS (p:=p) (by exact Rl ok1 hst) λ_ R2 g2 hR2 hr ok2=>?_
    exact hK4 _ _ _ ⟨hR.trans hR2,g2,ok2,rfl,rfl⟩
   rw[if_neg (by
    intro h
    have:((decide (t1.pc≤3) || t1.pc == 11) || t1.pc == 15) = true:=by simpa [or_assoc] using h
    rw[c1] at this;cases this)] at hst
   refine jeq (jif (λc2=>?_) (λc2=>?_))
   ·rw[if_pos (eq_of_beq c2)] at hst;refine jcS (p:=p) (by exact Vc ok1 hst) λ_ R2 g2 hR2 hr ok2=>?_
    exact hK4 _ _ _ ⟨hR.trans hR2,g2,ok2,rfl,rfl⟩
   rw[if_neg (ne_of_beq_false c2)] at hst;refine jge (jif (λc3=>?_) (λc3=>?_))
   ·rw[if_pos (z_f c3)] at hst;refine jcS (p:=p) (by exact UO ok1 hst) λ_ R2 g2 hR2 hr ok2=>?_
    exact hK4 _ _ _ ⟨hR.trans hR2,g2,ok2,rfl,rfl⟩
   rw[if_neg (z_g c3)] at hst;refine jge (jif (λc4=>?_) (λc4=>?_))
   ·rw[if_pos (z_f c4)] at hst;refine jcS (p:=p) (by exact Su ok1 hst) λ_ R2 g2 hR2 hr ok2=>?_
    exact hK4 _ _ _ ⟨hR.trans hR2,g2,ok2,rfl,rfl⟩
   rw[if_neg (z_g c4)] at hst;refine jcS (p:=p) (by exact VQ ok1 hst) λ_ R2 g2 hR2 hr ok2=>?_
   exact hK4 _ _ _ ⟨hR.trans hR2,g2,ok2,rfl,rfl⟩
theorem Wa {p:Nat} {S:Sim} {g:Img} {R:RM} (hok:Ok R S g) :
  Fn P KF [Pt p] R (Ab p S g) (D0 p S (· = .bool S.calm)):=by
 refine PS λF=>?_
 refine z_1 ?_;refine jlp (λn vs R' D'=>R' = R∧D' = Ab p S g ++ F∧∃i:Nat,i≤S.th.length∧vs = [Pt p,I i]∧n = S.th.length - i∧∀k (h:k < S.th.length),k < i→(S.th[k]).pc = 0)
  (n:=S.th.length) ⟨rfl,rfl,0,ω,rfl,ω,λk _ h=>ω⟩ ?_
 rintro n e R1 D1 K ⟨rfl,hD,i,hi,he,hn,Bx⟩ hK;refine z_W ?_;have hl:=hok.hl;refine jl (v:=.slice (some ⟨g.hb,0,none⟩) S.th.length g.hc) rfl (jln (jlt (jif (λhc=>?_) (λhc=>?_))))
 ·have hc:i < S.th.length:=by have:=z_f hc;omega
  have ht:idx S.th i = some (S.th[i]):=by unfold idx;rw[if_pos ω,Yj,Yi hc]
  refine jpc (p:=p) hok ht (jne (jif (λhp=>?_) (λhp=>?_)))
  ·refine Ay (RM.le.refl _) ?_ rfl hok;have hp:(S.th[i]).pc≠0:=by simpa using hp
   have:S.calm = false:=by
    unfold Sim.calm;rw[List.all_eq_false];exact⟨S.th[i],Yq hc,by simpa using hp⟩
   rw[this]
  ·have hp:(S.th[i]).pc = 0:=by simpa using hp
   refine jad ?_;refine hK (S.th.length - (i + 1)) _ _ _ ω ⟨rfl,rfl,i + 1,ω,rfl,rfl,λk hk hki=>?_⟩;by_cases c:k = i
   ·subst c;exact hp
   ·exact Bx k hk ω
 ·have hc:¬ i < S.th.length:=by have:=z_g hc;omega
  refine Ay (RM.le.refl _) ?_ rfl hok;have:S.calm = true:=by
   unfold Sim.calm;rw[ZC];intro x hx;obtain⟨k,hk,rfl⟩:=ZF hx;simpa using Bx k hk ω
  rw[this]
instance (priority:=low) Sp.appr (X D A F:Chs) [s:Sp D A F]:Sp (X ++ D) A (X ++ F):=⟨(s.p.append_left X).trans (by rw[← Yr,← Yr];exact aN F Zv)⟩
section col
variable {R:RM} {D G:Chs} {p:Nat} {S:Sim} {g:Img} {m:M} {k:Value→M}
theorem OH {x:Col} {sv:Value} (h:flat sv = true):Br (BF x sv) = true:=by
 show (true && (true && (true && (flat sv && true)))) = true;rw[h];rfl
theorem IW [w:Fd D p S g G] (hok:Ok R S g) (H:∀b,J R ((b,C BC (BF S.col g.AM)) :: D) (k (Pt b))) :
  J R D (LA 15 (.pointer (some ⟨p,18,none⟩)) λx3=>AL BC WL λx4=>ST 15 x4 x3 (k x4)):=by
 refine BI w.ex ?_;refine jla (t:=Bg) (cs:=C0 S g) (l:=BF S.col g.AM) (by show 18 + 15≤35;omega) rfl ?_;refine ja λb=>?_
 refine js (cs':=BF S.col g.AM) rfl (OH (Fz.flat hok.AM)) (by exact z_n 15) τ ?_;exact BI (w.ex.symm.cons _) (H b)
theorem Hf {b:Nat} {x:Col} {sv:Value} (S' : Sim) [w:Fd D p S g G] [at_:At D b (C BC (BF x sv))] (hok:Ok R S g) (hv:BG R sv x.AM) (hS:S' = { S with col:=x })
  (H:∀g',Ok R S' g'→J R (Ab p S' g' ++ G) m):J R D (LA 15 (Pt b) λx10=>ST 15 (.pointer (some ⟨p,18,none⟩)) x10 m):=by
 subst hS;refine jla (t:=BC) (cs:=BF x sv) (l:=BF x sv) (z_n 15) rfl ?_;refine jss (p:=p) { S with col:=x } { g with AM:=sv } rfl (OH (Fz.flat hv)) δ τ τ ?_;exact H _ { hok with AM:=hv }
theorem jsm {i:Nat} {v:Bool} (S' : Sim) [w:Fd D p S g G] (hi:i < S.AK.length) (hS:S' = { S with AK:=S.AK.set i v }) (H:J R (Ab p S' g ++ G) m):J R D (ST 1 (.pointer (some ⟨g.mb,i,none⟩)) (.bool v) m):=by
 subst hS;intro h hs;refine js (R:=R) (D:=Ab p S g ++ G) (t:=B7) (cs:=S.AK.map Value.bool ++ g.msp) (cs':=(S.AK.set i v).map Value.bool ++ g.msp) (D':=Ab p { S with AK:=S.AK.set i v } g ++ G) rfl rfl (by simp;omega) ?_ H h (hs.perm w.ex) (u:=?_)
 ·rw[show cl (Value.bool v) = [Value.bool v] from rfl,Gn (by simp;omega),List.set_append_left _ _ (by simpa using hi),List.map_set]
 ·have e1:C0 { S with AK:=S.AK.set i v } g = C0 S g:=by simp[C0,evV]
  unfold Ab evD;rw[e1];exact inferInstance
end col
theorem KS {x x' : Col} (a:Option Addr) (n c:Nat) (h:GL x = some x'):Pu KA [.agg (BF x (.slice a n c)).toArray] (.agg (BF x' (.slice a n c)).toArray):=by
 intro R;refine Pq λF=>?_
 refine z_1 ?_;obtain⟨i,hi,h⟩:=AD h;obtain⟨rfl,hin⟩:=B8 hi;simp only[Yu] at h;subst h;refine ja λb=>ja λb2=>?_
 have e:cl (.agg (BF x (.slice a n c)).toArray) = BF x (.slice a n c):=rfl;rw[e];refine jl (v:=I x.i) rfl (Cr hin ?_);refine jS (BF { x with i:=x.i + 1 } (.slice a n c)) ?_;refine jS (BF { x with i:=x.i + 1,pc:=7 } (.slice a n c)) ?_;refine AR (λvs R' D'=>R' = R∧D' = (b2,C 165 (cl WL)) :: (b,C 165 (BF { x with i:=x.i + 1,pc:=if x.i + 1 = x.sh.refs then 6 else 7 } (.slice a n c))) :: ([] ++ F)∧vs = [Pt b,Pt b2]) (λK hK=>?_) ?_
 ·refine jl (v:=I (x.i + 1)) rfl (jl (v:=I x.sh.refs) rfl (jeq (jif (λhc=>?_) (λhc=>?_))))
  ·refine jS (BF { x with i:=x.i + 1,pc:=6 } (.slice a n c)) ?_;exact hK _ _ _ ⟨rfl,by rw[if_pos (eq_of_beq hc)],rfl⟩
  ·exact hK _ _ _ ⟨rfl,by rw[if_neg (ne_of_beq_false hc)],rfl⟩
 ·rintro e R1 D1 ⟨rfl,hD,he⟩;refine z_W ?_;refine jla (l:=BF { x with i:=x.i + 1,pc:=if x.i + 1 = x.sh.refs then 6 else 7 } (.slice a n c)) (by exact z_n 15) τ ?_;refine js (cs':=BF { x with i:=x.i + 1,pc:=if x.i + 1 = x.sh.refs then 6 else 7 } (.slice a n c)) rfl rfl (by exact z_n 15) τ ?_;refine jla (l:=BF { x with i:=x.i + 1,pc:=if x.i + 1 = x.sh.refs then 6 else 7 } (.slice a n c)) (by exact z_n 15) τ ?_;exact B9 (A:=[]) (RM.le.refl _) rfl
theorem T5 {p:Nat} {S S' : Sim} {g:Img} {R:RM} (hok:Ok R S g) (hS:S.look = some S') :
  Fn P Kd [Pt p] R (Ab p S g) (D0 p S' λ_=>True):=by
 refine QN λF=>?_
 refine z_1 ?_;unfold Sim.look at hS;split at hS
 ·cases hS
 rename_i hsz;have hsz:=G5 (by simpa using hsz:S.sz = true);dsimp only at hS;obtain⟨q1,hq1,hS⟩:=AD hS;obtain⟨rfl,in1⟩:=B8 hq1;obtain⟨q2,hq2,hS⟩:=AD hS;obtain⟨rfl,in2⟩:=B8 hq2;obtain⟨⟨v,S1⟩,hrd,hS⟩:=AD hS;have e1:=Cn hrd;subst e1;dsimp only at hS;obtain⟨i1,hi1,hS⟩:=AD hS;obtain⟨rfl,in3⟩:=B8 hi1;refine IW (p:=p) hok λb=>?_
 obtain⟨a,cap,hsv,-⟩:=BG.reads (D:=[]) hok.AM;rw[hsv];have hst0:=hok.AM;rw[hsv] at hst0;refine jl (v:=I S.col.p) rfl (Cr in1 (jl (v:=I S.col.i) rfl (Cr in2 ?_)));refine jcS (p:=p) (by exact Cz hok hrd) λ_ R1 g1 hR1 hr ok1=>?_
 subst hr;refine AR (λvs R' D'=>R1.le R'∧∃a2 n2 c2,BG R' (.slice a2 n2 c2) (if v≠0 then S.col.AM ++ [v] else S.col.AM)∧D' = Ab p { S with used:=true } g1 ++ (b,C BC (BF { S.col with AM:=if v≠0 then S.col.AM ++ [v] else S.col.AM } (.slice a2 n2 c2))) :: F∧vs = [Pt p,Pt b]) (λK hK=>?_) ?_
 ·refine jne (jif (λhv=>?_) (λhv=>?_))
  ·have hv:v≠0:=by simpa using hv
   refine jl (v:=.slice a S.col.AM.length cap) rfl ?_;refine jc (A:=[]) (CN (hst0.le hR1) (by exact hsz.2.2.1)) ?_;rintro _ R' _ hR ⟨b4,c,sp,hc,hsp,rfl,rfl⟩;refine jbs (cs:=[I v]) rfl rfl λb1=>?_
   refine Vj (v:=v) hc hsp (by exact hsz.2.2.1) (BY.held (t:=AX) (cs:=[I v]) (o:=0) (n:=1 * 1) (z_n 1)) λb' c' sp' hc' hsp'=>?_
   refine BQ (b:=b') λR2 hR2 hb'=>?_
   have hi:=CH (c:=c') hb' (by simpa using hc');rw[Yk,Z7] at hi;refine jS (BF { S.col with AM:=S.col.AM ++ [v] } (.slice (some ⟨b',0,none⟩) (S.col.AM.length + 1) c')) ?_;refine Aw (Ab p { S with used:=true } g1) (G:=(b,C BC (BF { S.col with AM:=S.col.AM ++ [v] } (.slice (some ⟨b',0,none⟩) (S.col.AM.length + 1) c'))) :: F) ?_;refine hK _ _ _ ⟨hR.trans hR2,some ⟨b',0,none⟩,S.col.AM.length + 1,c',by rw[if_pos hv];exact hi,by rw[if_pos hv],rfl⟩
  ·have hv:¬ v≠0:=by simpa using hv
   exact hK _ _ _ ⟨RM.le.refl _,a,S.col.AM.length,cap,by rw[if_neg hv];exact hst0.le hR1,by rw[if_neg hv],rfl⟩
 ·rintro e R2 D2 ⟨hR2,a2,n2,c2,hi,hD,he⟩;refine z_W ?_;have ok2:=ok1.le hR2;generalize hnew:(if v≠0 then S.col.AM ++ [v] else S.col.AM) = st2 at hi hS ⊢;refine jl (v:=I S.col.i) rfl (Cr in3 ?_);refine jS (BF { S.col with AM:=st2,i:=S.col.i + 1 } (.slice a2 n2 c2)) ?_;refine AR (λvs R' D'=>R' = R2∧D' = Ab p { S with used:=true } g1 ++ (b,C BC (BF { S.col with AM:=st2,i:=S.col.i + 1,pc:=if S.col.i + 1 = S.col.sh.refs then 1 else S.col.pc } (.slice a2 n2 c2))) :: F∧vs = [Pt p,Pt b]) (λK hK=>?_) ?_
  ·refine jl (v:=I (S.col.i + 1)) rfl (jl (v:=I S.col.sh.refs) rfl (jeq (jif (λhc=>?_) (λhc=>?_))))
   ·refine jS (BF { S.col with AM:=st2,i:=S.col.i + 1,pc:=1 } (.slice a2 n2 c2)) ?_;exact hK _ _ _ ⟨rfl,by rw[if_pos (eq_of_beq hc)],rfl⟩
   ·exact hK _ _ _ ⟨rfl,by rw[if_neg (ne_of_beq_false hc)],rfl⟩
  ·rintro e R3 D3 ⟨rfl,hD,he⟩;refine z_W ?_;refine Hf (p:=p) (({ S with used:=true }:Sim).setC { S.col with AM:=st2,i:=S.col.i + 1,pc:=if S.col.i + 1 = S.col.sh.refs then 1 else S.col.pc }) (by exact ok2) (by exact hi) τ λg3 ok3=>?_
   simp only[Yu] at hS;subst hS;exact Ay (hR1.trans hR2) trivial rfl ok3
theorem Uf {p:Nat} {S S' : Sim} {g:Img} {R:RM} (hok:Ok R S g) (hS:S.mark = some S') :
  Fn P L6 [Pt p] R (Ab p S g) (D0 p S' λ_=>True):=by
 refine QY λF=>?_
 refine z_1 ?_;unfold Sim.mark at hS;split at hS
 ·cases hS
 rename_i hsz;have hsz:=G5 (by simpa using hsz:S.sz = true);dsimp only at hS;refine IW (p:=p) hok λb=>?_
 obtain⟨a,cap,hsv,-⟩:=BG.reads (D:=[]) hok.AM;rw[hsv];have hst0:=hok.AM;rw[hsv] at hst0;refine jl (v:=.slice a S.col.AM.length cap) rfl (jln (jeq (jif (λh0=>?_) (λh0=>?_))))
 ·have h0:S.col.AM.length = 0:=by have:=eq_of_beq h0;omega
  rw[if_pos h0] at hS;refine AR (λvs R' D'=>R.le R'∧∃S2 g2 x2 sv2,S' = { S2 with col:=x2 }∧Ok R' S2 g2∧BG R' sv2 x2.AM∧D' = Ab p S2 g2 ++ (b,C BC (BF x2 sv2)) :: F∧vs = [Pt p,Pt b]) (λK hK=>?_) ?_;rotate_left
  ·rintro e R2 D2 ⟨hR2,S2,g2,x2,sv2,e1,ok2,hi,hD,he⟩;refine z_W ?_;refine Hf (p:=p) { S2 with col:=x2 } (by exact ok2) (by exact hi) τ λg3 ok3=>?_
   subst e1;exact Ay hR2 trivial rfl ok3
  refine jl (v:=g.old) rfl (In hok.old (jeq (jif (λh1=>?_) (λh1=>?_))))
  ·have h1:S.old = []:=by have:=eq_of_beq h1;exact ZL.1 ω
   rw[h1] at hS;simp only[Yu] at hS;refine jss (p:=p) { S with stop:=true } g rfl rfl δ τ τ ?_;refine jS (BF { S.col with want:=2 } (.slice a S.col.AM.length cap)) ?_;exact hK _ _ _ ⟨RM.le.refl _,{ S with stop:=true },g,{ S.col with want:=2 },_,hS.symm▸by rw[h1],{ hok with },hst0,rfl,rfl⟩
  ·have h1:S.old.length≠0:=by have:=ne_of_beq_false h1;omega
   obtain⟨a0,l,hol⟩:∃a l,S.old = a :: l:=by cases h:S.old with | nil=>rw[h] at h1;exact absurd rfl h1 | cons a l=>exact⟨a,l,rfl⟩
   rw[hol] at hS;simp only[Yu] at hS;refine jl (v:=g.old) rfl (CE hok.old ω ω ?_);have e0:S.old[(0:Int).toNat]'(by simp;omega) = a0:=by simp[hol]
   rw[e0];refine jbs (cs:=[I a0]) rfl rfl λb1=>?_
   refine jS (BF { S.col with AM:=[a0] } (S0 b1 1 1)) ?_;refine BQ (b:=b1) λR2 hR2 hb1=>?_
   have hi1:BG R2 (S0 b1 [a0].length 1) [a0]:=CH (l:=[a0]) (c:=1) (sp:=[]) (by simpa using hb1) (z_n 1);refine jl (v:=g.old) rfl (Xk (hok.old.le hR2) ω (by rw[hol];simp;omega) λv1 hv1=>?_);rw[hol] at hv1;refine jc (A:=[]) (CN (l:=l) hv1 (by have:=hsz.2.1;rw[hol] at this;simp at this;omega)) ?_;rintro _ R3 _ hR3 ⟨b4,c4,sp4,hc4,hsp4,rfl,rfl⟩;refine BQ (b:=b4) λR4 hR4 hb4=>?_
   have hi4:=CH (c:=c4) hb4 hc4;refine jss (p:=p) { S with old:=l } { g with old:=S0 b4 l.length c4 } rfl rfl δ τ τ ?_;have hR:=(hR2.trans hR3).trans hR4;refine Aw (Ab p { S with old:=l } { g with old:=S0 b4 l.length c4 }) (G:=(b,C BC (BF { S.col with AM:=[a0] } (S0 b1 1 1))) :: F) ?_;exact hK _ _ _ ⟨hR,{ S with old:=l },{ g with old:=S0 b4 l.length c4 },{ S.col with AM:=[a0] },_,hS.symm,{ hok.le hR with old:=hi4 },(hi1.le hR3).le hR4,rfl,rfl⟩
 have h0:S.col.AM.length≠0:=by have:=ne_of_beq_false h0;omega
 rw[if_neg h0] at hS;obtain⟨av,hav,hS⟩:=AD hS;obtain⟨row,hrow,hS⟩:=AD hS;obtain⟨go,hgo,hS⟩:=AD hS;obtain⟨r0,r1,r2,r3⟩:=Av hrow;have htl:=hok.tl;have hlast:S.col.AM[S.col.AM.length - 1]'(ω) = av:=by
  rw[List.getLast?_eq_getElem?] at hav;rw[Yi ω] at hav;exact Zc hav
 have hss:=hsz.2.2.1;refine jl (v:=.slice a S.col.AM.length cap) rfl (jl (v:=.slice a S.col.AM.length cap) rfl (jln (jsu ?_)));refine CE hst0 ω ω ?_;have e0:S.col.AM[((S.col.AM.length:Int) - 1).toNat]'(ω) = av:=by
  rw[← hlast];congr 1;omega
 rw[e0];refine jl (v:=.slice a S.col.AM.length cap) rfl (jl (v:=.slice a S.col.AM.length cap) rfl (jln (jsu ?_)));refine TT hst0 ω ω λv1 hv1=>?_
 rw[show ((S.col.AM.length:Int) - 1).toNat = S.col.AM.length - 1 from ω,← List.dropLast_eq_take] at hv1;refine jc (A:=[]) (CN hv1 (by simp;omega)) ?_;rintro _ R1 _ hR1 ⟨b4,c4,sp4,hc4,hsp4,rfl,rfl⟩;refine BQ (b:=b4) λR2 hR2 hb4=>?_
 have hi4:=CH (c:=c4) hb4 hc4;have hR12:=hR1.trans hR2;have ok2:=hok.le hR12;refine jS (BF { S.col with AM:=S.col.AM.dropLast } (S0 b4 S.col.AM.dropLast.length c4)) ?_;refine jp (CT av ω) ?_;refine AR (λvs R' D'=>R2.le R'∧∃S3 g3 x3,S' = { S3 with col:=x3 }∧Ok R' S3 g3∧x3.AM = S.col.AM.dropLast∧D' = Ab p S3 g3 ++ (b,C BC (BF x3 (S0 b4 S.col.AM.dropLast.length c4))) :: F∧vs = [Pt p,Pt b]) (λK hK=>?_) ?_;rotate_left
 ·rintro e R3 D3 ⟨hR3,S3,g3,x3,e1,ok3,ex,hD,he⟩;refine z_W ?_;refine Hf (p:=p) { S3 with col:=x3 } (by exact ok3) (by rw[ex];exact hi4.le hR3) τ λg4 ok4=>?_
  subst e1;exact Ay (hR12.trans hR3) trivial rfl ok4
 refine AR (λvs R' D'=>R' = R2∧D' = (b,C BC (BF { S.col with AM:=S.col.AM.dropLast } (S0 b4 S.col.AM.dropLast.length c4))) :: (Ab p S g ++ F)∧∃c u,vs = [Pt p,Pt b,I av,I (AN av),c,u]∧GY c u go) (λK2 hK2=>?_) ?_
 ·refine jl (v:=.slice (some ⟨g.tb,0,none⟩) S.A0.length g.tc) rfl (jia r0 r1 ?_);refine jl (v:=I row.BE) (by rw[Z6];exact C6 (f:=3) r2 (by rw[r3];rfl)) (jlt ?_);by_cases hlt:av < row.BE
  ·rw[if_pos hlt] at hgo;obtain⟨mk,hmk,hgo⟩:=AD hgo;cases hgo;obtain⟨m0,m1,m2,m3⟩:=Av hmk;rw[decide_eq_true hlt];refine jtt (jl (v:=.slice (some ⟨g.mb,0,none⟩) S.AK.length g.mc) rfl (jia m0 m1 ?_));refine jl (v:=.bool mk) (by rw[Z6,Zo,Io m2,m3]) ?_;exact hK2 _ _ _ ⟨rfl,rfl,_,_,rfl,Ax⟩
  ·rw[if_neg hlt] at hgo;cases hgo;rw[decide_eq_false hlt];exact jft (hK2 _ _ _ ⟨rfl,rfl,_,_,rfl,BB⟩)
 rintro e R3 D3 ⟨hR3,hD,c,u,he,ha⟩;subst hR3;refine z_W ?_;rw[ha];refine jif (λhg=>?_) (λhg=>?_)
 ·rw[hg,if_pos rfl] at hS;rw[hg] at hgo;have hm:idx S.AK av = some false:=by
   split at hgo
   ·obtain⟨mk,hmk,hgo⟩:=AD hgo;cases mk
    ·exact hmk
    ·cases hgo
   ·cases hgo
  obtain⟨m0,m1,m2,m3⟩:=Av hm;obtain⟨q1,hq1,hS⟩:=AD hS;obtain⟨rfl,in1⟩:=B8 hq1;obtain⟨⟨w,S1⟩,hrd,hS⟩:=AD hS;have e1:=Cn hrd;subst e1;dsimp only at hS;obtain⟨lv,hlv,hS⟩:=AD hS;obtain⟨rfl,in2⟩:=B8 hlv;simp only[Yu] at hS;refine jl (v:=.slice (some ⟨g.mb,0,none⟩) S.AK.length g.mc) rfl (jia m0 m1 ?_);rw[Z6,Zo];refine jsm (p:=p) { S with AK:=AT S.AK av true } (by exact m2) τ ?_;refine Cr in1 ?_;have ok3:Ok R3 { S with AK:=AT S.AK av true } g:={ ok2 with ml:=by simpa [AT] using ok2.ml,mk_:=by simpa [AT] using ok2.mk_ };refine jcS (p:=p) (by exact Cz ok3 hrd) λ_ R4 g4 hR4 hr ok4=>?_
  subst hr;refine jp (Ei w) (jex rfl (jex rfl ?_));refine ja λb5=>?_
  refine jS [I (AJ w).1.refs,I (AJ w).1.nums] ?_;refine jl (v:=.slice (some ⟨g4.tb,0,none⟩) S.A0.length g4.tc) rfl (jia r0 r1 ?_);refine QH (p:=p) (by exact r2) ?_;have er:({ S with used:=true,AK:=AT S.AK av true }:Sim).A0[(AN av).toNat]'r2 = row:=r3;rw[er];refine ja λb6=>?_
  refine js (cs':=eRg row) rfl rfl σ rfl ?_;refine jl (v:=I row.AO) rfl ?_;refine jla (l:=[I (AJ w).1.refs,I (AJ w).1.nums]) (by exact z_n 2) τ ?_;refine jp (CJ (AJ w).1) (Cr in2 (Af (jl (v:=I row.AO) rfl jev) ?_));refine js (cs':=eRg { row with AO:=row.AO + AF (AJ w).1 }) rfl rfl σ rfl ?_;refine jl (v:=.slice (some ⟨g4.tb,0,none⟩) S.A0.length g4.tc) rfl ?_;refine jla (l:=eRg { row with AO:=row.AO + AF (AJ w).1 }) σ rfl ?_;refine jia r0 r1 ?_;refine SZ (p:=p) (x:={ row with AO:=row.AO + AF (AJ w).1 }) { S with used:=true,AK:=AT S.AK av true,A0:=AT S.A0 (AN av) { row with AO:=row.AO + AF (AJ w).1 } } (by exact r2) τ ?_;have ok5:Ok R4 { S with used:=true,AK:=AT S.AK av true,A0:=AT S.A0 (AN av) { row with AO:=row.AO + AF (AJ w).1 } } g4:={ ok4 with tl:=by simpa [AT] using ok4.tl,tk:=by simpa [AT] using ok4.tk };refine jS (BF { S.col with AM:=S.col.AM.dropLast,p:=av } (S0 b4 S.col.AM.dropLast.length c4)) ?_;refine jS (BF { S.col with AM:=S.col.AM.dropLast,p:=av,i:=0 } (S0 b4 S.col.AM.dropLast.length c4)) ?_;refine jla (l:=[I (AJ w).1.refs,I (AJ w).1.nums]) (by exact z_n 2) τ ?_;refine jS (BF { S.col with AM:=S.col.AM.dropLast,p:=av,i:=0,sh:=(AJ w).1 } (S0 b4 S.col.AM.dropLast.length c4)) ?_;refine jl (v:=I (AJ w).1.refs) rfl (jgr (jif (λhc=>?_) (λhc=>?_)))
  ·rw[if_pos (z_f hc)] at hS;refine jS (BF { S.col with AM:=S.col.AM.dropLast,p:=av,i:=0,sh:=(AJ w).1,pc:=2 } (S0 b4 S.col.AM.dropLast.length c4)) ?_;refine Aw (Ab p { S with used:=true,AK:=AT S.AK av true,A0:=AT S.A0 (AN av) { row with AO:=row.AO + AF (AJ w).1 } } g4) (G:=(b,C BC (BF { S.col with AM:=S.col.AM.dropLast,p:=av,i:=0,sh:=(AJ w).1,pc:=2 } (S0 b4 S.col.AM.dropLast.length c4))) :: F) ?_;exact hK _ _ _ ⟨hR4,_,g4,{ S.col with AM:=S.col.AM.dropLast,p:=av,i:=0,sh:=(AJ w).1,pc:=2 },hS.symm,ok5,rfl,rfl,rfl⟩
  ·rw[if_neg (z_g hc)] at hS;refine Aw (Ab p { S with used:=true,AK:=AT S.AK av true,A0:=AT S.A0 (AN av) { row with AO:=row.AO + AF (AJ w).1 } } g4) (G:=(b,C BC (BF { S.col with AM:=S.col.AM.dropLast,p:=av,i:=0,sh:=(AJ w).1 } (S0 b4 S.col.AM.dropLast.length c4))) :: F) ?_;exact hK _ _ _ ⟨hR4,{ S with used:=true,AK:=AT S.AK av true,A0:=AT S.A0 (AN av) { row with AO:=row.AO + AF (AJ w).1 } },g4,{ S.col with AM:=S.col.AM.dropLast,p:=av,i:=0,sh:=(AJ w).1 },hS.symm,ok5,rfl,rfl,rfl⟩
 ·rw[hg,if_neg δ] at hS;simp only[Yu] at hS;refine Aw (Ab p S g) (G:=(b,C BC (BF { S.col with AM:=S.col.AM.dropLast } (S0 b4 S.col.AM.dropLast.length c4))) :: F) ?_;exact hK _ _ _ ⟨RM.le.refl _,S,g,{ S.col with AM:=S.col.AM.dropLast },hS.symm,ok2,rfl,rfl,rfl⟩
end Go.Lf
end
section
namespace Go.Lf
open Go Sm
theorem Vv {p:Nat} {S S' : Sim} {g:Img} {R:RM} (hok:Ok R S g) (hS:S.carry = some S') :
  Fn P JM [Pt p] R (Ab p S g) (D0 p S' λ_=>True):=by
 refine Og λF=>?_
 refine z_1 ?_;unfold Sim.carry at hS;dsimp only at hS;refine IW (p:=p) hok λb=>?_
 obtain⟨a,cap,hsv,-⟩:=BG.reads (D:=[]) hok.AM;rw[hsv];have hst0:=hok.AM;rw[hsv] at hst0;refine AR (λvs R' D'=>R.le R'∧∃S2 g2 x2,S' = S2.setC x2∧Ok R' S2 g2∧x2.AM = S.col.AM∧D' = Ab p S2 g2 ++ (b,C BC (BF x2 (.slice a S.col.AM.length cap))) :: F∧vs = [Pt p,Pt b]) (λK hK=>?_) ?_;rotate_left
 ·rintro e R2 D2 ⟨hR2,S2,g2,x2,e1,ok2,ex,hD,he⟩;refine z_W ?_;refine Hf (p:=p) (S2.setC x2) (by exact ok2) (by rw[ex];exact hst0.le hR2) τ λg3 ok3=>?_
  subst e1;exact Ay hR2 trivial rfl ok3
 refine jl (v:=I S.col.pc) rfl ?_;refine AR (λvs R' D'=>R.le R'∧∃S2 g2 x2,S' = S2.setC x2∧Ok R' S2 g2∧x2.AM = S.col.AM∧D' = Ab p S2 g2 ++ (b,C BC (BF x2 (.slice a S.col.AM.length cap))) :: F∧vs = [Pt p,Pt b]) (λK2 hK2=>?_) ?_;rotate_left
 ·rintro e R2 D2 ⟨hR2,S2,g2,x2,e1,ok2,ex,hD,he⟩;refine z_W ?_;exact hK _ _ _ ⟨hR2,S2,g2,x2,e1,ok2,ex,rfl,rfl⟩
 refine jeq (jif (λc20=>?_) (λc20=>?_))
 ·rw[if_pos (eq_of_beq c20)] at hS;obtain⟨q,hq,hS⟩:=AD hS;obtain⟨rfl,hin⟩:=B8 hq;obtain⟨⟨w,S1⟩,hrd,hS⟩:=AD hS;have e1:=Cn hrd;subst e1;dsimp only at hS;refine jl (v:=I S.col.src) rfl (Cr hin ?_);refine jcS (p:=p) (by exact Cz hok hrd) λ_ R1 g1 hR1 hr ok1=>?_
  subst hr;refine jp (Ei w) (jex rfl (jex rfl ?_));refine ja λb3=>?_
  refine jS [I (AJ w).1.refs,I (AJ w).1.nums] ?_;refine jla (l:=[I (AJ w).1.refs,I (AJ w).1.nums]) (by exact z_n 2) τ ?_;refine jp (CJ (AJ w).1) ?_;refine jS (BF { S.col with size:=AF (AJ w).1 } (.slice a S.col.AM.length cap)) ?_;refine jl (v:=.slice (some ⟨g1.tb,0,none⟩) S.A0.length g1.tc) rfl ?_;refine jl (v:=.slice (some ⟨g1.hb,0,none⟩) S.th.length g1.hc) rfl (jln ?_);refine jl (v:=I (AF (AJ w).1)) rfl ?_;refine jmk (by exact GN (t:=S.A0) (sp:=g1.tsp) S.th.length (AF (AJ w).1) (by have:=hok.tl;omega)) ?_;intro v N hq2;cases hrm:BX S.A0 S.th.length (AF (AJ w).1) with
  | none=>
   rw[hrm] at hq2 hS;obtain⟨rfl,rfl⟩:=hq2;simp only[Yu] at hS;subst hS;refine jex rfl (jex rfl (jex rfl (DI ?_)));refine jss (p:=p) { S with used:=true,full:=true } g1 rfl rfl δ τ τ ?_;refine jss (p:=p) { S with used:=true,full:=true,stop:=true } g1 rfl rfl δ τ τ ?_;exact Ay hR1 trivial rfl { ok1 with }
  | some td=>
   obtain⟨t',d⟩:=td;rw[hrm] at hq2 hS;obtain⟨sv,⟨b4,c4,sp4,hc4,rfl,rfl⟩,rfl⟩:=hq2;simp only[Yu] at hS;have hlen:=Jp hrm;refine jex rfl (jex rfl (jex rfl (CL ?_)));refine P7 (p:=p) ?_;refine jS (BF { S.col with size:=AF (AJ w).1,dst:=d } (.slice a S.col.AM.length cap)) ?_;refine jS (BF { S.col with size:=AF (AJ w).1,dst:=d,i:=1 } (.slice a S.col.AM.length cap)) ?_;refine jS (BF { S.col with size:=AF (AJ w).1,dst:=d,i:=1,pc:=21 } (.slice a S.col.AM.length cap)) ?_;refine Aw (Ab p { S with used:=true,A0:=t' } { g1 with tb:=b4,tc:=c4,tsp:=sp4 }) (G:=(b,C BC (BF { S.col with size:=AF (AJ w).1,dst:=d,i:=1,pc:=21 } (.slice a S.col.AM.length cap))) :: F) ?_;exact hK2 _ _ _ ⟨hR1,{ S with used:=true,A0:=t' },{ g1 with tb:=b4,tc:=c4,tsp:=sp4 },{ S.col with size:=AF (AJ w).1,dst:=d,i:=1,pc:=21 },hS.symm,ok1.tab (by rw[hlen];exact hok.tl) _ _ _ hc4,rfl,rfl,rfl⟩
 rw[if_neg (ne_of_beq_false c20)] at hS;refine jeq (jif (λc21=>?_) (λc21=>?_))
 ·rw[if_pos (eq_of_beq c21)] at hS;obtain⟨q,hq,hS⟩:=AD hS;obtain⟨rfl,hin⟩:=B8 hq;obtain⟨⟨w,S1⟩,hrd,hS⟩:=AD hS;have e1:=Cn hrd;subst e1;cases hS;refine jl (v:=I S.col.src) rfl (jl (v:=I S.col.i) rfl (Cr hin ?_));refine jcS (p:=p) (by exact Cz hok hrd) λ_ R1 g1 hR1 hr ok1=>?_
  subst hr;refine jS (BF { S.col with word:=w } (.slice a S.col.AM.length cap)) ?_;refine jS (BF { S.col with word:=w,pc:=22 } (.slice a S.col.AM.length cap)) ?_;exact hK2 _ _ _ ⟨hR1,{ S with used:=true },g1,{ S.col with word:=w,pc:=22 },rfl,ok1,rfl,rfl,rfl⟩
 rw[if_neg (ne_of_beq_false c21)] at hS;refine jeq (jif (λc22=>?_) (λc22=>?_))
 ·rw[if_pos (eq_of_beq c22)] at hS;obtain⟨q,hq,hS⟩:=AD hS;obtain⟨rfl,hin⟩:=B8 hq;obtain⟨S1,hwr,hS⟩:=AD hS;have e1:=EM hwr;subst e1;obtain⟨n,hn,hS⟩:=AD hS;obtain⟨rfl,hin2⟩:=B8 hn;cases hS;refine jl (v:=I S.col.dst) rfl (jl (v:=I S.col.i) rfl (Cr hin (jl (v:=I S.col.word) rfl ?_)));refine jcS (p:=p) (by exact Db hok hwr) λ_ R1 g1 hR1 hr ok1=>?_
  refine jl (v:=I S.col.i) rfl (Cr hin2 ?_);refine jS (BF { S.col with i:=S.col.i + 1 } (.slice a S.col.AM.length cap)) ?_;refine jS (BF { S.col with i:=S.col.i + 1,pc:=21 } (.slice a S.col.AM.length cap)) ?_;refine jl (v:=I (S.col.i + 1)) rfl (jl (v:=I S.col.size) rfl (jeq (jif (λhz=>?_) (λhz=>?_))))
  ·refine jS (BF { S.col with i:=S.col.i + 1,pc:=23 } (.slice a S.col.AM.length cap)) ?_;exact hK2 _ _ _ ⟨hR1,{ S with used:=true,AA:=AT S.AA (S.col.dst + S.col.i) S.col.word },g1,{ S.col with i:=S.col.i + 1,pc:=23 },(by rw[if_pos (eq_of_beq hz)]),ok1,rfl,rfl,rfl⟩
  ·exact hK2 _ _ _ ⟨hR1,{ S with used:=true,AA:=AT S.AA (S.col.dst + S.col.i) S.col.word },g1,{ S.col with i:=S.col.i + 1,pc:=21 },(by rw[if_neg (ne_of_beq_false hz)]),ok1,rfl,rfl,rfl⟩
 rw[if_neg (ne_of_beq_false c22)] at hS;refine jeq (jif (λc23=>?_) (λc23=>?_))
 ·rw[if_pos (eq_of_beq c23)] at hS;obtain⟨S1,hwr,hS⟩:=AD hS;have e1:=EM hwr;subst e1;cases hS;refine jl (v:=I S.col.dst) rfl (jl (v:=I S.col.dst) rfl ?_);refine jcS (p:=p) (by exact Db hok hwr) λ_ R1 g1 hR1 hr ok1=>?_
  refine jS (BF { S.col with pc:=24 } (.slice a S.col.AM.length cap)) ?_;exact hK2 _ _ _ ⟨hR1,{ S with used:=true,AA:=AT S.AA S.col.dst S.col.dst },g1,{ S.col with pc:=24 },rfl,ok1,rfl,rfl,rfl⟩
 rw[if_neg (ne_of_beq_false c23)] at hS;refine jeq (jif (λc24=>?_) (λc24=>?_));rotate_left
 ·rw[if_neg (ne_of_beq_false c24)] at hS;cases hS;exact BI ZH.symm (hK2 _ _ _ ⟨RM.le.refl _,S,g,S.col,rfl,hok,rfl,rfl,rfl⟩)
 rw[if_pos (eq_of_beq c24)] at hS;obtain⟨⟨w,S1⟩,hrd,hS⟩:=AD hS;have e1:=Cn hrd;subst e1;dsimp only at hS;obtain⟨S3,h3,hS⟩:=AD hS;cases hS;refine AR (λvs R' D'=>R.le R'∧∃g2,Ok R' S3 g2∧D' = Ab p S3 g2 ++ (b,C BC (BF S.col (.slice a S.col.AM.length cap))) :: F∧vs = [Pt p,Pt b]) (λK3 hK3=>?_) ?_;rotate_left
 ·rintro e R2 D2 ⟨hR,g2,ok2,hD,he⟩;refine z_W ?_;refine jS (BF { S.col with pc:=5 } (.slice a S.col.AM.length cap)) ?_;exact hK2 _ _ _ ⟨hR,S3,g2,{ S.col with pc:=5 },rfl,ok2,rfl,rfl,rfl⟩
 refine jl (v:=I S.col.src) rfl (jl (v:=I S.col.src) rfl ?_);refine jcS (p:=p) (by exact Cz hok hrd) λ_ R1 g1 hR1 hr ok1=>?_
 subst hr;refine jeq (Af (jl (v:=I S.col.src) rfl jev) (jif (λhw=>?_) (λhw=>?_)))
 ·rw[if_pos (eq_of_beq hw)] at h3;obtain⟨S2,hwr,h3⟩:=AD h3;refine jl (v:=I S.col.src) rfl (jl (v:=I S.col.dst) rfl ?_);refine jcS (p:=p) (by exact Db ok1 hwr) λ_ R2 g2 hR2 hr ok2=>?_
  refine jl (v:=I S.col.dst) rfl (jl (v:=I S.col.size) rfl ?_);refine jcS (p:=p) (by exact TQ ok2 h3) λ_ R3 g3 hR3 hr ok3=>?_
  exact hK3 _ _ _ ⟨(hR1.trans hR2).trans hR3,g3,ok3,rfl,rfl⟩
 ·rw[if_neg (ne_of_beq_false hw)] at h3;cases h3;exact hK3 _ _ _ ⟨hR1,g1,ok1,rfl,rfl⟩
theorem Mb {R:RM} {S:Sim} {g:Img} {r:Int} {row:Rg} (h:idx S.A0 r = some row) {f:Nat} {v:Value} (hv:(eRg row)[f]? = some v):(Ac eRg S.A0 ++ g.tsp)[0 + r.toNat * 5 + f]? = some v:=by
 obtain⟨h0,h1,h2,h3⟩:=Av h;rw[Z6];exact C6 (f:=f) h2 (by rw[h3];exact hv)
theorem Wg {p:Nat} {S S' : Sim} {g:Img} {R:RM} (hok:Ok R S g) (hS:S.walk = some S') :
  Fn P Kz [Pt p] R (Ab p S g) (D0 p S' λ_=>True):=by
 refine QU λF=>?_
 refine z_1 ?_;unfold Sim.walk at hS;dsimp only at hS;obtain⟨⟨r,q⟩,hwo,hS⟩:=AD hS;dsimp only at hS;have htl:=hok.tl;have hml:=hok.ml;refine IW (p:=p) hok λb=>?_
 obtain⟨a,cap,hsv,-⟩:=BG.reads (D:=[]) hok.AM;rw[hsv];have hst0:=hok.AM;rw[hsv] at hst0;refine AR (λvs R' D'=>R' = R∧D' = (b,C BC (BF { S.col with r:=r,p:=q } (.slice a S.col.AM.length cap))) :: (Ab p S g ++ F)∧vs = [Pt p,Pt b]) (λK hK=>?_) ?_
 ·refine AR (λvs R' D'=>R' = R∧D' = (b,C BC (BF { S.col with r:=r,p:=q } (.slice a S.col.AM.length cap))) :: (Ab p S g ++ F)∧vs = [Pt p,Pt b]) (λK2 hK2=>?_) ?_;rotate_left
  ·rintro e R2 D2 ⟨rfl,hD,he⟩;refine z_W ?_;exact hK _ _ _ ⟨rfl,rfl,rfl⟩
  refine jlp (λn vs R' D'=>R' = R∧∃r1 q1,D' = (b,C BC (BF { S.col with r:=r1,p:=q1 } (.slice a S.col.AM.length cap))) :: (Ab p S g ++ F)∧vs = [Pt p,Pt b]∧S.walkOut n r1 q1 = some (r,q))
   (n:=S.A0.length + 2) ⟨rfl,S.col.r,S.col.p,rfl,rfl,hwo⟩ ?_
  rintro n e R1 D1 K3 ⟨hR1,r1,q1,hD,he,hw⟩ hK3;subst hR1;refine z_W ?_;cases n with
  | zero=>cases hw
  | succ n=>
   unfold Sim.walkOut at hw;refine jl (v:=I r1) rfl (jl (v:=.slice (some ⟨g.tb,0,none⟩) S.A0.length g.tc) rfl (jln (jlt (jif (λhc=>?_) (λhc=>?_)))));rotate_left
   ·rw[if_neg (z_g hc)] at hw;cases hw;exact hK2 _ _ _ ⟨rfl,rfl,rfl⟩
   have hc:=z_f hc;rw[if_pos hc] at hw;obtain⟨row,hrow,hw⟩:=AD hw;obtain⟨q2,hwi,hw⟩:=AD hw;obtain⟨r0,r1',r2,r3⟩:=Av hrow;refine jl (v:=.slice (some ⟨g.tb,0,none⟩) S.A0.length g.tc) rfl (jl (v:=I r1) rfl (jia r0 r1' ?_));have hget:=DQ (f:=eRg) (w:=5) (λ_=>rfl) (sp:=g.tsp) r2;rw[r3] at hget;refine jla (l:=eRg row) (by rw[Z6];exact F6 r2) (by rw[Z6];exact hget) ?_;refine ja λb5=>?_
   refine Af (jl (v:=.slice (some ⟨g.tb,0,none⟩) S.A0.length g.tc) rfl jev) (Af (jl (v:=I r1) rfl jev) ?_);refine Af (jla (l:=eRg row) (by rw[Z6];exact F6 r2) (by rw[Z6];exact hget) jev) ?_;refine jS (eRg row) ?_;refine AR (λvs R' D'=>R' = R1∧D' = (b5,C 66 (eRg row)) :: (b,C BC (BF { S.col with r:=r1,p:=q2 } (.slice a S.col.AM.length cap))) :: (Ab p S g ++ F)∧vs = [Pt p,Pt b,Pt b5]) (λK4 hK4=>?_) ?_
   ·refine AR (λvs R' D'=>R' = R1∧D' = (b5,C 66 (eRg row)) :: (b,C BC (BF { S.col with r:=r1,p:=q2 } (.slice a S.col.AM.length cap))) :: (Ab p S g ++ F)∧vs = [Pt p,Pt b,Pt b5]) (λK5 hK5=>?_) ?_;rotate_left
    ·rintro e R2 D2 ⟨rfl,hD,he⟩;refine z_W ?_;exact hK4 _ _ _ ⟨rfl,rfl,rfl⟩
    refine jlp (λm vs R' D'=>R' = R1∧∃q3,D' = (b5,C 66 (eRg row)) :: (b,C BC (BF { S.col with r:=r1,p:=q3 } (.slice a S.col.AM.length cap))) :: (Ab p S g ++ F)∧vs = [Pt p,Pt b,Pt b5]∧Ig S.AK row m q3 = some q2)
     (n:=20) ⟨rfl,q1,rfl,rfl,hwi⟩ ?_
    rintro m e R2 D2 K6 ⟨hR2,q3,hD,he,hwi⟩ hK6;subst hR2;refine z_W ?_;cases m with
    | zero=>cases hwi
    | succ m=>
     unfold Ig at hwi;refine jan [Pt p,Pt b,Pt b5] ((row.kind == 4) && (decide (q3 < row.top))) (λK' hK'=>?_) (λe c u ho he=>?_)
     ·refine jl (v:=I row.kind) rfl (jeq (Bt (λh1=>?_) (λh1=>?_)))
      ·refine jl (v:=I q3) rfl (jl (v:=I row.top) rfl (jlt (hK' _ _ _ (h1▸Ax) (by rw[h1,Z2]))))
      ·exact hK' _ _ _ (h1▸BB) (by rw[h1,Z3])
     refine z_V ?_;by_cases hk:row.kind = 4∧q3 < row.top
     ·rw[if_pos hk] at hwi;obtain⟨mk,hmk,hwi⟩:=AD hwi;obtain⟨m0,m1,m2,m3⟩:=Av hmk;have hkb:(row.kind == 4 && decide (q3 < row.top)) = true:=by simp[hk.1,hk.2]
      refine jan [Pt p,Pt b,Pt b5] (!mk) (λK' hK'=>?_) (λe c u ho2 he=>?_)
      ·rw[ho,hkb];refine jtt (jl (v:=.slice (some ⟨g.mb,0,none⟩) S.AK.length g.mc) rfl (jl (v:=I q3) rfl (jia m0 m1 ?_)));refine jl (v:=.bool mk) (by rw[Z6,Zo,Io m2,m3]) ?_;exact hK' _ _ _ Ax rfl
      ·refine z_V ?_;rw[ho2];cases mk with
       | true=>
        simp only[if_true] at hwi;cases hwi;exact CL (hK5 _ _ _ ⟨rfl,rfl,rfl⟩)
       | false=>
        simp only[ZE,if_false] at hwi;refine DI (jl (v:=I q3) rfl (jad ?_));refine jS (BF { S.col with r:=r1,p:=q3 + 1 } (.slice a S.col.AM.length cap)) ?_;exact hK6 m _ _ _ ω ⟨rfl,q3 + 1,rfl,rfl,hwi⟩
     ·rw[if_neg hk] at hwi;have hkb:(row.kind == 4 && decide (q3 < row.top)) = false:=by
       rw[aS,decide_eq_false_iff_not,beq_eq_false_iff_ne];by_cases h:row.kind = 4
       ·exact .inr λh2=>hk ⟨h,h2⟩
       ·exact .inl h
      refine jan [Pt p,Pt b,Pt b5] false (λK' hK'=>?_) (λe c u ho2 he=>?_)
      ·rw[ho,hkb];exact jft (hK' _ _ _ BB rfl)
      ·refine z_V ?_;rw[ho2];cases hwi;exact CL (hK5 _ _ _ ⟨rfl,rfl,rfl⟩)
   ·rintro e R2 D2 ⟨hR2,hD,he⟩;subst hR2;refine z_W ?_;refine jan [Pt p,Pt b] ((row.kind == 4) && (decide (q2 < row.top))) (λK' hK'=>?_) (λe c u ho he=>?_)
    ·refine jl (v:=I row.kind) rfl (jeq (Bt (λh1=>?_) (λh1=>?_)))
     ·refine jl (v:=I q2) rfl (jl (v:=I row.top) rfl (jlt (hK' _ _ _ (h1▸Ax) (by rw[h1,Z2]))))
     ·exact hK' _ _ _ (h1▸BB) (by rw[h1,Z3])
    refine z_V ?_;rw[ho];refine jif (λhk=>?_) (λhk=>?_)
    ·rw[if_pos (by simpa using hk)] at hw;cases hw;exact Bn (hK2 _ _ _ ⟨rfl,rfl,rfl⟩)
    ·rw[if_neg (by intro h;simp[h.1,h.2] at hk)] at hw;refine jl (v:=I r1) rfl (jad ?_);refine jS (BF { S.col with r:=r1 + 1,p:=q2 } (.slice a S.col.AM.length cap)) ?_;refine jl (v:=I (r1 + 1)) rfl (GX ⟨ω,ω⟩ ?_);refine jS (BF { S.col with r:=r1 + 1,p:=(r1 + 1) * 16 } (.slice a S.col.AM.length cap)) ?_;exact Bn (hK3 n _ _ _ ω ⟨rfl,r1 + 1,(r1 + 1) * 16,rfl,rfl,hw⟩)
 ·rintro e R2 D2 ⟨hR2,hD,he⟩;subst hR2;refine z_W ?_;refine jl (v:=I r) rfl (jl (v:=.slice (some ⟨g.tb,0,none⟩) S.A0.length g.tc) rfl (jln (jeq (jif (λhc=>?_) (λhc=>?_)))))
  ·rw[if_pos (by have:=eq_of_beq hc;exact this)] at hS;cases hS;refine jss (p:=p) { S with stop:=true } g rfl rfl δ τ τ ?_;refine jS (BF { S.col with r:=r,p:=q,want:=3 } (.slice a S.col.AM.length cap)) ?_;refine Hf (p:=p) { S with stop:=true,col:={ S.col with r:=r,p:=q,want:=3 } } (by exact { hok with }) (by exact hst0) τ λg3 ok3=>?_
   exact Ay (RM.le.refl _) trivial rfl ok3
  ·rw[if_neg (by have:=ne_of_beq_false hc;exact this)] at hS;obtain⟨q1,hq1,hS⟩:=AD hS;obtain⟨rfl,in1⟩:=B8 hq1;obtain⟨⟨w,S1⟩,hrd,hS⟩:=AD hS;have hrd2:=hrd;simp only[Sim.read] at hrd2;have hq0:0≤q:=by
    split at hrd2
    ·exact (Av (by assumption)).1
    ·cases hrd2
   have hin:inR q:=⟨ω,by have:=in1.2;omega⟩;have e1:=Cn hrd;subst e1;simp only[Yu] at hS;refine jl (v:=I q) rfl (Cr in1 ?_);refine jS (BF { S.col with r:=r,p:=q + 1 } (.slice a S.col.AM.length cap)) ?_;have esub:q + 1 - 1 = q:=ω
   refine AR (λvs R' D'=>R2.le R'∧∃g2,Ok R' { S with used:=true } g2∧D' = Ab p { S with used:=true } g2 ++ (b,C BC (BF (if w = q then { S.col with r:=r,p:=q + 1,src:=q,pc:=20 } else { S.col with r:=r,p:=q + 1 }) (.slice a S.col.AM.length cap))) :: F∧vs = [Pt p,Pt b]) (λK hK=>?_) ?_
   ·refine jl (v:=I (q + 1)) rfl (Pk (by rw[esub];exact hin) (jl (v:=I (q + 1)) rfl (Pk (by rw[esub];exact hin) ?_)));rw[esub];refine jcS (p:=p) (by exact Cz hok hrd) λ_ R1 g1 hR1 hr ok1=>?_
    subst hr;refine jeq (Af (jl (v:=I (q + 1)) rfl ?_) (jif (λhw=>?_) (λhw=>?_)))
    ·exact jev
    ·refine jl (v:=I (q + 1)) rfl (Pk (by rw[esub];exact hin) ?_);rw[esub];refine jS (BF { S.col with r:=r,p:=q + 1,src:=q } (.slice a S.col.AM.length cap)) ?_;refine jS (BF { S.col with r:=r,p:=q + 1,src:=q,pc:=20 } (.slice a S.col.AM.length cap)) ?_;exact hK _ _ _ ⟨hR1,g1,ok1,by rw[if_pos (eq_of_beq hw)],rfl⟩
    ·exact hK _ _ _ ⟨hR1,g1,ok1,by rw[if_neg (ne_of_beq_false hw)],rfl⟩
   ·rintro e R3 D3 ⟨hR3,g2,ok2,hD,he⟩;refine z_W ?_;have hx:(if w = q then { S.col with r:=r,p:=q + 1,src:=q,pc:=20 } else { S.col with r:=r,p:=q + 1 }:Col).AM = S.col.AM:=by split<;>rfl
    refine Hf (p:=p) (({ S with used:=true }:Sim).setC (if w = q then { S.col with r:=r,p:=q + 1,src:=q,pc:=20 } else { S.col with r:=r,p:=q + 1 })) (by exact ok2) (by rw[hx];exact hst0.le hR3) τ λg3 ok3=>?_
    subst hS;exact Ay hR3 trivial rfl ok3
theorem jgu {R:RM} {D:Chs} {w:Bool} {a b:M} (H:J R D b):J R D (GT (.tuple #[]) w a b):=H
theorem VG {p:Nat} {S S' : Sim} {g:Img} {R:RM} (hok:Ok R S g) (hS:S.renew = some S') :
  Fn P Ir [Pt p] R (Ab p S g) (D0 p S' λ_=>True):=by
 refine Od λF=>?_
 refine z_1 ?_;unfold Sim.renew at hS;dsimp only at hS;have htl:=hok.tl;have hml:=hok.ml;refine IW (p:=p) hok λb=>?_
 obtain⟨a,cap,hsv,-⟩:=BG.reads (D:=[]) hok.AM;rw[hsv];have hst0:=hok.AM;rw[hsv] at hst0;refine AR (λvs R' D'=>R.le R'∧∃S2 g2 x2,S' = S2.setC x2∧Ok R' S2 g2∧x2.AM = S.col.AM∧D' = Ab p S2 g2 ++ (b,C BC (BF x2 (.slice a S.col.AM.length cap))) :: F∧vs = [Pt p,Pt b]) (λK hK=>?_) ?_;rotate_left
 ·rintro e R2 D2 ⟨hR2,S2,g2,x2,e1,ok2,ex,hD,he⟩;refine z_W ?_;refine Hf (p:=p) (S2.setC x2) (by exact ok2) (by rw[ex];exact hst0.le hR2) τ λg3 ok3=>?_
  subst e1;exact Ay hR2 trivial rfl ok3
 refine jl (v:=I S.col.pc) rfl ?_;refine AR (λvs R' D'=>R.le R'∧∃S2 g2 x2,S' = S2.setC x2∧Ok R' S2 g2∧x2.AM = S.col.AM∧D' = Ab p S2 g2 ++ (b,C BC (BF x2 (.slice a S.col.AM.length cap))) :: F∧vs = [Pt p,Pt b]) (λK2 hK2=>?_) ?_;rotate_left
 ·rintro e R2 D2 ⟨hR2,S2,g2,x2,e1,ok2,ex,hD,he⟩;refine z_W ?_;exact hK _ _ _ ⟨hR2,S2,g2,x2,e1,ok2,ex,rfl,rfl⟩
 have back:∀(R' : RM) (S2:Sim) (g2:Img) (x2:Col),R.le R'→S' = S2.setC x2→Ok R' S2 g2→x2.AM = S.col.AM→J R' (Ab p S2 g2 ++ (b,C BC (BF x2 (.slice a S.col.AM.length cap))) :: F) (K2 [Pt p,Pt b]):=λR' S2 g2 x2 h1 h2 h3 h4=>hK2 _ _ _ ⟨h1,S2,g2,x2,h2,h3,h4,rfl,rfl⟩
 refine jeq (jif (λc6=>?_) (λc6=>?_))
 ·rw[if_pos (eq_of_beq c6)] at hS;obtain⟨⟨r,q⟩,hro,hS⟩:=AD hS;dsimp only at hS;refine AR (λvs R' D'=>R' = R∧D' = (b,C BC (BF { S.col with r:=r,p:=q } (.slice a S.col.AM.length cap))) :: (Ab p S g ++ F)∧vs = [Pt p,Pt b]) (λK3 hK3=>?_) ?_
  ·refine AR (λvs R' D'=>R' = R∧D' = (b,C BC (BF { S.col with r:=r,p:=q } (.slice a S.col.AM.length cap))) :: (Ab p S g ++ F)∧vs = [Pt p,Pt b]) (λK4 hK4=>?_) ?_;rotate_left
   ·rintro e R2 D2 ⟨hR2,hD,he⟩;subst hR2;refine z_W ?_;exact hK3 _ _ _ ⟨rfl,rfl,rfl⟩
   refine jlp (λn vs R' D'=>R' = R∧∃r1 q1,D' = (b,C BC (BF { S.col with r:=r1,p:=q1 } (.slice a S.col.AM.length cap))) :: (Ab p S g ++ F)∧vs = [Pt p,Pt b]∧S.renewTo n r1 q1 = some (r,q))
    (n:=S.A0.length + 2) ⟨rfl,S.col.r,S.col.p,rfl,rfl,hro⟩ ?_
   rintro n e R1 D1 K5 ⟨hR1,r1,q1,hD,he,hw⟩ hK5;subst hR1;refine z_W ?_;cases n with
   | zero=>cases hw
   | succ n=>
    unfold Sim.renewTo at hw;refine AR (λvs R' D'=>R' = R1∧D' = (b,C BC (BF { S.col with r:=r1,p:=q1 } (.slice a S.col.AM.length cap))) :: (Ab p S g ++ F)∧∃v:Bool,vs = [Pt p,Pt b,.bool v]∧((v = true∧S.renewTo n (r1 + 1) ((r1 + 1) * 16) = some (r,q)∧r1 < S.A0.length∧0≤r1)∨(v = false∧r1 = r∧q1 = q))) (λK6 hK6=>?_) ?_;rotate_left
    ·rintro e R2 D2 ⟨hR2,hD,v,he,hv⟩;subst hR2;refine z_W ?_;rcases hv with ⟨rfl,hw2,hlt,hge⟩ | ⟨rfl,rfl,rfl⟩
     ·refine DI (jl (v:=I r1) rfl (jad ?_));refine jS (BF { S.col with r:=r1 + 1,p:=q1 } (.slice a S.col.AM.length cap)) ?_;refine jl (v:=I (r1 + 1)) rfl (GX ⟨ω,ω⟩ ?_);refine jS (BF { S.col with r:=r1 + 1,p:=(r1 + 1) * 16 } (.slice a S.col.AM.length cap)) ?_;exact hK5 n _ _ _ ω ⟨rfl,r1 + 1,(r1 + 1) * 16,rfl,rfl,hw2⟩
     ·exact CL (hK4 _ _ _ ⟨rfl,rfl,rfl⟩)
    by_cases hc:r1 < S.A0.length
    ·rw[if_pos hc] at hw;obtain⟨row,hrow,hw⟩:=AD hw;obtain⟨vv,hvv,hw⟩:=AD hw;obtain⟨r0,r1',r2,r3⟩:=Av hrow;refine CQ (jl (v:=I r1) rfl (jl (v:=.slice (some ⟨g.tb,0,none⟩) S.A0.length g.tc) rfl (jln (jlt ?_))));rw[decide_eq_true hc];refine jtt (jl (v:=.slice (some ⟨g.tb,0,none⟩) S.A0.length g.tc) rfl (jl (v:=I r1) rfl (jia r0 r1' ?_)));refine jl (v:=I row.kind) (Mb (R:=R1) hrow (f:=0) rfl) (jeq ?_);by_cases hk:row.kind = 4
     ·rw[if_pos hk] at hvv;cases hvv;rw[show (row.kind == 4) = true from by simp[hk]];refine jtf (Bv λe he=>?_);refine z_V ?_;refine jtf (CQ (jtf (Bv λe he=>?_)));refine z_V ?_;refine CQ (jtt (EA (Bv λe he=>?_)));refine z_V ?_;refine EA (Af (jtf jev) (Af (jtf jev) (Af (jtf jev) (Af (jtf jev) ?_))));exact hK6 _ _ _ ⟨rfl,rfl,true,rfl,.inl ⟨rfl,hw,hc,r0⟩⟩
     ·rw[if_neg hk] at hvv;obtain⟨bl,hbl,hvv⟩:=AD hvv;obtain⟨rfl,hin⟩:=B8 hbl;cases hvv;rw[show (row.kind == 4) = false from by simp[hk]];refine jff (jl (v:=I q1) rfl (jl (v:=I r1) rfl (jl (v:=.slice (some ⟨g.tb,0,none⟩) S.A0.length g.tc) rfl (jl (v:=I r1) rfl (jia r0 r1' ?_)))));refine jl (v:=I row.AO) (Mb (R:=R1) hrow (f:=4) rfl) (Bv λe he=>?_);refine z_V ?_;refine jff (jp (Bc r1) (CQ (jff (Cr hin (jge (Bv λe he=>?_))))));refine z_V ?_;refine CQ (jtt (EI (Bv λe he=>?_)));refine z_V ?_;refine EA (Af (jff (jl (v:=I q1) rfl jev)) (Af (jff (jl (v:=.slice (some ⟨g.tb,0,none⟩) S.A0.length g.tc) rfl jev)) (Af (jff (jl (v:=I r1) rfl jev)) (Af (jff (jl (v:=I row.AO) (Mb (R:=R1) hrow (f:=4) rfl) jev)) ?_))));refine hK6 _ _ _ ⟨rfl,rfl,decide (q1≥AH r1 + row.AO),rfl,?_⟩;by_cases hd:AH r1 + row.AO≤q1
      ·rw[decide_eq_true hd,if_pos rfl] at hw;exact .inl ⟨decide_eq_true hd,hw,hc,r0⟩
      ·rw[decide_eq_false hd,if_neg δ] at hw;cases hw;exact .inr ⟨decide_eq_false hd,rfl,rfl⟩
    ·rw[if_neg hc] at hw;simp only[Yu,Prod.mk.injEq] at hw;refine CQ (jl (v:=I r1) rfl (jl (v:=.slice (some ⟨g.tb,0,none⟩) S.A0.length g.tc) rfl (jln (jlt ?_))));rw[decide_eq_false hc];refine jft (Bv λe he=>?_);refine z_V ?_;refine jgu (CQ (jgu (Bv λe he=>?_)));refine z_V ?_;refine CQ (jft (Bv λe he=>?_));refine z_V ?_;refine EI (Af (jgu jev) (Af (jgu jev) (Af (jgu jev) (Af (jgu jev) ?_))));exact hK6 _ _ _ ⟨rfl,rfl,false,rfl,.inr ⟨rfl,hw.1,hw.2⟩⟩
  ·rintro e R2 D2 ⟨hR2,hD,he⟩;subst hR2;refine z_W ?_;refine jl (v:=I r) rfl (jl (v:=.slice (some ⟨g.tb,0,none⟩) S.A0.length g.tc) rfl (jln (jeq (jif (λhc=>?_) (λhc=>?_)))))
   ·rw[if_pos (by have:=eq_of_beq hc;exact this)] at hS;refine jss (p:=p) { S with stop:=true } g rfl rfl δ τ τ ?_;refine jS (BF { S.col with r:=r,p:=q,want:=0 } (.slice a S.col.AM.length cap)) ?_;exact back _ { S with stop:=true } g { S.col with r:=r,p:=q,want:=0 } (RM.le.refl _) (Zc hS).symm { hok with } rfl
   ·rw[if_neg (by have:=ne_of_beq_false hc;exact this)] at hS;obtain⟨q1,hq1,hS⟩:=AD hS;obtain⟨rfl,in1⟩:=B8 hq1;obtain⟨⟨w,S1⟩,hrd,hS⟩:=AD hS;have e1:=Cn hrd;subst e1;dsimp only at hS;obtain⟨q2,hq2,hS⟩:=AD hS;obtain⟨rfl,in2⟩:=B8 hq2;obtain⟨row,hrow,hS⟩:=AD hS;obtain⟨go,hgo,hS⟩:=AD hS;obtain⟨r0,r1',r2,r3⟩:=Av hrow;refine jl (v:=I q) rfl ?_;refine jS (BF { S.col with r:=r,p:=q,f:=q } (.slice a S.col.AM.length cap)) ?_;refine jl (v:=I q) rfl (Cr in1 ?_);refine jcS (p:=p) (by exact Cz hok hrd) λ_ R1 g1 hR1 hr ok1=>?_
    subst hr;refine jp (Ei w) (jex rfl (jex rfl ?_));refine ja λb3=>?_
    refine jS [I (AJ w).1.refs,I (AJ w).1.nums] ?_;refine jla (l:=[I (AJ w).1.refs,I (AJ w).1.nums]) (by exact z_n 2) τ ?_;refine jS (BF { S.col with r:=r,p:=q,f:=q,sh:=(AJ w).1 } (.slice a S.col.AM.length cap)) ?_;refine jl (v:=I q) rfl ?_;refine jfo (jla (l:=[I (AJ w).1.refs,I (AJ w).1.nums]) (by simp[BF]) τ ?_);refine jp (CJ (AJ w).1) (Cr in2 (Af (jl (v:=I q) rfl jev) ?_));refine jS (BF { S.col with r:=r,p:=q + AF (AJ w).1,f:=q,sh:=(AJ w).1 } (.slice a S.col.AM.length cap)) ?_;refine jS (BF { S.col with r:=r,p:=q + AF (AJ w).1,f:=q,sh:=(AJ w).1,i:=0 } (.slice a S.col.AM.length cap)) ?_;refine AR (λvs R' D'=>R' = R1∧D' = Ab p { S with used:=true } g1 ++ (b,C BC (BF { S.col with r:=r,p:=q + AF (AJ w).1,f:=q,sh:=(AJ w).1,i:=0 } (.slice a S.col.AM.length cap))) :: F∧∃c u,vs = [Pt p,Pt b,c,u]∧GY c u go) (λK7 hK7=>?_) ?_
    ·refine Aw (Ab p { S with used:=true } g1) (G:=(b,C BC (BF { S.col with r:=r,p:=q + AF (AJ w).1,f:=q,sh:=(AJ w).1,i:=0 } (.slice a S.col.AM.length cap))) :: F) ?_;refine jl (v:=I (AJ w).1.refs) rfl (jgr ?_);by_cases hrf:0 < (AJ w).1.refs
     ·rw[if_pos hrf] at hgo;rw[decide_eq_true (show (AJ w).1.refs > 0 from hrf)];refine jtt (jl (v:=I q) rfl (jl (v:=.slice (some ⟨g1.tb,0,none⟩) S.A0.length g1.tc) rfl (jl (v:=I r) rfl (jia r0 r1' ?_))));refine jl (v:=I row.BE) (Mb (R:=R1) (S:=S) hrow (f:=3) rfl) (jge ?_);by_cases ht:row.BE≤q
      ·rw[if_pos ht] at hgo;cases hgo;rw[decide_eq_true (show q≥row.BE from ht)];exact jtf (EA (hK7 _ _ _ ⟨rfl,rfl,_,_,rfl,Ax⟩))
      ·rw[if_neg ht] at hgo;rw[decide_eq_false (show ¬ q≥row.BE from ht)];obtain⟨m0,m1,m2,m3⟩:=Av hgo;refine jff (jl (v:=.slice (some ⟨g1.mb,0,none⟩) S.AK.length g1.mc) rfl (jl (v:=I q) rfl (jia m0 m1 ?_)));refine jl (v:=.bool go) (by rw[Z6,Zo];show (S.AK.map Value.bool ++ g1.msp)[q.toNat]? = _;rw[Io m2,m3]) ?_;exact EI (hK7 _ _ _ ⟨rfl,rfl,_,_,rfl,Ax⟩)
     ·rw[if_neg hrf] at hgo;cases hgo;rw[decide_eq_false (show ¬ (AJ w).1.refs > 0 from hrf)];exact jft (hK7 _ _ _ ⟨rfl,rfl,_,_,rfl,BB⟩)
    ·rintro e R3 D3 ⟨hR3,hD,c,u,he,ha⟩;subst hR3;refine z_W ?_;rw[ha];refine jif (λhg=>?_) (λhg=>?_)
     ·rw[if_pos hg] at hS;refine jS (BF { S.col with r:=r,p:=q + AF (AJ w).1,f:=q,sh:=(AJ w).1,i:=0,pc:=7 } (.slice a S.col.AM.length cap)) ?_;exact back _ { S with used:=true } g1 { S.col with r:=r,p:=q + AF (AJ w).1,f:=q,sh:=(AJ w).1,i:=0,pc:=7 } hR1 (Zc hS).symm ok1 rfl
     ·rw[if_neg (by rw[hg];decide)] at hS;exact back _ { S with used:=true } g1 { S.col with r:=r,p:=q + AF (AJ w).1,f:=q,sh:=(AJ w).1,i:=0 } hR1 (Zc hS).symm ok1 rfl
 rw[if_neg (ne_of_beq_false c6)] at hS;refine jeq (jif (λc7=>?_) (λc7=>?_))
 ·rw[if_pos (eq_of_beq c7)] at hS;obtain⟨q1,hq1,hS⟩:=AD hS;obtain⟨rfl,in1⟩:=B8 hq1;obtain⟨q2,hq2,hS⟩:=AD hS;obtain⟨rfl,in2⟩:=B8 hq2;obtain⟨⟨w,S1⟩,hrd,hS⟩:=AD hS;have e1:=Cn hrd;subst e1;dsimp only at hS;obtain⟨fr,hfr,hS⟩:=AD hS;refine jl (v:=I S.col.f) rfl (Cr in1 (jl (v:=I S.col.i) rfl (Cr in2 ?_)));refine jcS (p:=p) (by exact Cz hok hrd) λ_ R1 g1 hR1 hr ok1=>?_
  subst hr;refine jS (BF { S.col with v:=w } (.slice a S.col.AM.length cap)) ?_;refine jl (v:=I w) rfl ?_;refine jcS (p:=p) (by exact L4 ok1 hfr) λ_ R2 g2 hR2 hr ok2=>?_
  subst hr;refine jif (λhf=>?_) (λhf=>?_)
  ·rw[if_pos hf] at hS;refine jS (BF { S.col with v:=w,pc:=8 } (.slice a S.col.AM.length cap)) ?_;exact back _ { S with used:=true } g2 { S.col with v:=w,pc:=8 } (hR1.trans hR2) (Zc hS).symm ok2 rfl
  ·rw[if_neg (by rw[hf];decide)] at hS;obtain⟨x2,hx,hS⟩:=AD hS;have ex:x2.AM = S.col.AM:=by
    obtain⟨i1,_,h⟩:=AD hx;cases h;rfl
   refine jla (l:=BF { S.col with v:=w } (.slice a S.col.AM.length cap)) (by exact z_n 15) τ ?_;refine jp (KS (x:={ S.col with v:=w }) a S.col.AM.length cap hx) ?_;refine jS (BF x2 (.slice a S.col.AM.length cap)) ?_;exact back _ { S with used:=true } g2 x2 (hR1.trans hR2) (Zc hS).symm ok2 ex
 rw[if_neg (ne_of_beq_false c7)] at hS;refine jeq (jif (λc8=>?_) (λc8=>?_))
 ·rw[if_pos (eq_of_beq c8)] at hS;obtain⟨⟨w,S1⟩,hrd,hS⟩:=AD hS;have e1:=Cn hrd;subst e1;dsimp only at hS;refine jl (v:=I S.col.v) rfl ?_;refine jcS (p:=p) (by exact Cz hok hrd) λ_ R1 g1 hR1 hr ok1=>?_
  subst hr;refine jS (BF { S.col with word:=w } (.slice a S.col.AM.length cap)) ?_;refine jS (BF { S.col with word:=w,pc:=9 } (.slice a S.col.AM.length cap)) ?_;refine jl (v:=I w) rfl (jl (v:=I S.col.v) rfl (jeq (jif (λhf=>?_) (λhf=>?_))))
  ·rw[if_pos (eq_of_beq hf)] at hS;obtain⟨x2,hx,hS⟩:=AD hS;have ex:x2.AM = S.col.AM:=by
    obtain⟨i1,_,h⟩:=AD hx;cases h;rfl
   refine jla (l:=BF { S.col with word:=w,pc:=9 } (.slice a S.col.AM.length cap)) (by exact z_n 15) τ ?_;refine jp (KS (x:={ S.col with word:=w,pc:=9 }) a S.col.AM.length cap hx) ?_;refine jS (BF x2 (.slice a S.col.AM.length cap)) ?_;exact back _ { S with used:=true } g1 x2 hR1 (Zc hS).symm ok1 ex
  ·rw[if_neg (ne_of_beq_false hf)] at hS;exact back _ { S with used:=true } g1 { S.col with word:=w,pc:=9 } hR1 (Zc hS).symm ok1 rfl
 rw[if_neg (ne_of_beq_false c8)] at hS;refine jeq (jif (λc9=>?_) (λc9=>?_));rotate_left
 ·rw[if_neg (ne_of_beq_false c9)] at hS;exact BI ZH.symm (back _ S g S.col (RM.le.refl _) (Zc hS).symm hok rfl)
 rw[if_pos (eq_of_beq c9)] at hS;obtain⟨q1,hq1,hS⟩:=AD hS;obtain⟨rfl,in1⟩:=B8 hq1;obtain⟨q2,hq2,hS⟩:=AD hS;obtain⟨rfl,in2⟩:=B8 hq2;obtain⟨⟨w,S1⟩,hrd,hS⟩:=AD hS;have e1:=Cn hrd;subst e1;dsimp only at hS;obtain⟨S3,h3,hS⟩:=AD hS;obtain⟨x2,hx,hS⟩:=AD hS;have ex:x2.AM = S.col.AM:=by
  obtain⟨i1,_,h⟩:=AD hx;cases h;rfl
 refine AR (λvs R' D'=>R.le R'∧∃g2,Ok R' S3 g2∧D' = Ab p S3 g2 ++ (b,C BC (BF S.col (.slice a S.col.AM.length cap))) :: F∧vs = [Pt p,Pt b]) (λK3 hK3=>?_) ?_;rotate_left
 ·rintro e R2 D2 ⟨hR,g2,ok2,hD,he⟩;refine z_W ?_;refine jla (l:=BF S.col (.slice a S.col.AM.length cap)) (by exact z_n 15) τ ?_;refine jp (KS (x:=S.col) a S.col.AM.length cap hx) ?_;refine jS (BF x2 (.slice a S.col.AM.length cap)) ?_;exact back _ S3 g2 x2 hR (Zc hS).symm ok2 ex
 refine jl (v:=I S.col.f) rfl (Cr in1 (jl (v:=I S.col.i) rfl (Cr in2 (jl (v:=I S.col.v) rfl ?_))));refine jcS (p:=p) (by exact Cz hok hrd) λ_ R1 g1 hR1 hr ok1=>?_
 subst hr;refine jeq (Af (jl (v:=I S.col.v) rfl jev) (jif (λhw=>?_) (λhw=>?_)))
 ·rw[if_pos (eq_of_beq hw)] at h3;refine jl (v:=I S.col.f) rfl (Cr in1 (jl (v:=I S.col.i) rfl (Cr in2 (jl (v:=I S.col.word) rfl ?_))));refine jcS (p:=p) (by exact Db ok1 h3) λ_ R2 g2 hR2 hr ok2=>?_
  exact hK3 _ _ _ ⟨hR1.trans hR2,g2,ok2,rfl,rfl⟩
 ·rw[if_neg (ne_of_beq_false hw)] at h3;cases h3;exact hK3 _ _ _ ⟨hR1,g1,ok1,rfl,rfl⟩
theorem XK {p:Nat} {S S' : Sim} {g:Img} {R:RM} (hok:Ok R S g) (hS:S.work = some S') :
  Fn P LI [Pt p] R (Ab p S g) (D0 p S' λ_=>True):=by
 refine PW λF=>?_
 refine z_1 ?_;unfold Sim.work at hS;refine jan [Pt p] ((S.Ad == 1) && (S.col.pc == 1)) (λK' hK'=>?_) (λe c u ho he=>?_)
 ·refine jl (v:=I S.Ad) rfl (jeq (Bt (λh1=>?_) (λh1=>?_)))
  ·refine jl (v:=I S.col.pc) rfl (jeq (hK' _ _ _ (h1▸Ax) (by rw[h1,Z2])))
  ·exact hK' _ _ _ (h1▸BB) (by rw[h1,Z3])
 refine z_V ?_;rw[ho];refine jif (λhc=>?_) (λhc=>?_)
 ·rw[if_pos (by simpa using hc)] at hS;refine jcS (p:=p) (by exact Uf hok hS) λ_ R2 g2 hR2 hr ok2=>?_
  exact Ay hR2 trivial rfl ok2
 rw[if_neg (by intro h;simp[h.1,h.2] at hc)] at hS;refine jl (v:=I S.Ad) rfl (jeq (jif (λh1=>?_) (λh1=>?_)))
 ·rw[if_pos (eq_of_beq h1)] at hS;refine jcS (p:=p) (by exact T5 hok hS) λ_ R2 g2 hR2 hr ok2=>?_
  exact Ay hR2 trivial rfl ok2
 rw[if_neg (ne_of_beq_false h1)] at hS;refine jan [Pt p] ((S.Ad == 2) && (S.col.pc == 5)) (λK' hK'=>?_) (λe c u ho he=>?_)
 ·refine jl (v:=I S.Ad) rfl (jeq (Bt (λh1=>?_) (λh1=>?_)))
  ·refine jl (v:=I S.col.pc) rfl (jeq (hK' _ _ _ (h1▸Ax) (by rw[h1,Z2])))
  ·exact hK' _ _ _ (h1▸BB) (by rw[h1,Z3])
 refine z_V ?_;rw[ho];refine jif (λhc=>?_) (λhc=>?_)
 ·rw[if_pos (by simpa using hc)] at hS;refine jcS (p:=p) (by exact Wg hok hS) λ_ R2 g2 hR2 hr ok2=>?_
  exact Ay hR2 trivial rfl ok2
 rw[if_neg (by intro h;simp[h.1,h.2] at hc)] at hS;refine jl (v:=I S.Ad) rfl (jeq (jif (λh1=>?_) (λh1=>?_)))
 ·rw[if_pos (eq_of_beq h1)] at hS;refine jcS (p:=p) (by exact Vv hok hS) λ_ R2 g2 hR2 hr ok2=>?_
  exact Ay hR2 trivial rfl ok2
 ·rw[if_neg (ne_of_beq_false h1)] at hS;refine jcS (p:=p) (by exact VG hok hS) λ_ R2 g2 hR2 hr ok2=>?_
  exact Ay hR2 trivial rfl ok2
theorem XD {R:RM} {D G:Chs} {p b c:Nat} {S:Sim} {g:Img} {ms:List Bool} {sp:List Value} {m:M} [w:Fd D p S g G]
  (H:J R (Ab p { S with AK:=ms } { g with mb:=b,mc:=c,msp:=sp } ++ G) m) :
  J R ((b,C B7 (ms.map Value.bool ++ sp)) :: D) (ST 1 (.pointer (some ⟨p,6,none⟩)) (S0 b ms.length c) m):=by
 refine BI ((w.ex.cons _).trans ZH.symm) ?_;have e2:C0 { S with AK:=ms } { g with mb:=b,mc:=c,msp:=sp } = (C0 S g).set 6 (S0 b ms.length c):=by
  simp[C0,evV]
 refine js (D:=Ab p S g ++ (b,C B7 (ms.map Value.bool ++ sp)) :: G) (t:=Bg) (cs:=C0 S g) (cs':=C0 { S with AK:=ms } { g with mb:=b,mc:=c,msp:=sp })
  (D':=(p,C Bg (C0 { S with AK:=ms } { g with mb:=b,mc:=c,msp:=sp })) :: ((g.wb,C AX (S.AA.map I ++ g.wsp)) :: (g.tb,C AI (Ac eRg S.A0 ++ g.tsp)) :: (g.mb,C B7 (S.AK.map Value.bool ++ g.msp)) :: (g.hb,C AY (E3 S.th g.rv ++ g.hsp)) :: evD S g ++ (b,C B7 (ms.map Value.bool ++ sp)) :: G)) rfl rfl (by simp[C0]) (by rw[e2,show cl (S0 b ms.length c) = [S0 b ms.length c] from rfl,Gn (by simp[C0])]) ?_ (u:=?_)
 ·unfold Ab;exact inferInstance
 ·refine Aw ((p,C Bg (C0 { S with AK:=ms } { g with mb:=b,mc:=c,msp:=sp })) :: (g.wb,C AX (S.AA.map I ++ g.wsp)) :: (g.tb,C AI (Ac eRg S.A0 ++ g.tsp)) :: (b,C B7 (ms.map Value.bool ++ sp)) :: (g.hb,C AY (E3 S.th g.rv ++ g.hsp)) :: evD S g) (G:=G) ?_;exact H
theorem OA {p:Nat} {S:Sim} {g:Img} {R:RM} (hok:Ok R S g) :
  Fn P I8 [Pt p] R (Ab p S g) (D0 p { S with AK:=List.replicate S.AK.length false } λ_=>True):=by
 refine Mt λF=>?_
 refine z_1 ?_;have hml:=hok.ml;refine jl (v:=.slice (some ⟨g.mb,0,none⟩) S.AK.length g.mc) rfl (jln (jms ω ω ω λb=>?_));rw[Yj];have e:(List.replicate S.AK.length (cl z4)).flatten = (List.replicate S.AK.length false).map Value.bool ++ []:=by
  rw[ZN,List.map_replicate,show cl z4 = [Value.bool false] from rfl,aO]
 rw[e];have:=XD (p:=p) (R:=R) (D:=Ab p S g ++ F) (b:=b) (c:=S.AK.length) (ms:=List.replicate S.AK.length false) (sp:=[]) (m:=Ey R F (D0 p { S with AK:=List.replicate S.AK.length false } λ_=>True) (.tuple #[])) ?_
 ·rw[Yy] at this;exact this
 ·exact Ay (RM.le.refl _) trivial rfl (by exact { hok with ml:=by simpa using hok.ml,mk_:=by simp })
def Bk (f:Int→Rg→Rg) (k:Nat) (t:List Rg):List Rg:=t.mapIdx λi x=>if i = 0∨k≤i then x else f i x
theorem HX {f:Int→Rg→Rg} {t:List Rg}:Bk f 1 t = t:=by
 apply aM
 ·simp[Bk]
 ·intro i h1 h2;simp only[Bk,ap];rw[if_pos ω]
theorem HJ {f:Int→Rg→Rg} {t:List Rg} {k:Nat} (h:t.length≤k):Bk f k t = rows f t:=by
 apply aM
 ·simp[Bk,rows]
 ·intro i h1 h2;simp only[Bk,rows,ap];simp only[Bk,List.length_mapIdx] at h1;by_cases c:i = 0
  ·rw[if_pos (.inl c),if_pos c]
  ·rw[if_neg ω,if_neg c]
@[simp] theorem CS {f:Int→Rg→Rg} {t:List Rg} {k:Nat}:(Bk f k t).length = t.length:=by simp[Bk]
theorem HF {f:Int→Rg→Rg} {t:List Rg} {k:Nat} (h:k < t.length):(Bk f k t)[k]'(by simpa using h) = t[k]:=by
 simp only[Bk,ap];rw[if_pos (.inr (z_n k))]
theorem HM {f:Int→Rg→Rg} {t:List Rg} {k:Nat} (h1:1≤k) (h:k < t.length):(Bk f k t).set k (f k t[k]) = Bk f (k + 1) t:=by
 apply aM
 ·simp[Bk]
 ·intro i h2 h3;simp only[Bk,List.length_mapIdx] at h3;rw[List.getElem_set];simp only[Bk,ap];by_cases c:k = i
  ·subst c;rw[if_pos rfl,if_neg ω]
  ·rw[if_neg c];by_cases d:i = 0∨k≤i
   ·rw[if_pos d,if_pos ω]
   ·rw[if_neg d,if_neg ω]
theorem U9 {p:Nat} {S S' : Sim} {g:Img} {R:RM} (hok:Ok R S g) (hS:S.idle = some S') :
  Fn P LC [Pt p] R (Ab p S g) (D0 p S' λ_=>True):=by
 refine Pn λF=>?_
 refine z_1 ?_;unfold Sim.idle at hS;obtain⟨n,hn,hS⟩:=AD hS;obtain⟨rfl,hin⟩:=B8 hn;simp only[Yu] at hS;have htl:=hok.tl;refine jcS (p:=p) (by exact OA hok) λ_ R1 g1 hR1 hr ok1=>?_
 refine jss (p:=p) { S with AK:=List.replicate S.AK.length false,Ad:=0 } g1 rfl rfl δ τ τ ?_;refine jl (v:=.bool S.col.Ae) rfl ?_;refine jbd (cs:=BF (Cd S.col.Ae 0) (SN)) rfl rfl ?_;refine jss (p:=p) { S with AK:=List.replicate S.AK.length false,Ad:=0,col:=Cd S.col.Ae 0 } { g1 with AM:=SN } rfl rfl δ τ τ ?_;refine jl (v:=I S.Aj) rfl (Cr hin ?_);refine jss (p:=p) { S with AK:=List.replicate S.AK.length false,Ad:=0,col:=Cd S.col.Ae 0,Aj:=S.Aj + 1 } { g1 with AM:=SN } rfl rfl δ τ τ ?_;refine jlp (λm vs R' D'=>R' = R1∧∃k:Nat,1≤k∧k≤S.A0.length + 1∧D' = Ab p { S with AK:=List.replicate S.AK.length false,Ad:=0,col:=Cd S.col.Ae 0,Aj:=S.Aj + 1,A0:=Bk (λ_ x=>{ x with AO:=0 }) k S.A0 } { g1 with AM:=SN } ++ F∧vs = [Pt p,I k]∧m = S.A0.length + 1 - k)
  (n:=S.A0.length) ⟨rfl,1,z_n 1,ω,by rw[HX],rfl,ω⟩ ?_
 rintro m e R2 D2 K ⟨hR2,k,k0,k1,hD,he,hm⟩ hK;subst hR2;refine z_W ?_;refine jl (v:=.slice (some ⟨g1.tb,0,none⟩) (Bk (λ_ x=>{ x with AO:=0 }) k S.A0).length g1.tc) rfl (jln (jlt (jif (λhc=>?_) (λhc=>?_))))
 ·have hc:k < S.A0.length:=by have:=z_f hc;rw[CS] at this;omega
  refine jl (v:=.slice (some ⟨g1.tb,0,none⟩) (Bk (λ_ x=>{ x with AO:=0 }) k S.A0).length g1.tc) rfl (C5 (by rw[CS];exact hc) ?_);refine QH (p:=p) (g:={ g1 with AM:=SN }) (by simpa using hc) ?_;rw[show ({ S with AK:=List.replicate S.AK.length false,Ad:=0,col:=Cd S.col.Ae 0,Aj:=S.Aj + 1,A0:=Bk (λ_ x=>{ x with AO:=0 }) k S.A0 }:Sim).A0[k]'(by simpa using hc) = S.A0[k] from HF (f:=λ_ x=>{ x with AO:=0 }) hc];refine ja λb5=>?_
  refine js (cs':=eRg (S.A0[k])) rfl rfl σ rfl ?_;refine js (cs':=eRg { S.A0[k] with AO:=0 }) rfl rfl σ rfl ?_;refine jl (v:=.slice (some ⟨g1.tb,0,none⟩) (Bk (λ_ x=>{ x with AO:=0 }) k S.A0).length g1.tc) rfl ?_;refine jla (l:=eRg { S.A0[k] with AO:=0 }) σ rfl ?_;refine C5 (by rw[CS];exact hc) ?_;refine SZ (p:=p) (g:={ g1 with AM:=SN }) (x:={ S.A0[k] with AO:=0 }) { S with AK:=List.replicate S.AK.length false,Ad:=0,col:=Cd S.col.Ae 0,Aj:=S.Aj + 1,A0:=Bk (λ_ x=>{ x with AO:=0 }) (k + 1) S.A0 } (by simpa using hc) (by rw[← HM k0 hc]) ?_;refine jad ?_;refine Aw (Ab p { S with AK:=List.replicate S.AK.length false,Ad:=0,col:=Cd S.col.Ae 0,Aj:=S.Aj + 1,A0:=Bk (λ_ x=>{ x with AO:=0 }) (k + 1) S.A0 } { g1 with AM:=SN }) (G:=F) ?_;exact hK (S.A0.length + 1 - (k + 1)) _ _ _ ω ⟨rfl,k + 1,ω,ω,rfl,rfl,rfl⟩
 ·have hc:S.A0.length≤k:=by have:=z_g hc;rw[CS] at this;omega
  subst hS;refine Ay hR1 trivial (by rw[HJ hc]) ?_;exact { ok1 with AM:=.inl ⟨rfl,rfl,rfl⟩,tl:=by simpa [rows] using hok.tl,tk:=by simpa [rows] using ok1.tk,ml:=by simpa using hok.ml,mk_:=by simpa using ok1.mk_ }
end Go.Lf
end
