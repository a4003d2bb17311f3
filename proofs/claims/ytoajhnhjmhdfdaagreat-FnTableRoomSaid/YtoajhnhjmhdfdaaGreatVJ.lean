/- A part of the proof of the given row: the walk of the law and of all that it calls. Conditions: none. -/
import Derived.Test.YtoajhnhjmhdfdaaGreatVI
set_option linter.unusedVariables false
set_option linter.unusedSimpArgs false
section
namespace Go.Lf
open Go Sm
theorem jrp {f:Nat} {args:List Value} {v:Value} {R:RM} {D:Chs} {k:Value→M} (hF:Ro f args v R []) (H:J R D (k v)):J R D (CA P f args k):=by
 intro h hs
 refine CA_mono ?_ (hF D h hs)
 rintro v' h' ⟨R',A',h1,h2,rfl,rfl⟩
 exact H h' (h2.le h1)
theorem jfo {R:RM} {D:Chs} {o b off:Nat} {k:Value→M} (H:J R D (k (.pointer (some ⟨b,off + o,none⟩)))):J R D (FO o (.pointer (some ⟨b,off,none⟩)) k):=H
theorem p_OpOk (o:Sm.Op):Pu F_s_OpOk [.agg (eOp o).toArray] (.bool (opOk o)):=by
 intro R
 refine s_s_OpOk λF=>?_
 unfold c_s_OpOk
 refine ja λb=>?_
 have e0:cl (.agg (eOp o).toArray) = eOp o:=rfl
 rw[e0]
 refine jan [.pointer (some ⟨b,0,none⟩)] ((decide (o.kind≥1)) && (decide (o.kind≤11))) (λK' hK'=>?_) (λe c u ho he=>?_)
 ·refine jl rfl (jge (jgtt (λh1=>?_) (λh1=>?_)))
  ·refine jl rfl (jle (hK' _ _ _ (h1▸and2_t) (by rw[h1,Bool.true_and])))
  ·exact hK' _ _ _ (h1▸and2_f) (by rw[h1,Bool.false_and])
 simp only[List.map,lc,ln,lj,z_t] at he
 simp only[he]
 refine jan [] ((decide (o.kind≥1) && decide (o.kind≤11)) && (o.kind != 1 || shapeOk o.sh)) (λK' hK'=>?_) (λe c u ho he=>?_)
 ·rw[ho]
  refine jgtt (λh1=>?_) (λh1=>?_)
  ·refine jl rfl (jne (jgtf (λh2=>?_) (λh2=>?_)))
   ·refine jfo (jla (l:=[I o.sh.refs,I o.sh.nums]) (by exact z_n 8) (by rfl) ?_)
    refine jp (p_ShapeOk o.sh) ?_
    rw[h2]
    exact jpkf (hK' _ _ _ (h1▸and2_t) (by rw[h1,h2,Bool.true_and,Bool.false_or]))
   ·rw[h2]
    exact jpkt (hK' _ _ _ (h1▸and2_t) (by rw[h1,h2,Bool.true_and,Bool.true_or]))
  ·exact hK' _ _ _ (h1▸and2_f) (by rw[h1,Bool.false_and])
 simp only[List.map,lc,ln,lj,z_t] at he
 simp only[he]
 rw[ho]
 refine jret (A:=[]) (RM.le.refl _) ?_
 congr 1
theorem p_l5Fields (k:Int):Pu F_s_l5Fields [I k] (.bool (fieldsOp k)):=by
 intro R
 refine s_s_l5Fields λF=>?_
 unfold c_s_l5Fields
 refine jor [I k] ((k == 2) || (k == 3)) (λK' hK'=>?_) (λe c u ho he=>?_)
 ·refine jeq (jgtf (λh1=>?_) (λh1=>?_))
  ·refine jeq (hK' _ _ _ (h1▸or2_f) (by rw[h1,Bool.false_or]))
  ·exact hK' _ _ _ (h1▸or2_t) (by rw[h1,Bool.true_or])
 simp only[List.map,lc,ln,lj,z_t] at he
 simp only[he]
 refine jor [I k] (((k == 2) || (k == 3)) || (k == 4)) (λK' hK'=>?_) (λe c u ho he=>?_)
 ·rw[ho]
  refine jgtf (λh1=>?_) (λh1=>?_)
  ·refine jeq (hK' _ _ _ (h1▸or2_f) (by rw[h1,Bool.false_or]))
  ·exact hK' _ _ _ (h1▸or2_t) (by rw[h1,Bool.true_or])
 simp only[List.map,lc,ln,lj,z_t] at he
 simp only[he]
 refine jor [I k] ((((k == 2) || (k == 3)) || (k == 4)) || (k == 5)) (λK' hK'=>?_) (λe c u ho he=>?_)
 ·rw[ho]
  refine jgtf (λh1=>?_) (λh1=>?_)
  ·refine jeq (hK' _ _ _ (h1▸or2_f) (by rw[h1,Bool.false_or]))
  ·exact hK' _ _ _ (h1▸or2_t) (by rw[h1,Bool.true_or])
 simp only[List.map,lc,ln,lj,z_t] at he
 simp only[he]
 refine jor [] (((((k == 2) || (k == 3)) || (k == 4)) || (k == 5)) || (k == 7)) (λK' hK'=>?_) (λe c u ho he=>?_)
 ·rw[ho]
  refine jgtf (λh1=>?_) (λh1=>?_)
  ·refine jeq (hK' _ _ _ (h1▸or2_f) (by rw[h1,Bool.false_or]))
  ·exact hK' _ _ _ (h1▸or2_t) (by rw[h1,Bool.true_or])
 simp only[List.map,lc,ln,lj,z_t] at he
 simp only[he]
 rw[ho]
 exact jret (A:=[]) (RM.le.refl _) rfl
theorem p_l5One (b:Bool):Pu F_s_l5One [.bool b] (I (Sm.one b)):=by
 intro R
 refine s_s_l5One λF=>?_
 unfold c_s_l5One
 cases b
 ·exact jiff (jret (A:=[]) (RM.le.refl _) rfl)
 ·exact jift (jret (A:=[]) (RM.le.refl _) rfl)
theorem p_l5Field (o:Sm.Op) (refs nums:Int):Pu F_s_l5Field [.agg (eOp o).toArray,I refs,I nums] (.bool (l5Field o refs nums)):=by
 intro R
 refine s_s_l5Field λF=>?_
 unfold c_s_l5Field
 refine ja λb=>?_
 have e0:cl (.agg (eOp o).toArray) = eOp o:=rfl
 rw[e0]
 refine jor [I refs,I nums,.pointer (some ⟨b,0,none⟩)] ((o.kind == 4) || (o.kind == 5)) (λK' hK'=>?_) (λe c u ho he=>?_)
 ·refine jl rfl (jeq (jgtf (λh1=>?_) (λh1=>?_)))
  ·refine jl rfl (jeq (hK' _ _ _ (h1▸or2_f) (by rw[h1,Bool.false_or])))
  ·exact hK' _ _ _ (h1▸or2_t) (by rw[h1,Bool.true_or])
 simp only[List.map,lc,ln,lj,z_t] at he
 simp only[he]
 rw[ho]
 refine jif (λh0=>?_) (λh0=>?_)
 ·refine jan [] ((decide (o.f≥0)) && (decide (o.f < nums))) (λK' hK'=>?_) (λe c u ho he=>?_)
  ·refine jl rfl (jge (jgtt (λh1=>?_) (λh1=>?_)))
   ·refine jl rfl (jlt (hK' _ _ _ (h1▸and2_t) (by rw[h1,Bool.true_and])))
   ·exact hK' _ _ _ (h1▸and2_f) (by rw[h1,Bool.false_and])
  simp only[List.map,lc,ln,lj,z_t] at he
  simp only[he]
  rw[ho]
  refine jret (A:=[]) (RM.le.refl _) ?_
  unfold l5Field;rw[if_pos h0]
 ·refine jan [] ((decide (o.f≥0)) && (decide (o.f < refs))) (λK' hK'=>?_) (λe c u ho he=>?_)
  ·refine jl rfl (jge (jgtt (λh1=>?_) (λh1=>?_)))
   ·refine jl rfl (jlt (hK' _ _ _ (h1▸and2_t) (by rw[h1,Bool.true_and])))
   ·exact hK' _ _ _ (h1▸and2_f) (by rw[h1,Bool.false_and])
  simp only[List.map,lc,ln,lj,z_t] at he
  simp only[he]
  rw[ho]
  refine jret (A:=[]) (RM.le.refl _) ?_
  unfold l5Field;rw[if_neg (by rw[h0];decide)]
end Go.Lf
end
section
namespace Go.Lf
open Go Sm
theorem jfz1 {R:RM} {D:Chs} {v:Value} {l:List Int} {i:Int} {k:Value→M} (h:Ints R v l) (h0:0≤i) (h1:i < l.length) (H:J R D (k (I (l[i.toNat]'(by omega))))):J R D (IA 1 v (I i) λx=>L1 x k):=by
 rcases h with ⟨_,h2,_⟩ | ⟨b,o,cap,t,cs,rfl,h2,h3,h4,h5⟩
 ·omega
 ·refine jia h0 h1 (jlr h2 ?_ H)
  have:=congrArg (λl=>l[i.toNat]?) h4
  simp only[List.getElem?_take,List.getElem?_drop,List.getElem?_map] at this
  rw[if_pos (by omega),List.getElem?_eq_getElem (by omega:i.toNat < l.length)] at this
  rw[Nat.mul_one,this];rfl
theorem jlnz {R:RM} {D:Chs} {v:Value} {w n:Nat} {cells:List Value} {k:Value→M} (h:Fz R v w n cells) (H:J R D (k (I n))):J R D (LN v k):=by
 rcases h with ⟨rfl,rfl,_⟩ | ⟨b,o,cap,t,cs,rfl,_⟩<;>exact H
theorem r_l5Begin {R:RM} {rv:Value} {roots:List Int} (o:Sm.Op) (nn:Int) (h:Ints R rv roots):Ro F_s_l5Begin [.agg (eOp o).toArray,rv,I nn] (I (l5Begin o roots nn)) R []:=by
 refine s_s_l5Begin λF=>?_
 unfold c_s_l5Begin
 refine ja λb=>?_
 have e0:cl (.agg (eOp o).toArray) = eOp o:=rfl
 rw[e0]
 refine jlnz h ?_
 refine jan [rv,I nn,.pointer (some ⟨b,0,none⟩),I roots.length] ((decide (o.a≥0)) && (decide (o.a < roots.length))) (λK' hK'=>?_) (λe c u ho he=>?_)
 ·refine jl rfl (jge (jgtt (λh1=>?_) (λh1=>?_)))
  ·refine jl rfl (jlt (hK' _ _ _ (h1▸and2_t) (by rw[h1,Bool.true_and])))
  ·exact hK' _ _ _ (h1▸and2_f) (by rw[h1,Bool.false_and])
 simp only[List.map,lc,ln,lj,z_t] at he
 simp only[he]
 rw[ho]
 refine jan [rv,I nn,.pointer (some ⟨b,0,none⟩),I roots.length,.bool (hnd roots.length o.a)] ((decide (o.b≥0)) && (decide (o.b < roots.length))) (λK' hK'=>?_) (λe c u ho he=>?_)
 ·refine jl rfl (jge (jgtt (λh1=>?_) (λh1=>?_)))
  ·refine jl rfl (jlt (hK' _ _ _ (h1▸and2_t) (by rw[h1,Bool.true_and])))
  ·exact hK' _ _ _ (h1▸and2_f) (by rw[h1,Bool.false_and])
 simp only[List.map,lc,ln,lj,z_t] at he
 simp only[he]
 rw[ho]
 refine jan [rv,I nn,.pointer (some ⟨b,0,none⟩),I roots.length,.bool (hnd roots.length o.a),.bool (hnd roots.length o.b)] ((decide (o.c≥0)) && (decide (o.c < roots.length))) (λK' hK'=>?_) (λe c u ho he=>?_)
 ·refine jl rfl (jge (jgtt (λh1=>?_) (λh1=>?_)))
  ·refine jl rfl (jlt (hK' _ _ _ (h1▸and2_t) (by rw[h1,Bool.true_and])))
  ·exact hK' _ _ _ (h1▸and2_f) (by rw[h1,Bool.false_and])
 simp only[List.map,lc,ln,lj,z_t] at he
 simp only[he]
 rw[ho]
 have fin:∀v,v = l5Begin o roots nn→J R ((b,C 99 (eOp o)) :: ([] ++ F)) (POST R F (λv' x A=>v' = I (l5Begin o roots nn)∧A = []) (I v)):=λv hv=>ro_ret (by rw[hv])
 have hA:∃A B Cc:Bool,A = (o.kind == 1 || (if o.kind == 8 then decide (0 < roots.length) else hnd roots.length o.a))∧B = (o.kind == 1 || o.kind == 8 || o.kind == 2 || o.kind == 4 || o.kind == 5 || o.kind == 9 || o.kind == 10 || o.kind == 11 || hnd roots.length o.b)∧Cc = (!(o.kind == 7) && (decide (1≤o.kind) && decide (o.kind≤11)) || hnd roots.length o.c):=⟨_,_,_,rfl,rfl,rfl⟩
 obtain⟨A,B,Cc,eA,eB,eC⟩:=hA
 refine jsame [rv,I nn,.pointer (some ⟨b,0,none⟩),I roots.length,.bool A,.bool B,.bool Cc] (λK1 hK1=>?_) (λe he=>?_)
 ·refine jl rfl ?_
  refine jsame [rv,I nn,.pointer (some ⟨b,0,none⟩),I roots.length,.bool A,.bool B,.bool Cc] (λK2 hK2=>?_) (λe he=>?_)
  rotate_left
  ·simp only[List.map,lc,ln,lj,z_t] at he
   simp only[he]
   exact hK1
  have leaf:∀x y z:Bool,x = A→y = B→z = Cc→J R ((b,C 99 (eOp o)) :: ([] ++ F)) (K2 [rv,I nn,.pointer (some ⟨b,0,none⟩),I roots.length,.bool x,.bool y,.bool z]):=by
   rintro x y z rfl rfl rfl;exact hK2
  refine jeq (jif (λk1=>?_) (λk1=>?_))
  ·have k1:=eq_of_beq k1
   refine leaf _ _ _ ?_ ?_ ?_<;>simp[eA,eB,eC,k1]
  have k1:o.kind≠1:=by simpa using k1
  refine jeq (jif (λk8=>?_) (λk8=>?_))
  ·have k8:=eq_of_beq k8
   refine jgr (leaf _ _ _ ?_ ?_ ?_)<;>simp[eA,eB,eC,k8]
  have k8:o.kind≠8:=by simpa using k8
  refine jcutq (λvs R' D'=>R' = R∧D' = (b,C 99 (eOp o)) :: ([] ++ F)∧∃v:Bool,vs = [rv,I nn,.pointer (some ⟨b,0,none⟩),I roots.length,.bool (hnd roots.length o.a),.bool (hnd roots.length o.b),.bool (hnd roots.length o.c),I o.kind,.bool v]∧(v = true↔o.kind = 2∨o.kind = 4∨o.kind = 5∨o.kind = 9∨o.kind = 10∨o.kind = 11)) (λK3 hK3=>?_) ?_
  ·refine jeq (jif (λh=>hK3 _ _ _ ⟨rfl,rfl,_,rfl,?_⟩) (λn2=>?_))
   ·rw[h];simp[eq_of_beq h]
   refine jeq (jif (λh=>hK3 _ _ _ ⟨rfl,rfl,_,rfl,?_⟩) (λn4=>?_))
   ·rw[h];simp[eq_of_beq h]
   refine jeq (jif (λh=>hK3 _ _ _ ⟨rfl,rfl,_,rfl,?_⟩) (λn5=>?_))
   ·rw[h];simp[eq_of_beq h]
   refine jeq (jif (λh=>hK3 _ _ _ ⟨rfl,rfl,_,rfl,?_⟩) (λn9=>?_))
   ·rw[h];simp[eq_of_beq h]
   refine jeq (jif (λh=>hK3 _ _ _ ⟨rfl,rfl,_,rfl,?_⟩) (λn10=>?_))
   ·rw[h];simp[eq_of_beq h]
   refine jeq (hK3 _ _ _ ⟨rfl,rfl,_,rfl,?_⟩)
   simp only[beq_eq_false_iff_ne,ne_eq] at n2 n4 n5 n9 n10
   simp[n2,n4,n5,n9,n10]
  ·rintro e R3 _ ⟨rfl,rfl,v,he,hv⟩
   simp only[List.map,lc,ln,lj,z_t] at he
   simp only[he]
   refine jif (λhvt=>?_) (λhvf=>?_)
   ·have hk:=hv.1 hvt
    refine leaf _ _ _ ?_ ?_ ?_
    ·simp[eA,k1,k8]
    ·rw[eB];rcases hk with h | h | h | h | h | h<;>simp[h]
    ·rw[eC];rcases hk with h | h | h | h | h | h<;>simp[h]
   ·have hk:¬ (o.kind = 2∨o.kind = 4∨o.kind = 5∨o.kind = 9∨o.kind = 10∨o.kind = 11):=λh=>by rw[hv.2 h] at hvf;cases hvf
    simp only[not_or] at hk
    obtain⟨q2,q4,q5,q9,q10,q11⟩:=hk
    refine jcutq (λvs R2 D2=>R2 = R3∧D2 = (b,C 99 (eOp o)) :: ([] ++ F)∧∃v:Bool,vs = [rv,I nn,.pointer (some ⟨b,0,none⟩),I roots.length,.bool (hnd roots.length o.a),.bool (hnd roots.length o.b),.bool (hnd roots.length o.c),.bool v]∧(v = true↔o.kind = 3∨o.kind = 6)) (λK3 hK3=>?_) ?_
    ·refine jeq (jif (λh=>hK3 _ _ _ ⟨rfl,rfl,_,rfl,?_⟩) (λn3=>?_))
     ·rw[h];simp[eq_of_beq h]
     refine jeq (hK3 _ _ _ ⟨rfl,rfl,_,rfl,?_⟩)
     simp only[beq_eq_false_iff_ne,ne_eq] at n3
     simp[n3]
    ·rintro e _ _ ⟨rfl,rfl,v,he,hv⟩
     simp only[List.map,lc,ln,lj,z_t] at he
     simp only[he]
     refine jif (λhvt=>?_) (λhvf=>?_)
     ·refine leaf _ _ _ ?_ ?_ ?_
      ·simp[eA,k1,k8]
      ·rw[eB];rcases hv.1 hvt with h | h<;>simp[h]
      ·rw[eC];rcases hv.1 hvt with h | h<;>simp[h]
     ·have hk:¬ (o.kind = 3∨o.kind = 6):=λh=>by rw[hv.2 h] at hvf;cases hvf
      rw[not_or] at hk
      refine leaf _ _ _ ?_ ?_ ?_
      ·simp[eA,k1,k8]
      ·simp[eB,k1,k8,q2,q4,q5,q9,q10,q11]
      ·rw[eC]
       by_cases q7:o.kind = 7
       ·simp[q7]
       ·have:(decide (1≤o.kind) && decide (o.kind≤11)) = false:=by
         rw[Bool.and_eq_false_iff,decide_eq_false_iff_not,decide_eq_false_iff_not];omega
        simp[this]
 simp only[List.map,lc,ln,lj,z_t] at he
 simp only[he]
 refine jor [rv,I nn,.pointer (some ⟨b,0,none⟩),I roots.length,.bool Cc] ((!A) || (!B)) (λK' hK'=>?_) (λe c u ho he=>?_)
 ·refine id (jgtf (λh1=>?_) (λh1=>?_))
  ·refine id (hK' _ _ _ (h1▸or2_f) (by rw[h1,Bool.false_or]))
  ·exact hK' _ _ _ (h1▸or2_t) (by rw[h1,Bool.true_or])
 simp only[List.map,lc,ln,lj,z_t] at he
 simp only[he]
 refine jor [rv,I nn,.pointer (some ⟨b,0,none⟩),I roots.length] ((!A || !B) || (!Cc)) (λK' hK'=>?_) (λe c u ho he=>?_)
 ·rw[ho]
  refine jgtf (λh1=>?_) (λh1=>?_)
  ·refine id (hK' _ _ _ (h1▸or2_f) (by rw[h1,Bool.false_or]))
  ·exact hK' _ _ _ (h1▸or2_t) (by rw[h1,Bool.true_or])
 simp only[List.map,lc,ln,lj,z_t] at he
 simp only[he]
 rw[ho]
 have fa:¬ ((!A || !B) || !Cc) = true→o.kind≠1→o.kind≠8→0≤o.a∧o.a < roots.length:=λhh k1 k8=>by
  have:A = true:=by
   cases A
   ·simp at hh
   ·rfl
  rw[this] at eA
  simp[k1,k8,hnd] at eA
  exact eA
 have base:l5Begin o roots nn = if (!A || !B || !Cc) = true then 2 else if ((fieldsOp o.kind || o.kind == 10 || o.kind == 11) && (idx roots o.a).getD 0 == nn) = true then 3 else if ((o.kind == 1 || o.kind == 2 || o.kind == 9) && roots.length == 8) = true then 5 else 0:=by
  unfold l5Begin
  rw[eA,eB,eC]
 refine jif (λh0=>fin _ (by rw[base,if_pos h0])) (λh0=>?_)
 have h0' : ¬ ((!A || !B) || !Cc) = true:=by rw[h0];decide
 rw[if_neg h0'] at base
 have k18:∀x:Bool,x = (fieldsOp o.kind || o.kind == 10 || o.kind == 11)→x = true→o.kind≠1∧o.kind≠8:=λx hx hx2=>by
  rw[hx2] at hx
  constructor<;>intro hk<;>rw[hk] at hx<;>simp[fieldsOp] at hx
 refine jor [rv,I nn,.pointer (some ⟨b,0,none⟩),I roots.length] (fieldsOp o.kind || o.kind == 10) (λK' hK'=>?_) (λe c u ho he=>?_)
 ·refine jl rfl (jp (p_l5Fields o.kind) (jgtf (λh1=>?_) (λh1=>?_)))
  ·exact jl rfl (jeq (hK' _ _ _ (h1▸or2_f) (by rw[h1,Bool.false_or])))
  ·exact hK' _ _ _ (h1▸or2_t) (by rw[h1,Bool.true_or])
 simp only[List.map,lc,ln,lj,z_t] at he
 simp only[he]
 refine jor [rv,I nn,.pointer (some ⟨b,0,none⟩),I roots.length] ((fieldsOp o.kind || o.kind == 10) || (o.kind == 11)) (λK' hK'=>?_) (λe c u ho he=>?_)
 ·rw[ho]
  refine jgtf (λh1=>?_) (λh1=>?_)
  ·refine jl rfl (jeq (hK' _ _ _ (h1▸or2_f) (by rw[h1,Bool.false_or])))
  ·exact hK' _ _ _ (h1▸or2_t) (by rw[h1,Bool.true_or])
 simp only[List.map,lc,ln,lj,z_t] at he
 simp only[he]
 refine jan [.pointer (some ⟨b,0,none⟩),I roots.length] ((fieldsOp o.kind || o.kind == 10 || o.kind == 11) && (idx roots o.a).getD 0 == nn) (λK' hK'=>?_) (λe c u ho he=>?_)
 ·rw[ho]
  refine jgtt (λh1=>?_) (λh1=>?_)
  ·obtain⟨n1,n8⟩:=k18 _ rfl h1
   obtain⟨a0,a1⟩:=fa h0' n1 n8
   refine jl rfl (jfz1 h a0 a1 (jeq (hK' _ _ _ (h1▸and2_t) ?_)))
   rw[h1,Bool.true_and]
   have:idx roots o.a = some (roots[o.a.toNat]'(by omega)):=by unfold idx;rw[if_pos a0,List.getElem?_eq_getElem]
   rw[this];rfl
  ·exact hK' _ _ _ (h1▸and2_f) (by rw[h1,Bool.false_and])
 simp only[List.map,lc,ln,lj,z_t] at he
 simp only[he]
 rw[ho]
 refine jif (λh3=>fin _ (by rw[base,if_pos h3])) (λh3=>?_)
 rw[if_neg (by rw[h3];decide)] at base
 refine jor [.pointer (some ⟨b,0,none⟩),I roots.length] ((o.kind == 1) || (o.kind == 2)) (λK' hK'=>?_) (λe c u ho he=>?_)
 ·refine jl rfl (jeq (jgtf (λh1=>?_) (λh1=>?_)))
  ·refine jl rfl (jeq (hK' _ _ _ (h1▸or2_f) (by rw[h1,Bool.false_or])))
  ·exact hK' _ _ _ (h1▸or2_t) (by rw[h1,Bool.true_or])
 simp only[List.map,lc,ln,lj,z_t] at he
 simp only[he]
 refine jor [I roots.length] ((o.kind == 1 || o.kind == 2) || (o.kind == 9)) (λK' hK'=>?_) (λe c u ho he=>?_)
 ·rw[ho]
  refine jgtf (λh1=>?_) (λh1=>?_)
  ·refine jl rfl (jeq (hK' _ _ _ (h1▸or2_f) (by rw[h1,Bool.false_or])))
  ·exact hK' _ _ _ (h1▸or2_t) (by rw[h1,Bool.true_or])
 simp only[List.map,lc,ln,lj,z_t] at he
 simp only[he]
 refine jan [] (((o.kind == 1 || o.kind == 2) || o.kind == 9) && (roots.length:Int) == 8) (λK' hK'=>?_) (λe c u ho he=>?_)
 ·rw[ho]
  refine jgtt (λh1=>?_) (λh1=>?_)
  ·exact jeq (hK' _ _ _ (h1▸and2_t) (by rw[h1,Bool.true_and]))
  ·exact hK' _ _ _ (h1▸and2_f) (by rw[h1,Bool.false_and])
 simp only[List.map,lc,ln,lj,z_t] at he
 simp only[he]
 rw[ho]
 have e8:((roots.length:Int) == 8) = (roots.length == 8):=by rw[Bool.eq_iff_iff];simp;omega
 rw[e8]
 refine jif (λh5=>fin _ (by rw[base,if_pos h5])) (λh5=>fin _ (by rw[base,if_neg (by rw[h5];decide)]))
end Go.Lf
end
section
namespace Go.Lf
open Go Sm
theorem jslh {R:RM} {D:Chs} {v:Value} {l:List Int} {u:Int} {k:Value→M} (h:Ints R v l) (h0:0≤u) (h1:u≤l.length) (H:∀v',Ints R v' (l.take u.toNat)→J R D (k v')):J R D (SL 1 v none (some (I u)) k):=by
 rcases h with ⟨rfl,h2,_⟩ | ⟨b,o,cap,t,cs,rfl,h2,h3,h4,h5⟩
 ·intro h' hs
  refine⟨⟨h0,by omega⟩,H _ ?_ h' hs⟩
  have:l = []:=List.length_eq_zero_iff.1 h2
  subst this
  have:u = 0:=by simp at h1;omega
  subst this
  exact .inl ⟨rfl,by simp,by simp⟩
 ·intro h' hs
  refine⟨⟨h0,by omega⟩,H _ ?_ h' hs⟩
  refine .inr ⟨b,o,cap,t,cs,?_,h2,?_,?_,?_⟩
  ·simp only[List.length_take];congr 1;omega
  ·simp only[List.length_take];omega
  ·simp only[List.length_take]
   rw[List.map_take,← h4,List.take_take];congr 1;omega
  ·simp only[List.length_take];omega
theorem jsll {R:RM} {D:Chs} {v:Value} {l:List Int} {u:Int} {k:Value→M} (h:Ints R v l) (h0:0≤u) (h1:u≤l.length) (H:∀v',Ints R v' (l.drop u.toNat)→J R D (k v')):J R D (SL 1 v (some (I u)) none k):=by
 rcases h with ⟨rfl,h2,_⟩ | ⟨b,o,cap,t,cs,rfl,h2,h3,h4,h5⟩
 ·intro h' hs
  refine⟨⟨h0,by omega,by omega⟩,H _ ?_ h' hs⟩
  have:l = []:=List.length_eq_zero_iff.1 h2
  subst this
  have:u = 0:=by simp at h1;omega
  subst this
  exact .inl ⟨rfl,by simp,by simp⟩
 ·intro h' hs
  refine⟨⟨h0,h1,by omega⟩,H _ ?_ h' hs⟩
  by_cases c:cap = u.toNat
  ·have hl:l.length = u.toNat:=by omega
   refine .inr ⟨b,o,cap - u.toNat,t,cs,?_,h2,?_,?_,?_⟩
   ·rw[if_pos c];simp
   ·simp[hl];omega
   ·simp[hl]
   ·simp[hl]
  ·refine .inr ⟨b,o + u.toNat * 1,cap - u.toNat,t,cs,?_,h2,?_,?_,?_⟩
   ·rw[if_neg c];simp
   ·simp only[List.length_drop];omega
   ·simp only[List.length_drop]
    rw[List.map_drop,← h4,List.drop_take,List.drop_drop]
    congr 1
    ·omega
    ·congr 1;omega
   ·simp only[List.length_drop];omega
theorem japl {R:RM} {D E:Chs} {l l2:List Int} {b c cx m:Nat} {sp:List Value} {xa:Option Addr} {k:Value→M} [tk:Tk D b (C T_int (l.map I ++ sp)) E] (hm:m = l2.length) (hc:l.length≤c) (hsp:sp.length = c - l.length) (hl:l.length + l2.length < 2000000) (hx:Reads R D xa (m * 1) (l2.map I))
  (H:∀b' c' sp',(l ++ l2).length≤c'→sp'.length = c' - (l ++ l2).length→J R ((b',C T_int ((l ++ l2).map I ++ sp')) :: E) (k (.slice (some ⟨b',0,none⟩) (l ++ l2).length c'))) :
  J R D (AP T_int 1 8 [I 0] (.slice (some ⟨b,0,none⟩) l.length c) (.slice xa m cx) k):=by
 subst hm
 have hfl:allFlat (l2.map I) = true:=by
  unfold allFlat;rw[List.all_eq_true];intro x hx;obtain⟨y,_,rfl⟩:=List.mem_map.1 hx;rfl
 refine japh (tk:=tk) hx (by simp;omega) hc (by simp) hfl (by decide) (by omega) (λh=>?_) (λb' c' h=>?_)
 ·have el:lay (l.map I ++ sp) (l.length * 1) (l2.map I) = (l ++ l2).map I ++ sp.drop l2.length:=by
   rw[lay_app (by simp)];simp[lay]
  rw[el]
  have:=H b c (sp.drop l2.length) (by simpa using h) (by simp;omega)
  simpa using this
 ·refine jperm (tk.p.cons _) (jperm (List.Perm.swap _ _ _) (jdrop ?_))
  have:=H b' c' (List.replicate (c' - (l.length + l2.length)) [I 0]).flatten (by simpa using h) (by rw[flat_len (w:=1) (by intro x hx;rw[(List.mem_replicate.1 hx).2];rfl)];simp)
  rw[List.take_append_of_le_length (by simp),List.take_of_length_le (by simp)]
  simpa using this
theorem Ints.reads {R:RM} {D:Chs} {v:Value} {l:List Int} (h:Ints R v l):∃a cap,v = .slice a l.length cap∧Reads R D a (l.length * 1) (l.map I):=Fz.reads h
def QPins (r:Option (List Int)) (v:Value) (A:Chs):Prop:=match r with
 | none=>v = .tuple #[.slice none 0 0,.bool false]∧A = []
 | some l=>∃sv,OwnI l sv A∧v = .tuple #[sv,.bool true]
theorem lastIdx_some {l:List Int} {a:Int}:∀{n k:Nat},lastIdx l a n = some k→l[k]? = some a∧k < n∧∀j,k < j→j < n→l[j]?≠some a:=by
 intro n;induction n with
 | zero=>intro k h;cases h
 | succ n ih=>
  intro k h
  simp only[lastIdx] at h
  split at h
  ·cases h;exact⟨by assumption,by omega,λj h1 h2=>by omega⟩
  ·rename_i hn
   obtain⟨h1,h2,h3⟩:=ih h
   refine⟨h1,by omega,λj h4 h5=>?_⟩
   by_cases c:j = n
   ·subst c;exact hn
   ·exact h3 j h4 (by omega)
theorem t_l5Pins {R:RM} {v:Value} {pins:List Int} (kind a:Int) (h:Ints R v pins) (hl:pins.length < 1000000):Fn P F_s_l5Pins [v,I kind,I a] R [] (λv' _ A=>QPins (l5Pins pins kind a) v' A):=by
 refine s_s_l5Pins λF=>?_
 unfold c_s_l5Pins
 refine jeq (jif (λhk=>?_) (λhk=>?_))
 ·refine jlnz h (jeq (jif (λh8=>?_) (λh8=>?_)))
  ·refine jret (A:=[]) (RM.le.refl _) ?_
   have h8:pins.length = 8:=by have:=eq_of_beq h8;omega
   unfold l5Pins;rw[if_pos hk,if_pos h8];exact⟨rfl,rfl⟩
  ·have h8:pins.length≠8:=by have:=ne_of_beq_false h8;omega
   refine jc (A:=[]) (t_l5Ints h (by omega)) ?_
   rintro _ R' _ hR ⟨b,c,sp,hc,hsp,rfl,rfl⟩
   refine jbs (cs:=[I a]) rfl rfl λb1=>?_
   refine jap1 (v:=a) hc hsp (by omega) (Reads.held (t:=T_int) (cs:=[I a]) (o:=0) (n:=1 * 1) (z_n 1)) λb' c' sp' hc' hsp'=>?_
   refine jret (A:=[(b',C T_int ((pins ++ [a]).map I ++ sp'))]) hR ?_
   unfold l5Pins;rw[if_pos hk,if_neg h8]
   exact⟨.slice (some ⟨b',0,none⟩) (pins.length + 1) c',⟨b',c',sp',by simpa using hc',by simpa using hsp',by simp,rfl⟩,rfl⟩
 ·refine jcutq (λvs R' D'=>R' = R∧D' = [] ++ F∧vs = [v,I (match lastIdx pins a pins.length with | some i=>(i:Int) | none=>-1)]) (λK' hK'=>?_) ?_
  ·refine jcutq (λvs R' D'=>R' = R∧D' = [] ++ F∧vs = [v,I (match lastIdx pins a pins.length with | some i=>(i:Int) | none=>-1)]) (λK2 hK2=>?_) ?_
   ·refine jlp (λn vs R' D'=>R' = R∧D' = [] ++ F∧∃i:Nat,i≤pins.length∧vs = [v,I a,I (match lastIdx pins a i with | some i=>(i:Int) | none=>-1),I i]∧n = pins.length - i)
     (n:=pins.length) ⟨rfl,rfl,0,by omega,rfl,by omega⟩ ?_
    rintro n e R3 D3 K ⟨rfl,hD,i,hi,he,hn⟩ hK
    rw[hD];clear hD
    simp only[List.map,lc,ln,lj,z_t] at he
    simp only[he]
    refine jlnz h (jlt (jif (λhc=>?_) (λhc=>?_)))
    ·have hc:=z_f hc
     have hil:i < pins.length:=by omega
     refine jcutq (λvs R' D'=>R' = R3∧D' = [] ++ F∧vs = [v,I a,I (match lastIdx pins a (i + 1) with | some i=>(i:Int) | none=>-1),I i]) (λK4 hK4=>?_) ?_
     rotate_left
     ·rintro e R4 D4 ⟨rfl,hD,he⟩
      rw[hD];clear hD
      simp only[List.map,lc,ln,lj,z_t] at he
      simp only[he]
      refine jadd ⟨by omega,by omega⟩ ?_
      exact hK (pins.length - (i + 1)) _ _ _ (by omega) ⟨rfl,rfl,i + 1,by omega,rfl,rfl⟩
     refine jcutq (λvs R' D'=>R' = R3∧D' = [] ++ F∧vs = [v,I a,I (match lastIdx pins a (i + 1) with | some i=>(i:Int) | none=>-1),I i]) (λK5 hK5=>?_) ?_
     rotate_left
     ·rintro e R4 D4 ⟨rfl,hD,he⟩
      rw[hD];clear hD
      simp only[List.map,lc,ln,lj,z_t] at he
      simp only[he]
      exact hK4 _ _ _ ⟨rfl,rfl,rfl⟩
     refine jfz1 h (by omega) (by omega) (jeq (jif (λhq=>?_) (λhq=>?_)))
     ·have hq:=eq_of_beq hq
      simp only[Int.toNat_natCast] at hq
      refine hK5 _ _ _ ⟨rfl,rfl,?_⟩
      simp only[lastIdx]
      rw[if_pos (by rw[List.getElem?_eq_getElem hil,hq])]
     ·have hq:=ne_of_beq_false hq
      simp only[Int.toNat_natCast] at hq
      refine hK5 _ _ _ ⟨rfl,rfl,?_⟩
      simp only[lastIdx]
      rw[if_neg (by rw[List.getElem?_eq_getElem hil];simpa using hq)]
    ·have hc:=z_g hc
     have:i = pins.length:=by omega
     subst this
     exact hK2 _ _ _ ⟨rfl,rfl,rfl⟩
   ·rintro e R4 D4 ⟨rfl,hD,he⟩
    rw[hD];clear hD
    simp only[List.map,lc,ln,lj,z_t] at he
    simp only[he]
    exact hK' _ _ _ ⟨rfl,rfl,rfl⟩
  ·rintro e R4 D4 ⟨rfl,hD,he⟩
   rw[hD];clear hD
   simp only[List.map,lc,ln,lj,z_t] at he
   simp only[he]
   cases hli:lastIdx pins a pins.length with
   | none=>
    refine jlt (jif (λ_=>?_) (λhh=>?_))
    ·refine jret (A:=[]) (RM.le.refl _) ?_
     unfold l5Pins;rw[if_neg (by rw[hk];decide),hli];exact⟨rfl,rfl⟩
    ·exact absurd hh (by decide)
   | some i=>
    obtain⟨q1,q2,_⟩:=lastIdx_some hli
    refine jlt (jif (λhh=>?_) (λhh=>?_))
    ·exact absurd (z_f hh) (by simp only;omega)
    ·refine jslh h (by simp only;omega) (by simp only;omega) λv1 h1=>?_
     refine jadd ⟨by simp only;omega,by simp only;omega⟩ ?_
     refine jsll h (by simp only;omega) (by simp only;omega) λv2 h2=>?_
     simp only[Int.toNat_natCast] at h1
     rw[show ((i:Int) + 1).toNat = i + 1 from by omega] at h2
     refine jc (A:=[]) (t_l5Ints h1 (by simp;omega)) ?_
     rintro _ R' _ hR ⟨b,c,sp,hc,hsp,rfl,rfl⟩
     obtain⟨xa,cx,rfl,hx⟩:=Ints.reads (D:=[(b,C T_int ((pins.take i).map I ++ sp))] ++ ([] ++ F)) (h2.le hR)
     refine japl (l2:=pins.drop (i + 1)) rfl hc hsp (by simp;omega) hx λb' c' sp' hc' hsp'=>?_
     refine jret (A:=[(b',C T_int ((pins.take i ++ pins.drop (i + 1)).map I ++ sp'))]) hR ?_
     unfold l5Pins;rw[if_neg (by rw[hk];decide),hli]
     exact⟨_,⟨b',c',sp',hc',hsp',rfl,rfl⟩,rfl⟩
end Go.Lf
end
section
namespace Go.Lf
open Go Sm
theorem opOf_some {S:Sim} {i:Int} {t:Thr} {o:Sm.Op} (h:S.opOf i t = some o):∃p,idx S.progs i = some p∧idx p t.next = some o:=by
 unfold Sim.opOf at h
 split at h
 ·exact⟨_,by assumption,h⟩
 ·cases h
theorem jopO {R:RM} {F:Chs} {p b:Nat} {S:Sim} {g:Img} {i:Int} {t:Thr} {v:Value} {o:Sm.Op} {k:Value→M} (hok:Ok R S g) (ho:S.opOf i t = some o)
  (H:∀b2,J R ((b2,C 99 (eOp o)) :: (b,C T_l8Thread (eThr t v)) :: (simD p S g ++ F)) (k (.pointer (some ⟨b2,0,none⟩)))) :
  J R ((b,C T_l8Thread (eThr t v)) :: (simD p S g ++ F)) (L1 (.pointer (some ⟨p,3,none⟩)) λx9=>IA 1 x9 (I i) λx10=>L1 x10 λx11=>L1 (.pointer (some ⟨b,0 + 1,none⟩)) λx13=>IA 8 x11 x13 λx14=>LA 8 x14 λx15=>AL 99 z99 λx16=>
   AND (L1 (.pointer (some ⟨p,3,none⟩)) λx17=>EV x17 x9)<|AND (L1 x10 λx18=>EV x18 x11)<|AND (L1 (.pointer (some ⟨b,0 + 1,none⟩)) λx19=>EV x19 x13)<|AND (LA 8 x14 λx20=>EV x20 x15)<|ST 8 x16 x15<|k x16):=by
 obtain⟨pr,h1,h2⟩:=opOf_some ho
 obtain⟨i0,i1,i2,i3⟩:=idx_some h1
 obtain⟨n0,n1,n2,n3⟩:=idx_some h2
 obtain⟨vs,f1,f2,f3⟩:=hok.progs
 obtain⟨x,f4,f5⟩:=f3 i.toNat i2
 rw[i3] at f5
 rcases f1 with ⟨_,h,_⟩ | ⟨bp,op_,cp,tp,cs,e1,e2,e3,e4,e5⟩
 ·omega
 rcases f5 with ⟨_,h,_⟩ | ⟨bo,oo,co,to_,co2,q1,q2,q3,q4,q5⟩
 ·omega
 have l1:J R ((b,C T_l8Thread (eThr t v)) :: (simD p S g ++ F)) (L1 (.pointer (some ⟨p,3,none⟩)) λx9=>IA 1 x9 (I i) λx10=>L1 x10 λx11=>L1 (.pointer (some ⟨b,0 + 1,none⟩)) λx13=>IA 8 x11 x13 λx14=>LA 8 x14 λx15=>AL 99 z99 λx16=>
   AND (L1 (.pointer (some ⟨p,3,none⟩)) λx17=>EV x17 x9)<|AND (L1 x10 λx18=>EV x18 x11)<|AND (L1 (.pointer (some ⟨b,0 + 1,none⟩)) λx19=>EV x19 x13)<|AND (LA 8 x14 λx20=>EV x20 x15)<|ST 8 x16 x15<|k x16):=by
  have hx:cs[op_ + i.toNat * 1]? = some x:=by
   have:=congrArg (λl=>l[i.toNat]?) e4
   simp only[List.getElem?_take,List.getElem?_drop] at this
   rw[if_pos (by omega)] at this
   rw[Nat.mul_one,this,f4]
  have ho8:(co2.drop (oo + t.next.toNat * 8)).take 8 = eOp o:=by
   have:=rowsE_get (f:=eOp) (w:=8) (λ_=>rfl) (sp:=[]) n2
   rw[List.append_nil,n3,← q4,List.drop_take,List.drop_drop,List.take_take] at this
   rw[← this];congr 1;omega
  refine jl (v:=g.progs) rfl ?_
  rw[e1]
  refine jia i0 (by omega) (jlr e2 hx ?_)
  rw[q1]
  refine jl (v:=I t.next) rfl ?_
  refine jia n0 (by omega) ?_
  refine jlar q2 (by omega) ho8 ?_
  refine ja λb2=>?_
  refine jand (jl (v:=g.progs) rfl (by rw[e1];exact jev)) ?_
  refine jand (jlr e2 (by rw[hx,q1]) jev) ?_
  refine jand (jl (v:=I t.next) rfl jev) ?_
  refine jand (jlar q2 (by omega) ho8 jev) ?_
  refine js (cs':=eOp o) rfl rfl (by exact z_n 8) (by rfl) (H b2)
 exact l1
theorem begin8 {o:Sm.Op} {roots:List Int} (h8:o.kind = 8) (h:l5Begin o roots 0 = 0):0 < roots.length:=by
 by_cases c:0 < roots.length
 ·exact c
 ·exfalso
  have:roots = []:=List.length_eq_zero_iff.1 (by omega)
  subst this
  unfold l5Begin at h
  simp[h8] at h
theorem event_sz {S S' : Sim} {i a c:Int} (h:S.event i a c = some S'):S.sz = true:=by
 unfold Sim.event at h
 split at h
 ·cases h
 ·rename_i hz;simpa using hz
theorem setT_len {S:Sim} {i:Int} {t t' : Thr} (h:(S.setT i t').sz = true) (ht:idx S.th i = some t):t'.roots.length < 1000000:=by
 obtain⟨i0,i1,i2,i3⟩:=idx_some ht
 refine (sz_ev h).2.2.2.2 t' ?_
 show t'∈seti S.th i t'
 unfold seti
 exact List.mem_of_getElem? (List.getElem?_set_self (by omega))
theorem t_begin {p:Nat} {S S' : Sim} {g:Img} {i:Int} {R:RM} (hok:Ok R S g) (hS:S.begin_ i = some S') :
  Fn P F_Sim_begin [.pointer (some ⟨p,0,none⟩),I i] R (simD p S g) (SimQ p S' λ_=>True):=by
 refine s_Sim_begin λF=>?_
 unfold c_Sim_begin
 obtain⟨t,ht,hS⟩:=bind_some hS
 obtain⟨o,ho,hS⟩:=bind_some hS
 obtain⟨h0,h1,h2,h3⟩:=idx_some ht
 refine jopen (p:=p) hok ht rfl λb a cap hv=>?_
 refine jopO (p:=p) hok ho λb2=>?_
 refine jla (l:=eOp o) (by exact z_n 8) (by rfl) ?_
 refine jp (p_OpOk o) (jif (λhb=>?_) (λhb=>?_))
 ·rw[if_pos hb] at hS
  refine jcS (p:=p) (by exact t_event hok hS) λ_ R2 g2 hR2 hr ok2=>?_
  exact jretS hR2 trivial rfl ok2
 rw[if_neg (by rw[hb];decide)] at hS
 refine jla (l:=eOp o) (by exact z_n 8) (by rfl) ?_
 refine jl (v:=.slice a t.roots.length cap) rfl ?_
 refine jrp (r_l5Begin o 0 hv) (jne (jif (λhc=>?_) (λhc=>?_)))
 ·have hc:l5Begin o t.roots 0≠0:=by simpa using hc
  simp only[if_pos hc] at hS
  refine jcS (p:=p) (by exact t_event hok hS) λ_ R2 g2 hR2 hr ok2=>?_
  exact jretS hR2 trivial rfl ok2
 have hc:l5Begin o t.roots 0 = 0:=by simpa using hc
 simp only[if_neg (show ¬ l5Begin o t.roots 0≠0 from λh=>h hc)] at hS
 refine jl (v:=I o.kind) rfl (jeq (jif (λh8=>?_) (λh8=>?_)))
 ·have h8:=eq_of_beq h8
  rw[if_pos h8] at hS
  have hn:=begin8 h8 hc
  have hsz:=setT_len (event_sz hS) ht
  have hl1:t.roots.length≤1000000:=by simp at hsz;omega
  refine jl (v:=.slice a t.roots.length cap) rfl (jl (v:=.slice a t.roots.length cap) rfl (jln (jsub ⟨by omega,by omega⟩ ?_)))
  refine jslh hv (by omega) (by omega) λv1 hv1=>?_
  rw[show ((t.roots.length:Int) - 1).toNat = t.roots.length - 1 from by omega] at hv1
  refine jc (A:=[]) (t_l5Ints hv1 (by simp;omega)) ?_
  rintro _ R' _ hR ⟨b4,c4,sp4,hc4,hsp4,rfl,rfl⟩
  refine jfreeze (b:=b4) λR2 hR2 hb4=>?_
  have hv2:=ints_of (c:=c4) hb4 hc4
  have ok2:=(hok.le hR).le hR2
  refine js (cs':=eThr { t with roots:=t.roots.take (t.roots.length - 1) } (.slice (some ⟨b4,0,none⟩) (t.roots.take (t.roots.length - 1)).length c4)) rfl rfl (by simp[eThr]) rfl ?_
  refine jput (p:=p) (S.setT i { t with roots:=t.roots.take (t.roots.length - 1) }) (by exact ok2) h0 (by exact h1) (by exact hv2) (by rfl) λg3 ok3=>?_
  refine jcS (p:=p) (by exact t_event ok3 hS) λ_ R4 g4 hR4 hr ok4=>?_
  exact jretS ((hR.trans hR2).trans hR4) trivial rfl ok4
 have h8:o.kind≠8:=by simpa using h8
 rw[if_neg h8] at hS
 refine jeq (jif (λh9=>?_) (λh9=>?_))
 ·have h9:=eq_of_beq h9
  rw[if_pos h9] at hS
  obtain⟨r,hr,hS⟩:=bind_some hS
  obtain⟨r0,r1,r2,r3⟩:=idx_some hr
  refine jl (v:=.slice a t.roots.length cap) rfl (jl (v:=I o.a) rfl ?_)
  refine jfz1 hv r0 r1 ?_
  rw[r3]
  refine jcS (p:=p) (by exact t_push hok hS) λ_ R2 g2 hR2 hr ok2=>?_
  exact jretS hR2 trivial rfl ok2
 have h9:o.kind≠9:=by simpa using h9
 rw[if_neg h9] at hS
 refine jeq (jif (λk1=>?_) (λk1=>?_))
 ·have k1:=eq_of_beq k1
  rw[if_pos k1] at hS
  cases hS
  refine js (cs':=eThr { t with pc:=30 } (.slice a t.roots.length cap)) rfl rfl (by simp[eThr]) rfl ?_
  refine jput (p:=p) (S.setT i { t with pc:=30 }) (by exact hok) h0 (by exact h1) (by exact hv) (by rfl) λg3 ok3=>?_
  exact jretS (RM.le.refl _) trivial rfl ok3
 have k1:o.kind≠1:=by simpa using k1
 rw[if_neg k1] at hS
 obtain⟨ra,hra,hS⟩:=bind_some hS
 obtain⟨a0,a1,a2,a3⟩:=idx_some hra
 obtain⟨t2,ht2,hS⟩:=bind_some hS
 obtain⟨t3,ht3,hS⟩:=bind_some hS
 cases hS
 refine js (cs':=eThr { t with pc:=1 } (.slice a t.roots.length cap)) rfl rfl (by simp[eThr]) rfl ?_
 refine jl (v:=.slice a t.roots.length cap) rfl (jl (v:=I o.a) rfl (jfz1 hv a0 a1 ?_))
 rw[a3]
 refine js (cs':=eThr { t with pc:=1,h:=ra } (.slice a t.roots.length cap)) rfl rfl (by simp[eThr]) rfl ?_
 have ht2r:t2.roots = t.roots:=by
  split at ht2
  ·obtain⟨x,_,hx⟩:=bind_some ht2;cases hx;rfl
  ·cases ht2;rfl
 have ht3r:t3.roots = t.roots:=by
  split at ht3
  ·obtain⟨x,_,hx⟩:=bind_some ht3;cases hx;exact ht2r
  ·cases ht3;exact ht2r
 refine jcutq (λvs R' D'=>R' = R∧D' = (b2,C 99 (eOp o)) :: (b,C T_l8Thread (eThr t2 (.slice a t.roots.length cap))) :: (simD p S g ++ F)∧vs = [.pointer (some ⟨p,0,none⟩),I i,.pointer (some ⟨b,0,none⟩),.pointer (some ⟨b2,0,none⟩)]) (λK' hK'=>?_) ?_
 ·refine jor [.pointer (some ⟨p,0,none⟩),I i,.pointer (some ⟨b,0,none⟩),.pointer (some ⟨b2,0,none⟩)] ((o.kind == 3) || (o.kind == 6)) (λK' hK'=>?_) (λe c u ho he=>?_)
  ·refine jl (v:=I o.kind) rfl (jeq (jgtf (λh1=>?_) (λh1=>?_)))
   ·refine jl (v:=I o.kind) rfl (jeq (hK' _ _ _ (h1▸or2_f) (by rw[h1,Bool.false_or])))
   ·exact hK' _ _ _ (h1▸or2_t) (by rw[h1,Bool.true_or])
  simp only[List.map,lc,ln,lj,z_t] at he
  simp only[he]
  refine jor [.pointer (some ⟨p,0,none⟩),I i,.pointer (some ⟨b,0,none⟩),.pointer (some ⟨b2,0,none⟩)] (((o.kind == 3) || (o.kind == 6)) || (o.kind == 7)) (λK' hK'=>?_) (λe c u ho he=>?_)
  ·rw[ho]
   refine jgtf (λh1=>?_) (λh1=>?_)
   ·refine jl (v:=I o.kind) rfl (jeq (hK' _ _ _ (h1▸or2_f) (by rw[h1,Bool.false_or])))
   ·exact hK' _ _ _ (h1▸or2_t) (by rw[h1,Bool.true_or])
  simp only[List.map,lc,ln,lj,z_t] at he
  simp only[he]
  rw[ho]
  refine jif (λhk=>?_) (λhk=>?_)
  ·rw[if_pos (by simpa [or_assoc,and_assoc] using hk)] at ht2
   obtain⟨rb,hrb,ht2⟩:=bind_some ht2
   obtain⟨b0,b1,b2',b3⟩:=idx_some hrb
   cases ht2
   refine jl (v:=.slice a t.roots.length cap) rfl (jl (v:=I o.b) rfl (jfz1 hv b0 b1 ?_))
   rw[b3]
   refine js (cs':=eThr { t with pc:=1,h:=ra,g:=rb } (.slice a t.roots.length cap)) rfl rfl (by simp[eThr]) rfl ?_
   exact hK' _ _ _ ⟨rfl,rfl,rfl⟩
  ·rw[if_neg (by simpa [or_assoc,and_assoc] using hk)] at ht2
   cases ht2
   exact hK' _ _ _ ⟨rfl,rfl,rfl⟩
 ·rintro e R5 D3 ⟨rfl,hD,he⟩
  rw[hD];clear hD
  simp only[List.map,lc,ln,lj,z_t] at he
  simp only[he]
  refine jcutq (λvs R' D'=>R' = R5∧(∃G,D' = (b,C T_l8Thread (eThr t3 (.slice a t.roots.length cap))) :: (simD p S g ++ G)∧G = F)∧vs = [.pointer (some ⟨p,0,none⟩),I i,.pointer (some ⟨b,0,none⟩)]) (λK' hK'=>?_) ?_
  ·refine jl (v:=I o.kind) rfl (jeq (jif (λhk=>?_) (λhk=>?_)))
   ·rw[if_pos (eq_of_beq hk)] at ht3
    obtain⟨rc,hrc,ht3⟩:=bind_some ht3
    cases ht3
    rw[ht2r] at hrc
    obtain⟨b0,b1,b2',b3⟩:=idx_some hrc
    refine jl (v:=.slice a t.roots.length cap) rfl (jl (v:=I o.c) rfl (jfz1 hv b0 b1 ?_))
    rw[b3]
    refine js (cs':=eThr { t2 with k:=rc } (.slice a t.roots.length cap)) rfl rfl (by simp[eThr]) rfl ?_
    exact jdrop (hK' _ _ _ ⟨rfl,⟨_,rfl,rfl⟩,rfl⟩)
   ·rw[if_neg (ne_of_beq_false hk)] at ht3
    cases ht3
    exact jdrop (hK' _ _ _ ⟨rfl,⟨_,rfl,rfl⟩,rfl⟩)
  ·rintro e _ D3 ⟨rfl,⟨G,hD,hG⟩,he⟩
   rw[hD,hG];clear hD
   simp only[List.map,lc,ln,lj,z_t] at he
   simp only[he]
   refine jput (p:=p) (S.setT i t3) (by exact hok) h0 (by exact h1) (by rw[ht3r];exact hv) (by rfl) λg3 ok3=>?_
   exact jretS (RM.le.refl _) trivial rfl ok3
end Go.Lf
end
section
namespace Go.Lf
open Go Sm
instance (priority:=low) Sp.app (D A E F:Chs) [s:Sp D A E]:Sp (D ++ F) A (E ++ F):=⟨by rw[← List.append_assoc];exact s.p.append_right F⟩
theorem jnil {R:RM} {D:Chs} {m:M} (H:J R D m):J R ([] ++ D) m:=H
theorem jtab {R:RM} {D G:Chs} {p b c:Nat} {S:Sim} {g:Img} {t' : List Rg} {sp:List Value} {m:M} [w:Fd D p S g G]
  (H:J R (simD p { S with table:=t' } { g with tb:=b,tc:=c,tsp:=sp } ++ G) m) :
  J R ((b,C T_Region (rowsE eRg t' ++ sp)) :: D) (ST 1 (.pointer (some ⟨p,5,none⟩)) (.slice (some ⟨b,0,none⟩) t'.length c) m):=by
 refine jperm ((w.ex.cons _).trans List.perm_middle.symm) ?_
 have e2:eSim { S with table:=t' } { g with tb:=b,tc:=c,tsp:=sp } = (eSim S g).set 5 (.slice (some ⟨b,0,none⟩) t'.length c):=by
  simp[eSim,evV]
 refine js (D:=simD p S g ++ (b,C T_Region (rowsE eRg t' ++ sp)) :: G) (t:=T_l8Sim) (cs:=eSim S g) (cs':=eSim { S with table:=t' } { g with tb:=b,tc:=c,tsp:=sp })
  (D':=(p,C T_l8Sim (eSim { S with table:=t' } { g with tb:=b,tc:=c,tsp:=sp })) :: ((g.wb,C T_int (S.words.map I ++ g.wsp)) :: (g.tb,C T_Region (rowsE eRg S.table ++ g.tsp)) :: (g.mb,C T_bool (S.marks.map Value.bool ++ g.msp)) :: (g.hb,C T_l8Thread (eThs S.th g.rv ++ g.hsp)) :: evD S g ++ (b,C T_Region (rowsE eRg t' ++ sp)) :: G)) rfl rfl (by simp[eSim]) (by rw[e2,show cl (Value.slice (some ⟨b,0,none⟩) t'.length c) = [Value.slice (some ⟨b,0,none⟩) t'.length c] from rfl,lay_one (by simp[eSim])]) ?_ (u:=?_)
 ·unfold simD
  exact inferInstance
 ·refine jpart ((p,C T_l8Sim (eSim { S with table:=t' } { g with tb:=b,tc:=c,tsp:=sp })) :: (g.wb,C T_int (S.words.map I ++ g.wsp)) :: (b,C T_Region (rowsE eRg t' ++ sp)) :: (g.mb,C T_bool (S.marks.map Value.bool ++ g.msp)) :: (g.hb,C T_l8Thread (eThs S.th g.rv ++ g.hsp)) :: evD S g) (G:=G) ?_
  exact H
theorem jtab1 {R:RM} {D G:Chs} {p b c:Nat} {S:Sim} {g:Img} {t' : List Rg} {sp:List Value} {m:M} [w:Fd D p S g G]
  (H:J R (simD p { S with table:=t' } { g with tb:=b,tc:=c,tsp:=sp } ++ G) m) :
  J R ([(b,C T_Region (rowsE eRg t' ++ sp))] ++ D) (ST 1 (.pointer (some ⟨p,5,none⟩)) (.slice (some ⟨b,0,none⟩) t'.length c) m):=jtab (D:=D) H
theorem read_is {S S1:Sim} {a v:Int} (h:S.read a = some (v,S1)):S1 = { S with used:=true }:=by
 simp only[Sim.read] at h
 split at h
 ·cases h;rfl
 ·cases h
theorem write_is {S S1:Sim} {a v:Int} (h:S.write a v = some S1):S1 = { S with used:=true,words:=seti S.words a v }:=by
 simp only[Sim.write] at h
 split at h
 ·cases h;rfl
 ·cases h
theorem top_is {S S1:Sim} {a v:Int} (h:S.top a v = some S1):∃t,S1 = { S with table:=t }:=by
 unfold Sim.top at h
 split at h
 ·split at h
  ·cases h;exact⟨_,rfl⟩
  ·cases h
 ·cases h
theorem Ok.tab {R:RM} {S:Sim} {g:Img} (ok:Ok R S g) {t' : List Rg} (hl:t'.length≤1000) (b c:Nat) (sp:List Value) (hc:t'.length≤c):Ok R { S with table:=t' } { g with tb:=b,tc:=c,tsp:=sp }:=
 ⟨ok.progs,ok.old,ok.pins,ok.stack,ok.rvl,ok.rv,ok.ev0,ok.ev1,ok.wl,hl,ok.ml,ok.hl,ok.fl,ok.wk,hc,ok.mk_⟩
theorem room_len {t t' : List Rg} {o size d:Int} (h:tableRoom t o size = some (t',d)):t'.length = t.length:=by
 unfold tableRoom at h
 split at h
 ·rename_i hg
  simp only[z_b,z_d] at hg
  have T:=tableOk_iff.1 hg.1.1.1.1
  rcases room_spec (size:=size) T hg.1.1.1.2 hg.1.1.2 hg.1.2 hg.2 with h2 | ⟨t2,d2,h2,P⟩
  ·unfold tableRoom at h2
   rw[if_pos (by simpa using hg)] at h2
   rw[h2] at h;cases h
  ·unfold tableRoom at h2
   rw[if_pos (by simpa using hg)] at h2
   rw[h2] at h;cases h;exact P.len
 ·cases h
theorem t_copying {p:Nat} {S S' : Sim} {g:Img} {i:Int} {R:RM} (hok:Ok R S g) (hS:S.copying i = some S') :
  Fn P F_Sim_copying [.pointer (some ⟨p,0,none⟩),I i] R (simD p S g) (SimQ p S' λ_=>True):=by
 refine s_Sim_copying λF=>?_
 unfold c_Sim_copying
 obtain⟨t,ht,hS⟩:=bind_some hS
 obtain⟨h0,h1,h2,h3⟩:=idx_some ht
 refine jopen (p:=p) hok ht rfl λb a cap hv=>?_
 refine jcutq (λvs R' D'=>R.le R'∧∃S1 g1 t1 G,S' = S1.setT i t1∧S1.th = S.th∧t1.roots = t.roots∧Ok R' S1 g1∧D' = simD p S1 g1 ++ (b,C T_l8Thread (eThr t1 (.slice a t.roots.length cap))) :: G∧G = F∧vs = [.pointer (some ⟨p,0,none⟩),I i,.pointer (some ⟨b,0,none⟩)]) (λK hK=>?_) ?_
 rotate_left
 ·rintro e R2 D2 ⟨hR,S1,g1,t1,G,rfl,hth,hr,ok1,rfl,rfl,he⟩
  simp only[List.map,lc,ln,lj,z_t] at he
  simp only[he]
  refine jput (p:=p) (S1.setT i t1) (by exact ok1) h0 (by rw[hth];exact h1) (by rw[hr];exact hv.le hR) (by rfl) λg3 ok3=>?_
  exact jretS hR trivial rfl ok3
 refine jl (v:=I t.pc) rfl ?_
 refine jcutq (λvs R' D'=>R.le R'∧∃S1 g1 t1 G,S' = S1.setT i t1∧S1.th = S.th∧t1.roots = t.roots∧Ok R' S1 g1∧D' = simD p S1 g1 ++ (b,C T_l8Thread (eThr t1 (.slice a t.roots.length cap))) :: G∧G = F∧vs = [.pointer (some ⟨p,0,none⟩),I i,.pointer (some ⟨b,0,none⟩)]) (λK2 hK2=>?_) ?_
 rotate_left
 ·rintro e R2 D2 ⟨hR,S1,g1,t1,G,e1,hth,hr,ok1,rfl,rfl,he⟩
  simp only[List.map,lc,ln,lj,z_t] at he
  simp only[he]
  exact hK _ _ _ ⟨hR,S1,g1,t1,_,e1,hth,hr,ok1,rfl,rfl,rfl⟩
 refine jeq (jif (λc20=>?_) (λc20=>?_))
 ·have c20:=eq_of_beq c20
  rw[if_pos c20] at hS
  obtain⟨q,hq,hS⟩:=bind_some hS
  obtain⟨rfl,hin⟩:=plus_some hq
  obtain⟨⟨w,S1⟩,hrd,hS⟩:=bind_some hS
  have e1:=read_is hrd
  subst e1
  dsimp only at hS
  refine jl (v:=I t.src) rfl (jadd hin ?_)
  refine jcS (p:=p) (by exact t_read hok hrd) λ_ R1 g1 hR1 hr ok1=>?_
  subst hr
  refine jp (p_ShapeOf w) (jex rfl (jex rfl ?_))
  refine ja λb3=>?_
  refine js (cs':=[I (shapeOf w).1.refs,I (shapeOf w).1.nums]) rfl rfl (by exact z_n 2) rfl ?_
  refine jla (l:=[I (shapeOf w).1.refs,I (shapeOf w).1.nums]) (by exact z_n 2) (by rfl) ?_
  refine jp (p_ShapeSize (shapeOf w).1) ?_
  refine js (cs':=eThr { t with size:=shapeSize (shapeOf w).1 } (.slice a t.roots.length cap)) rfl rfl (by simp[eThr]) rfl ?_
  refine jl (v:=.slice (some ⟨g1.tb,0,none⟩) S.table.length g1.tc) rfl ?_
  refine jl (v:=I (shapeSize (shapeOf w).1)) rfl ?_
  refine jmk (by exact m_TableRoom (t:=S.table) (sp:=g1.tsp) i (shapeSize (shapeOf w).1) (by have:=hok.tl;omega)) ?_
  intro v N hq2
  cases hrm:tableRoom S.table i (shapeSize (shapeOf w).1) with
  | none=>
   rw[hrm] at hq2
   obtain⟨rfl,rfl⟩:=hq2
   rw[hrm] at hS
   refine jex rfl (jex rfl (jex rfl (jift ?_)))
   refine jcS (p:=p) (by exact t_back ok1 hS) λ_ R2 g2 hR2 hr ok2=>?_
   exact jretS (hR1.trans hR2) trivial rfl ok2
  | some td=>
   obtain⟨t',d⟩:=td
   rw[hrm] at hq2
   obtain⟨sv,⟨b4,c4,sp4,hc4,rfl,rfl⟩,rfl⟩:=hq2
   rw[hrm] at hS
   simp only[Option.some.injEq] at hS
   have hlen:=room_len hrm
   refine jex rfl (jex rfl (jex rfl (jiff ?_)))
   refine jtab1 (p:=p) ?_
   refine js (cs':=eThr { t with size:=shapeSize (shapeOf w).1,dst:=d } (.slice a t.roots.length cap)) rfl rfl (by simp[eThr]) rfl ?_
   refine js (cs':=eThr { t with size:=shapeSize (shapeOf w).1,dst:=d,i:=1 } (.slice a t.roots.length cap)) rfl rfl (by simp[eThr]) rfl ?_
   refine js (cs':=eThr { t with size:=shapeSize (shapeOf w).1,dst:=d,i:=1,pc:=21 } (.slice a t.roots.length cap)) rfl rfl (by simp[eThr]) rfl ?_
   refine jpart (simD p { S with used:=true,table:=t' } { g1 with tb:=b4,tc:=c4,tsp:=sp4 }) (G:=(b,C T_l8Thread (eThr { t with size:=shapeSize (shapeOf w).1,dst:=d,i:=1,pc:=21 } (.slice a t.roots.length cap))) :: F) ?_
   exact hK2 _ _ _ ⟨hR1,{ S with used:=true,table:=t' },{ g1 with tb:=b4,tc:=c4,tsp:=sp4 },{ t with size:=shapeSize (shapeOf w).1,dst:=d,i:=1,pc:=21 },_,hS.symm,rfl,rfl,ok1.tab (by rw[hlen];exact hok.tl) _ _ _ hc4,rfl,rfl,rfl⟩
 have c20:t.pc≠20:=by simpa using c20
 rw[if_neg c20] at hS
 refine jeq (jif (λc21=>?_) (λc21=>?_))
 ·have c21:=eq_of_beq c21
  rw[if_pos c21] at hS
  obtain⟨q,hq,hS⟩:=bind_some hS
  obtain⟨rfl,hin⟩:=plus_some hq
  obtain⟨⟨w,S1⟩,hrd,hS⟩:=bind_some hS
  have e1:=read_is hrd
  subst e1
  cases hS
  refine jl (v:=I t.src) rfl (jl (v:=I t.i) rfl (jadd hin ?_))
  refine jcS (p:=p) (by exact t_read hok hrd) λ_ R1 g1 hR1 hr ok1=>?_
  subst hr
  refine js (cs':=eThr { t with word:=w } (.slice a t.roots.length cap)) rfl rfl (by simp[eThr]) rfl ?_
  refine js (cs':=eThr { t with word:=w,pc:=22 } (.slice a t.roots.length cap)) rfl rfl (by simp[eThr]) rfl ?_
  exact hK2 _ _ _ ⟨hR1,{ S with used:=true },g1,{ t with word:=w,pc:=22 },_,rfl,rfl,rfl,ok1,rfl,rfl,rfl⟩
 have c21:t.pc≠21:=by simpa using c21
 rw[if_neg c21] at hS
 refine jeq (jif (λc22=>?_) (λc22=>?_))
 ·have c22:=eq_of_beq c22
  rw[if_pos c22] at hS
  obtain⟨q,hq,hS⟩:=bind_some hS
  obtain⟨rfl,hin⟩:=plus_some hq
  obtain⟨S1,hwr,hS⟩:=bind_some hS
  have e1:=write_is hwr
  subst e1
  obtain⟨n,hn,hS⟩:=bind_some hS
  obtain⟨rfl,hin2⟩:=plus_some hn
  cases hS
  refine jl (v:=I t.dst) rfl (jl (v:=I t.i) rfl (jadd hin (jl (v:=I t.word) rfl ?_)))
  refine jcS (p:=p) (by exact t_write hok hwr) λ_ R1 g1 hR1 hr ok1=>?_
  refine jl (v:=I t.i) rfl (jadd hin2 ?_)
  refine js (cs':=eThr { t with i:=t.i + 1 } (.slice a t.roots.length cap)) rfl rfl (by simp[eThr]) rfl ?_
  refine js (cs':=eThr { t with i:=t.i + 1,pc:=21 } (.slice a t.roots.length cap)) rfl rfl (by simp[eThr]) rfl ?_
  refine jl (v:=I (t.i + 1)) rfl (jl (v:=I t.size) rfl (jeq (jif (λhz=>?_) (λhz=>?_))))
  ·refine js (cs':=eThr { t with i:=t.i + 1,pc:=23 } (.slice a t.roots.length cap)) rfl rfl (by simp[eThr]) rfl ?_
   exact hK2 _ _ _ ⟨hR1,{ S with used:=true,words:=seti S.words (t.dst + t.i) t.word },g1,{ t with i:=t.i + 1,pc:=23 },_,(by rw[if_pos (eq_of_beq hz)]),rfl,rfl,ok1,rfl,rfl,rfl⟩
  ·exact hK2 _ _ _ ⟨hR1,{ S with used:=true,words:=seti S.words (t.dst + t.i) t.word },g1,{ t with i:=t.i + 1,pc:=21 },_,(by rw[if_neg (ne_of_beq_false hz)]),rfl,rfl,ok1,rfl,rfl,rfl⟩
 have c22:t.pc≠22:=by simpa using c22
 rw[if_neg c22] at hS
 refine jeq (jif (λc23=>?_) (λc23=>?_))
 ·have c23:=eq_of_beq c23
  rw[if_pos c23] at hS
  obtain⟨S1,hwr,hS⟩:=bind_some hS
  have e1:=write_is hwr
  subst e1
  cases hS
  refine jl (v:=I t.dst) rfl (jl (v:=I t.dst) rfl ?_)
  refine jcS (p:=p) (by exact t_write hok hwr) λ_ R1 g1 hR1 hr ok1=>?_
  refine js (cs':=eThr { t with pc:=24 } (.slice a t.roots.length cap)) rfl rfl (by simp[eThr]) rfl ?_
  exact hK2 _ _ _ ⟨hR1,{ S with used:=true,words:=seti S.words t.dst t.dst },g1,{ t with pc:=24 },_,rfl,rfl,rfl,ok1,rfl,rfl,rfl⟩
 have c23:t.pc≠23:=by simpa using c23
 rw[if_neg c23] at hS
 refine jeq (jif (λc24=>?_) (λc24=>?_))
 rotate_left
 ·rw[if_neg (ne_of_beq_false c24)] at hS
  cases hS
  refine jperm List.perm_middle.symm (hK2 _ _ _ ⟨RM.le.refl _,S,g,t,_,rfl,rfl,rfl,hok,rfl,rfl,rfl⟩)
 have c24:=eq_of_beq c24
 rw[if_pos c24] at hS
 split at hS
 ·cases hS
 rename_i hret
 have hret:0≤t.ret∧t.ret≤100:=Classical.not_not.1 hret
 have hinr:inR (t.ret + 1):=⟨by omega,by omega⟩
 obtain⟨⟨w,S1⟩,hrd,hS⟩:=bind_some hS
 have e1:=read_is hrd
 subst e1
 dsimp only at hS
 refine jl (v:=I t.src) rfl ?_
 refine jcS (p:=p) (by exact t_read hok hrd) λ_ R1 g1 hR1 hr ok1=>?_
 subst hr
 have hhold:∀x,(l8Hold t t.ret x).roots = t.roots:=λx=>by simp only[l8Hold];split<;>(try split)<;>(try split)<;>rfl
 refine jcutq (λvs R' D'=>R.le R'∧∃S2 g2 G x,S' = S2.setT i (l8Hold t t.ret x)∧S2.th = S.th∧Ok R' S2 g2∧D' = simD p S2 g2 ++ (b,C T_l8Thread (eThr t (.slice a t.roots.length cap))) :: G∧G = F∧vs = [.pointer (some ⟨p,0,none⟩),I i,.pointer (some ⟨b,0,none⟩),I x]) (λK3 hK3=>?_) ?_
 rotate_left
 ·rintro e R2 D2 ⟨hR,S2,g2,G,x,rfl,hth,ok2,rfl,rfl,he⟩
  simp only[List.map,lc,ln,lj,z_t] at he
  simp only[he]
  refine jla (cs:=eThr t (.slice a t.roots.length cap)) (t:=T_l8Thread) (l:=eThr t (.slice a t.roots.length cap)) (z_n 17) rfl ?_
  refine jl (v:=I t.ret) rfl ?_
  refine jp (p_l8Hold t a t.roots.length cap t.ret x hinr) ?_
  refine js (cs':=eThr (l8Hold t t.ret x) (.slice a t.roots.length cap)) rfl rfl (by exact z_n 17) rfl ?_
  exact hK2 _ _ _ ⟨hR,S2,g2,l8Hold t t.ret x,_,rfl,hth,hhold x,ok2,rfl,rfl,rfl⟩
 refine jl (v:=I t.src) rfl (jeq (jif (λhw=>?_) (λhw=>?_)))
 ·have hw:=eq_of_beq hw
  rw[if_pos hw] at hS
  obtain⟨S2,hwr,hS⟩:=bind_some hS
  have e2:=write_is hwr
  subst e2
  obtain⟨S3,htp,hS⟩:=bind_some hS
  cases hS
  obtain⟨t3,e3⟩:=top_is htp
  refine jl (v:=I t.src) rfl (jl (v:=I t.dst) rfl ?_)
  refine jcS (p:=p) (by exact t_write ok1 hwr) λ_ R2 g2 hR2 hr ok2=>?_
  refine jl (v:=I t.dst) rfl (jl (v:=I t.size) rfl ?_)
  refine jcS (p:=p) (by exact t_top ok2 htp) λ_ R3 g3 hR3 hr ok3=>?_
  refine jl (v:=I t.dst) rfl ?_
  exact hK3 _ _ _ ⟨(hR1.trans hR2).trans hR3,S3,g3,_,t.dst,rfl,by rw[e3],ok3,rfl,rfl,rfl⟩
 ·rw[if_neg (ne_of_beq_false hw)] at hS
  cases hS
  exact hK3 _ _ _ ⟨hR1,{ S with used:=true },g1,_,w,rfl,rfl,ok1,rfl,rfl,rfl⟩
end Go.Lf
end
section
namespace Go.Lf
open Go Sm
theorem old_is {S S1:Sim} {v:Int} (h:S.oldV v = some S1):S1.th = S.th:=by
 simp only[Sim.oldV] at h
 split at h
 ·cases h
 ·cases h;split<;>rfl
theorem t_field {p:Nat} {S S' : Sim} {g:Img} {i:Int} {R:RM} (hok:Ok R S g) (hS:S.field i = some S') :
  Fn P F_Sim_field [.pointer (some ⟨p,0,none⟩),I i] R (simD p S g) (SimQ p S' λ_=>True):=by
 refine s_Sim_field λF=>?_
 unfold c_Sim_field
 obtain⟨t,ht,hS⟩:=bind_some hS
 obtain⟨o,ho,hS⟩:=bind_some hS
 obtain⟨q1,hq1,hS⟩:=bind_some hS
 obtain⟨ref,hq2,hS⟩:=bind_some hS
 obtain⟨q3,hq3,hS⟩:=bind_some hS
 obtain⟨num,hq4,hS⟩:=bind_some hS
 obtain⟨rfl,in1⟩:=plus_some hq1
 obtain⟨rfl,in2⟩:=plus_some hq2
 obtain⟨rfl,in3⟩:=plus_some hq3
 obtain⟨rfl,in4⟩:=plus_some hq4
 obtain⟨h0,h1,h2,h3⟩:=idx_some ht
 refine jopen (p:=p) hok ht rfl λb a cap hv=>?_
 refine jopO (p:=p) hok ho λb2=>?_
 refine jl (v:=I t.h) rfl (jadd in1 (jl (v:=I o.f) rfl (jadd in2 (jl (v:=I t.h) rfl (jadd in1 (jl (v:=I t.sh.refs) rfl (jadd in3 (jl (v:=I o.f) rfl (jadd in4 (jl (v:=I t.pc) rfl ?_))))))))))
 refine jcutq (λvs R' D'=>R' = R∧D' = (b2,C 99 (eOp o)) :: (b,C T_l8Thread (eThr t (.slice a t.roots.length cap))) :: (simD p S g ++ F)∧∃v:Bool,vs = [.pointer (some ⟨p,0,none⟩),I i,.pointer (some ⟨b,0,none⟩),.pointer (some ⟨b2,0,none⟩),I (t.h + 2 + o.f),I (t.h + 2 + t.sh.refs + o.f),I t.pc,.bool v]∧(v = true↔t.pc = 5∨t.pc = 12)) (λK hK=>?_) ?_
 ·refine jeq (jif (λh=>hK _ _ _ ⟨rfl,rfl,_,rfl,?_⟩) (λh=>jeq (hK _ _ _ ⟨rfl,rfl,_,rfl,?_⟩)))
  ·rw[h];simp[eq_of_beq h]
  ·simp[ne_of_beq_false h]
 rintro e R1 D1 ⟨rfl,hD,v,he,hv5⟩
 rw[hD];clear hD
 simp only[List.map,lc,ln,lj,z_t] at he
 simp only[he]
 refine jif (λhvt=>?_) (λhvf=>?_)
 ·rw[if_pos (hv5.1 hvt)] at hS
  obtain⟨⟨w,S1⟩,hrd,hS⟩:=bind_some hS
  refine jcS (p:=p) (by exact t_read hok hrd) λ_ R2 g2 hR2 hr ok2=>?_
  subst hr
  refine jcS (p:=p) (by exact t_load ok2 hS) λ_ R3 g3 hR3 hr ok3=>?_
  exact jretS (hR2.trans hR3) trivial rfl ok3
 rw[if_neg (λh=>by rw[hv5.2 h] at hvf;cases hvf)] at hS
 refine jeq (jif (λc=>?_) (λc=>?_))
 ·rw[if_pos (eq_of_beq c)] at hS
  obtain⟨⟨w,S1⟩,hrd,hS⟩:=bind_some hS
  have e1:=read_is hrd
  subst e1
  obtain⟨S2,hol,hS⟩:=bind_some hS
  cases hS
  have e2:=old_is hol
  refine jcS (p:=p) (by exact t_read hok hrd) λ_ R2 g2 hR2 hr ok2=>?_
  subst hr
  refine jcS (p:=p) (by exact t_old ok2 hol) λ_ R3 g3 hR3 hr ok3=>?_
  refine js (cs':=eThr { t with pc:=7 } (.slice a t.roots.length cap)) rfl rfl (by simp[eThr]) rfl ?_
  refine jput (p:=p) (S2.setT i { t with pc:=7 }) (by exact ok3) h0 (by rw[e2];exact h1) (by exact hv.le (hR2.trans hR3)) (by rfl) λg4 ok4=>?_
  exact jretS (hR2.trans hR3) trivial rfl ok4
 rw[if_neg (ne_of_beq_false c)] at hS
 refine jeq (jif (λc=>?_) (λc=>?_))
 ·rw[if_pos (eq_of_beq c)] at hS
  obtain⟨S1,hwr,hS⟩:=bind_some hS
  refine jl (v:=I t.g) rfl ?_
  refine jcS (p:=p) (by exact t_write hok hwr) λ_ R2 g2 hR2 hr ok2=>?_
  refine jcS (p:=p) (by exact t_event ok2 hS) λ_ R3 g3 hR3 hr ok3=>?_
  exact jretS (hR2.trans hR3) trivial rfl ok3
 rw[if_neg (ne_of_beq_false c)] at hS
 refine jeq (jif (λc=>?_) (λc=>?_))
 ·rw[if_pos (eq_of_beq c)] at hS
  obtain⟨S1,hwr,hS⟩:=bind_some hS
  refine jl (v:=I o.v) rfl ?_
  refine jcS (p:=p) (by exact t_write hok hwr) λ_ R2 g2 hR2 hr ok2=>?_
  refine jcS (p:=p) (by exact t_event ok2 hS) λ_ R3 g3 hR3 hr ok3=>?_
  exact jretS (hR2.trans hR3) trivial rfl ok3
 rw[if_neg (ne_of_beq_false c)] at hS
 refine jeq (jif (λc=>?_) (λc=>?_))
 ·rw[if_pos (eq_of_beq c)] at hS
  obtain⟨⟨w,S1⟩,hrd,hS⟩:=bind_some hS
  refine jcS (p:=p) (by exact t_read hok hrd) λ_ R2 g2 hR2 hr ok2=>?_
  subst hr
  refine jcS (p:=p) (by exact t_event ok2 hS) λ_ R3 g3 hR3 hr ok3=>?_
  exact jretS (hR2.trans hR3) trivial rfl ok3
 rw[if_neg (ne_of_beq_false c)] at hS
 refine jeq (jif (λc=>?_) (λc=>?_))
 ·rw[if_pos (eq_of_beq c)] at hS
  obtain⟨⟨w,S1⟩,hrd,hS⟩:=bind_some hS
  refine jcS (p:=p) (by exact t_read hok hrd) λ_ R2 g2 hR2 hr ok2=>?_
  subst hr
  refine jcS (p:=p) (by exact t_swap ok2 hS) λ_ R3 g3 hR3 hr ok3=>?_
  exact jretS (hR2.trans hR3) trivial rfl ok3
 rw[if_neg (ne_of_beq_false c)] at hS
 refine jeq (jif (λc=>?_) (λc=>?_))
 ·rw[if_pos (eq_of_beq c)] at hS
  obtain⟨⟨w,S1⟩,hrd,hS⟩:=bind_some hS
  have e1:=read_is hrd
  subst e1
  dsimp only at hS
  refine jl (v:=I t.u) rfl ?_
  refine jcS (p:=p) (by exact t_read hok hrd) λ_ R2 g2 hR2 hr ok2=>?_
  subst hr
  refine jeq (jand (jl (v:=I t.u) rfl jev) (jif (λc2=>?_) (λc2=>?_)))
  ·rw[if_pos (eq_of_beq c2)] at hS
   obtain⟨S2,hwr,hS⟩:=bind_some hS
   refine jl (v:=I t.k) rfl ?_
   refine jcS (p:=p) (by exact t_write ok2 hwr) λ_ R3 g3 hR3 hr ok3=>?_
   refine jcS (p:=p) (by exact t_event ok3 hS) λ_ R4 g4 hR4 hr ok4=>?_
   exact jretS ((hR2.trans hR3).trans hR4) trivial rfl ok4
  ·rw[if_neg (ne_of_beq_false c2)] at hS
   cases hS
   refine js (cs':=eThr { t with pc:=10 } (.slice a t.roots.length cap)) rfl rfl (by simp[eThr]) rfl ?_
   refine jput (p:=p) (({ S with used:=true }:Sim).setT i { t with pc:=10 }) (by exact ok2) h0 (by exact h1) (by exact hv.le hR2) (by rfl) λg4 ok4=>?_
   exact jretS hR2 trivial rfl ok4
 rw[if_neg (ne_of_beq_false c)] at hS
 refine jeq (jif (λc=>?_) (λc=>?_))
 ·rw[if_pos (eq_of_beq c)] at hS
  refine jl (v:=I t.v) rfl (jl (v:=I t.g) rfl (jeq (jif (λc2=>?_) (λc2=>?_))))
  ·rw[if_pos (eq_of_beq c2)] at hS
   cases hS
   refine js (cs':=eThr { t with pc:=14 } (.slice a t.roots.length cap)) rfl rfl (by simp[eThr]) rfl ?_
   refine jput (p:=p) (S.setT i { t with pc:=14 }) (by exact hok) h0 (by exact h1) (by exact hv) (by rfl) λg4 ok4=>?_
   exact jretS (RM.le.refl _) trivial rfl ok4
  ·rw[if_neg (ne_of_beq_false c2)] at hS
   obtain⟨⟨w,S1⟩,hrd,hS⟩:=bind_some hS
   refine jcS (p:=p) (by exact t_read hok hrd) λ_ R2 g2 hR2 hr ok2=>?_
   subst hr
   refine jcS (p:=p) (by exact t_swap ok2 hS) λ_ R3 g3 hR3 hr ok3=>?_
   exact jretS (hR2.trans hR3) trivial rfl ok3
 ·rw[if_neg (ne_of_beq_false c)] at hS
  cases hS
  exact jretS (RM.le.refl _) trivial rfl hok
theorem t_shape {p:Nat} {S S' : Sim} {g:Img} {i:Int} {R:RM} (hok:Ok R S g) (hS:S.shape i = some S') :
  Fn P F_Sim_shape [.pointer (some ⟨p,0,none⟩),I i] R (simD p S g) (SimQ p S' λ_=>True):=by
 refine s_Sim_shape λF=>?_
 unfold c_Sim_shape
 obtain⟨t,ht,hS⟩:=bind_some hS
 split at hS
 ·cases hS
 rename_i hsz
 have hsz:=sz_ev (by simpa using hsz:S.sz = true)
 obtain⟨o,hop,hS⟩:=bind_some hS
 obtain⟨h0,h1,h2,h3⟩:=idx_some ht
 refine jopen (p:=p) hok ht rfl λb a cap hv=>?_
 refine jopO (p:=p) hok hop λb2=>?_
 refine jl (v:=I o.kind) rfl (jeq (jif (λc=>?_) (λc=>?_)))
 ·rw[if_pos (eq_of_beq c)] at hS
  refine jl (v:=I t.h) rfl (jl (v:=I t.g) rfl (jeq (jp (p_l5One (t.h == t.g)) ?_)))
  refine jcS (p:=p) (by exact t_event hok hS) λ_ R3 g3 hR3 hr ok3=>?_
  exact jretS hR3 trivial rfl ok3
 rw[if_neg (ne_of_beq_false c)] at hS
 refine jor [.pointer (some ⟨p,0,none⟩),I i,.pointer (some ⟨b,0,none⟩),.pointer (some ⟨b2,0,none⟩)] ((o.kind == 10) || (o.kind == 11)) (λK' hK'=>?_) (λe c u ho he=>?_)
 ·refine jl (v:=I o.kind) rfl (jeq (jgtf (λh1=>?_) (λh1=>?_)))
  ·refine jl (v:=I o.kind) rfl (jeq (hK' _ _ _ (h1▸or2_f) (by rw[h1,Bool.false_or])))
  ·exact hK' _ _ _ (h1▸or2_t) (by rw[h1,Bool.true_or])
 simp only[List.map,lc,ln,lj,z_t] at he
 simp only[he]
 rw[ho]
 refine jif (λhk=>?_) (λhk=>?_)
 ·rw[if_pos (by simpa using hk)] at hS
  refine jl (v:=g.pins) rfl (jl (v:=I o.kind) rfl (jl (v:=I t.h) rfl ?_))
  refine jc (A:=[]) (t_l5Pins o.kind t.h hok.pins (by exact hsz.2.2.2.1)) ?_
  intro v R1 A hR1 hq
  have ok1:=hok.le hR1
  cases hp:l5Pins S.pins o.kind t.h with
  | none=>
   rw[hp] at hq hS
   obtain⟨rfl,rfl⟩:=hq
   refine jex rfl (jex rfl (jift ?_))
   refine jcS (p:=p) (D:=(b2,C 99 (eOp o)) :: (b,C T_l8Thread (eThr t (.slice a t.roots.length cap))) :: (simD p S g ++ F)) (by exact t_event ok1 hS) λ_ R3 g3 hR3 hr ok3=>?_
   exact jretS (hR1.trans hR3) trivial rfl ok3
  | some l=>
   rw[hp] at hq hS
   obtain⟨sv,⟨b4,c4,sp4,hc4,hsp4,rfl,rfl⟩,rfl⟩:=hq
   refine jex rfl (jex rfl (jiff ?_))
   refine jfreeze (b:=b4) λR2 hR2 hb4=>?_
   have hv2:=ints_of (c:=c4) hb4 hc4
   refine jperm (D':=(b2,C 99 (eOp o)) :: (b,C T_l8Thread (eThr t (.slice a t.roots.length cap))) :: (simD p S g ++ F)) (List.Perm.refl _) ?_
   refine jss { S with pins:=l } { g with pins:=.slice (some ⟨b4,0,none⟩) l.length c4 } rfl rfl (by decide) (by rfl) (by rfl) ?_
   refine jcS (p:=p) (by exact t_event (S:={ S with pins:=l }) { ok1.le hR2 with pins:=hv2 } hS) λ_ R3 g3 hR3 hr ok3=>?_
   exact jretS ((hR1.trans hR2).trans hR3) trivial rfl ok3
 rw[if_neg (by simpa using hk)] at hS
 obtain⟨q,hq,hS⟩:=bind_some hS
 obtain⟨rfl,hin⟩:=plus_some hq
 obtain⟨⟨w,S1⟩,hrd,hS⟩:=bind_some hS
 have e1:=read_is hrd
 subst e1
 dsimp only at hS
 refine jl (v:=I t.h) rfl (jadd hin ?_)
 refine jcS (p:=p) (by exact t_read hok hrd) λ_ R1 g1 hR1 hr ok1=>?_
 subst hr
 refine jp (p_ShapeOf w) (jex rfl (jex rfl ?_))
 refine ja λb3=>?_
 refine js (cs':=[I (shapeOf w).1.refs,I (shapeOf w).1.nums]) rfl rfl (by exact z_n 2) rfl ?_
 refine jla (l:=eOp o) (by exact z_n 8) (by rfl) ?_
 refine jl (v:=I (shapeOf w).1.refs) rfl (jl (v:=I (shapeOf w).1.nums) rfl ?_)
 refine jp (p_l5Field o (shapeOf w).1.refs (shapeOf w).1.nums) (jif (λhf=>?_) (λhf=>?_))
 ·rw[if_pos hf] at hS
  refine jcS (p:=p) (by exact t_event ok1 hS) λ_ R3 g3 hR3 hr ok3=>?_
  exact jretS (hR1.trans hR3) trivial rfl ok3
 rw[if_neg (by rw[hf];decide)] at hS
 refine jla (l:=[I (shapeOf w).1.refs,I (shapeOf w).1.nums]) (by exact z_n 2) (by rfl) ?_
 refine js (cs':=eThr { t with sh:=(shapeOf w).1 } (.slice a t.roots.length cap)) rfl rfl (by simp[eThr]) rfl ?_
 have fin:∀(R2:RM) (D2:Chs) (q:Int) (m:M),q = (if o.kind = 2 then 5 else if o.kind = 3 then (if S.phase = 1 then 6 else 7) else if o.kind = 4 then 8 else if o.kind = 5 then 9 else if o.kind = 7 then 10 else t.pc)→S' = ({ S with used:=true }:Sim).setT i { t with sh:=(shapeOf w).1,pc:=q }:=λR2 D2 q m hq=>by
  rw[hq];simp only[Option.some.injEq] at hS;exact hS.symm
 refine jcutq (λvs R' D'=>R' = R1∧∃q,S' = ({ S with used:=true }:Sim).setT i { t with sh:=(shapeOf w).1,pc:=q }∧D' = simD p { S with used:=true } g1 ++ (b,C T_l8Thread (eThr { t with sh:=(shapeOf w).1,pc:=q } (.slice a t.roots.length cap))) :: F∧vs = [.pointer (some ⟨p,0,none⟩),I i,.pointer (some ⟨b,0,none⟩)]) (λK hK=>?_) ?_
 rotate_left
 ·rintro e R2 D2 ⟨rfl,q,rfl,hD,he⟩
  rw[hD];clear hD
  simp only[List.map,lc,ln,lj,z_t] at he
  simp only[he]
  refine jput (p:=p) (({ S with used:=true }:Sim).setT i { t with sh:=(shapeOf w).1,pc:=q }) (by exact ok1) h0 (by exact h1) (by exact hv.le hR1) (by rfl) λg4 ok4=>?_
  exact jretS hR1 trivial rfl ok4
 refine jl (v:=I o.kind) rfl ?_
 refine jcutq (λvs R' D'=>R' = R1∧∃q,S' = ({ S with used:=true }:Sim).setT i { t with sh:=(shapeOf w).1,pc:=q }∧D' = simD p { S with used:=true } g1 ++ (b,C T_l8Thread (eThr { t with sh:=(shapeOf w).1,pc:=q } (.slice a t.roots.length cap))) :: F∧vs = [.pointer (some ⟨p,0,none⟩),I i,.pointer (some ⟨b,0,none⟩)]) (λK2 hK2=>?_) ?_
 rotate_left
 ·rintro e R2 D2 ⟨rfl,q,hq,hD,he⟩
  rw[hD];clear hD
  simp only[List.map,lc,ln,lj,z_t] at he
  simp only[he]
  exact hK _ _ _ ⟨rfl,q,hq,rfl,rfl⟩
 have leaf:∀q:Int,q = (if o.kind = 2 then 5 else if o.kind = 3 then (if S.phase = 1 then 6 else 7) else if o.kind = 4 then 8 else if o.kind = 5 then 9 else if o.kind = 7 then 10 else t.pc)→
   J R1 ((b3,C 92 [I (shapeOf w).1.refs,I (shapeOf w).1.nums]) :: (simD p { S with used:=true } g1 ++ (b2,C 99 (eOp o)) :: (b,C T_l8Thread (eThr { t with sh:=(shapeOf w).1,pc:=q } (.slice a t.roots.length cap))) :: F)) (K2 [.pointer (some ⟨p,0,none⟩),I i,.pointer (some ⟨b,0,none⟩)]):=λq hq=>by
  refine jpart (simD p { S with used:=true } g1) (G:=(b,C T_l8Thread (eThr { t with sh:=(shapeOf w).1,pc:=q } (.slice a t.roots.length cap))) :: F) ?_
  exact hK2 _ _ _ ⟨rfl,q,fin R1 [] q (λ_=>True) hq,rfl,rfl⟩
 refine jeq (jif (λc2=>?_) (λc2=>?_))
 ·refine js (cs':=eThr { t with sh:=(shapeOf w).1,pc:=5 } (.slice a t.roots.length cap)) rfl rfl (by simp[eThr]) rfl ?_
  exact leaf 5 (by rw[if_pos (eq_of_beq c2)])
 refine jeq (jif (λc3=>?_) (λc3=>?_))
 ·refine js (cs':=eThr { t with sh:=(shapeOf w).1,pc:=7 } (.slice a t.roots.length cap)) rfl rfl (by simp[eThr]) rfl ?_
  refine jl (v:=I S.phase) rfl (jeq (jif (λph=>?_) (λph=>?_)))
  ·refine js (cs':=eThr { t with sh:=(shapeOf w).1,pc:=6 } (.slice a t.roots.length cap)) rfl rfl (by simp[eThr]) rfl ?_
   exact leaf 6 (by rw[if_neg (ne_of_beq_false c2),if_pos (eq_of_beq c3),if_pos (eq_of_beq ph)])
  ·exact leaf 7 (by rw[if_neg (ne_of_beq_false c2),if_pos (eq_of_beq c3),if_neg (ne_of_beq_false ph)])
 refine jeq (jif (λc4=>?_) (λc4=>?_))
 ·refine js (cs':=eThr { t with sh:=(shapeOf w).1,pc:=8 } (.slice a t.roots.length cap)) rfl rfl (by simp[eThr]) rfl ?_
  exact leaf 8 (by rw[if_neg (ne_of_beq_false c2),if_neg (ne_of_beq_false c3),if_pos (eq_of_beq c4)])
 refine jeq (jif (λc5=>?_) (λc5=>?_))
 ·refine js (cs':=eThr { t with sh:=(shapeOf w).1,pc:=9 } (.slice a t.roots.length cap)) rfl rfl (by simp[eThr]) rfl ?_
  exact leaf 9 (by rw[if_neg (ne_of_beq_false c2),if_neg (ne_of_beq_false c3),if_neg (ne_of_beq_false c4),if_pos (eq_of_beq c5)])
 refine jeq (jif (λc7=>?_) (λc7=>?_))
 ·refine js (cs':=eThr { t with sh:=(shapeOf w).1,pc:=10 } (.slice a t.roots.length cap)) rfl rfl (by simp[eThr]) rfl ?_
  exact leaf 10 (by rw[if_neg (ne_of_beq_false c2),if_neg (ne_of_beq_false c3),if_neg (ne_of_beq_false c4),if_neg (ne_of_beq_false c5),if_pos (eq_of_beq c7)])
 ·exact leaf t.pc (by rw[if_neg (ne_of_beq_false c2),if_neg (ne_of_beq_false c3),if_neg (ne_of_beq_false c4),if_neg (ne_of_beq_false c5),if_neg (ne_of_beq_false c7)])
end Go.Lf
end
section
namespace Go.Lf
open Go Sm
theorem t_making {p:Nat} {S S' : Sim} {g:Img} {i:Int} {R:RM} (hok:Ok R S g) (hS:S.making i = some S') :
  Fn P F_Sim_making [.pointer (some ⟨p,0,none⟩),I i] R (simD p S g) (SimQ p S' λ_=>True):=by
 refine s_Sim_making λF=>?_
 unfold c_Sim_making
 obtain⟨t,ht,hS⟩:=bind_some hS
 obtain⟨o,hop,hS⟩:=bind_some hS
 obtain⟨h0,h1,h2,h3⟩:=idx_some ht
 refine jopen (p:=p) hok ht rfl λb a cap hv=>?_
 refine jopO (p:=p) hok hop λb2=>?_
 refine jcutq (λvs R' D'=>R.le R'∧∃S1 g1 t1,S1.th = S.th∧t1.roots = t.roots∧Ok R' S1 g1∧t.pc≠30∧t.pc≠31∧(let t2:={ t1 with pc:=33 };let S2:=S1.setT i t2;if t2.i = t2.size then (do (← S2.top t2.dst t2.size).push i t2.dst) else some S2) = some S'∧
   D' = simD p S1 g1 ++ (b,C T_l8Thread (eThr t1 (.slice a t.roots.length cap))) :: F∧vs = [.pointer (some ⟨p,0,none⟩),I i,.pointer (some ⟨b,0,none⟩)]) (λK hK=>?_) ?_
 rotate_left
 ·rintro e R2 D2 ⟨hR,S1,g1,t1,hth,hr,ok1,_,_,hS,hD,he⟩
  rw[hD];clear hD
  simp only[List.map,lc,ln,lj,z_t] at he
  simp only[he]
  dsimp only at hS
  refine js (cs':=eThr { t1 with pc:=33 } (.slice a t.roots.length cap)) rfl rfl (by simp[eThr]) rfl ?_
  refine jput (p:=p) (S1.setT i { t1 with pc:=33 }) (by exact ok1) h0 (by rw[hth];exact h1) (by rw[hr];exact hv.le hR) (by rfl) λg3 ok3=>?_
  refine jl (v:=I t1.i) rfl (jl (v:=I t1.size) rfl (jeq (jif (λhz=>?_) (λhz=>?_))))
  ·rw[if_pos (eq_of_beq hz)] at hS
   obtain⟨S3,htp,hS⟩:=bind_some hS
   refine jl (v:=I t1.dst) rfl (jl (v:=I t1.size) rfl ?_)
   refine jcS (p:=p) (by exact t_top ok3 htp) λ_ R4 g4 hR4 hr ok4=>?_
   refine jl (v:=I t1.dst) rfl ?_
   refine jcS (p:=p) (by exact t_push ok4 hS) λ_ R5 g5 hR5 hr ok5=>?_
   exact jretS ((hR.trans hR4).trans hR5) trivial rfl ok5
  ·rw[if_neg (ne_of_beq_false hz)] at hS
   cases hS
   exact jretS hR trivial rfl ok3
 refine jl (v:=I t.pc) rfl ?_
 refine jcutq (λvs R' D'=>R.le R'∧∃S1 g1 t1,S1.th = S.th∧t1.roots = t.roots∧Ok R' S1 g1∧t.pc≠30∧t.pc≠31∧(let t2:={ t1 with pc:=33 };let S2:=S1.setT i t2;if t2.i = t2.size then (do (← S2.top t2.dst t2.size).push i t2.dst) else some S2) = some S'∧
   D' = simD p S1 g1 ++ (b,C T_l8Thread (eThr t1 (.slice a t.roots.length cap))) :: F∧vs = [.pointer (some ⟨p,0,none⟩),I i,.pointer (some ⟨b,0,none⟩)]) (λK2 hK2=>?_) ?_
 rotate_left
 ·rintro e R2 D2 ⟨hR,S1,g1,t1,hth,hr,ok1,n1,n2,hS,hD,he⟩
  rw[hD];clear hD
  simp only[List.map,lc,ln,lj,z_t] at he
  simp only[he]
  exact hK _ _ _ ⟨hR,S1,g1,t1,hth,hr,ok1,n1,n2,hS,rfl,rfl⟩
 refine jeq (jif (λc30=>?_) (λc30=>?_))
 ·have c30:=eq_of_beq c30
  rw[if_pos c30] at hS
  dsimp only at hS
  refine jfo (jla (l:=[I o.sh.refs,I o.sh.nums]) (by exact z_n 8) (by rfl) ?_)
  refine jp (p_ShapeSize o.sh) ?_
  refine js (cs':=eThr { t with size:=shapeSize o.sh } (.slice a t.roots.length cap)) rfl rfl (by simp[eThr]) rfl ?_
  refine jl (v:=.slice (some ⟨g.tb,0,none⟩) S.table.length g.tc) rfl ?_
  refine jl (v:=I (shapeSize o.sh)) rfl ?_
  refine jmk (by exact m_TableRoom (t:=S.table) (sp:=g.tsp) i (shapeSize o.sh) (by have:=hok.tl;omega)) ?_
  intro v N hq2
  cases hrm:tableRoom S.table i (shapeSize o.sh) with
  | none=>
   rw[hrm] at hq2 hS
   obtain⟨rfl,rfl⟩:=hq2
   dsimp only at hS
   refine jperm (D':=(b2,C 99 (eOp o)) :: (b,C T_l8Thread (eThr { t with size:=shapeSize o.sh } (.slice a t.roots.length cap))) :: (simD p S g ++ F)) (List.Perm.refl _) ?_
   refine jex rfl (jex rfl (jex rfl ?_))
   refine jcutq (λvs R' D'=>R' = R∧D' = (b2,C 99 (eOp o)) :: (b,C T_l8Thread (eThr { t with size:=shapeSize o.sh } (.slice a t.roots.length cap))) :: (simD p S g ++ F)∧∃c u,vs = [.pointer (some ⟨p,0,none⟩),I i,.pointer (some ⟨b,0,none⟩),.slice none 0 0,I 0,.bool false,c,u]∧And2 c u (t.tried == 2)) (λK3 hK3=>?_) ?_
   ·refine jtt (jl (v:=I t.tried) rfl (jeq (hK3 _ _ _ ⟨rfl,rfl,_,_,rfl,and2_t⟩)))
   ·rintro e R2 D2 ⟨rfl,hD,c,u,he,ha⟩
    rw[hD];clear hD
    simp only[List.map,lc,ln,lj,z_t] at he
    simp only[he]
    rw[ha]
    refine jif (λh2=>?_) (λh2=>?_)
    ·rw[if_pos (eq_of_beq h2)] at hS
     refine jcS (p:=p) (by exact t_event hok hS) λ_ R3 g3 hR3 hr ok3=>?_
     exact jretS hR3 trivial rfl ok3
    ·rw[if_neg (ne_of_beq_false h2)] at hS
     refine jift ?_
     refine jcS (p:=p) (by exact t_back hok hS) λ_ R3 g3 hR3 hr ok3=>?_
     exact jretS hR3 trivial rfl ok3
  | some td=>
   obtain⟨t',d⟩:=td
   rw[hrm] at hq2 hS
   obtain⟨sv,⟨b4,c4,sp4,hc4,rfl,rfl⟩,rfl⟩:=hq2
   simp only[Option.some.injEq] at hS
   have hlen:=room_len hrm
   refine jex rfl (jex rfl (jex rfl ?_))
   refine jcutq (λvs R' D'=>R' = R∧D' = [(b4,C T_Region (rowsE eRg t' ++ sp4))] ++ ((b2,C 99 (eOp o)) :: (b,C T_l8Thread (eThr { t with size:=shapeSize o.sh } (.slice a t.roots.length cap))) :: (simD p S g ++ F))∧∃c u,vs = [.pointer (some ⟨p,0,none⟩),I i,.pointer (some ⟨b,0,none⟩),.slice (some ⟨b4,0,none⟩) t'.length c4,I d,.bool true,c,u]∧And2 c u false) (λK3 hK3=>?_) ?_
   ·exact jft (hK3 _ _ _ ⟨rfl,rfl,_,_,rfl,and2_f⟩)
   ·rintro e R2 D2 ⟨rfl,hD,c,u,he,ha⟩
    rw[hD];clear hD
    simp only[List.map,lc,ln,lj,z_t] at he
    simp only[he]
    rw[ha]
    refine jiff (jiff ?_)
    refine jtab1 (p:=p) ?_
    refine js (cs':=eThr { t with size:=shapeSize o.sh,dst:=d } (.slice a t.roots.length cap)) rfl rfl (by simp[eThr]) rfl ?_
    refine js (cs':=eThr { t with size:=shapeSize o.sh,dst:=d,i:=2 } (.slice a t.roots.length cap)) rfl rfl (by simp[eThr]) rfl ?_
    refine js (cs':=eThr { t with size:=shapeSize o.sh,dst:=d,i:=2,pc:=31 } (.slice a t.roots.length cap)) rfl rfl (by simp[eThr]) rfl ?_
    refine jput (p:=p) (({ S with table:=t' }:Sim).setT i { t with size:=shapeSize o.sh,dst:=d,i:=2,pc:=31 }) (by exact hok.tab (by rw[hlen];exact hok.tl) _ _ _ hc4) h0 (by exact h1) (by exact hv) (by rfl) λg3 ok3=>?_
    subst hS
    exact jretS (RM.le.refl _) trivial rfl ok3
 have c30:t.pc≠30:=by simpa using c30
 rw[if_neg c30] at hS
 refine jeq (jif (λc31=>?_) (λc31=>?_))
 ·have c31:=eq_of_beq c31
  rw[if_pos c31] at hS
  obtain⟨S1,hwr,hS⟩:=bind_some hS
  have e1:=write_is hwr
  subst e1
  cases hS
  refine jl (v:=I t.dst) rfl (jl (v:=I t.dst) rfl ?_)
  refine jcS (p:=p) (by exact t_write hok hwr) λ_ R1 g1 hR1 hr ok1=>?_
  refine js (cs':=eThr { t with pc:=32 } (.slice a t.roots.length cap)) rfl rfl (by simp[eThr]) rfl ?_
  refine jput (p:=p) (({ S with used:=true,words:=seti S.words t.dst t.dst }:Sim).setT i { t with pc:=32 }) (by exact ok1) h0 (by exact h1) (by exact hv.le hR1) (by rfl) λg3 ok3=>?_
  exact jretS hR1 trivial rfl ok3
 have c31:t.pc≠31:=by simpa using c31
 rw[if_neg c31] at hS
 obtain⟨⟨S2,t2⟩,hst,hS⟩:=bind_some hS
 dsimp only at hS
 refine jeq (jif (λc32=>?_) (λc32=>?_))
 ·have c32:=eq_of_beq c32
  rw[if_pos c32] at hst
  obtain⟨q,hq,hst⟩:=bind_some hst
  obtain⟨rfl,hin⟩:=plus_some hq
  obtain⟨S1,hwr,hst⟩:=bind_some hst
  have e1:=write_is hwr
  subst e1
  cases hst
  refine jl (v:=I t.dst) rfl (jadd hin ?_)
  refine jfo (jla (l:=[I o.sh.refs,I o.sh.nums]) (by exact z_n 8) (by rfl) ?_)
  refine jp (p_ShapeWord o.sh) (jand (jl (v:=I t.dst) rfl jev) ?_)
  refine jcS (p:=p) (by exact t_write hok hwr) λ_ R1 g1 hR1 hr ok1=>?_
  refine jpart (simD p { S with used:=true,words:=seti S.words (t.dst + 1) (shapeWord o.sh) } g1) (G:=(b,C T_l8Thread (eThr t (.slice a t.roots.length cap))) :: F) ?_
  exact hK2 _ _ _ ⟨hR1,{ S with used:=true,words:=seti S.words (t.dst + 1) (shapeWord o.sh) },g1,t,rfl,rfl,ok1,c30,c31,hS,rfl,rfl⟩
 have c32:t.pc≠32:=by simpa using c32
 rw[if_neg c32] at hst
 refine jeq (jif (λc33=>?_) (λc33=>?_))
 ·have c33:=eq_of_beq c33
  rw[if_pos c33] at hst
  obtain⟨q,hq,hst⟩:=bind_some hst
  obtain⟨rfl,hin⟩:=plus_some hq
  obtain⟨S1,hwr,hst⟩:=bind_some hst
  have e1:=write_is hwr
  subst e1
  obtain⟨n,hn,hst⟩:=bind_some hst
  obtain⟨rfl,hin2⟩:=plus_some hn
  cases hst
  refine jl (v:=I t.dst) rfl (jl (v:=I t.i) rfl (jadd hin ?_))
  refine jcS (p:=p) (by exact t_write hok hwr) λ_ R1 g1 hR1 hr ok1=>?_
  refine jl (v:=I t.i) rfl (jadd hin2 ?_)
  refine js (cs':=eThr { t with i:=t.i + 1 } (.slice a t.roots.length cap)) rfl rfl (by simp[eThr]) rfl ?_
  refine jpart (simD p { S with used:=true,words:=seti S.words (t.dst + t.i) 0 } g1) (G:=(b,C T_l8Thread (eThr { t with i:=t.i + 1 } (.slice a t.roots.length cap))) :: F) ?_
  exact hK2 _ _ _ ⟨hR1,{ S with used:=true,words:=seti S.words (t.dst + t.i) 0 },g1,{ t with i:=t.i + 1 },rfl,rfl,ok1,c30,c31,hS,rfl,rfl⟩
 have c33:t.pc≠33:=by simpa using c33
 rw[if_neg c33] at hst
 cases hst
 refine jpart (simD p S g) (G:=(b,C T_l8Thread (eThr t (.slice a t.roots.length cap))) :: F) ?_
 exact hK2 _ _ _ ⟨RM.le.refl _,S,g,t,rfl,rfl,hok,c30,c31,hS,rfl,rfl⟩
end Go.Lf
end
section
namespace Go.Lf
open Go Sm
theorem ths_cell {l:List Thr} {rv sp:List Value} {i f:Nat} {v:Value} (h:i < l.length) (h' : i < rv.length) (hv:(eThr (l[i]) (rv[i]))[f]? = some v):(eThs l rv ++ sp)[i * 17 + f]? = some v:=by
 have:=ths_get (sp:=sp) h h'
 have e2:=congrArg (λl=>l[f]?) this
 simp only[List.getElem?_take,List.getElem?_drop] at e2
 have hf:f < 17:=by
  by_cases c:f < 17
  ·exact c
  ·have:(eThr (l[i]) (rv[i]))[f]? = none:=List.getElem?_eq_none (by show 17≤f;omega)
   rw[this] at hv;cases hv
 rw[if_pos hf] at e2
 rw[e2,hv]
theorem jpc {R:RM} {D G:Chs} {p:Nat} {S:Sim} {g:Img} {i:Int} {t:Thr} {k:Value→M} [w:Fd D p S g G] (hok:Ok R S g) (ht:idx S.th i = some t) (H:J R D (k (I t.pc))) :
  J R D (L1 (.pointer (some ⟨p,17,none⟩)) λx=>IA 17 x (I i) λy=>FO 3 y λz=>L1 z k):=by
 obtain⟨h0,h1,h2,h3⟩:=idx_some ht
 have h2' : i.toNat < g.rv.length:=by have:=hok.rvl;omega
 have H' : J R (simD p S g ++ G) (k (I t.pc)):=jperm w.ex.symm H
 have l1:J R (simD p S g ++ G) (L1 (.pointer (some ⟨p,17,none⟩)) λx=>IA 17 x (I i) λy=>FO 3 y λz=>L1 z k):=by
  refine jl rfl (jia h0 h1 (jl (v:=I t.pc) ?_ H'))
  rw[Nat.zero_add]
  exact ths_cell h2 h2' (by rw[h3];rfl)
 exact jperm w.ex l1
theorem t_thread {n p:Nat} {S S' : Sim} {g:Img} {i:Int} {R:RM} (hok:Ok R S g) (hS:S.thread n i = some S') :
  Fn P F_Sim_thread [.pointer (some ⟨p,0,none⟩),I i] R (simD p S g) (SimQ p S' λ_=>True):=by
 refine s_Sim_thread λF=>?_
 unfold c_Sim_thread
 obtain⟨t,ht,hS⟩:=bind_some hS
 obtain⟨h0,h1,h2,h3⟩:=idx_some ht
 refine jopen (p:=p) hok ht rfl λb a cap hv=>?_
 refine jl (v:=I t.pc) rfl (jeq (jif (λhp=>?_) (λhp=>?_)))
 ·rw[if_pos (eq_of_beq hp)] at hS
  refine jcutq (λvs R' D'=>R' = R∧D' = (b,C T_l8Thread (eThr t (.slice a t.roots.length cap))) :: (simD p S g ++ F)∧∃c u v,vs = [.pointer (some ⟨p,0,none⟩),I i,c,u]∧And2 c u v∧(if v = true then S.begin_ i else some S) = some S') (λK hK=>?_) ?_
  rotate_left
  ·rintro e R1 D1 ⟨rfl,hD,c,u,v,he,ha,hq⟩
   rw[hD];clear hD
   simp only[List.map,lc,ln,lj,z_t] at he
   simp only[he]
   rw[ha]
   refine jif (λhc=>?_) (λhc=>?_)
   ·rw[if_pos hc] at hq
    refine jcS (p:=p) (by exact t_begin hok hq) λ_ R2 g2 hR2 hr ok2=>?_
    exact jretS hR2 trivial rfl ok2
   ·rw[if_neg (by rw[hc];decide)] at hq
    cases hq
    exact jretS (RM.le.refl _) trivial rfl hok
  refine jl (v:=.bool S.stop) rfl ?_
  cases hst:S.stop with
  | true=>
   rw[hst,if_pos rfl] at hS
   exact jft (hK _ _ _ ⟨rfl,rfl,_,_,false,rfl,and2_f,by rw[if_neg (by decide)];exact hS⟩)
  | false=>
   rw[hst,if_neg (by decide)] at hS
   obtain⟨pr,hpr,hS⟩:=bind_some hS
   obtain⟨i0,i1,i2,i3⟩:=idx_some hpr
   refine jtt (jl (v:=I t.next) rfl (jl (v:=g.progs) rfl ?_))
   obtain⟨vs,f1,f2,f3⟩:=hok.progs
   obtain⟨x,f4,f5⟩:=f3 i.toNat i2
   rw[i3] at f5
   rcases f1 with ⟨_,h,_⟩ | ⟨bp,op_,cp,tp,cs,e1,e2,e3,e4,e5⟩
   ·omega
   have hx:cs[op_ + i.toNat * 1]? = some x:=by
    have:=congrArg (λl=>l[i.toNat]?) e4
    simp only[List.getElem?_take,List.getElem?_drop] at this
    rw[if_pos (by omega)] at this
    rw[Nat.mul_one,this,f4]
   rw[e1]
   refine jia i0 (by omega) (jlr e2 hx (jlnz f5 (jlt (hK _ _ _ ⟨rfl,rfl,_,_,_,rfl,and2_t,?_⟩))))
   by_cases hc:t.next < pr.length
   ·rw[if_pos hc] at hS
    rw[if_pos (decide_eq_true hc)];exact hS
   ·rw[if_neg hc] at hS
    rw[if_neg (by rw[decide_eq_false hc];decide)];exact hS
 ·rw[if_neg (ne_of_beq_false hp)] at hS
  refine jss { S with used:=false } g rfl rfl (by decide) (by rfl) (by rfl) ?_
  refine jpart (simD p { S with used:=false } g) (G:=F) ?_
  refine jlp (λm vs R' D'=>R.le R'∧∃S1 g1,Ok R' S1 g1∧D' = simD p S1 g1 ++ F∧vs = [.pointer (some ⟨p,0,none⟩),I i]∧Sim.tloop m S1 i = some S') (n:=n) ⟨RM.le.refl _,{ S with used:=false },g,{ hok with },rfl,rfl,hS⟩ ?_
  rintro m e R1 D1 K ⟨hR,S1,g1,ok1,hD,he,hl⟩ hK
  rw[hD];clear hD
  simp only[List.map,lc,ln,lj,z_t] at he
  simp only[he]
  cases m with
  | zero=>cases hl
  | succ m=>
   obtain⟨t1,ht1,hl⟩:=bind_some hl
   refine jcutq (λvs R' D'=>R' = R1∧D' = simD p S1 g1 ++ F∧∃c u,vs = [.pointer (some ⟨p,0,none⟩),I i,c,u]∧And2 c u (!S1.used && t1.pc != 0)) (λK2 hK2=>?_) ?_
   ·refine jl (v:=.bool S1.used) rfl ?_
    cases hu:S1.used with
    | true=>exact jft (hK2 _ _ _ ⟨rfl,rfl,_,_,rfl,by rw[hu];exact and2_f⟩)
    | false=>
     refine jtt (jpc (p:=p) ok1 ht1 (jne (hK2 _ _ _ ⟨rfl,rfl,_,_,rfl,?_⟩)))
     rw[hu];exact and2_t
   rintro e R2 D2 ⟨rfl,hD,c,u,he,ha⟩
   rw[hD];clear hD
   simp only[List.map,lc,ln,lj,z_t] at he
   simp only[he]
   rw[ha]
   refine jif (λhc=>?_) (λhc=>?_)
   rotate_left
   ·rw[if_pos (by
     cases hu:S1.used
     ·rw[hu] at hc;right;simpa using hc
     ·exact .inl rfl)] at hl
    cases hl
    exact jretS hR trivial rfl ok1
   have hc' : ¬ (S1.used = true∨t1.pc = 0):=by
    simp only[z_b,Bool.not_eq_true',bne_iff_ne,ne_eq] at hc
    rintro (h | h)
    ·rw[hc.1] at h;cases h
    ·exact hc.2 h
   rw[if_neg hc'] at hl
   obtain⟨S2,hst,hl⟩:=bind_some hl
   unfold Sim.tstep at hst
   rw[ht1] at hst
   simp only[Option.bind_eq_bind,z_o] at hst
   refine jcutq (λvs R' D'=>R.le R'∧∃g2,Ok R' S2 g2∧D' = simD p S2 g2 ++ F∧vs = [.pointer (some ⟨p,0,none⟩),I i]) (λK3 hK3=>?_) ?_
   rotate_left
   ·rintro e R3 D3 ⟨hR3,g2,ok2,hD,he⟩
    rw[hD];clear hD
    simp only[List.map,lc,ln,lj,z_t] at he
    simp only[he]
    exact hK m _ _ _ (by omega) ⟨hR3,S2,g2,ok2,rfl,rfl,hl⟩
   refine jpc (p:=p) ok1 ht1 ?_
   refine jcutq (λvs R' D'=>R.le R'∧∃g2,Ok R' S2 g2∧D' = simD p S2 g2 ++ F∧vs = [.pointer (some ⟨p,0,none⟩),I i]) (λK4 hK4=>?_) ?_
   rotate_left
   ·rintro e R3 D3 ⟨hR3,g2,ok2,hD,he⟩
    rw[hD];clear hD
    simp only[List.map,lc,ln,lj,z_t] at he
    simp only[he]
    exact hK3 _ _ _ ⟨hR3,g2,ok2,rfl,rfl⟩
   refine jor [.pointer (some ⟨p,0,none⟩),I i,I t1.pc] ((decide (t1.pc≤3)) || (t1.pc == 11)) (λK' hK'=>?_) (λe c u ho he=>?_)
   ·refine jle (jgtf (λh1=>?_) (λh1=>?_))
    ·refine jeq (hK' _ _ _ (h1▸or2_f) (by rw[h1,Bool.false_or]))
    ·exact hK' _ _ _ (h1▸or2_t) (by rw[h1,Bool.true_or])
   simp only[List.map,lc,ln,lj,z_t] at he
   simp only[he]
   refine jor [.pointer (some ⟨p,0,none⟩),I i,I t1.pc] ((decide (t1.pc≤3) || t1.pc == 11) || (t1.pc == 15)) (λK' hK'=>?_) (λe c u ho he=>?_)
   ·rw[ho]
    refine jgtf (λh1=>?_) (λh1=>?_)
    ·refine jeq (hK' _ _ _ (h1▸or2_f) (by rw[h1,Bool.false_or]))
    ·exact hK' _ _ _ (h1▸or2_t) (by rw[h1,Bool.true_or])
   simp only[List.map,lc,ln,lj,z_t] at he
   simp only[he]
   rw[ho]
   refine jif (λc1=>?_) (λc1=>?_)
   ·rw[if_pos (by simpa [or_assoc] using c1)] at hst
    refine jcS (p:=p) (by exact t_resolve ok1 hst) λ_ R2 g2 hR2 hr ok2=>?_
    exact hK4 _ _ _ ⟨hR.trans hR2,g2,ok2,rfl,rfl⟩
   rw[if_neg (by
    intro h
    have:((decide (t1.pc≤3) || t1.pc == 11) || t1.pc == 15) = true:=by simpa [or_assoc] using h
    rw[c1] at this;cases this)] at hst
   refine jeq (jif (λc2=>?_) (λc2=>?_))
   ·rw[if_pos (eq_of_beq c2)] at hst
    refine jcS (p:=p) (by exact t_shape ok1 hst) λ_ R2 g2 hR2 hr ok2=>?_
    exact hK4 _ _ _ ⟨hR.trans hR2,g2,ok2,rfl,rfl⟩
   rw[if_neg (ne_of_beq_false c2)] at hst
   refine jge (jif (λc3=>?_) (λc3=>?_))
   ·rw[if_pos (z_f c3)] at hst
    refine jcS (p:=p) (by exact t_making ok1 hst) λ_ R2 g2 hR2 hr ok2=>?_
    exact hK4 _ _ _ ⟨hR.trans hR2,g2,ok2,rfl,rfl⟩
   rw[if_neg (z_g c3)] at hst
   refine jge (jif (λc4=>?_) (λc4=>?_))
   ·rw[if_pos (z_f c4)] at hst
    refine jcS (p:=p) (by exact t_copying ok1 hst) λ_ R2 g2 hR2 hr ok2=>?_
    exact hK4 _ _ _ ⟨hR.trans hR2,g2,ok2,rfl,rfl⟩
   rw[if_neg (z_g c4)] at hst
   refine jcS (p:=p) (by exact t_field ok1 hst) λ_ R2 g2 hR2 hr ok2=>?_
   exact hK4 _ _ _ ⟨hR.trans hR2,g2,ok2,rfl,rfl⟩
theorem t_calm {p:Nat} {S:Sim} {g:Img} {R:RM} (hok:Ok R S g) :
  Fn P F_Sim_calm [.pointer (some ⟨p,0,none⟩)] R (simD p S g) (SimQ p S (· = .bool S.calm)):=by
 refine s_Sim_calm λF=>?_
 unfold c_Sim_calm
 refine jlp (λn vs R' D'=>R' = R∧D' = simD p S g ++ F∧∃i:Nat,i≤S.th.length∧vs = [.pointer (some ⟨p,0,none⟩),I i]∧n = S.th.length - i∧∀k (h:k < S.th.length),k < i→(S.th[k]).pc = 0)
  (n:=S.th.length) ⟨rfl,rfl,0,by omega,rfl,by omega,λk _ h=>by omega⟩ ?_
 rintro n e R1 D1 K ⟨rfl,hD,i,hi,he,hn,hall⟩ hK
 rw[hD];clear hD
 simp only[List.map,lc,ln,lj,z_t] at he
 simp only[he]
 have hl:=hok.hl
 refine jl (v:=.slice (some ⟨g.hb,0,none⟩) S.th.length g.hc) rfl (jln (jlt (jif (λhc=>?_) (λhc=>?_))))
 ·have hc:i < S.th.length:=by have:=z_f hc;omega
  have ht:idx S.th i = some (S.th[i]):=by unfold idx;rw[if_pos (by omega),Int.toNat_natCast,List.getElem?_eq_getElem hc]
  refine jpc (p:=p) hok ht (jne (jif (λhp=>?_) (λhp=>?_)))
  ·refine jretS (RM.le.refl _) ?_ rfl hok
   have hp:(S.th[i]).pc≠0:=by simpa using hp
   have:S.calm = false:=by
    unfold Sim.calm
    rw[List.all_eq_false]
    exact⟨S.th[i],List.getElem_mem hc,by simpa using hp⟩
   rw[this]
  ·have hp:(S.th[i]).pc = 0:=by simpa using hp
   refine jadd ⟨by omega,by omega⟩ ?_
   refine hK (S.th.length - (i + 1)) _ _ _ (by omega) ⟨rfl,rfl,i + 1,by omega,rfl,rfl,λk hk hki=>?_⟩
   by_cases c:k = i
   ·subst c;exact hp
   ·exact hall k hk (by omega)
 ·have hc:¬ i < S.th.length:=by have:=z_g hc;omega
  refine jretS (RM.le.refl _) ?_ rfl hok
  have:S.calm = true:=by
   unfold Sim.calm
   rw[List.all_eq_true]
   intro x hx
   obtain⟨k,hk,rfl⟩:=List.getElem_of_mem hx
   simpa using hall k hk (by omega)
  rw[this]
end Go.Lf
end
section
namespace Go.Lf
open Go Sm
instance (priority:=low) Sp.appr (X D A F:Chs) [s:Sp D A F]:Sp (X ++ D) A (X ++ F):=⟨(s.p.append_left X).trans (by rw[← List.append_assoc,← List.append_assoc];exact List.Perm.append_right F List.perm_append_comm)⟩
section col
variable {R:RM} {D G:Chs} {p:Nat} {S:Sim} {g:Img} {m:M} {k:Value→M}
theorem col_flat {x:Col} {sv:Value} (h:flat sv = true):allFlat (eCol x sv) = true:=by
 show (true && (true && (true && (flat sv && true)))) = true
 rw[h];rfl
theorem jopenC [w:Fd D p S g G] (hok:Ok R S g) (H:∀b,J R ((b,C T_l8Col (eCol S.col g.stack)) :: D) (k (.pointer (some ⟨b,0,none⟩)))) :
  J R D (LA 15 (.pointer (some ⟨p,18,none⟩)) λx3=>AL T_l8Col z94 λx4=>ST 15 x4 x3 (k x4)):=by
 refine jperm w.ex ?_
 refine jla (t:=T_l8Sim) (cs:=eSim S g) (l:=eCol S.col g.stack) (by show 18 + 15≤35;omega) rfl ?_
 refine ja λb=>?_
 refine js (cs':=eCol S.col g.stack) rfl (col_flat (Fz.flat hok.stack)) (by exact z_n 15) (by rfl) ?_
 exact jperm (w.ex.symm.cons _) (H b)
theorem jputC {b:Nat} {x:Col} {sv:Value} (S' : Sim) [w:Fd D p S g G] [at_:At D b (C T_l8Col (eCol x sv))] (hok:Ok R S g) (hv:Ints R sv x.stack) (hS:S' = { S with col:=x })
  (H:∀g',Ok R S' g'→J R (simD p S' g' ++ G) m):J R D (LA 15 (.pointer (some ⟨b,0,none⟩)) λx10=>ST 15 (.pointer (some ⟨p,18,none⟩)) x10 m):=by
 subst hS
 refine jla (t:=T_l8Col) (cs:=eCol x sv) (l:=eCol x sv) (z_n 15) rfl ?_
 refine jss (p:=p) { S with col:=x } { g with stack:=sv } rfl (col_flat (Fz.flat hv)) (by decide) (by rfl) (by rfl) ?_
 exact H _ { hok with stack:=hv }
theorem jsm {i:Nat} {v:Bool} (S' : Sim) [w:Fd D p S g G] (hi:i < S.marks.length) (hS:S' = { S with marks:=S.marks.set i v }) (H:J R (simD p S' g ++ G) m):J R D (ST 1 (.pointer (some ⟨g.mb,i,none⟩)) (.bool v) m):=by
 subst hS
 intro h hs
 refine js (R:=R) (D:=simD p S g ++ G) (t:=T_bool) (cs:=S.marks.map Value.bool ++ g.msp) (cs':=(S.marks.set i v).map Value.bool ++ g.msp) (D':=simD p { S with marks:=S.marks.set i v } g ++ G) rfl rfl (by simp;omega) ?_ H h (hs.perm w.ex) (u:=?_)
 ·rw[show cl (Value.bool v) = [Value.bool v] from rfl,lay_one (by simp;omega),List.set_append_left _ _ (by simpa using hi),List.map_set]
 ·have e1:eSim { S with marks:=S.marks.set i v } g = eSim S g:=by simp[eSim,evV]
  unfold simD evD
  rw[e1]
  exact inferInstance
end col
theorem p_l8Then {x x' : Col} (a:Option Addr) (n c:Nat) (h:l8Then x = some x'):Pu F_s_l8Then [.agg (eCol x (.slice a n c)).toArray] (.agg (eCol x' (.slice a n c)).toArray):=by
 intro R
 refine s_s_l8Then λF=>?_
 unfold c_s_l8Then
 obtain⟨i,hi,h⟩:=bind_some h
 obtain⟨rfl,hin⟩:=plus_some hi
 simp only[Option.some.injEq] at h
 subst h
 refine ja λb=>ja λb2=>?_
 have e:cl (.agg (eCol x (.slice a n c)).toArray) = eCol x (.slice a n c):=rfl
 rw[e]
 refine jl (v:=I x.i) rfl (jadd hin ?_)
 refine js (cs':=eCol { x with i:=x.i + 1 } (.slice a n c)) rfl rfl (by simp[eCol]) rfl ?_
 refine js (cs':=eCol { x with i:=x.i + 1,pc:=7 } (.slice a n c)) rfl rfl (by simp[eCol]) rfl ?_
 refine jcutq (λvs R' D'=>R' = R∧D' = (b2,C 94 (cl z94)) :: (b,C 94 (eCol { x with i:=x.i + 1,pc:=if x.i + 1 = x.sh.refs then 6 else 7 } (.slice a n c))) :: ([] ++ F)∧vs = [.pointer (some ⟨b,0,none⟩),.pointer (some ⟨b2,0,none⟩)]) (λK hK=>?_) ?_
 ·refine jl (v:=I (x.i + 1)) rfl (jl (v:=I x.sh.refs) rfl (jeq (jif (λhc=>?_) (λhc=>?_))))
  ·refine js (cs':=eCol { x with i:=x.i + 1,pc:=6 } (.slice a n c)) rfl rfl (by simp[eCol]) rfl ?_
   exact hK _ _ _ ⟨rfl,by rw[if_pos (eq_of_beq hc)],rfl⟩
  ·exact hK _ _ _ ⟨rfl,by rw[if_neg (ne_of_beq_false hc)],rfl⟩
 ·rintro e R1 D1 ⟨rfl,hD,he⟩
  rw[hD];clear hD
  simp only[List.map,lc,ln,lj,z_t] at he
  simp only[he]
  refine jla (l:=eCol { x with i:=x.i + 1,pc:=if x.i + 1 = x.sh.refs then 6 else 7 } (.slice a n c)) (by exact z_n 15) (by rfl) ?_
  refine js (cs':=eCol { x with i:=x.i + 1,pc:=if x.i + 1 = x.sh.refs then 6 else 7 } (.slice a n c)) rfl rfl (by exact z_n 15) (by rfl) ?_
  refine jla (l:=eCol { x with i:=x.i + 1,pc:=if x.i + 1 = x.sh.refs then 6 else 7 } (.slice a n c)) (by exact z_n 15) (by rfl) ?_
  exact jret (A:=[]) (RM.le.refl _) rfl
theorem t_look {p:Nat} {S S' : Sim} {g:Img} {R:RM} (hok:Ok R S g) (hS:S.look = some S') :
  Fn P F_Sim_look [.pointer (some ⟨p,0,none⟩)] R (simD p S g) (SimQ p S' λ_=>True):=by
 refine s_Sim_look λF=>?_
 unfold c_Sim_look
 unfold Sim.look at hS
 split at hS
 ·cases hS
 rename_i hsz
 have hsz:=sz_ev (by simpa using hsz:S.sz = true)
 dsimp only at hS
 obtain⟨q1,hq1,hS⟩:=bind_some hS
 obtain⟨rfl,in1⟩:=plus_some hq1
 obtain⟨q2,hq2,hS⟩:=bind_some hS
 obtain⟨rfl,in2⟩:=plus_some hq2
 obtain⟨⟨v,S1⟩,hrd,hS⟩:=bind_some hS
 have e1:=read_is hrd
 subst e1
 dsimp only at hS
 obtain⟨i1,hi1,hS⟩:=bind_some hS
 obtain⟨rfl,in3⟩:=plus_some hi1
 refine jopenC (p:=p) hok λb=>?_
 obtain⟨a,cap,hsv,-⟩:=Ints.reads (D:=[]) hok.stack
 rw[hsv]
 have hst0:=hok.stack
 rw[hsv] at hst0
 refine jl (v:=I S.col.p) rfl (jadd in1 (jl (v:=I S.col.i) rfl (jadd in2 ?_)))
 refine jcS (p:=p) (by exact t_read hok hrd) λ_ R1 g1 hR1 hr ok1=>?_
 subst hr
 refine jcutq (λvs R' D'=>R1.le R'∧∃a2 n2 c2,Ints R' (.slice a2 n2 c2) (if v≠0 then S.col.stack ++ [v] else S.col.stack)∧D' = simD p { S with used:=true } g1 ++ (b,C T_l8Col (eCol { S.col with stack:=if v≠0 then S.col.stack ++ [v] else S.col.stack } (.slice a2 n2 c2))) :: F∧vs = [.pointer (some ⟨p,0,none⟩),.pointer (some ⟨b,0,none⟩)]) (λK hK=>?_) ?_
 ·refine jne (jif (λhv=>?_) (λhv=>?_))
  ·have hv:v≠0:=by simpa using hv
   refine jl (v:=.slice a S.col.stack.length cap) rfl ?_
   refine jc (A:=[]) (t_l5Ints (hst0.le hR1) (by exact hsz.2.2.1)) ?_
   rintro _ R' _ hR ⟨b4,c,sp,hc,hsp,rfl,rfl⟩
   refine jbs (cs:=[I v]) rfl rfl λb1=>?_
   refine jap1 (v:=v) hc hsp (by exact hsz.2.2.1) (Reads.held (t:=T_int) (cs:=[I v]) (o:=0) (n:=1 * 1) (z_n 1)) λb' c' sp' hc' hsp'=>?_
   refine jfreeze (b:=b') λR2 hR2 hb'=>?_
   have hi:=ints_of (c:=c') hb' (by simpa using hc')
   rw[List.length_append,List.length_singleton] at hi
   refine js (cs':=eCol { S.col with stack:=S.col.stack ++ [v] } (.slice (some ⟨b',0,none⟩) (S.col.stack.length + 1) c')) rfl rfl (by simp[eCol]) rfl ?_
   refine jpart (simD p { S with used:=true } g1) (G:=(b,C T_l8Col (eCol { S.col with stack:=S.col.stack ++ [v] } (.slice (some ⟨b',0,none⟩) (S.col.stack.length + 1) c'))) :: F) ?_
   refine hK _ _ _ ⟨hR.trans hR2,some ⟨b',0,none⟩,S.col.stack.length + 1,c',by rw[if_pos hv];exact hi,by rw[if_pos hv],rfl⟩
  ·have hv:¬ v≠0:=by simpa using hv
   exact hK _ _ _ ⟨RM.le.refl _,a,S.col.stack.length,cap,by rw[if_neg hv];exact hst0.le hR1,by rw[if_neg hv],rfl⟩
 ·rintro e R2 D2 ⟨hR2,a2,n2,c2,hi,hD,he⟩
  rw[hD];clear hD
  simp only[List.map,lc,ln,lj,z_t] at he
  simp only[he]
  have ok2:=ok1.le hR2
  generalize hnew:(if v≠0 then S.col.stack ++ [v] else S.col.stack) = st2 at hi hS ⊢
  refine jl (v:=I S.col.i) rfl (jadd in3 ?_)
  refine js (cs':=eCol { S.col with stack:=st2,i:=S.col.i + 1 } (.slice a2 n2 c2)) rfl rfl (by simp[eCol]) rfl ?_
  refine jcutq (λvs R' D'=>R' = R2∧D' = simD p { S with used:=true } g1 ++ (b,C T_l8Col (eCol { S.col with stack:=st2,i:=S.col.i + 1,pc:=if S.col.i + 1 = S.col.sh.refs then 1 else S.col.pc } (.slice a2 n2 c2))) :: F∧vs = [.pointer (some ⟨p,0,none⟩),.pointer (some ⟨b,0,none⟩)]) (λK hK=>?_) ?_
  ·refine jl (v:=I (S.col.i + 1)) rfl (jl (v:=I S.col.sh.refs) rfl (jeq (jif (λhc=>?_) (λhc=>?_))))
   ·refine js (cs':=eCol { S.col with stack:=st2,i:=S.col.i + 1,pc:=1 } (.slice a2 n2 c2)) rfl rfl (by simp[eCol]) rfl ?_
    exact hK _ _ _ ⟨rfl,by rw[if_pos (eq_of_beq hc)],rfl⟩
   ·exact hK _ _ _ ⟨rfl,by rw[if_neg (ne_of_beq_false hc)],rfl⟩
  ·rintro e R3 D3 ⟨rfl,hD,he⟩
   rw[hD];clear hD
   simp only[List.map,lc,ln,lj,z_t] at he
   simp only[he]
   refine jputC (p:=p) (({ S with used:=true }:Sim).setC { S.col with stack:=st2,i:=S.col.i + 1,pc:=if S.col.i + 1 = S.col.sh.refs then 1 else S.col.pc }) (by exact ok2) (by exact hi) (by rfl) λg3 ok3=>?_
   simp only[Option.some.injEq] at hS
   subst hS
   exact jretS (hR1.trans hR2) trivial rfl ok3
end Go.Lf
end
section
namespace Go.Lf
open Go Sm
theorem t_mark {p:Nat} {S S' : Sim} {g:Img} {R:RM} (hok:Ok R S g) (hS:S.mark = some S') :
  Fn P F_Sim_mark [.pointer (some ⟨p,0,none⟩)] R (simD p S g) (SimQ p S' λ_=>True):=by
 refine s_Sim_mark λF=>?_
 unfold c_Sim_mark
 unfold Sim.mark at hS
 split at hS
 ·cases hS
 rename_i hsz
 have hsz:=sz_ev (by simpa using hsz:S.sz = true)
 dsimp only at hS
 refine jopenC (p:=p) hok λb=>?_
 obtain⟨a,cap,hsv,-⟩:=Ints.reads (D:=[]) hok.stack
 rw[hsv]
 have hst0:=hok.stack
 rw[hsv] at hst0
 refine jl (v:=.slice a S.col.stack.length cap) rfl (jln (jeq (jif (λh0=>?_) (λh0=>?_))))
 ·have h0:S.col.stack.length = 0:=by have:=eq_of_beq h0;omega
  rw[if_pos h0] at hS
  refine jcutq (λvs R' D'=>R.le R'∧∃S2 g2 x2 sv2,S' = { S2 with col:=x2 }∧Ok R' S2 g2∧Ints R' sv2 x2.stack∧D' = simD p S2 g2 ++ (b,C T_l8Col (eCol x2 sv2)) :: F∧vs = [.pointer (some ⟨p,0,none⟩),.pointer (some ⟨b,0,none⟩)]) (λK hK=>?_) ?_
  rotate_left
  ·rintro e R2 D2 ⟨hR2,S2,g2,x2,sv2,e1,ok2,hi,hD,he⟩
   rw[hD];clear hD
   simp only[List.map,lc,ln,lj,z_t] at he
   simp only[he]
   refine jputC (p:=p) { S2 with col:=x2 } (by exact ok2) (by exact hi) (by rfl) λg3 ok3=>?_
   subst e1
   exact jretS hR2 trivial rfl ok3
  refine jl (v:=g.old) rfl (jlnz hok.old (jeq (jif (λh1=>?_) (λh1=>?_))))
  ·have h1:S.old = []:=by have:=eq_of_beq h1;exact List.length_eq_zero_iff.1 (by omega)
   rw[h1] at hS
   simp only[Option.some.injEq] at hS
   refine jss (p:=p) { S with stop:=true } g rfl rfl (by decide) (by rfl) (by rfl) ?_
   refine js (cs':=eCol { S.col with want:=2 } (.slice a S.col.stack.length cap)) rfl rfl (by simp[eCol]) rfl ?_
   exact hK _ _ _ ⟨RM.le.refl _,{ S with stop:=true },g,{ S.col with want:=2 },_,hS.symm▸by rw[h1],{ hok with },hst0,rfl,rfl⟩
  ·have h1:S.old.length≠0:=by have:=ne_of_beq_false h1;omega
   obtain⟨a0,l,hol⟩:∃a l,S.old = a :: l:=by cases h:S.old with | nil=>rw[h] at h1;exact absurd rfl h1 | cons a l=>exact⟨a,l,rfl⟩
   rw[hol] at hS
   simp only[Option.some.injEq] at hS
   refine jl (v:=g.old) rfl (jfz1 hok.old (by omega) (by omega) ?_)
   have e0:S.old[(0:Int).toNat]'(by simp;omega) = a0:=by simp[hol]
   rw[e0]
   refine jbs (cs:=[I a0]) rfl rfl λb1=>?_
   refine js (cs':=eCol { S.col with stack:=[a0] } (.slice (some ⟨b1,0,none⟩) 1 1)) rfl rfl (by simp[eCol]) rfl ?_
   refine jfreeze (b:=b1) λR2 hR2 hb1=>?_
   have hi1:Ints R2 (.slice (some ⟨b1,0,none⟩) [a0].length 1) [a0]:=ints_of (l:=[a0]) (c:=1) (sp:=[]) (by simpa using hb1) (z_n 1)
   refine jl (v:=g.old) rfl (jsll (hok.old.le hR2) (by omega) (by rw[hol];simp;omega) λv1 hv1=>?_)
   rw[hol] at hv1
   refine jc (A:=[]) (t_l5Ints (l:=l) hv1 (by have:=hsz.2.1;rw[hol] at this;simp at this;omega)) ?_
   rintro _ R3 _ hR3 ⟨b4,c4,sp4,hc4,hsp4,rfl,rfl⟩
   refine jfreeze (b:=b4) λR4 hR4 hb4=>?_
   have hi4:=ints_of (c:=c4) hb4 hc4
   refine jss (p:=p) { S with old:=l } { g with old:=.slice (some ⟨b4,0,none⟩) l.length c4 } rfl rfl (by decide) (by rfl) (by rfl) ?_
   have hR:=(hR2.trans hR3).trans hR4
   refine jpart (simD p { S with old:=l } { g with old:=.slice (some ⟨b4,0,none⟩) l.length c4 }) (G:=(b,C T_l8Col (eCol { S.col with stack:=[a0] } (.slice (some ⟨b1,0,none⟩) 1 1))) :: F) ?_
   exact hK _ _ _ ⟨hR,{ S with old:=l },{ g with old:=.slice (some ⟨b4,0,none⟩) l.length c4 },{ S.col with stack:=[a0] },_,hS.symm,{ hok.le hR with old:=hi4 },(hi1.le hR3).le hR4,rfl,rfl⟩
 have h0:S.col.stack.length≠0:=by have:=ne_of_beq_false h0;omega
 rw[if_neg h0] at hS
 obtain⟨av,hav,hS⟩:=bind_some hS
 obtain⟨row,hrow,hS⟩:=bind_some hS
 obtain⟨go,hgo,hS⟩:=bind_some hS
 obtain⟨r0,r1,r2,r3⟩:=idx_some hrow
 have htl:=hok.tl
 have hlast:S.col.stack[S.col.stack.length - 1]'(by omega) = av:=by
  rw[List.getLast?_eq_getElem?] at hav
  rw[List.getElem?_eq_getElem (by omega)] at hav
  exact Option.some.inj hav
 have hss:=hsz.2.2.1
 refine jl (v:=.slice a S.col.stack.length cap) rfl (jl (v:=.slice a S.col.stack.length cap) rfl (jln (jsub ⟨by omega,by omega⟩ ?_)))
 refine jfz1 hst0 (by omega) (by omega) ?_
 have e0:S.col.stack[((S.col.stack.length:Int) - 1).toNat]'(by omega) = av:=by
  rw[← hlast];congr 1;omega
 rw[e0]
 refine jl (v:=.slice a S.col.stack.length cap) rfl (jl (v:=.slice a S.col.stack.length cap) rfl (jln (jsub ⟨by omega,by omega⟩ ?_)))
 refine jslh hst0 (by omega) (by omega) λv1 hv1=>?_
 rw[show ((S.col.stack.length:Int) - 1).toNat = S.col.stack.length - 1 from by omega,← List.dropLast_eq_take] at hv1
 refine jc (A:=[]) (t_l5Ints hv1 (by simp;omega)) ?_
 rintro _ R1 _ hR1 ⟨b4,c4,sp4,hc4,hsp4,rfl,rfl⟩
 refine jfreeze (b:=b4) λR2 hR2 hb4=>?_
 have hi4:=ints_of (c:=c4) hb4 hc4
 have hR12:=hR1.trans hR2
 have ok2:=hok.le hR12
 refine js (cs':=eCol { S.col with stack:=S.col.stack.dropLast } (.slice (some ⟨b4,0,none⟩) S.col.stack.dropLast.length c4)) rfl rfl (by simp[eCol]) rfl ?_
 refine jp (p_RegionOf av (by omega)) ?_
 refine jcutq (λvs R' D'=>R2.le R'∧∃S3 g3 x3,S' = { S3 with col:=x3 }∧Ok R' S3 g3∧x3.stack = S.col.stack.dropLast∧D' = simD p S3 g3 ++ (b,C T_l8Col (eCol x3 (.slice (some ⟨b4,0,none⟩) S.col.stack.dropLast.length c4))) :: F∧vs = [.pointer (some ⟨p,0,none⟩),.pointer (some ⟨b,0,none⟩)]) (λK hK=>?_) ?_
 rotate_left
 ·rintro e R3 D3 ⟨hR3,S3,g3,x3,e1,ok3,ex,hD,he⟩
  rw[hD];clear hD
  simp only[List.map,lc,ln,lj,z_t] at he
  simp only[he]
  refine jputC (p:=p) { S3 with col:=x3 } (by exact ok3) (by rw[ex];exact hi4.le hR3) (by rfl) λg4 ok4=>?_
  subst e1
  exact jretS (hR12.trans hR3) trivial rfl ok4
 refine jcutq (λvs R' D'=>R' = R2∧D' = (b,C T_l8Col (eCol { S.col with stack:=S.col.stack.dropLast } (.slice (some ⟨b4,0,none⟩) S.col.stack.dropLast.length c4))) :: (simD p S g ++ F)∧∃c u,vs = [.pointer (some ⟨p,0,none⟩),.pointer (some ⟨b,0,none⟩),I av,I (regionOf av),c,u]∧And2 c u go) (λK2 hK2=>?_) ?_
 ·refine jl (v:=.slice (some ⟨g.tb,0,none⟩) S.table.length g.tc) rfl (jia r0 r1 ?_)
  refine jl (v:=I row.tams) (by rw[Nat.zero_add];exact row_cell (f:=3) r2 (by rw[r3];rfl)) (jlt ?_)
  by_cases hlt:av < row.tams
  ·rw[if_pos hlt] at hgo
   obtain⟨mk,hmk,hgo⟩:=bind_some hgo
   cases hgo
   obtain⟨m0,m1,m2,m3⟩:=idx_some hmk
   rw[decide_eq_true hlt]
   refine jtt (jl (v:=.slice (some ⟨g.mb,0,none⟩) S.marks.length g.mc) rfl (jia m0 m1 ?_))
   refine jl (v:=.bool mk) (by rw[Nat.zero_add,Nat.mul_one,bools_get m2,m3]) ?_
   exact hK2 _ _ _ ⟨rfl,rfl,_,_,rfl,and2_t⟩
  ·rw[if_neg hlt] at hgo
   cases hgo
   rw[decide_eq_false hlt]
   exact jft (hK2 _ _ _ ⟨rfl,rfl,_,_,rfl,and2_f⟩)
 rintro e R3 D3 ⟨hR3,hD,c,u,he,ha⟩
 subst hR3
 rw[hD];clear hD
 simp only[List.map,lc,ln,lj,z_t] at he
 simp only[he]
 rw[ha]
 refine jif (λhg=>?_) (λhg=>?_)
 ·rw[hg,if_pos rfl] at hS
  rw[hg] at hgo
  have hm:idx S.marks av = some false:=by
   split at hgo
   ·obtain⟨mk,hmk,hgo⟩:=bind_some hgo
    cases mk
    ·exact hmk
    ·cases hgo
   ·cases hgo
  obtain⟨m0,m1,m2,m3⟩:=idx_some hm
  obtain⟨q1,hq1,hS⟩:=bind_some hS
  obtain⟨rfl,in1⟩:=plus_some hq1
  obtain⟨⟨w,S1⟩,hrd,hS⟩:=bind_some hS
  have e1:=read_is hrd
  subst e1
  dsimp only at hS
  obtain⟨lv,hlv,hS⟩:=bind_some hS
  obtain⟨rfl,in2⟩:=plus_some hlv
  simp only[Option.some.injEq] at hS
  refine jl (v:=.slice (some ⟨g.mb,0,none⟩) S.marks.length g.mc) rfl (jia m0 m1 ?_)
  rw[Nat.zero_add,Nat.mul_one]
  refine jsm (p:=p) { S with marks:=seti S.marks av true } (by exact m2) (by rfl) ?_
  refine jadd in1 ?_
  have ok3:Ok R3 { S with marks:=seti S.marks av true } g:={ ok2 with ml:=by simpa [seti] using ok2.ml,mk_:=by simpa [seti] using ok2.mk_ }
  refine jcS (p:=p) (by exact t_read ok3 hrd) λ_ R4 g4 hR4 hr ok4=>?_
  subst hr
  refine jp (p_ShapeOf w) (jex rfl (jex rfl ?_))
  refine ja λb5=>?_
  refine js (cs':=[I (shapeOf w).1.refs,I (shapeOf w).1.nums]) rfl rfl (by exact z_n 2) rfl ?_
  refine jl (v:=.slice (some ⟨g4.tb,0,none⟩) S.table.length g4.tc) rfl (jia r0 r1 ?_)
  refine jlr_ (p:=p) (by exact r2) ?_
  have er:({ S with used:=true,marks:=seti S.marks av true }:Sim).table[(regionOf av).toNat]'r2 = row:=r3
  rw[er]
  refine ja λb6=>?_
  refine js (cs':=eRg row) rfl rfl (by simp) rfl ?_
  refine jl (v:=I row.live) rfl ?_
  refine jla (l:=[I (shapeOf w).1.refs,I (shapeOf w).1.nums]) (by exact z_n 2) (by rfl) ?_
  refine jp (p_ShapeSize (shapeOf w).1) (jadd in2 (jand (jl (v:=I row.live) rfl jev) ?_))
  refine js (cs':=eRg { row with live:=row.live + shapeSize (shapeOf w).1 }) rfl rfl (by simp) rfl ?_
  refine jl (v:=.slice (some ⟨g4.tb,0,none⟩) S.table.length g4.tc) rfl ?_
  refine jla (l:=eRg { row with live:=row.live + shapeSize (shapeOf w).1 }) (by simp) rfl ?_
  refine jia r0 r1 ?_
  refine jsr_ (p:=p) (x:={ row with live:=row.live + shapeSize (shapeOf w).1 }) { S with used:=true,marks:=seti S.marks av true,table:=seti S.table (regionOf av) { row with live:=row.live + shapeSize (shapeOf w).1 } } (by exact r2) (by rfl) ?_
  have ok5:Ok R4 { S with used:=true,marks:=seti S.marks av true,table:=seti S.table (regionOf av) { row with live:=row.live + shapeSize (shapeOf w).1 } } g4:={ ok4 with tl:=by simpa [seti] using ok4.tl,tk:=by simpa [seti] using ok4.tk }
  refine js (cs':=eCol { S.col with stack:=S.col.stack.dropLast,p:=av } (.slice (some ⟨b4,0,none⟩) S.col.stack.dropLast.length c4)) rfl rfl (by simp[eCol]) rfl ?_
  refine js (cs':=eCol { S.col with stack:=S.col.stack.dropLast,p:=av,i:=0 } (.slice (some ⟨b4,0,none⟩) S.col.stack.dropLast.length c4)) rfl rfl (by simp[eCol]) rfl ?_
  refine jla (l:=[I (shapeOf w).1.refs,I (shapeOf w).1.nums]) (by exact z_n 2) (by rfl) ?_
  refine js (cs':=eCol { S.col with stack:=S.col.stack.dropLast,p:=av,i:=0,sh:=(shapeOf w).1 } (.slice (some ⟨b4,0,none⟩) S.col.stack.dropLast.length c4)) rfl rfl (by simp[eCol]) rfl ?_
  refine jl (v:=I (shapeOf w).1.refs) rfl (jgr (jif (λhc=>?_) (λhc=>?_)))
  ·rw[if_pos (z_f hc)] at hS
   refine js (cs':=eCol { S.col with stack:=S.col.stack.dropLast,p:=av,i:=0,sh:=(shapeOf w).1,pc:=2 } (.slice (some ⟨b4,0,none⟩) S.col.stack.dropLast.length c4)) rfl rfl (by simp[eCol]) rfl ?_
   refine jpart (simD p { S with used:=true,marks:=seti S.marks av true,table:=seti S.table (regionOf av) { row with live:=row.live + shapeSize (shapeOf w).1 } } g4) (G:=(b,C T_l8Col (eCol { S.col with stack:=S.col.stack.dropLast,p:=av,i:=0,sh:=(shapeOf w).1,pc:=2 } (.slice (some ⟨b4,0,none⟩) S.col.stack.dropLast.length c4))) :: F) ?_
   exact hK _ _ _ ⟨hR4,_,g4,{ S.col with stack:=S.col.stack.dropLast,p:=av,i:=0,sh:=(shapeOf w).1,pc:=2 },hS.symm,ok5,rfl,rfl,rfl⟩
  ·rw[if_neg (z_g hc)] at hS
   refine jpart (simD p { S with used:=true,marks:=seti S.marks av true,table:=seti S.table (regionOf av) { row with live:=row.live + shapeSize (shapeOf w).1 } } g4) (G:=(b,C T_l8Col (eCol { S.col with stack:=S.col.stack.dropLast,p:=av,i:=0,sh:=(shapeOf w).1 } (.slice (some ⟨b4,0,none⟩) S.col.stack.dropLast.length c4))) :: F) ?_
   exact hK _ _ _ ⟨hR4,{ S with used:=true,marks:=seti S.marks av true,table:=seti S.table (regionOf av) { row with live:=row.live + shapeSize (shapeOf w).1 } },g4,{ S.col with stack:=S.col.stack.dropLast,p:=av,i:=0,sh:=(shapeOf w).1 },hS.symm,ok5,rfl,rfl,rfl⟩
 ·rw[hg,if_neg (by decide)] at hS
  simp only[Option.some.injEq] at hS
  refine jpart (simD p S g) (G:=(b,C T_l8Col (eCol { S.col with stack:=S.col.stack.dropLast } (.slice (some ⟨b4,0,none⟩) S.col.stack.dropLast.length c4))) :: F) ?_
  exact hK _ _ _ ⟨RM.le.refl _,S,g,{ S.col with stack:=S.col.stack.dropLast },hS.symm,ok2,rfl,rfl,rfl⟩
end Go.Lf
end
section
namespace Go.Lf
open Go Sm
theorem t_carry {p:Nat} {S S' : Sim} {g:Img} {R:RM} (hok:Ok R S g) (hS:S.carry = some S') :
  Fn P F_Sim_carry [.pointer (some ⟨p,0,none⟩)] R (simD p S g) (SimQ p S' λ_=>True):=by
 refine s_Sim_carry λF=>?_
 unfold c_Sim_carry
 unfold Sim.carry at hS
 dsimp only at hS
 refine jopenC (p:=p) hok λb=>?_
 obtain⟨a,cap,hsv,-⟩:=Ints.reads (D:=[]) hok.stack
 rw[hsv]
 have hst0:=hok.stack
 rw[hsv] at hst0
 refine jcutq (λvs R' D'=>R.le R'∧∃S2 g2 x2,S' = S2.setC x2∧Ok R' S2 g2∧x2.stack = S.col.stack∧D' = simD p S2 g2 ++ (b,C T_l8Col (eCol x2 (.slice a S.col.stack.length cap))) :: F∧vs = [.pointer (some ⟨p,0,none⟩),.pointer (some ⟨b,0,none⟩)]) (λK hK=>?_) ?_
 rotate_left
 ·rintro e R2 D2 ⟨hR2,S2,g2,x2,e1,ok2,ex,hD,he⟩
  rw[hD];clear hD
  simp only[List.map,lc,ln,lj,z_t] at he
  simp only[he]
  refine jputC (p:=p) (S2.setC x2) (by exact ok2) (by rw[ex];exact hst0.le hR2) (by rfl) λg3 ok3=>?_
  subst e1
  exact jretS hR2 trivial rfl ok3
 refine jl (v:=I S.col.pc) rfl ?_
 refine jcutq (λvs R' D'=>R.le R'∧∃S2 g2 x2,S' = S2.setC x2∧Ok R' S2 g2∧x2.stack = S.col.stack∧D' = simD p S2 g2 ++ (b,C T_l8Col (eCol x2 (.slice a S.col.stack.length cap))) :: F∧vs = [.pointer (some ⟨p,0,none⟩),.pointer (some ⟨b,0,none⟩)]) (λK2 hK2=>?_) ?_
 rotate_left
 ·rintro e R2 D2 ⟨hR2,S2,g2,x2,e1,ok2,ex,hD,he⟩
  rw[hD];clear hD
  simp only[List.map,lc,ln,lj,z_t] at he
  simp only[he]
  exact hK _ _ _ ⟨hR2,S2,g2,x2,e1,ok2,ex,rfl,rfl⟩
 refine jeq (jif (λc20=>?_) (λc20=>?_))
 ·rw[if_pos (eq_of_beq c20)] at hS
  obtain⟨q,hq,hS⟩:=bind_some hS
  obtain⟨rfl,hin⟩:=plus_some hq
  obtain⟨⟨w,S1⟩,hrd,hS⟩:=bind_some hS
  have e1:=read_is hrd
  subst e1
  dsimp only at hS
  refine jl (v:=I S.col.src) rfl (jadd hin ?_)
  refine jcS (p:=p) (by exact t_read hok hrd) λ_ R1 g1 hR1 hr ok1=>?_
  subst hr
  refine jp (p_ShapeOf w) (jex rfl (jex rfl ?_))
  refine ja λb3=>?_
  refine js (cs':=[I (shapeOf w).1.refs,I (shapeOf w).1.nums]) rfl rfl (by exact z_n 2) rfl ?_
  refine jla (l:=[I (shapeOf w).1.refs,I (shapeOf w).1.nums]) (by exact z_n 2) (by rfl) ?_
  refine jp (p_ShapeSize (shapeOf w).1) ?_
  refine js (cs':=eCol { S.col with size:=shapeSize (shapeOf w).1 } (.slice a S.col.stack.length cap)) rfl rfl (by simp[eCol]) rfl ?_
  refine jl (v:=.slice (some ⟨g1.tb,0,none⟩) S.table.length g1.tc) rfl ?_
  refine jl (v:=.slice (some ⟨g1.hb,0,none⟩) S.th.length g1.hc) rfl (jln ?_)
  refine jl (v:=I (shapeSize (shapeOf w).1)) rfl ?_
  refine jmk (by exact m_TableRoom (t:=S.table) (sp:=g1.tsp) S.th.length (shapeSize (shapeOf w).1) (by have:=hok.tl;omega)) ?_
  intro v N hq2
  cases hrm:tableRoom S.table S.th.length (shapeSize (shapeOf w).1) with
  | none=>
   rw[hrm] at hq2 hS
   obtain⟨rfl,rfl⟩:=hq2
   simp only[Option.some.injEq] at hS
   subst hS
   refine jex rfl (jex rfl (jex rfl (jift ?_)))
   refine jss (p:=p) { S with used:=true,full:=true } g1 rfl rfl (by decide) (by rfl) (by rfl) ?_
   refine jss (p:=p) { S with used:=true,full:=true,stop:=true } g1 rfl rfl (by decide) (by rfl) (by rfl) ?_
   exact jretS hR1 trivial rfl { ok1 with }
  | some td=>
   obtain⟨t',d⟩:=td
   rw[hrm] at hq2 hS
   obtain⟨sv,⟨b4,c4,sp4,hc4,rfl,rfl⟩,rfl⟩:=hq2
   simp only[Option.some.injEq] at hS
   have hlen:=room_len hrm
   refine jex rfl (jex rfl (jex rfl (jiff ?_)))
   refine jtab1 (p:=p) ?_
   refine js (cs':=eCol { S.col with size:=shapeSize (shapeOf w).1,dst:=d } (.slice a S.col.stack.length cap)) rfl rfl (by simp[eCol]) rfl ?_
   refine js (cs':=eCol { S.col with size:=shapeSize (shapeOf w).1,dst:=d,i:=1 } (.slice a S.col.stack.length cap)) rfl rfl (by simp[eCol]) rfl ?_
   refine js (cs':=eCol { S.col with size:=shapeSize (shapeOf w).1,dst:=d,i:=1,pc:=21 } (.slice a S.col.stack.length cap)) rfl rfl (by simp[eCol]) rfl ?_
   refine jpart (simD p { S with used:=true,table:=t' } { g1 with tb:=b4,tc:=c4,tsp:=sp4 }) (G:=(b,C T_l8Col (eCol { S.col with size:=shapeSize (shapeOf w).1,dst:=d,i:=1,pc:=21 } (.slice a S.col.stack.length cap))) :: F) ?_
   exact hK2 _ _ _ ⟨hR1,{ S with used:=true,table:=t' },{ g1 with tb:=b4,tc:=c4,tsp:=sp4 },{ S.col with size:=shapeSize (shapeOf w).1,dst:=d,i:=1,pc:=21 },hS.symm,ok1.tab (by rw[hlen];exact hok.tl) _ _ _ hc4,rfl,rfl,rfl⟩
 rw[if_neg (ne_of_beq_false c20)] at hS
 refine jeq (jif (λc21=>?_) (λc21=>?_))
 ·rw[if_pos (eq_of_beq c21)] at hS
  obtain⟨q,hq,hS⟩:=bind_some hS
  obtain⟨rfl,hin⟩:=plus_some hq
  obtain⟨⟨w,S1⟩,hrd,hS⟩:=bind_some hS
  have e1:=read_is hrd
  subst e1
  cases hS
  refine jl (v:=I S.col.src) rfl (jl (v:=I S.col.i) rfl (jadd hin ?_))
  refine jcS (p:=p) (by exact t_read hok hrd) λ_ R1 g1 hR1 hr ok1=>?_
  subst hr
  refine js (cs':=eCol { S.col with word:=w } (.slice a S.col.stack.length cap)) rfl rfl (by simp[eCol]) rfl ?_
  refine js (cs':=eCol { S.col with word:=w,pc:=22 } (.slice a S.col.stack.length cap)) rfl rfl (by simp[eCol]) rfl ?_
  exact hK2 _ _ _ ⟨hR1,{ S with used:=true },g1,{ S.col with word:=w,pc:=22 },rfl,ok1,rfl,rfl,rfl⟩
 rw[if_neg (ne_of_beq_false c21)] at hS
 refine jeq (jif (λc22=>?_) (λc22=>?_))
 ·rw[if_pos (eq_of_beq c22)] at hS
  obtain⟨q,hq,hS⟩:=bind_some hS
  obtain⟨rfl,hin⟩:=plus_some hq
  obtain⟨S1,hwr,hS⟩:=bind_some hS
  have e1:=write_is hwr
  subst e1
  obtain⟨n,hn,hS⟩:=bind_some hS
  obtain⟨rfl,hin2⟩:=plus_some hn
  cases hS
  refine jl (v:=I S.col.dst) rfl (jl (v:=I S.col.i) rfl (jadd hin (jl (v:=I S.col.word) rfl ?_)))
  refine jcS (p:=p) (by exact t_write hok hwr) λ_ R1 g1 hR1 hr ok1=>?_
  refine jl (v:=I S.col.i) rfl (jadd hin2 ?_)
  refine js (cs':=eCol { S.col with i:=S.col.i + 1 } (.slice a S.col.stack.length cap)) rfl rfl (by simp[eCol]) rfl ?_
  refine js (cs':=eCol { S.col with i:=S.col.i + 1,pc:=21 } (.slice a S.col.stack.length cap)) rfl rfl (by simp[eCol]) rfl ?_
  refine jl (v:=I (S.col.i + 1)) rfl (jl (v:=I S.col.size) rfl (jeq (jif (λhz=>?_) (λhz=>?_))))
  ·refine js (cs':=eCol { S.col with i:=S.col.i + 1,pc:=23 } (.slice a S.col.stack.length cap)) rfl rfl (by simp[eCol]) rfl ?_
   exact hK2 _ _ _ ⟨hR1,{ S with used:=true,words:=seti S.words (S.col.dst + S.col.i) S.col.word },g1,{ S.col with i:=S.col.i + 1,pc:=23 },(by rw[if_pos (eq_of_beq hz)]),ok1,rfl,rfl,rfl⟩
  ·exact hK2 _ _ _ ⟨hR1,{ S with used:=true,words:=seti S.words (S.col.dst + S.col.i) S.col.word },g1,{ S.col with i:=S.col.i + 1,pc:=21 },(by rw[if_neg (ne_of_beq_false hz)]),ok1,rfl,rfl,rfl⟩
 rw[if_neg (ne_of_beq_false c22)] at hS
 refine jeq (jif (λc23=>?_) (λc23=>?_))
 ·rw[if_pos (eq_of_beq c23)] at hS
  obtain⟨S1,hwr,hS⟩:=bind_some hS
  have e1:=write_is hwr
  subst e1
  cases hS
  refine jl (v:=I S.col.dst) rfl (jl (v:=I S.col.dst) rfl ?_)
  refine jcS (p:=p) (by exact t_write hok hwr) λ_ R1 g1 hR1 hr ok1=>?_
  refine js (cs':=eCol { S.col with pc:=24 } (.slice a S.col.stack.length cap)) rfl rfl (by simp[eCol]) rfl ?_
  exact hK2 _ _ _ ⟨hR1,{ S with used:=true,words:=seti S.words S.col.dst S.col.dst },g1,{ S.col with pc:=24 },rfl,ok1,rfl,rfl,rfl⟩
 rw[if_neg (ne_of_beq_false c23)] at hS
 refine jeq (jif (λc24=>?_) (λc24=>?_))
 rotate_left
 ·rw[if_neg (ne_of_beq_false c24)] at hS
  cases hS
  exact jperm List.perm_middle.symm (hK2 _ _ _ ⟨RM.le.refl _,S,g,S.col,rfl,hok,rfl,rfl,rfl⟩)
 rw[if_pos (eq_of_beq c24)] at hS
 obtain⟨⟨w,S1⟩,hrd,hS⟩:=bind_some hS
 have e1:=read_is hrd
 subst e1
 dsimp only at hS
 obtain⟨S3,h3,hS⟩:=bind_some hS
 cases hS
 refine jcutq (λvs R' D'=>R.le R'∧∃g2,Ok R' S3 g2∧D' = simD p S3 g2 ++ (b,C T_l8Col (eCol S.col (.slice a S.col.stack.length cap))) :: F∧vs = [.pointer (some ⟨p,0,none⟩),.pointer (some ⟨b,0,none⟩)]) (λK3 hK3=>?_) ?_
 rotate_left
 ·rintro e R2 D2 ⟨hR,g2,ok2,hD,he⟩
  rw[hD];clear hD
  simp only[List.map,lc,ln,lj,z_t] at he
  simp only[he]
  refine js (cs':=eCol { S.col with pc:=5 } (.slice a S.col.stack.length cap)) rfl rfl (by simp[eCol]) rfl ?_
  exact hK2 _ _ _ ⟨hR,S3,g2,{ S.col with pc:=5 },rfl,ok2,rfl,rfl,rfl⟩
 refine jl (v:=I S.col.src) rfl (jl (v:=I S.col.src) rfl ?_)
 refine jcS (p:=p) (by exact t_read hok hrd) λ_ R1 g1 hR1 hr ok1=>?_
 subst hr
 refine jeq (jand (jl (v:=I S.col.src) rfl jev) (jif (λhw=>?_) (λhw=>?_)))
 ·rw[if_pos (eq_of_beq hw)] at h3
  obtain⟨S2,hwr,h3⟩:=bind_some h3
  refine jl (v:=I S.col.src) rfl (jl (v:=I S.col.dst) rfl ?_)
  refine jcS (p:=p) (by exact t_write ok1 hwr) λ_ R2 g2 hR2 hr ok2=>?_
  refine jl (v:=I S.col.dst) rfl (jl (v:=I S.col.size) rfl ?_)
  refine jcS (p:=p) (by exact t_top ok2 h3) λ_ R3 g3 hR3 hr ok3=>?_
  exact hK3 _ _ _ ⟨(hR1.trans hR2).trans hR3,g3,ok3,rfl,rfl⟩
 ·rw[if_neg (ne_of_beq_false hw)] at h3
  cases h3
  exact hK3 _ _ _ ⟨hR1,g1,ok1,rfl,rfl⟩
end Go.Lf
end
