/- A part of the proof of the given row: the walk of the law and of all that it calls. Conditions: none. -/
import Derived.Test.YtoajhnhjmhdfdaaGreatVJ
set_option linter.unusedVariables false
set_option linter.unusedSimpArgs false
section
namespace Go.Lf
open Go Sm
theorem row_at {R:RM} {S:Sim} {g:Img} {r:Int} {row:Rg} (h:idx S.table r = some row) {f:Nat} {v:Value} (hv:(eRg row)[f]? = some v):(rowsE eRg S.table ++ g.tsp)[0 + r.toNat * 5 + f]? = some v:=by
 obtain⟨h0,h1,h2,h3⟩:=idx_some h
 rw[Nat.zero_add]
 exact row_cell (f:=f) h2 (by rw[h3];exact hv)
theorem t_walk {p:Nat} {S S' : Sim} {g:Img} {R:RM} (hok:Ok R S g) (hS:S.walk = some S') :
  Fn P F_Sim_walk [.pointer (some ⟨p,0,none⟩)] R (simD p S g) (SimQ p S' λ_=>True):=by
 refine s_Sim_walk λF=>?_
 unfold c_Sim_walk
 unfold Sim.walk at hS
 dsimp only at hS
 obtain⟨⟨r,q⟩,hwo,hS⟩:=bind_some hS
 dsimp only at hS
 have htl:=hok.tl
 have hml:=hok.ml
 refine jopenC (p:=p) hok λb=>?_
 obtain⟨a,cap,hsv,-⟩:=Ints.reads (D:=[]) hok.stack
 rw[hsv]
 have hst0:=hok.stack
 rw[hsv] at hst0
 refine jcutq (λvs R' D'=>R' = R∧D' = (b,C T_l8Col (eCol { S.col with r:=r,p:=q } (.slice a S.col.stack.length cap))) :: (simD p S g ++ F)∧vs = [.pointer (some ⟨p,0,none⟩),.pointer (some ⟨b,0,none⟩)]) (λK hK=>?_) ?_
 ·refine jcutq (λvs R' D'=>R' = R∧D' = (b,C T_l8Col (eCol { S.col with r:=r,p:=q } (.slice a S.col.stack.length cap))) :: (simD p S g ++ F)∧vs = [.pointer (some ⟨p,0,none⟩),.pointer (some ⟨b,0,none⟩)]) (λK2 hK2=>?_) ?_
  rotate_left
  ·rintro e R2 D2 ⟨rfl,hD,he⟩
   rw[hD];clear hD
   simp only[List.map,lc,ln,lj,z_t] at he
   simp only[he]
   exact hK _ _ _ ⟨rfl,rfl,rfl⟩
  refine jlp (λn vs R' D'=>R' = R∧∃r1 q1,D' = (b,C T_l8Col (eCol { S.col with r:=r1,p:=q1 } (.slice a S.col.stack.length cap))) :: (simD p S g ++ F)∧vs = [.pointer (some ⟨p,0,none⟩),.pointer (some ⟨b,0,none⟩)]∧S.walkOut n r1 q1 = some (r,q))
   (n:=S.table.length + 2) ⟨rfl,S.col.r,S.col.p,rfl,rfl,hwo⟩ ?_
  rintro n e R1 D1 K3 ⟨hR1,r1,q1,hD,he,hw⟩ hK3
  subst hR1
  rw[hD];clear hD
  simp only[List.map,lc,ln,lj,z_t] at he
  simp only[he]
  cases n with
  | zero=>cases hw
  | succ n=>
   unfold Sim.walkOut at hw
   refine jl (v:=I r1) rfl (jl (v:=.slice (some ⟨g.tb,0,none⟩) S.table.length g.tc) rfl (jln (jlt (jif (λhc=>?_) (λhc=>?_)))))
   rotate_left
   ·rw[if_neg (z_g hc)] at hw
    cases hw
    exact hK2 _ _ _ ⟨rfl,rfl,rfl⟩
   have hc:=z_f hc
   rw[if_pos hc] at hw
   obtain⟨row,hrow,hw⟩:=bind_some hw
   obtain⟨q2,hwi,hw⟩:=bind_some hw
   obtain⟨r0,r1',r2,r3⟩:=idx_some hrow
   refine jl (v:=.slice (some ⟨g.tb,0,none⟩) S.table.length g.tc) rfl (jl (v:=I r1) rfl (jia r0 r1' ?_))
   have hget:=rowsE_get (f:=eRg) (w:=5) (λ_=>rfl) (sp:=g.tsp) r2
   rw[r3] at hget
   refine jla (l:=eRg row) (by rw[Nat.zero_add];exact row_len r2) (by rw[Nat.zero_add];exact hget) ?_
   refine ja λb5=>?_
   refine jand (jl (v:=.slice (some ⟨g.tb,0,none⟩) S.table.length g.tc) rfl jev) (jand (jl (v:=I r1) rfl jev) ?_)
   refine jand (jla (l:=eRg row) (by rw[Nat.zero_add];exact row_len r2) (by rw[Nat.zero_add];exact hget) jev) ?_
   refine js (cs':=eRg row) rfl rfl (by exact z_n 5) rfl ?_
   refine jcutq (λvs R' D'=>R' = R1∧D' = (b5,C 29 (eRg row)) :: (b,C T_l8Col (eCol { S.col with r:=r1,p:=q2 } (.slice a S.col.stack.length cap))) :: (simD p S g ++ F)∧vs = [.pointer (some ⟨p,0,none⟩),.pointer (some ⟨b,0,none⟩),.pointer (some ⟨b5,0,none⟩)]) (λK4 hK4=>?_) ?_
   ·refine jcutq (λvs R' D'=>R' = R1∧D' = (b5,C 29 (eRg row)) :: (b,C T_l8Col (eCol { S.col with r:=r1,p:=q2 } (.slice a S.col.stack.length cap))) :: (simD p S g ++ F)∧vs = [.pointer (some ⟨p,0,none⟩),.pointer (some ⟨b,0,none⟩),.pointer (some ⟨b5,0,none⟩)]) (λK5 hK5=>?_) ?_
    rotate_left
    ·rintro e R2 D2 ⟨rfl,hD,he⟩
     rw[hD];clear hD
     simp only[List.map,lc,ln,lj,z_t] at he
     simp only[he]
     exact hK4 _ _ _ ⟨rfl,rfl,rfl⟩
    refine jlp (λm vs R' D'=>R' = R1∧∃q3,D' = (b5,C 29 (eRg row)) :: (b,C T_l8Col (eCol { S.col with r:=r1,p:=q3 } (.slice a S.col.stack.length cap))) :: (simD p S g ++ F)∧vs = [.pointer (some ⟨p,0,none⟩),.pointer (some ⟨b,0,none⟩),.pointer (some ⟨b5,0,none⟩)]∧walkIn S.marks row m q3 = some q2)
     (n:=20) ⟨rfl,q1,rfl,rfl,hwi⟩ ?_
    rintro m e R2 D2 K6 ⟨hR2,q3,hD,he,hwi⟩ hK6
    subst hR2
    rw[hD];clear hD
    simp only[List.map,lc,ln,lj,z_t] at he
    simp only[he]
    cases m with
    | zero=>cases hwi
    | succ m=>
     unfold walkIn at hwi
     refine jan [.pointer (some ⟨p,0,none⟩),.pointer (some ⟨b,0,none⟩),.pointer (some ⟨b5,0,none⟩)] ((row.kind == 4) && (decide (q3 < row.top))) (λK' hK'=>?_) (λe c u ho he=>?_)
     ·refine jl (v:=I row.kind) rfl (jeq (jgtt (λh1=>?_) (λh1=>?_)))
      ·refine jl (v:=I q3) rfl (jl (v:=I row.top) rfl (jlt (hK' _ _ _ (h1▸and2_t) (by rw[h1,Bool.true_and]))))
      ·exact hK' _ _ _ (h1▸and2_f) (by rw[h1,Bool.false_and])
     simp only[List.map,lc,ln,lj,z_t] at he
     simp only[he]
     by_cases hk:row.kind = 4∧q3 < row.top
     ·rw[if_pos hk] at hwi
      obtain⟨mk,hmk,hwi⟩:=bind_some hwi
      obtain⟨m0,m1,m2,m3⟩:=idx_some hmk
      have hkb:(row.kind == 4 && decide (q3 < row.top)) = true:=by simp[hk.1,hk.2]
      refine jan [.pointer (some ⟨p,0,none⟩),.pointer (some ⟨b,0,none⟩),.pointer (some ⟨b5,0,none⟩)] (!mk) (λK' hK'=>?_) (λe c u ho2 he=>?_)
      ·rw[ho,hkb]
       refine jtt (jl (v:=.slice (some ⟨g.mb,0,none⟩) S.marks.length g.mc) rfl (jl (v:=I q3) rfl (jia m0 m1 ?_)))
       refine jl (v:=.bool mk) (by rw[Nat.zero_add,Nat.mul_one,bools_get m2,m3]) ?_
       exact hK' _ _ _ and2_t rfl
      ·simp only[List.map,lc,ln,lj,z_t] at he
       simp only[he]
       rw[ho2]
       cases mk with
       | true=>
        simp only[if_true] at hwi
        cases hwi
        exact jiff (hK5 _ _ _ ⟨rfl,rfl,rfl⟩)
       | false=>
        simp only[Bool.false_eq_true,if_false] at hwi
        refine jift (jl (v:=I q3) rfl (jadd ⟨by omega,by omega⟩ ?_))
        refine js (cs':=eCol { S.col with r:=r1,p:=q3 + 1 } (.slice a S.col.stack.length cap)) rfl rfl (by simp[eCol]) rfl ?_
        exact hK6 m _ _ _ (by omega) ⟨rfl,q3 + 1,rfl,rfl,hwi⟩
     ·rw[if_neg hk] at hwi
      have hkb:(row.kind == 4 && decide (q3 < row.top)) = false:=by
       rw[Bool.and_eq_false_iff,decide_eq_false_iff_not,beq_eq_false_iff_ne]
       by_cases h:row.kind = 4
       ·exact .inr λh2=>hk ⟨h,h2⟩
       ·exact .inl h
      refine jan [.pointer (some ⟨p,0,none⟩),.pointer (some ⟨b,0,none⟩),.pointer (some ⟨b5,0,none⟩)] false (λK' hK'=>?_) (λe c u ho2 he=>?_)
      ·rw[ho,hkb]
       exact jft (hK' _ _ _ and2_f rfl)
      ·simp only[List.map,lc,ln,lj,z_t] at he
       simp only[he]
       rw[ho2]
       cases hwi
       exact jiff (hK5 _ _ _ ⟨rfl,rfl,rfl⟩)
   ·rintro e R2 D2 ⟨hR2,hD,he⟩
    subst hR2
    rw[hD];clear hD
    simp only[List.map,lc,ln,lj,z_t] at he
    simp only[he]
    refine jan [.pointer (some ⟨p,0,none⟩),.pointer (some ⟨b,0,none⟩)] ((row.kind == 4) && (decide (q2 < row.top))) (λK' hK'=>?_) (λe c u ho he=>?_)
    ·refine jl (v:=I row.kind) rfl (jeq (jgtt (λh1=>?_) (λh1=>?_)))
     ·refine jl (v:=I q2) rfl (jl (v:=I row.top) rfl (jlt (hK' _ _ _ (h1▸and2_t) (by rw[h1,Bool.true_and]))))
     ·exact hK' _ _ _ (h1▸and2_f) (by rw[h1,Bool.false_and])
    simp only[List.map,lc,ln,lj,z_t] at he
    simp only[he]
    rw[ho]
    refine jif (λhk=>?_) (λhk=>?_)
    ·rw[if_pos (by simpa using hk)] at hw
     cases hw
     exact jdrop (hK2 _ _ _ ⟨rfl,rfl,rfl⟩)
    ·rw[if_neg (by intro h;simp[h.1,h.2] at hk)] at hw
     refine jl (v:=I r1) rfl (jadd ⟨by omega,by omega⟩ ?_)
     refine js (cs':=eCol { S.col with r:=r1 + 1,p:=q2 } (.slice a S.col.stack.length cap)) rfl rfl (by simp[eCol]) rfl ?_
     refine jl (v:=I (r1 + 1)) rfl (jmul ⟨by omega,by omega⟩ ?_)
     refine js (cs':=eCol { S.col with r:=r1 + 1,p:=(r1 + 1) * 16 } (.slice a S.col.stack.length cap)) rfl rfl (by simp[eCol]) rfl ?_
     exact jdrop (hK3 n _ _ _ (by omega) ⟨rfl,r1 + 1,(r1 + 1) * 16,rfl,rfl,hw⟩)
 ·rintro e R2 D2 ⟨hR2,hD,he⟩
  subst hR2
  rw[hD];clear hD
  simp only[List.map,lc,ln,lj,z_t] at he
  simp only[he]
  refine jl (v:=I r) rfl (jl (v:=.slice (some ⟨g.tb,0,none⟩) S.table.length g.tc) rfl (jln (jeq (jif (λhc=>?_) (λhc=>?_)))))
  ·rw[if_pos (by have:=eq_of_beq hc;exact this)] at hS
   cases hS
   refine jss (p:=p) { S with stop:=true } g rfl rfl (by decide) (by rfl) (by rfl) ?_
   refine js (cs':=eCol { S.col with r:=r,p:=q,want:=3 } (.slice a S.col.stack.length cap)) rfl rfl (by simp[eCol]) rfl ?_
   refine jputC (p:=p) { S with stop:=true,col:={ S.col with r:=r,p:=q,want:=3 } } (by exact { hok with }) (by exact hst0) (by rfl) λg3 ok3=>?_
   exact jretS (RM.le.refl _) trivial rfl ok3
  ·rw[if_neg (by have:=ne_of_beq_false hc;exact this)] at hS
   obtain⟨q1,hq1,hS⟩:=bind_some hS
   obtain⟨rfl,in1⟩:=plus_some hq1
   obtain⟨⟨w,S1⟩,hrd,hS⟩:=bind_some hS
   have hrd2:=hrd
   simp only[Sim.read] at hrd2
   have hq0:0≤q:=by
    split at hrd2
    ·exact (idx_some (by assumption)).1
    ·cases hrd2
   have hin:inR q:=⟨by omega,by have:=in1.2;omega⟩
   have e1:=read_is hrd
   subst e1
   simp only[Option.some.injEq] at hS
   refine jl (v:=I q) rfl (jadd in1 ?_)
   refine js (cs':=eCol { S.col with r:=r,p:=q + 1 } (.slice a S.col.stack.length cap)) rfl rfl (by simp[eCol]) rfl ?_
   have esub:q + 1 - 1 = q:=by omega
   refine jcutq (λvs R' D'=>R2.le R'∧∃g2,Ok R' { S with used:=true } g2∧D' = simD p { S with used:=true } g2 ++ (b,C T_l8Col (eCol (if w = q then { S.col with r:=r,p:=q + 1,src:=q,pc:=20 } else { S.col with r:=r,p:=q + 1 }) (.slice a S.col.stack.length cap))) :: F∧vs = [.pointer (some ⟨p,0,none⟩),.pointer (some ⟨b,0,none⟩)]) (λK hK=>?_) ?_
   ·refine jl (v:=I (q + 1)) rfl (jsub (by rw[esub];exact hin) (jl (v:=I (q + 1)) rfl (jsub (by rw[esub];exact hin) ?_)))
    rw[esub]
    refine jcS (p:=p) (by exact t_read hok hrd) λ_ R1 g1 hR1 hr ok1=>?_
    subst hr
    refine jeq (jand (jl (v:=I (q + 1)) rfl ?_) (jif (λhw=>?_) (λhw=>?_)))
    ·exact jev
    ·refine jl (v:=I (q + 1)) rfl (jsub (by rw[esub];exact hin) ?_)
     rw[esub]
     refine js (cs':=eCol { S.col with r:=r,p:=q + 1,src:=q } (.slice a S.col.stack.length cap)) rfl rfl (by simp[eCol]) rfl ?_
     refine js (cs':=eCol { S.col with r:=r,p:=q + 1,src:=q,pc:=20 } (.slice a S.col.stack.length cap)) rfl rfl (by simp[eCol]) rfl ?_
     exact hK _ _ _ ⟨hR1,g1,ok1,by rw[if_pos (eq_of_beq hw)],rfl⟩
    ·exact hK _ _ _ ⟨hR1,g1,ok1,by rw[if_neg (ne_of_beq_false hw)],rfl⟩
   ·rintro e R3 D3 ⟨hR3,g2,ok2,hD,he⟩
    rw[hD];clear hD
    simp only[List.map,lc,ln,lj,z_t] at he
    simp only[he]
    have hx:(if w = q then { S.col with r:=r,p:=q + 1,src:=q,pc:=20 } else { S.col with r:=r,p:=q + 1 }:Col).stack = S.col.stack:=by split<;>rfl
    refine jputC (p:=p) (({ S with used:=true }:Sim).setC (if w = q then { S.col with r:=r,p:=q + 1,src:=q,pc:=20 } else { S.col with r:=r,p:=q + 1 })) (by exact ok2) (by rw[hx];exact hst0.le hR3) (by rfl) λg3 ok3=>?_
    subst hS
    exact jretS hR3 trivial rfl ok3
end Go.Lf
end
section
namespace Go.Lf
open Go Sm
theorem jgu {R:RM} {D:Chs} {w:Bool} {a b:M} (H:J R D b):J R D (GT (.tuple #[]) w a b):=H
theorem t_renew {p:Nat} {S S' : Sim} {g:Img} {R:RM} (hok:Ok R S g) (hS:S.renew = some S') :
  Fn P F_Sim_renew [.pointer (some ⟨p,0,none⟩)] R (simD p S g) (SimQ p S' λ_=>True):=by
 refine s_Sim_renew λF=>?_
 unfold c_Sim_renew
 unfold Sim.renew at hS
 dsimp only at hS
 have htl:=hok.tl
 have hml:=hok.ml
 refine jopenC (p:=p) hok λb=>?_
 obtain⟨a,cap,hsv,-⟩:=Ints.reads (D:=[]) hok.stack
 rw[hsv]
 have hst0:=hok.stack
 rw[hsv] at hst0
 refine jcutq (λvs R' D'=>R.le R'∧∃S2 g2 x2,S' = S2.setC x2∧Ok R' S2 g2∧x2.stack = S.col.stack∧D' = simD p S2 g2 ++ (b,C T_l8Col (eCol x2 (.slice a S.col.stack.length cap))) :: F∧vs = [.pointer (some ⟨p,0,none⟩),.pointer (some ⟨b,0,none⟩)]) (λK hK=>?_) ?_
 rotate_left
 ·rintro e R2 D2 ⟨hR2,S2,g2,x2,e1,ok2,ex,hD,he⟩
  rw[hD];clear hD
  simp only[List.map,lc,ln,lj,z_t] at he
  simp only[he]
  refine jputC (p:=p) (S2.setC x2) (by exact ok2) (by rw[ex];exact hst0.le hR2) (by rfl) λg3 ok3=>?_
  subst e1
  exact jretS hR2 trivial rfl ok3
 refine jl (v:=I S.col.pc) rfl ?_
 refine jcutq (λvs R' D'=>R.le R'∧∃S2 g2 x2,S' = S2.setC x2∧Ok R' S2 g2∧x2.stack = S.col.stack∧D' = simD p S2 g2 ++ (b,C T_l8Col (eCol x2 (.slice a S.col.stack.length cap))) :: F∧vs = [.pointer (some ⟨p,0,none⟩),.pointer (some ⟨b,0,none⟩)]) (λK2 hK2=>?_) ?_
 rotate_left
 ·rintro e R2 D2 ⟨hR2,S2,g2,x2,e1,ok2,ex,hD,he⟩
  rw[hD];clear hD
  simp only[List.map,lc,ln,lj,z_t] at he
  simp only[he]
  exact hK _ _ _ ⟨hR2,S2,g2,x2,e1,ok2,ex,rfl,rfl⟩
 have back:∀(R' : RM) (S2:Sim) (g2:Img) (x2:Col),R.le R'→S' = S2.setC x2→Ok R' S2 g2→x2.stack = S.col.stack→J R' (simD p S2 g2 ++ (b,C T_l8Col (eCol x2 (.slice a S.col.stack.length cap))) :: F) (K2 [.pointer (some ⟨p,0,none⟩),.pointer (some ⟨b,0,none⟩)]):=λR' S2 g2 x2 h1 h2 h3 h4=>hK2 _ _ _ ⟨h1,S2,g2,x2,h2,h3,h4,rfl,rfl⟩
 refine jeq (jif (λc6=>?_) (λc6=>?_))
 ·rw[if_pos (eq_of_beq c6)] at hS
  obtain⟨⟨r,q⟩,hro,hS⟩:=bind_some hS
  dsimp only at hS
  refine jcutq (λvs R' D'=>R' = R∧D' = (b,C T_l8Col (eCol { S.col with r:=r,p:=q } (.slice a S.col.stack.length cap))) :: (simD p S g ++ F)∧vs = [.pointer (some ⟨p,0,none⟩),.pointer (some ⟨b,0,none⟩)]) (λK3 hK3=>?_) ?_
  ·refine jcutq (λvs R' D'=>R' = R∧D' = (b,C T_l8Col (eCol { S.col with r:=r,p:=q } (.slice a S.col.stack.length cap))) :: (simD p S g ++ F)∧vs = [.pointer (some ⟨p,0,none⟩),.pointer (some ⟨b,0,none⟩)]) (λK4 hK4=>?_) ?_
   rotate_left
   ·rintro e R2 D2 ⟨hR2,hD,he⟩
    subst hR2
    rw[hD];clear hD
    simp only[List.map,lc,ln,lj,z_t] at he
    simp only[he]
    exact hK3 _ _ _ ⟨rfl,rfl,rfl⟩
   refine jlp (λn vs R' D'=>R' = R∧∃r1 q1,D' = (b,C T_l8Col (eCol { S.col with r:=r1,p:=q1 } (.slice a S.col.stack.length cap))) :: (simD p S g ++ F)∧vs = [.pointer (some ⟨p,0,none⟩),.pointer (some ⟨b,0,none⟩)]∧S.renewTo n r1 q1 = some (r,q))
    (n:=S.table.length + 2) ⟨rfl,S.col.r,S.col.p,rfl,rfl,hro⟩ ?_
   rintro n e R1 D1 K5 ⟨hR1,r1,q1,hD,he,hw⟩ hK5
   subst hR1
   rw[hD];clear hD
   simp only[List.map,lc,ln,lj,z_t] at he
   simp only[he]
   cases n with
   | zero=>cases hw
   | succ n=>
    unfold Sim.renewTo at hw
    refine jcutq (λvs R' D'=>R' = R1∧D' = (b,C T_l8Col (eCol { S.col with r:=r1,p:=q1 } (.slice a S.col.stack.length cap))) :: (simD p S g ++ F)∧∃v:Bool,vs = [.pointer (some ⟨p,0,none⟩),.pointer (some ⟨b,0,none⟩),.bool v]∧((v = true∧S.renewTo n (r1 + 1) ((r1 + 1) * 16) = some (r,q)∧r1 < S.table.length∧0≤r1)∨(v = false∧r1 = r∧q1 = q))) (λK6 hK6=>?_) ?_
    rotate_left
    ·rintro e R2 D2 ⟨hR2,hD,v,he,hv⟩
     subst hR2
     rw[hD];clear hD
     simp only[List.map,lc,ln,lj,z_t] at he
     simp only[he]
     rcases hv with ⟨rfl,hw2,hlt,hge⟩ | ⟨rfl,rfl,rfl⟩
     ·refine jift (jl (v:=I r1) rfl (jadd ⟨by omega,by omega⟩ ?_))
      refine js (cs':=eCol { S.col with r:=r1 + 1,p:=q1 } (.slice a S.col.stack.length cap)) rfl rfl (by simp[eCol]) rfl ?_
      refine jl (v:=I (r1 + 1)) rfl (jmul ⟨by omega,by omega⟩ ?_)
      refine js (cs':=eCol { S.col with r:=r1 + 1,p:=(r1 + 1) * 16 } (.slice a S.col.stack.length cap)) rfl rfl (by simp[eCol]) rfl ?_
      exact hK5 n _ _ _ (by omega) ⟨rfl,r1 + 1,(r1 + 1) * 16,rfl,rfl,hw2⟩
     ·exact jiff (hK4 _ _ _ ⟨rfl,rfl,rfl⟩)
    by_cases hc:r1 < S.table.length
    ·rw[if_pos hc] at hw
     obtain⟨row,hrow,hw⟩:=bind_some hw
     obtain⟨vv,hvv,hw⟩:=bind_some hw
     obtain⟨r0,r1',r2,r3⟩:=idx_some hrow
     refine jcut (jl (v:=I r1) rfl (jl (v:=.slice (some ⟨g.tb,0,none⟩) S.table.length g.tc) rfl (jln (jlt ?_))))
     rw[decide_eq_true hc]
     refine jtt (jl (v:=.slice (some ⟨g.tb,0,none⟩) S.table.length g.tc) rfl (jl (v:=I r1) rfl (jia r0 r1' ?_)))
     refine jl (v:=I row.kind) (row_at (R:=R1) hrow (f:=0) rfl) (jeq ?_)
     by_cases hk:row.kind = 4
     ·rw[if_pos hk] at hvv
      cases hvv
      rw[show (row.kind == 4) = true from by simp[hk]]
      refine jtf (jend λe he=>?_)
      simp only[List.map,lc,ln,lj,z_t] at he
      simp only[he]
      refine jtf (jcut (jtf (jend λe he=>?_)))
      simp only[List.map,lc,ln,lj,z_t] at he
      simp only[he]
      refine jcut (jtt (jpkt (jend λe he=>?_)))
      simp only[List.map,lc,ln,lj,z_t] at he
      simp only[he]
      refine jpkt (jand (jtf jev) (jand (jtf jev) (jand (jtf jev) (jand (jtf jev) ?_))))
      exact hK6 _ _ _ ⟨rfl,rfl,true,rfl,.inl ⟨rfl,hw,hc,r0⟩⟩
     ·rw[if_neg hk] at hvv
      obtain⟨bl,hbl,hvv⟩:=bind_some hvv
      obtain⟨rfl,hin⟩:=plus_some hbl
      cases hvv
      rw[show (row.kind == 4) = false from by simp[hk]]
      refine jff (jl (v:=I q1) rfl (jl (v:=I r1) rfl (jl (v:=.slice (some ⟨g.tb,0,none⟩) S.table.length g.tc) rfl (jl (v:=I r1) rfl (jia r0 r1' ?_)))))
      refine jl (v:=I row.live) (row_at (R:=R1) hrow (f:=4) rfl) (jend λe he=>?_)
      simp only[List.map,lc,ln,lj,z_t] at he
      simp only[he]
      refine jff (jp (p_RegionBase r1) (jcut (jff (jadd hin (jge (jend λe he=>?_))))))
      simp only[List.map,lc,ln,lj,z_t] at he
      simp only[he]
      refine jcut (jtt (jpkf (jend λe he=>?_)))
      simp only[List.map,lc,ln,lj,z_t] at he
      simp only[he]
      refine jpkt (jand (jff (jl (v:=I q1) rfl jev)) (jand (jff (jl (v:=.slice (some ⟨g.tb,0,none⟩) S.table.length g.tc) rfl jev)) (jand (jff (jl (v:=I r1) rfl jev)) (jand (jff (jl (v:=I row.live) (row_at (R:=R1) hrow (f:=4) rfl) jev)) ?_))))
      refine hK6 _ _ _ ⟨rfl,rfl,decide (q1≥regionBase r1 + row.live),rfl,?_⟩
      by_cases hd:regionBase r1 + row.live≤q1
      ·rw[decide_eq_true hd,if_pos rfl] at hw
       exact .inl ⟨decide_eq_true hd,hw,hc,r0⟩
      ·rw[decide_eq_false hd,if_neg (by decide)] at hw
       cases hw
       exact .inr ⟨decide_eq_false hd,rfl,rfl⟩
    ·rw[if_neg hc] at hw
     simp only[Option.some.injEq,Prod.mk.injEq] at hw
     refine jcut (jl (v:=I r1) rfl (jl (v:=.slice (some ⟨g.tb,0,none⟩) S.table.length g.tc) rfl (jln (jlt ?_))))
     rw[decide_eq_false hc]
     refine jft (jend λe he=>?_)
     simp only[List.map,lc,ln,lj,z_t] at he
     simp only[he]
     refine jgu (jcut (jgu (jend λe he=>?_)))
     simp only[List.map,lc,ln,lj,z_t] at he
     simp only[he]
     refine jcut (jft (jend λe he=>?_))
     simp only[List.map,lc,ln,lj,z_t] at he
     simp only[he]
     refine jpkf (jand (jgu jev) (jand (jgu jev) (jand (jgu jev) (jand (jgu jev) ?_))))
     exact hK6 _ _ _ ⟨rfl,rfl,false,rfl,.inr ⟨rfl,hw.1,hw.2⟩⟩
  ·rintro e R2 D2 ⟨hR2,hD,he⟩
   subst hR2
   rw[hD];clear hD
   simp only[List.map,lc,ln,lj,z_t] at he
   simp only[he]
   refine jl (v:=I r) rfl (jl (v:=.slice (some ⟨g.tb,0,none⟩) S.table.length g.tc) rfl (jln (jeq (jif (λhc=>?_) (λhc=>?_)))))
   ·rw[if_pos (by have:=eq_of_beq hc;exact this)] at hS
    refine jss (p:=p) { S with stop:=true } g rfl rfl (by decide) (by rfl) (by rfl) ?_
    refine js (cs':=eCol { S.col with r:=r,p:=q,want:=0 } (.slice a S.col.stack.length cap)) rfl rfl (by simp[eCol]) rfl ?_
    exact back _ { S with stop:=true } g { S.col with r:=r,p:=q,want:=0 } (RM.le.refl _) (Option.some.inj hS).symm { hok with } rfl
   ·rw[if_neg (by have:=ne_of_beq_false hc;exact this)] at hS
    obtain⟨q1,hq1,hS⟩:=bind_some hS
    obtain⟨rfl,in1⟩:=plus_some hq1
    obtain⟨⟨w,S1⟩,hrd,hS⟩:=bind_some hS
    have e1:=read_is hrd
    subst e1
    dsimp only at hS
    obtain⟨q2,hq2,hS⟩:=bind_some hS
    obtain⟨rfl,in2⟩:=plus_some hq2
    obtain⟨row,hrow,hS⟩:=bind_some hS
    obtain⟨go,hgo,hS⟩:=bind_some hS
    obtain⟨r0,r1',r2,r3⟩:=idx_some hrow
    refine jl (v:=I q) rfl ?_
    refine js (cs':=eCol { S.col with r:=r,p:=q,f:=q } (.slice a S.col.stack.length cap)) rfl rfl (by simp[eCol]) rfl ?_
    refine jl (v:=I q) rfl (jadd in1 ?_)
    refine jcS (p:=p) (by exact t_read hok hrd) λ_ R1 g1 hR1 hr ok1=>?_
    subst hr
    refine jp (p_ShapeOf w) (jex rfl (jex rfl ?_))
    refine ja λb3=>?_
    refine js (cs':=[I (shapeOf w).1.refs,I (shapeOf w).1.nums]) rfl rfl (by exact z_n 2) rfl ?_
    refine jla (l:=[I (shapeOf w).1.refs,I (shapeOf w).1.nums]) (by exact z_n 2) (by rfl) ?_
    refine js (cs':=eCol { S.col with r:=r,p:=q,f:=q,sh:=(shapeOf w).1 } (.slice a S.col.stack.length cap)) rfl rfl (by simp[eCol]) rfl ?_
    refine jl (v:=I q) rfl ?_
    refine jfo (jla (l:=[I (shapeOf w).1.refs,I (shapeOf w).1.nums]) (by simp[eCol]) (by rfl) ?_)
    refine jp (p_ShapeSize (shapeOf w).1) (jadd in2 (jand (jl (v:=I q) rfl jev) ?_))
    refine js (cs':=eCol { S.col with r:=r,p:=q + shapeSize (shapeOf w).1,f:=q,sh:=(shapeOf w).1 } (.slice a S.col.stack.length cap)) rfl rfl (by simp[eCol]) rfl ?_
    refine js (cs':=eCol { S.col with r:=r,p:=q + shapeSize (shapeOf w).1,f:=q,sh:=(shapeOf w).1,i:=0 } (.slice a S.col.stack.length cap)) rfl rfl (by simp[eCol]) rfl ?_
    refine jcutq (λvs R' D'=>R' = R1∧D' = simD p { S with used:=true } g1 ++ (b,C T_l8Col (eCol { S.col with r:=r,p:=q + shapeSize (shapeOf w).1,f:=q,sh:=(shapeOf w).1,i:=0 } (.slice a S.col.stack.length cap))) :: F∧∃c u,vs = [.pointer (some ⟨p,0,none⟩),.pointer (some ⟨b,0,none⟩),c,u]∧And2 c u go) (λK7 hK7=>?_) ?_
    ·refine jpart (simD p { S with used:=true } g1) (G:=(b,C T_l8Col (eCol { S.col with r:=r,p:=q + shapeSize (shapeOf w).1,f:=q,sh:=(shapeOf w).1,i:=0 } (.slice a S.col.stack.length cap))) :: F) ?_
     refine jl (v:=I (shapeOf w).1.refs) rfl (jgr ?_)
     by_cases hrf:0 < (shapeOf w).1.refs
     ·rw[if_pos hrf] at hgo
      rw[decide_eq_true (show (shapeOf w).1.refs > 0 from hrf)]
      refine jtt (jl (v:=I q) rfl (jl (v:=.slice (some ⟨g1.tb,0,none⟩) S.table.length g1.tc) rfl (jl (v:=I r) rfl (jia r0 r1' ?_))))
      refine jl (v:=I row.tams) (row_at (R:=R1) (S:=S) hrow (f:=3) rfl) (jge ?_)
      by_cases ht:row.tams≤q
      ·rw[if_pos ht] at hgo
       cases hgo
       rw[decide_eq_true (show q≥row.tams from ht)]
       exact jtf (jpkt (hK7 _ _ _ ⟨rfl,rfl,_,_,rfl,and2_t⟩))
      ·rw[if_neg ht] at hgo
       rw[decide_eq_false (show ¬ q≥row.tams from ht)]
       obtain⟨m0,m1,m2,m3⟩:=idx_some hgo
       refine jff (jl (v:=.slice (some ⟨g1.mb,0,none⟩) S.marks.length g1.mc) rfl (jl (v:=I q) rfl (jia m0 m1 ?_)))
       refine jl (v:=.bool go) (by rw[Nat.zero_add,Nat.mul_one];show (S.marks.map Value.bool ++ g1.msp)[q.toNat]? = _;rw[bools_get m2,m3]) ?_
       exact jpkf (hK7 _ _ _ ⟨rfl,rfl,_,_,rfl,and2_t⟩)
     ·rw[if_neg hrf] at hgo
      cases hgo
      rw[decide_eq_false (show ¬ (shapeOf w).1.refs > 0 from hrf)]
      exact jft (hK7 _ _ _ ⟨rfl,rfl,_,_,rfl,and2_f⟩)
    ·rintro e R3 D3 ⟨hR3,hD,c,u,he,ha⟩
     subst hR3
     rw[hD];clear hD
     simp only[List.map,lc,ln,lj,z_t] at he
     simp only[he]
     rw[ha]
     refine jif (λhg=>?_) (λhg=>?_)
     ·rw[if_pos hg] at hS
      refine js (cs':=eCol { S.col with r:=r,p:=q + shapeSize (shapeOf w).1,f:=q,sh:=(shapeOf w).1,i:=0,pc:=7 } (.slice a S.col.stack.length cap)) rfl rfl (by simp[eCol]) rfl ?_
      exact back _ { S with used:=true } g1 { S.col with r:=r,p:=q + shapeSize (shapeOf w).1,f:=q,sh:=(shapeOf w).1,i:=0,pc:=7 } hR1 (Option.some.inj hS).symm ok1 rfl
     ·rw[if_neg (by rw[hg];decide)] at hS
      exact back _ { S with used:=true } g1 { S.col with r:=r,p:=q + shapeSize (shapeOf w).1,f:=q,sh:=(shapeOf w).1,i:=0 } hR1 (Option.some.inj hS).symm ok1 rfl
 rw[if_neg (ne_of_beq_false c6)] at hS
 refine jeq (jif (λc7=>?_) (λc7=>?_))
 ·rw[if_pos (eq_of_beq c7)] at hS
  obtain⟨q1,hq1,hS⟩:=bind_some hS
  obtain⟨rfl,in1⟩:=plus_some hq1
  obtain⟨q2,hq2,hS⟩:=bind_some hS
  obtain⟨rfl,in2⟩:=plus_some hq2
  obtain⟨⟨w,S1⟩,hrd,hS⟩:=bind_some hS
  have e1:=read_is hrd
  subst e1
  dsimp only at hS
  obtain⟨fr,hfr,hS⟩:=bind_some hS
  refine jl (v:=I S.col.f) rfl (jadd in1 (jl (v:=I S.col.i) rfl (jadd in2 ?_)))
  refine jcS (p:=p) (by exact t_read hok hrd) λ_ R1 g1 hR1 hr ok1=>?_
  subst hr
  refine js (cs':=eCol { S.col with v:=w } (.slice a S.col.stack.length cap)) rfl rfl (by simp[eCol]) rfl ?_
  refine jl (v:=I w) rfl ?_
  refine jcS (p:=p) (by exact t_from ok1 hfr) λ_ R2 g2 hR2 hr ok2=>?_
  subst hr
  refine jif (λhf=>?_) (λhf=>?_)
  ·rw[if_pos hf] at hS
   refine js (cs':=eCol { S.col with v:=w,pc:=8 } (.slice a S.col.stack.length cap)) rfl rfl (by simp[eCol]) rfl ?_
   exact back _ { S with used:=true } g2 { S.col with v:=w,pc:=8 } (hR1.trans hR2) (Option.some.inj hS).symm ok2 rfl
  ·rw[if_neg (by rw[hf];decide)] at hS
   obtain⟨x2,hx,hS⟩:=bind_some hS
   have ex:x2.stack = S.col.stack:=by
    obtain⟨i1,_,h⟩:=bind_some hx
    cases h;rfl
   refine jla (l:=eCol { S.col with v:=w } (.slice a S.col.stack.length cap)) (by exact z_n 15) (by rfl) ?_
   refine jp (p_l8Then (x:={ S.col with v:=w }) a S.col.stack.length cap hx) ?_
   refine js (cs':=eCol x2 (.slice a S.col.stack.length cap)) rfl rfl (by exact z_n 15) rfl ?_
   exact back _ { S with used:=true } g2 x2 (hR1.trans hR2) (Option.some.inj hS).symm ok2 ex
 rw[if_neg (ne_of_beq_false c7)] at hS
 refine jeq (jif (λc8=>?_) (λc8=>?_))
 ·rw[if_pos (eq_of_beq c8)] at hS
  obtain⟨⟨w,S1⟩,hrd,hS⟩:=bind_some hS
  have e1:=read_is hrd
  subst e1
  dsimp only at hS
  refine jl (v:=I S.col.v) rfl ?_
  refine jcS (p:=p) (by exact t_read hok hrd) λ_ R1 g1 hR1 hr ok1=>?_
  subst hr
  refine js (cs':=eCol { S.col with word:=w } (.slice a S.col.stack.length cap)) rfl rfl (by simp[eCol]) rfl ?_
  refine js (cs':=eCol { S.col with word:=w,pc:=9 } (.slice a S.col.stack.length cap)) rfl rfl (by simp[eCol]) rfl ?_
  refine jl (v:=I w) rfl (jl (v:=I S.col.v) rfl (jeq (jif (λhf=>?_) (λhf=>?_))))
  ·rw[if_pos (eq_of_beq hf)] at hS
   obtain⟨x2,hx,hS⟩:=bind_some hS
   have ex:x2.stack = S.col.stack:=by
    obtain⟨i1,_,h⟩:=bind_some hx
    cases h;rfl
   refine jla (l:=eCol { S.col with word:=w,pc:=9 } (.slice a S.col.stack.length cap)) (by exact z_n 15) (by rfl) ?_
   refine jp (p_l8Then (x:={ S.col with word:=w,pc:=9 }) a S.col.stack.length cap hx) ?_
   refine js (cs':=eCol x2 (.slice a S.col.stack.length cap)) rfl rfl (by exact z_n 15) rfl ?_
   exact back _ { S with used:=true } g1 x2 hR1 (Option.some.inj hS).symm ok1 ex
  ·rw[if_neg (ne_of_beq_false hf)] at hS
   exact back _ { S with used:=true } g1 { S.col with word:=w,pc:=9 } hR1 (Option.some.inj hS).symm ok1 rfl
 rw[if_neg (ne_of_beq_false c8)] at hS
 refine jeq (jif (λc9=>?_) (λc9=>?_))
 rotate_left
 ·rw[if_neg (ne_of_beq_false c9)] at hS
  exact jperm List.perm_middle.symm (back _ S g S.col (RM.le.refl _) (Option.some.inj hS).symm hok rfl)
 rw[if_pos (eq_of_beq c9)] at hS
 obtain⟨q1,hq1,hS⟩:=bind_some hS
 obtain⟨rfl,in1⟩:=plus_some hq1
 obtain⟨q2,hq2,hS⟩:=bind_some hS
 obtain⟨rfl,in2⟩:=plus_some hq2
 obtain⟨⟨w,S1⟩,hrd,hS⟩:=bind_some hS
 have e1:=read_is hrd
 subst e1
 dsimp only at hS
 obtain⟨S3,h3,hS⟩:=bind_some hS
 obtain⟨x2,hx,hS⟩:=bind_some hS
 have ex:x2.stack = S.col.stack:=by
  obtain⟨i1,_,h⟩:=bind_some hx
  cases h;rfl
 refine jcutq (λvs R' D'=>R.le R'∧∃g2,Ok R' S3 g2∧D' = simD p S3 g2 ++ (b,C T_l8Col (eCol S.col (.slice a S.col.stack.length cap))) :: F∧vs = [.pointer (some ⟨p,0,none⟩),.pointer (some ⟨b,0,none⟩)]) (λK3 hK3=>?_) ?_
 rotate_left
 ·rintro e R2 D2 ⟨hR,g2,ok2,hD,he⟩
  rw[hD];clear hD
  simp only[List.map,lc,ln,lj,z_t] at he
  simp only[he]
  refine jla (l:=eCol S.col (.slice a S.col.stack.length cap)) (by exact z_n 15) (by rfl) ?_
  refine jp (p_l8Then (x:=S.col) a S.col.stack.length cap hx) ?_
  refine js (cs':=eCol x2 (.slice a S.col.stack.length cap)) rfl rfl (by exact z_n 15) rfl ?_
  exact back _ S3 g2 x2 hR (Option.some.inj hS).symm ok2 ex
 refine jl (v:=I S.col.f) rfl (jadd in1 (jl (v:=I S.col.i) rfl (jadd in2 (jl (v:=I S.col.v) rfl ?_))))
 refine jcS (p:=p) (by exact t_read hok hrd) λ_ R1 g1 hR1 hr ok1=>?_
 subst hr
 refine jeq (jand (jl (v:=I S.col.v) rfl jev) (jif (λhw=>?_) (λhw=>?_)))
 ·rw[if_pos (eq_of_beq hw)] at h3
  refine jl (v:=I S.col.f) rfl (jadd in1 (jl (v:=I S.col.i) rfl (jadd in2 (jl (v:=I S.col.word) rfl ?_))))
  refine jcS (p:=p) (by exact t_write ok1 h3) λ_ R2 g2 hR2 hr ok2=>?_
  exact hK3 _ _ _ ⟨hR1.trans hR2,g2,ok2,rfl,rfl⟩
 ·rw[if_neg (ne_of_beq_false hw)] at h3
  cases h3
  exact hK3 _ _ _ ⟨hR1,g1,ok1,rfl,rfl⟩
end Go.Lf
end
section
namespace Go.Lf
open Go Sm
theorem t_work {p:Nat} {S S' : Sim} {g:Img} {R:RM} (hok:Ok R S g) (hS:S.work = some S') :
  Fn P F_Sim_work [.pointer (some ⟨p,0,none⟩)] R (simD p S g) (SimQ p S' λ_=>True):=by
 refine s_Sim_work λF=>?_
 unfold c_Sim_work
 unfold Sim.work at hS
 refine jan [.pointer (some ⟨p,0,none⟩)] ((S.phase == 1) && (S.col.pc == 1)) (λK' hK'=>?_) (λe c u ho he=>?_)
 ·refine jl (v:=I S.phase) rfl (jeq (jgtt (λh1=>?_) (λh1=>?_)))
  ·refine jl (v:=I S.col.pc) rfl (jeq (hK' _ _ _ (h1▸and2_t) (by rw[h1,Bool.true_and])))
  ·exact hK' _ _ _ (h1▸and2_f) (by rw[h1,Bool.false_and])
 simp only[List.map,lc,ln,lj,z_t] at he
 simp only[he]
 rw[ho]
 refine jif (λhc=>?_) (λhc=>?_)
 ·rw[if_pos (by simpa using hc)] at hS
  refine jcS (p:=p) (by exact t_mark hok hS) λ_ R2 g2 hR2 hr ok2=>?_
  exact jretS hR2 trivial rfl ok2
 rw[if_neg (by intro h;simp[h.1,h.2] at hc)] at hS
 refine jl (v:=I S.phase) rfl (jeq (jif (λh1=>?_) (λh1=>?_)))
 ·rw[if_pos (eq_of_beq h1)] at hS
  refine jcS (p:=p) (by exact t_look hok hS) λ_ R2 g2 hR2 hr ok2=>?_
  exact jretS hR2 trivial rfl ok2
 rw[if_neg (ne_of_beq_false h1)] at hS
 refine jan [.pointer (some ⟨p,0,none⟩)] ((S.phase == 2) && (S.col.pc == 5)) (λK' hK'=>?_) (λe c u ho he=>?_)
 ·refine jl (v:=I S.phase) rfl (jeq (jgtt (λh1=>?_) (λh1=>?_)))
  ·refine jl (v:=I S.col.pc) rfl (jeq (hK' _ _ _ (h1▸and2_t) (by rw[h1,Bool.true_and])))
  ·exact hK' _ _ _ (h1▸and2_f) (by rw[h1,Bool.false_and])
 simp only[List.map,lc,ln,lj,z_t] at he
 simp only[he]
 rw[ho]
 refine jif (λhc=>?_) (λhc=>?_)
 ·rw[if_pos (by simpa using hc)] at hS
  refine jcS (p:=p) (by exact t_walk hok hS) λ_ R2 g2 hR2 hr ok2=>?_
  exact jretS hR2 trivial rfl ok2
 rw[if_neg (by intro h;simp[h.1,h.2] at hc)] at hS
 refine jl (v:=I S.phase) rfl (jeq (jif (λh1=>?_) (λh1=>?_)))
 ·rw[if_pos (eq_of_beq h1)] at hS
  refine jcS (p:=p) (by exact t_carry hok hS) λ_ R2 g2 hR2 hr ok2=>?_
  exact jretS hR2 trivial rfl ok2
 ·rw[if_neg (ne_of_beq_false h1)] at hS
  refine jcS (p:=p) (by exact t_renew hok hS) λ_ R2 g2 hR2 hr ok2=>?_
  exact jretS hR2 trivial rfl ok2
theorem jmarks {R:RM} {D G:Chs} {p b c:Nat} {S:Sim} {g:Img} {ms:List Bool} {sp:List Value} {m:M} [w:Fd D p S g G]
  (H:J R (simD p { S with marks:=ms } { g with mb:=b,mc:=c,msp:=sp } ++ G) m) :
  J R ((b,C T_bool (ms.map Value.bool ++ sp)) :: D) (ST 1 (.pointer (some ⟨p,6,none⟩)) (.slice (some ⟨b,0,none⟩) ms.length c) m):=by
 refine jperm ((w.ex.cons _).trans List.perm_middle.symm) ?_
 have e2:eSim { S with marks:=ms } { g with mb:=b,mc:=c,msp:=sp } = (eSim S g).set 6 (.slice (some ⟨b,0,none⟩) ms.length c):=by
  simp[eSim,evV]
 refine js (D:=simD p S g ++ (b,C T_bool (ms.map Value.bool ++ sp)) :: G) (t:=T_l8Sim) (cs:=eSim S g) (cs':=eSim { S with marks:=ms } { g with mb:=b,mc:=c,msp:=sp })
  (D':=(p,C T_l8Sim (eSim { S with marks:=ms } { g with mb:=b,mc:=c,msp:=sp })) :: ((g.wb,C T_int (S.words.map I ++ g.wsp)) :: (g.tb,C T_Region (rowsE eRg S.table ++ g.tsp)) :: (g.mb,C T_bool (S.marks.map Value.bool ++ g.msp)) :: (g.hb,C T_l8Thread (eThs S.th g.rv ++ g.hsp)) :: evD S g ++ (b,C T_bool (ms.map Value.bool ++ sp)) :: G)) rfl rfl (by simp[eSim]) (by rw[e2,show cl (Value.slice (some ⟨b,0,none⟩) ms.length c) = [Value.slice (some ⟨b,0,none⟩) ms.length c] from rfl,lay_one (by simp[eSim])]) ?_ (u:=?_)
 ·unfold simD
  exact inferInstance
 ·refine jpart ((p,C T_l8Sim (eSim { S with marks:=ms } { g with mb:=b,mc:=c,msp:=sp })) :: (g.wb,C T_int (S.words.map I ++ g.wsp)) :: (g.tb,C T_Region (rowsE eRg S.table ++ g.tsp)) :: (b,C T_bool (ms.map Value.bool ++ sp)) :: (g.hb,C T_l8Thread (eThs S.th g.rv ++ g.hsp)) :: evD S g) (G:=G) ?_
  exact H
theorem t_unmark {p:Nat} {S:Sim} {g:Img} {R:RM} (hok:Ok R S g) :
  Fn P F_Sim_unmark [.pointer (some ⟨p,0,none⟩)] R (simD p S g) (SimQ p { S with marks:=List.replicate S.marks.length false } λ_=>True):=by
 refine s_Sim_unmark λF=>?_
 unfold c_Sim_unmark
 have hml:=hok.ml
 refine jl (v:=.slice (some ⟨g.mb,0,none⟩) S.marks.length g.mc) rfl (jln (jms (by omega) (by omega) (by omega) λb=>?_))
 rw[Int.toNat_natCast]
 have e:(List.replicate S.marks.length (cl z4)).flatten = (List.replicate S.marks.length false).map Value.bool ++ []:=by
  rw[List.append_nil,List.map_replicate,show cl z4 = [Value.bool false] from rfl,List.flatten_replicate_singleton]
 rw[e]
 have:=jmarks (p:=p) (R:=R) (D:=simD p S g ++ F) (b:=b) (c:=S.marks.length) (ms:=List.replicate S.marks.length false) (sp:=[]) (m:=POST R F (SimQ p { S with marks:=List.replicate S.marks.length false } λ_=>True) (.tuple #[])) ?_
 ·rw[List.length_replicate] at this
  exact this
 ·exact jretS (RM.le.refl _) trivial rfl (by exact { hok with ml:=by simpa using hok.ml,mk_:=by simp })
def rowsTo (f:Int→Rg→Rg) (k:Nat) (t:List Rg):List Rg:=t.mapIdx λi x=>if i = 0∨k≤i then x else f i x
theorem rowsTo_one {f:Int→Rg→Rg} {t:List Rg}:rowsTo f 1 t = t:=by
 apply List.ext_getElem
 ·simp[rowsTo]
 ·intro i h1 h2
  simp only[rowsTo,List.getElem_mapIdx]
  rw[if_pos (by omega)]
theorem rowsTo_all {f:Int→Rg→Rg} {t:List Rg} {k:Nat} (h:t.length≤k):rowsTo f k t = rows f t:=by
 apply List.ext_getElem
 ·simp[rowsTo,rows]
 ·intro i h1 h2
  simp only[rowsTo,rows,List.getElem_mapIdx]
  simp only[rowsTo,List.length_mapIdx] at h1
  by_cases c:i = 0
  ·rw[if_pos (.inl c),if_pos c]
  ·rw[if_neg (by omega),if_neg c]
@[simp] theorem rowsTo_len {f:Int→Rg→Rg} {t:List Rg} {k:Nat}:(rowsTo f k t).length = t.length:=by simp[rowsTo]
theorem rowsTo_get {f:Int→Rg→Rg} {t:List Rg} {k:Nat} (h:k < t.length):(rowsTo f k t)[k]'(by simpa using h) = t[k]:=by
 simp only[rowsTo,List.getElem_mapIdx];rw[if_pos (.inr (z_n k))]
theorem rowsTo_set {f:Int→Rg→Rg} {t:List Rg} {k:Nat} (h1:1≤k) (h:k < t.length):(rowsTo f k t).set k (f k t[k]) = rowsTo f (k + 1) t:=by
 apply List.ext_getElem
 ·simp[rowsTo]
 ·intro i h2 h3
  simp only[rowsTo,List.length_mapIdx] at h3
  rw[List.getElem_set]
  simp only[rowsTo,List.getElem_mapIdx]
  by_cases c:k = i
  ·subst c;rw[if_pos rfl,if_neg (by omega)]
  ·rw[if_neg c]
   by_cases d:i = 0∨k≤i
   ·rw[if_pos d,if_pos (by omega)]
   ·rw[if_neg d,if_neg (by omega)]
theorem t_idle {p:Nat} {S S' : Sim} {g:Img} {R:RM} (hok:Ok R S g) (hS:S.idle = some S') :
  Fn P F_Sim_idle [.pointer (some ⟨p,0,none⟩)] R (simD p S g) (SimQ p S' λ_=>True):=by
 refine s_Sim_idle λF=>?_
 unfold c_Sim_idle
 unfold Sim.idle at hS
 obtain⟨n,hn,hS⟩:=bind_some hS
 obtain⟨rfl,hin⟩:=plus_some hn
 simp only[Option.some.injEq] at hS
 have htl:=hok.tl
 refine jcS (p:=p) (by exact t_unmark hok) λ_ R1 g1 hR1 hr ok1=>?_
 refine jss (p:=p) { S with marks:=List.replicate S.marks.length false,phase:=0 } g1 rfl rfl (by decide) (by rfl) (by rfl) ?_
 refine jl (v:=.bool S.col.asked) rfl ?_
 refine jbd (cs:=eCol (col0 S.col.asked 0) (.slice none 0 0)) rfl rfl ?_
 refine jss (p:=p) { S with marks:=List.replicate S.marks.length false,phase:=0,col:=col0 S.col.asked 0 } { g1 with stack:=.slice none 0 0 } rfl rfl (by decide) (by rfl) (by rfl) ?_
 refine jl (v:=I S.cycles) rfl (jadd hin ?_)
 refine jss (p:=p) { S with marks:=List.replicate S.marks.length false,phase:=0,col:=col0 S.col.asked 0,cycles:=S.cycles + 1 } { g1 with stack:=.slice none 0 0 } rfl rfl (by decide) (by rfl) (by rfl) ?_
 refine jlp (λm vs R' D'=>R' = R1∧∃k:Nat,1≤k∧k≤S.table.length + 1∧D' = simD p { S with marks:=List.replicate S.marks.length false,phase:=0,col:=col0 S.col.asked 0,cycles:=S.cycles + 1,table:=rowsTo (λ_ x=>{ x with live:=0 }) k S.table } { g1 with stack:=.slice none 0 0 } ++ F∧vs = [.pointer (some ⟨p,0,none⟩),I k]∧m = S.table.length + 1 - k)
  (n:=S.table.length) ⟨rfl,1,z_n 1,by omega,by rw[rowsTo_one],rfl,by omega⟩ ?_
 rintro m e R2 D2 K ⟨hR2,k,k0,k1,hD,he,hm⟩ hK
 subst hR2
 rw[hD];clear hD
 simp only[List.map,lc,ln,lj,z_t] at he
 simp only[he]
 refine jl (v:=.slice (some ⟨g1.tb,0,none⟩) (rowsTo (λ_ x=>{ x with live:=0 }) k S.table).length g1.tc) rfl (jln (jlt (jif (λhc=>?_) (λhc=>?_))))
 ·have hc:k < S.table.length:=by have:=z_f hc;rw[rowsTo_len] at this;omega
  refine jl (v:=.slice (some ⟨g1.tb,0,none⟩) (rowsTo (λ_ x=>{ x with live:=0 }) k S.table).length g1.tc) rfl (jian (by rw[rowsTo_len];exact hc) ?_)
  refine jlr_ (p:=p) (g:={ g1 with stack:=.slice none 0 0 }) (by simpa using hc) ?_
  rw[show ({ S with marks:=List.replicate S.marks.length false,phase:=0,col:=col0 S.col.asked 0,cycles:=S.cycles + 1,table:=rowsTo (λ_ x=>{ x with live:=0 }) k S.table }:Sim).table[k]'(by simpa using hc) = S.table[k] from rowsTo_get (f:=λ_ x=>{ x with live:=0 }) hc]
  refine ja λb5=>?_
  refine js (cs':=eRg (S.table[k])) rfl rfl (by simp) rfl ?_
  refine js (cs':=eRg { S.table[k] with live:=0 }) rfl rfl (by simp) rfl ?_
  refine jl (v:=.slice (some ⟨g1.tb,0,none⟩) (rowsTo (λ_ x=>{ x with live:=0 }) k S.table).length g1.tc) rfl ?_
  refine jla (l:=eRg { S.table[k] with live:=0 }) (by simp) rfl ?_
  refine jian (by rw[rowsTo_len];exact hc) ?_
  refine jsr_ (p:=p) (g:={ g1 with stack:=.slice none 0 0 }) (x:={ S.table[k] with live:=0 }) { S with marks:=List.replicate S.marks.length false,phase:=0,col:=col0 S.col.asked 0,cycles:=S.cycles + 1,table:=rowsTo (λ_ x=>{ x with live:=0 }) (k + 1) S.table } (by simpa using hc) (by rw[← rowsTo_set k0 hc]) ?_
  refine jadd ⟨by omega,by omega⟩ ?_
  refine jpart (simD p { S with marks:=List.replicate S.marks.length false,phase:=0,col:=col0 S.col.asked 0,cycles:=S.cycles + 1,table:=rowsTo (λ_ x=>{ x with live:=0 }) (k + 1) S.table } { g1 with stack:=.slice none 0 0 }) (G:=F) ?_
  exact hK (S.table.length + 1 - (k + 1)) _ _ _ (by omega) ⟨rfl,k + 1,by omega,by omega,rfl,rfl,rfl⟩
 ·have hc:S.table.length≤k:=by have:=z_g hc;rw[rowsTo_len] at this;omega
  subst hS
  refine jretS hR1 trivial (by rw[rowsTo_all hc]) ?_
  exact { ok1 with stack:=.inl ⟨rfl,rfl,rfl⟩,tl:=by simpa [rows] using hok.tl,tk:=by simpa [rows] using ok1.tk,ml:=by simpa using hok.ml,mk_:=by simpa using ok1.mk_ }
end Go.Lf
end
section
namespace Go.Lf
open Go Sm
def SO (l:List Int) (v:Value) (A:Chs):Prop:=(l = []∧v = .slice none 0 0∧A = [])∨OwnI l v A
theorem SO.flat {l:List Int} {v:Value} {A:Chs} (h:SO l v A):flat v = true:=by
 rcases h with ⟨_,rfl,_⟩ | ⟨b,c,sp,_,_,rfl,_⟩<;>rfl
theorem SO.sl {l:List Int} {v:Value} {A:Chs} (h:SO l v A):∃a n c,v = .slice a n c:=by
 rcases h with ⟨_,rfl,_⟩ | ⟨b,c,sp,_,_,rfl,_⟩<;>exact⟨_,_,_,rfl⟩
theorem jas {R:RM} {A E:Chs} {l l2:List Int} {v:Value} {xa:Option Addr} {m cx:Nat} {k:Value→M} (so:SO l v A) (hm:m = l2.length) (hl:l.length + l2.length < 1000000000000) (hx:Reads R (A ++ E) xa (m * 1) (l2.map I))
  (H:∀v' A',SO (l ++ l2) v' A'→J R (A' ++ E) (k v')):J R (A ++ E) (AP T_int 1 8 [I 0] v (.slice xa m cx) k):=by
 subst hm
 have hfl:allFlat (l2.map I) = true:=by
  unfold allFlat;rw[List.all_eq_true];intro x hx;obtain⟨y,_,rfl⟩:=List.mem_map.1 hx;rfl
 have fl:∀n,(List.replicate n [I 0]).flatten.length = n:=λn=>by
  rw[flat_len (w:=1) (by intro x hx;rw[(List.mem_replicate.1 hx).2];rfl)];simp
 rcases so with ⟨rfl,rfl,rfl⟩ | ⟨b,c,sp,hc,hsp,rfl,rfl⟩
 ·refine jap hx (sl:=0) (old:=[]) (by rw[Nat.zero_mul];exact Reads.none_) (by decide) (by simp at hl;omega) (λhc h hst=>?_) (λb c hc=>?_)
  ·have h0:l2 = []:=List.length_eq_zero_iff.1 (by omega)
   subst h0
   have:=H (.slice none 0 0) [] (.inl ⟨rfl,rfl,rfl⟩) h hst
   simpa using this
  ·have:=H (.slice (some ⟨b,0,none⟩) l2.length c) [(b,C T_int (l2.map I ++ (List.replicate (c - l2.length) [I 0]).flatten))] (.inr ⟨b,c,(List.replicate (c - l2.length) [I 0]).flatten,by simpa using hc,by rw[fl];simp,by simp,by simp⟩)
   simpa using this
 ·refine japh hx (E:=E) (tk:=⟨List.Perm.refl _⟩) (by simp;omega) hc (by simp) hfl (by decide) (by omega) (λh=>?_) (λb' c' h=>?_)
  ·have el:lay (l.map I ++ sp) (l.length * 1) (l2.map I) = (l ++ l2).map I ++ sp.drop l2.length:=by
    rw[lay_app (by simp)];simp[lay]
   rw[el]
   have:=H (.slice (some ⟨b,0,none⟩) (l ++ l2).length c) [(b,C T_int ((l ++ l2).map I ++ sp.drop l2.length))] (.inr ⟨b,c,_,by simpa using h,by simp;omega,rfl,rfl⟩)
   simpa using this
  ·refine jperm (List.Perm.swap _ _ _) (jdrop ?_)
   have:=H (.slice (some ⟨b',0,none⟩) (l ++ l2).length c') [(b',C T_int ((l ++ l2).map I ++ (List.replicate (c' - (l.length + l2.length)) [I 0]).flatten))] (.inr ⟨b',c',_,by simpa using h,by simp[fl],rfl,rfl⟩)
   rw[List.take_append_of_le_length (by simp),List.take_of_length_le (by simp)]
   simpa using this
theorem jfso {R:RM} {A E:Chs} {l:List Int} {v:Value} {m:M} (so:SO l v A) (H:∀R',R.le R'→Ints R' v l→J R' E m):J R (A ++ E) m:=by
 rcases so with ⟨rfl,rfl,rfl⟩ | ⟨b,c,sp,hc,hsp,rfl,rfl⟩
 ·exact H R (RM.le.refl _) (.inl ⟨rfl,rfl,rfl⟩)
 ·refine jfreeze (b:=b) (E:=E) (t:=⟨List.Perm.refl _⟩) λR2 hR2 hb=>?_
  exact H R2 hR2 (ints_of hb hc)
theorem jrv {R:RM} {D G:Chs} {p:Nat} {S:Sim} {g:Img} {i:Int} {t:Thr} {k:Value→M} [w:Fd D p S g G] (hok:Ok R S g) (ht:idx S.th i = some t) (H:∀v,Ints R v t.roots→J R D (k v)) :
  J R D (L1 (.pointer (some ⟨p,17,none⟩)) λx=>IA 17 x (I i) λy=>FO 0 y λz=>L1 z k):=by
 obtain⟨h0,h1,h2,h3⟩:=idx_some ht
 have h2' : i.toNat < g.rv.length:=by have:=hok.rvl;omega
 have hv:=hok.rv i.toNat h2 h2'
 rw[h3] at hv
 have H' : J R (simD p S g ++ G) (k (g.rv[i.toNat])):=jperm w.ex.symm (H _ hv)
 have l1:J R (simD p S g ++ G) (L1 (.pointer (some ⟨p,17,none⟩)) λx=>IA 17 x (I i) λy=>FO 0 y λz=>L1 z k):=by
  refine jl rfl (jia h0 h1 (jl (v:=g.rv[i.toNat]) ?_ H'))
  rw[Nat.zero_add]
  exact ths_cell h2 h2' (by rw[h3];rfl)
 exact jperm w.ex l1
theorem flat_le {l:List Thr} (h:∀t∈l,t.roots.length < 1000000):(l.flatMap λt=>t.roots.filter (·≠0)).length≤1000000 * l.length:=by
 induction l with
 | nil=>simp
 | cons t r ih=>
  rw[List.flatMap_cons,List.length_append,List.length_cons]
  have h1:=ih λt ht=>h t (by simp[ht])
  have h2:=h t (by simp)
  have h3:=List.length_filter_le (λx=>decide (x≠0)) t.roots
  omega
theorem t_snapshot {p:Nat} {S:Sim} {g:Img} {R:RM} (hok:Ok R S g) (hsz:S.sz = true) :
  Fn P F_Sim_snapshot [.pointer (some ⟨p,0,none⟩)] R (simD p S g) (SimQ p S.snapshot λ_=>True):=by
 refine s_Sim_snapshot λF=>?_
 unfold c_Sim_snapshot
 have hsz:=sz_ev hsz
 have htl:=hok.tl
 have hhl:=hok.hl
 have hml:=hok.ml
 refine jcS (p:=p) (by exact t_unmark hok) λ_ R1 g1 hR1 hr ok1=>?_
 refine jss (p:=p) { S with marks:=List.replicate S.marks.length false,old:=[] } { g1 with old:=.slice none 0 0 } rfl rfl (by decide) (by rfl) (by rfl) ?_
 refine jss (p:=p) { S with marks:=List.replicate S.marks.length false,old:=[],phase:=1 } { g1 with old:=.slice none 0 0 } rfl rfl (by decide) (by rfl) (by rfl) ?_
 have ok2:Ok R1 { S with marks:=List.replicate S.marks.length false,old:=[],phase:=1 } { g1 with old:=.slice none 0 0 }:={ ok1 with old:=.inl ⟨rfl,rfl,rfl⟩ }
 generalize hS2:({ S with marks:=List.replicate S.marks.length false,old:=[],phase:=1 }:Sim) = S2 at ok2 ⊢
 generalize hg2:({ g1 with old:=.slice none 0 0 }:Img) = g2 at ok2 ⊢
 have e1:S2.col = S.col:=by rw[← hS2]
 have e2:S2.th = S.th:=by rw[← hS2]
 have e3:S2.pins = S.pins:=by rw[← hS2]
 have e4:S2.table = S.table:=by rw[← hS2]
 refine jl (v:=.bool S2.col.asked) rfl (jl (v:=I S2.col.want) rfl ?_)
 refine jbd (cs:=eCol { col0 S2.col.asked S2.col.want with pc:=1 } (.slice none 0 0)) rfl rfl ?_
 refine ja λb=>?_
 refine jand (jl (v:=.bool S2.col.asked) rfl jev) (jand (jl (v:=I S2.col.want) rfl jev) ?_)
 refine js (cs':=eCol { col0 S2.col.asked S2.col.want with pc:=1 } (.slice none 0 0)) rfl rfl (by exact z_n 15) rfl ?_
 have hth:∀i:Nat,(S2.th.take i).flatMap (λt=>t.roots.filter (·≠0)) = (S2.th.take i).flatMap (λt=>t.roots.filter (·≠0)):=λ_=>rfl
 have hlen:∀l:List Int,l.length≤1000000 * 1000 + 1000000→l.length + 1 < 1000000000000:=λl h=>by omega
 have hroots:∀t∈S2.th,t.roots.length < 1000000:=λt ht=>hsz.2.2.2.2 t (e2▸ht)
 have htl2:S2.th.length≤1000:=by rw[e2];exact hhl
 have tk:∀i:Nat,((S2.th.take i).flatMap λt=>t.roots.filter (·≠0)).length≤1000000 * 1000:=λi=>by
  have h1:=flat_le (l:=S2.th.take i) λt ht=>hroots t (List.mem_of_mem_take ht)
  have h2:(S2.th.take i).length≤1000:=by rw[List.length_take];omega
  omega
 refine jcutq (λvs R' D'=>R' = R1∧∃v A,SO (S2.th.flatMap λt=>t.roots.filter (·≠0)) v A∧D' = A ++ ((b,C T_l8Col (eCol { col0 S2.col.asked S2.col.want with pc:=1 } v)) :: (simD p S2 g2 ++ F))∧vs = [.pointer (some ⟨p,0,none⟩),.pointer (some ⟨b,0,none⟩)]) (λK hK=>?_) ?_
 ·refine jcutq (λvs R' D'=>R' = R1∧∃v A,SO (S2.th.flatMap λt=>t.roots.filter (·≠0)) v A∧D' = A ++ ((b,C T_l8Col (eCol { col0 S2.col.asked S2.col.want with pc:=1 } v)) :: (simD p S2 g2 ++ F))∧vs = [.pointer (some ⟨p,0,none⟩),.pointer (some ⟨b,0,none⟩)]) (λK2 hK2=>?_) ?_
  rotate_left
  ·rintro e R2 D2 ⟨hR2,v,A,so,hD,he⟩
   subst hR2
   rw[hD];clear hD
   simp only[List.map,lc,ln,lj,z_t] at he
   simp only[he]
   exact hK _ _ _ ⟨rfl,v,A,so,rfl,rfl⟩
  refine jlp (λm vs R' D'=>R' = R1∧∃(i:Nat) (v:Value) (A:Chs),i≤S2.th.length∧SO ((S2.th.take i).flatMap λt=>t.roots.filter (·≠0)) v A∧D' = A ++ ((b,C T_l8Col (eCol { col0 S2.col.asked S2.col.want with pc:=1 } v)) :: (simD p S2 g2 ++ F))∧vs = [.pointer (some ⟨p,0,none⟩),.pointer (some ⟨b,0,none⟩),I i]∧m = S2.th.length - i)
   (n:=S2.th.length) ⟨rfl,0,.slice none 0 0,[],by omega,.inl ⟨by simp,rfl,rfl⟩,rfl,rfl,by omega⟩ ?_
  rintro m e R2 D2 K3 ⟨hR2,i,v,A,hi,so,hD,he,hm⟩ hK3
  subst hR2
  rw[hD];clear hD
  simp only[List.map,lc,ln,lj,z_t] at he
  simp only[he]
  refine jl (v:=.slice (some ⟨g2.hb,0,none⟩) S2.th.length g2.hc) rfl (jln (jlt (jif (λhc=>?_) (λhc=>?_))))
  rotate_left
  ·have hc:=z_g hc
   rw[List.take_of_length_le (show S2.th.length≤i by omega)] at so
   exact hK2 _ _ _ ⟨rfl,v,A,so,rfl,rfl⟩
  have hc:i < S2.th.length:=by have:=z_f hc;omega
  have hti:idx S2.th i = some (S2.th[i]):=by unfold idx;rw[if_pos (by omega),Int.toNat_natCast,List.getElem?_eq_getElem hc]
  have htk:(S2.th.take (i + 1)).flatMap (λt=>t.roots.filter (·≠0)) = (S2.th.take i).flatMap (λt=>t.roots.filter (·≠0)) ++ (S2.th[i]).roots.filter (·≠0):=by
   rw[List.take_succ_eq_append_getElem hc,List.flatMap_append];simp
  have hri:=hroots _ (List.getElem_mem hc)
  have done:∀(K4:List Value→M),(∀v A,SO ((S2.th.take (i + 1)).flatMap λt=>t.roots.filter (·≠0)) v A→J R2 (A ++ ((b,C T_l8Col (eCol { col0 S2.col.asked S2.col.want with pc:=1 } v)) :: (simD p S2 g2 ++ F))) (K4 [.pointer (some ⟨p,0,none⟩),.pointer (some ⟨b,0,none⟩),I i]))→True:=λ_ _=>trivial
  refine jcutq (λvs R' D'=>R' = R2∧∃v A,SO ((S2.th.take (i + 1)).flatMap λt=>t.roots.filter (·≠0)) v A∧D' = A ++ ((b,C T_l8Col (eCol { col0 S2.col.asked S2.col.want with pc:=1 } v)) :: (simD p S2 g2 ++ F))∧vs = [.pointer (some ⟨p,0,none⟩),.pointer (some ⟨b,0,none⟩),I i]) (λK4 hK4=>?_) ?_
  rotate_left
  ·rintro e R3 D3 ⟨hR3,v,A,so,hD,he⟩
   subst hR3
   rw[hD];clear hD
   simp only[List.map,lc,ln,lj,z_t] at he
   simp only[he]
   refine jadd ⟨by omega,by omega⟩ ?_
   exact hK3 (S2.th.length - (i + 1)) _ _ _ (by omega) ⟨rfl,i + 1,v,A,by omega,so,rfl,rfl,rfl⟩
  refine jcutq (λvs R' D'=>R' = R2∧∃v A,SO ((S2.th.take (i + 1)).flatMap λt=>t.roots.filter (·≠0)) v A∧D' = A ++ ((b,C T_l8Col (eCol { col0 S2.col.asked S2.col.want with pc:=1 } v)) :: (simD p S2 g2 ++ F))∧vs = [.pointer (some ⟨p,0,none⟩),.pointer (some ⟨b,0,none⟩),I i]) (λK5 hK5=>?_) ?_
  rotate_left
  ·rintro e R3 D3 ⟨hR3,v,A,so,hD,he⟩
   subst hR3
   rw[hD];clear hD
   simp only[List.map,lc,ln,lj,z_t] at he
   simp only[he]
   exact hK4 _ _ _ ⟨rfl,v,A,so,rfl,rfl⟩
  refine jcutq (λvs R' D'=>R' = R2∧∃v A,SO ((S2.th.take (i + 1)).flatMap λt=>t.roots.filter (·≠0)) v A∧D' = A ++ ((b,C T_l8Col (eCol { col0 S2.col.asked S2.col.want with pc:=1 } v)) :: (simD p S2 g2 ++ F))∧vs = [.pointer (some ⟨p,0,none⟩),.pointer (some ⟨b,0,none⟩),I i]) (λK6 hK6=>?_) ?_
  rotate_left
  ·rintro e R3 D3 ⟨hR3,v,A,so,hD,he⟩
   subst hR3
   rw[hD];clear hD
   simp only[List.map,lc,ln,lj,z_t] at he
   simp only[he]
   exact hK5 _ _ _ ⟨rfl,v,A,so,rfl,rfl⟩
  refine jlp (λm vs R' D'=>R' = R2∧∃(k:Nat) (v:Value) (A:Chs),k≤(S2.th[i]).roots.length∧SO ((S2.th.take i).flatMap (λt=>t.roots.filter (·≠0)) ++ ((S2.th[i]).roots.take k).filter (·≠0)) v A∧D' = A ++ ((b,C T_l8Col (eCol { col0 S2.col.asked S2.col.want with pc:=1 } v)) :: (simD p S2 g2 ++ F))∧vs = [.pointer (some ⟨p,0,none⟩),.pointer (some ⟨b,0,none⟩),I i,I k]∧m = (S2.th[i]).roots.length - k)
   (n:=(S2.th[i]).roots.length) ⟨rfl,0,v,A,by omega,by simpa using so,rfl,rfl,by omega⟩ ?_
  rintro m e R3 D3 K7 ⟨hR3,k,v,A,hk,so,hD,he,hm⟩ hK7
  subst hR3
  rw[hD];clear hD
  simp only[List.map,lc,ln,lj,z_t] at he
  simp only[he]
  refine jrv (p:=p) ok2 hti λrv1 hrv1=>?_
  refine jlnz hrv1 (jlt (jif (λhd=>?_) (λhd=>?_)))
  rotate_left
  ·have hd:=z_g hd
   rw[List.take_of_length_le (show (S2.th[i]).roots.length≤k by omega),← htk] at so
   exact hK6 _ _ _ ⟨rfl,v,A,so,rfl,rfl⟩
  have hd:k < (S2.th[i]).roots.length:=by have:=z_f hd;omega
  have hrk:((S2.th[i]).roots.take (k + 1)).filter (·≠0) = ((S2.th[i]).roots.take k).filter (·≠0) ++ (if (S2.th[i]).roots[k]≠0 then [(S2.th[i]).roots[k]] else []):=by
   rw[List.take_succ_eq_append_getElem hd,List.filter_append]
   congr 1
   by_cases c:(S2.th[i]).roots[k] = 0<;>simp[c]
  refine jcutq (λvs R' D'=>R' = R3∧∃v A,SO ((S2.th.take i).flatMap (λt=>t.roots.filter (·≠0)) ++ ((S2.th[i]).roots.take (k + 1)).filter (·≠0)) v A∧D' = A ++ ((b,C T_l8Col (eCol { col0 S2.col.asked S2.col.want with pc:=1 } v)) :: (simD p S2 g2 ++ F))∧vs = [.pointer (some ⟨p,0,none⟩),.pointer (some ⟨b,0,none⟩),I i,I k]) (λK8 hK8=>?_) ?_
  rotate_left
  ·rintro e R4 D4 ⟨hR4,v,A,so,hD,he⟩
   subst hR4
   rw[hD];clear hD
   simp only[List.map,lc,ln,lj,z_t] at he
   simp only[he]
   refine jadd ⟨by omega,by omega⟩ ?_
   exact hK7 ((S2.th[i]).roots.length - (k + 1)) _ _ _ (by omega) ⟨rfl,k + 1,v,A,by omega,so,rfl,rfl,rfl⟩
  refine jcutq (λvs R' D'=>R' = R3∧∃v A,SO ((S2.th.take i).flatMap (λt=>t.roots.filter (·≠0)) ++ ((S2.th[i]).roots.take (k + 1)).filter (·≠0)) v A∧D' = A ++ ((b,C T_l8Col (eCol { col0 S2.col.asked S2.col.want with pc:=1 } v)) :: (simD p S2 g2 ++ F))∧vs = [.pointer (some ⟨p,0,none⟩),.pointer (some ⟨b,0,none⟩),I i,I k]) (λK9 hK9=>?_) ?_
  rotate_left
  ·rintro e R4 D4 ⟨hR4,v,A,so,hD,he⟩
   subst hR4
   rw[hD];clear hD
   simp only[List.map,lc,ln,lj,z_t] at he
   simp only[he]
   exact hK8 _ _ _ ⟨rfl,v,A,so,rfl,rfl⟩
  refine jrv (p:=p) ok2 hti λrv2 hrv2=>?_
  refine jfz1 hrv2 (by omega) (by omega) ?_
  have e0:(S2.th[i]).roots[((k:Nat):Int).toNat]'(by omega) = (S2.th[i]).roots[k]:=by simp
  rw[e0]
  refine jne (jif (λhz=>?_) (λhz=>?_))
  ·have hz:(S2.th[i]).roots[k]≠0:=by simpa using hz
   obtain⟨sa,sn,sc,rfl⟩:=so.sl
   refine jl (v:=.slice sa sn sc) rfl ?_
   refine jrv (p:=p) ok2 hti λrv3 hrv3=>?_
   refine jfz1 hrv3 (by omega) (by omega) ?_
   rw[e0]
   refine jbs (cs:=[I (S2.th[i]).roots[k]]) rfl rfl λb1=>?_
   refine jand (jl (v:=.slice sa sn sc) rfl jev) ?_
   refine jperm List.perm_middle.symm ?_
   have hx:Reads R3 (A ++ (b1,C 3 [I (S2.th[i]).roots[k]]) :: (b,C T_l8Col (eCol { col0 S2.col.asked S2.col.want with pc:=1 } (.slice sa sn sc))) :: (simD p S2 g2 ++ F)) (some ⟨b1,0,none⟩) (1 * 1) ([(S2.th[i]).roots[k]].map I):=Reads.held (t:=T_int) (cs:=[I (S2.th[i]).roots[k]]) (o:=0) (n:=1 * 1) (z_n 1)
   refine jas so rfl (by
    have h1:=tk i
    have h2:=List.length_filter_le (λx=>decide (x≠0)) ((S2.th[i]).roots.take k)
    have h3:((S2.th[i]).roots.take k).length≤(S2.th[i]).roots.length:=by rw[List.length_take];omega
    rw[List.length_append,List.length_singleton];omega) hx λv' A' so'=>?_
   obtain⟨sa',sn',sc',rfl⟩:=so'.sl
   refine js (cs':=eCol { col0 S2.col.asked S2.col.want with pc:=1 } (.slice sa' sn' sc')) rfl rfl (by simp[eCol]) rfl ?_
   refine jpart A' (G:=(b,C T_l8Col (eCol { col0 S2.col.asked S2.col.want with pc:=1 } (.slice sa' sn' sc'))) :: (simD p S2 g2 ++ F)) ?_
   refine hK9 _ _ _ ⟨rfl,_,A',?_,rfl,rfl⟩
   rw[hrk,if_pos hz,← List.append_assoc];exact so'
  ·have hz:¬ (S2.th[i]).roots[k]≠0:=by simpa using hz
   refine hK9 _ _ _ ⟨rfl,v,A,?_,rfl,rfl⟩
   rw[hrk,if_neg hz,List.append_nil];exact so
 ·rintro e R2 D2 ⟨hR2,v,A,so,hD,he⟩
  subst hR2
  rw[hD];clear hD
  simp only[List.map,lc,ln,lj,z_t] at he
  simp only[he]
  obtain⟨sa,sn,sc,rfl⟩:=so.sl
  refine jl (v:=.slice sa sn sc) rfl (jl (v:=g2.pins) rfl ?_)
  obtain⟨xa,cx,hpv,hx⟩:=Ints.reads (D:=A ++ ((b,C T_l8Col (eCol { col0 S2.col.asked S2.col.want with pc:=1 } (.slice sa sn sc))) :: (simD p S2 g2 ++ F))) ok2.pins
  rw[hpv]
  refine jas so rfl (by
   have h1:=tk S2.th.length
   rw[List.take_length] at h1
   have h2:=hsz.2.2.2.1
   rw[e3];omega) hx λv' A' so'=>?_
  obtain⟨sa',sn',sc',rfl⟩:=so'.sl
  refine js (cs':=eCol { col0 S2.col.asked S2.col.want with pc:=1 } (.slice sa' sn' sc')) rfl rfl (by simp[eCol]) rfl ?_
  refine jfso so' λR3 hR3 hint=>?_
  generalize hst:((S2.th.flatMap λt=>t.roots.filter (·≠0)) ++ S2.pins) = st at hint
  refine jperm (D':=(b,C T_l8Col (eCol { col0 S2.col.asked S2.col.want with pc:=1,stack:=st } (.slice sa' sn' sc'))) :: (simD p S2 g2 ++ F)) (List.Perm.refl _) ?_
  refine jputC (p:=p) { S2 with col:={ col0 S2.col.asked S2.col.want with pc:=1,stack:=st } } (by exact ok2.le hR3) (by exact hint) (by rfl) λg3 ok3=>?_
  refine jpart (simD p { S2 with col:={ col0 S2.col.asked S2.col.want with pc:=1,stack:=st } } g3) (G:=F) ?_
  have htl3:S2.table.length≤1000:=by rw[e4];exact htl
  refine jlp (λm vs R' D'=>R' = R3∧∃k:Nat,1≤k∧k≤S2.table.length + 1∧D' = simD p { S2 with col:={ col0 S2.col.asked S2.col.want with pc:=1,stack:=st },table:=rowsTo (λ_ x=>{ x with tams:=x.top,live:=0 }) k S2.table } g3 ++ F∧vs = [.pointer (some ⟨p,0,none⟩),I k]∧m = S2.table.length + 1 - k)
   (n:=S2.table.length) ⟨rfl,1,z_n 1,by omega,by rw[rowsTo_one],rfl,by omega⟩ ?_
  rintro m e R4 D4 K ⟨hR4,k,k0,k1,hD,he,hm⟩ hK
  subst hR4
  rw[hD];clear hD
  simp only[List.map,lc,ln,lj,z_t] at he
  simp only[he]
  refine jl (v:=.slice (some ⟨g3.tb,0,none⟩) (rowsTo (λ_ x=>{ x with tams:=x.top,live:=0 }) k S2.table).length g3.tc) rfl (jln (jlt (jif (λhc=>?_) (λhc=>?_))))
  ·have hc:k < S2.table.length:=by have:=z_f hc;rw[rowsTo_len] at this;omega
   refine jl (v:=.slice (some ⟨g3.tb,0,none⟩) (rowsTo (λ_ x=>{ x with tams:=x.top,live:=0 }) k S2.table).length g3.tc) rfl (jian (by rw[rowsTo_len];exact hc) ?_)
   refine jlr_ (p:=p) (by simpa using hc) ?_
   rw[show ({ S2 with col:={ col0 S2.col.asked S2.col.want with pc:=1,stack:=st },table:=rowsTo (λ_ x=>{ x with tams:=x.top,live:=0 }) k S2.table }:Sim).table[k]'(by simpa using hc) = S2.table[k] from rowsTo_get (f:=λ_ x=>{ x with tams:=x.top,live:=0 }) hc]
   refine ja λb5=>?_
   refine js (cs':=eRg (S2.table[k])) rfl rfl (by simp) rfl ?_
   refine jl (v:=I (S2.table[k]).top) rfl ?_
   refine js (cs':=eRg { S2.table[k] with tams:=(S2.table[k]).top }) rfl rfl (by simp) rfl ?_
   refine js (cs':=eRg { S2.table[k] with tams:=(S2.table[k]).top,live:=0 }) rfl rfl (by simp) rfl ?_
   refine jl (v:=.slice (some ⟨g3.tb,0,none⟩) (rowsTo (λ_ x=>{ x with tams:=x.top,live:=0 }) k S2.table).length g3.tc) rfl ?_
   refine jla (l:=eRg { S2.table[k] with tams:=(S2.table[k]).top,live:=0 }) (by simp) rfl ?_
   refine jian (by rw[rowsTo_len];exact hc) ?_
   refine jsr_ (p:=p) (x:={ S2.table[k] with tams:=(S2.table[k]).top,live:=0 }) { S2 with col:={ col0 S2.col.asked S2.col.want with pc:=1,stack:=st },table:=rowsTo (λ_ x=>{ x with tams:=x.top,live:=0 }) (k + 1) S2.table } (by simpa using hc) (by rw[← rowsTo_set k0 hc]) ?_
   refine jadd ⟨by omega,by omega⟩ ?_
   refine jpart (simD p { S2 with col:={ col0 S2.col.asked S2.col.want with pc:=1,stack:=st },table:=rowsTo (λ_ x=>{ x with tams:=x.top,live:=0 }) (k + 1) S2.table } g3) (G:=F) ?_
   exact hK (S2.table.length + 1 - (k + 1)) _ _ _ (by omega) ⟨rfl,k + 1,by omega,by omega,rfl,rfl,rfl⟩
  ·have hc:S2.table.length≤k:=by have:=z_g hc;rw[rowsTo_len] at this;omega
   have efin:({ S2 with col:={ col0 S2.col.asked S2.col.want with pc:=1,stack:=st },table:=rowsTo (λ_ x=>{ x with tams:=x.top,live:=0 }) k S2.table }:Sim) = S.snapshot:=by
    rw[rowsTo_all hc,← hst,← hS2];rfl
   refine jretS (hR1.trans hR3) trivial efin ?_
   rw[← efin]
   exact { ok3 with tl:=by simpa using htl3,tk:=by simpa using ok3.tk }
end Go.Lf
end
section
namespace Go.Lf
open Go Sm
theorem r_l4Has {R:RM} {D:Chs} {v:Value} {l:List Int} (n:Int) (h:Ints R v l) (hl:l.length < 1000000000000):Ro F_s_l4Has [v,I n] (.bool (l.contains n)) R D:=by
 refine s_s_l4Has λF=>?_
 unfold c_s_l4Has
 refine jlp (λm vs R' D'=>R' = R∧D' = D ++ F∧∃i:Nat,i≤l.length∧vs = [v,I n,I i]∧m = l.length - i∧∀k (hk:k < l.length),k < i→l[k]≠n)
  (n:=l.length) ⟨rfl,rfl,0,by omega,rfl,by omega,λk _ h=>by omega⟩ ?_
 rintro m e R1 D1 K ⟨hR1,hD,i,hi,he,hm,hall⟩ hK
 subst hR1
 rw[hD];clear hD
 simp only[List.map,lc,ln,lj,z_t] at he
 simp only[he]
 refine jlnz h (jlt (jif (λhc=>?_) (λhc=>?_)))
 ·have hc:i < l.length:=by have:=z_f hc;omega
  refine jfz1 h (by omega) (by omega) (jeq (jif (λhq=>?_) (λhq=>?_)))
  ·refine ro_ret ?_
   have hq:=eq_of_beq hq
   simp only[Int.toNat_natCast] at hq
   have:l.contains n = true:=by rw[List.contains_eq_mem,z_d,← hq];exact List.getElem_mem hc
   rw[this]
  ·have hq:=ne_of_beq_false hq
   simp only[Int.toNat_natCast] at hq
   refine jadd ⟨by omega,by omega⟩ ?_
   refine hK (l.length - (i + 1)) _ _ _ (by omega) ⟨rfl,rfl,i + 1,by omega,rfl,rfl,λk hk hki=>?_⟩
   by_cases c:k = i
   ·subst c;exact hq
   ·exact hall k hk (by omega)
 ·have hc:¬ i < l.length:=by have:=z_g hc;omega
  refine ro_ret ?_
  have:l.contains n = false:=by
   rw[List.contains_eq_mem,decide_eq_false_iff_not]
   intro hm
   obtain⟨k,hk,hkn⟩:=List.getElem_of_mem hm
   exact hall k hk (by omega) hkn
  rw[this]
section choose
variable {t:List Rg} {sp:List Value} {b cap:Nat} {R:RM} {D:Chs}
def InC (t:List Rg) (held:List Int) (reserve:Int) (n i:Nat) (left:Int) (fr fe:List Int):Prop:=
 (n = 0→fr = []∧left = reserve∧fe ++ freeOf held i (t.drop i) = freeOf held 1 t.tail)∧
 (1≤n→fe = freeOf held 1 t.tail∧fr ++ ((chooseIn held n i (t.drop i) left).2 ++ chooseFrom t held (16 - n) (n + 1) (chooseIn held n i (t.drop i) left).1) = chooseFrom t held 16 1 reserve)
def OuC (t:List Rg) (held:List Int) (reserve:Int) (n:Nat) (left:Int) (fr fe:List Int):Prop:=
 (n = 0→fr = []∧left = reserve∧fe = [])∧(1≤n→fe = freeOf held 1 t.tail∧fr ++ chooseFrom t held (17 - n) n left = chooseFrom t held 16 1 reserve)
theorem InC.step {held:List Int} {reserve:Int} {n i:Nat} {left:Int} {fr fe:List Int} (h:InC t held reserve n i left fr fe) (hi:i < t.length) :
  (chooseRow held n i t[i] = false→InC t held reserve n (i + 1) left fr fe)∧(chooseRow held n i t[i] = true→n = 0→InC t held reserve n (i + 1) left fr (fe ++ [(i:Int)]))∧
  (chooseRow held n i t[i] = true→1≤n→(n:Int)≤left→InC t held reserve n (i + 1) (left - n) (fr ++ [(i:Int)]) fe)∧(1≤n→¬ (n:Int)≤left→InC t held reserve n (i + 1) left fr fe):=by
 have hd:t.drop i = t[i] :: t.drop (i + 1):=List.drop_eq_getElem_cons hi
 obtain⟨h0,h1⟩:=h
 rw[hd] at h0 h1
 refine⟨λhc=>⟨λhn=>?_,λhn=>?_⟩,λhc hn=>⟨λ_=>?_,λhn'=>by omega⟩,λhc hn hl=>⟨λhn'=>by omega,λ_=>?_⟩,λhn hl=>⟨λhn'=>by omega,λ_=>?_⟩⟩
 ·obtain⟨a1,a2,a3⟩:=h0 hn
  subst hn
  simp only[freeOf] at a3
  rw[if_neg (by rw[show chooseRow held 0 i t[i] = false from hc];decide)] at a3
  exact⟨a1,a2,a3⟩
 ·obtain⟨a1,a2⟩:=h1 hn
  simp only[chooseIn,hc,Bool.false_and,Bool.false_eq_true,if_false] at a2
  exact⟨a1,a2⟩
 ·obtain⟨a1,a2,a3⟩:=h0 hn
  subst hn
  simp only[freeOf] at a3
  rw[if_pos (show chooseRow held 0 i t[i] = true from hc)] at a3
  exact⟨a1,a2,by rw[List.append_assoc];exact a3⟩
 ·obtain⟨a1,a2⟩:=h1 hn
  simp only[chooseIn,hc,Bool.true_and,decide_eq_true hl,if_true] at a2
  refine⟨a1,?_⟩
  rw[List.append_assoc];exact a2
 ·obtain⟨a1,a2⟩:=h1 hn
  simp only[chooseIn,decide_eq_false hl,Bool.and_false,Bool.false_eq_true,if_false] at a2
  exact⟨a1,a2⟩
theorem OuC.inner {held:List Int} {reserve:Int} {n:Nat} {left:Int} {fr fe:List Int} (h:OuC t held reserve n left fr fe) (hn:n≤16):InC t held reserve n 1 left fr fe:=by
 obtain⟨h0,h1⟩:=h
 refine⟨λhz=>?_,λhz=>?_⟩
 ·obtain⟨a1,a2,a3⟩:=h0 hz
  exact⟨a1,a2,by rw[a3,List.drop_one];rfl⟩
 ·obtain⟨a1,a2⟩:=h1 hz
  refine⟨a1,?_⟩
  rw[show 17 - n = (16 - n) + 1 from by omega] at a2
  simp only[chooseFrom] at a2
  rw[List.drop_one];exact a2
theorem InC.outer {held:List Int} {reserve:Int} {n i:Nat} {left:Int} {fr fe:List Int} (h:InC t held reserve n i left fr fe) (hi:t.length≤i):OuC t held reserve (n + 1) left fr fe:=by
 obtain⟨h0,h1⟩:=h
 rw[List.drop_eq_nil_of_le hi] at h0 h1
 refine⟨λhz=>by omega,λ_=>?_⟩
 by_cases c:n = 0
 ·obtain⟨a1,a2,a3⟩:=h0 c
  subst c
  refine⟨by simpa [freeOf] using a3,?_⟩
  rw[a1,a2];rfl
 ·obtain⟨a1,a2⟩:=h1 (by omega)
  refine⟨a1,?_⟩
  simp only[chooseIn,ln] at a2
  rw[show 17 - (n + 1) = 16 - n from by omega]
  exact_mod_cast a2
end choose
end Go.Lf
end
section
namespace Go.Lf
open Go Sm
theorem chooseIn_len (held:List Int) (n:Int):∀(l:List Rg) (i:Nat) (left:Int),(chooseIn held n i l left).2.length≤l.length
 | [],_,_=>z_n 0
 | x :: r,i,left=>by
  unfold chooseIn
  split
  ·simp only[List.length_cons];have:=chooseIn_len held n r (i + 1) (left - n);omega
  ·simp only[List.length_cons];have:=chooseIn_len held n r (i + 1) left;omega
theorem chooseFrom_len (t:List Rg) (held:List Int):∀(k:Nat) (n left:Int),(chooseFrom t held k n left).length≤k * t.length
 | 0,_,_=>by simp[chooseFrom]
 | k + 1,n,left=>by
  unfold chooseFrom
  simp only[List.length_append]
  have h1:=chooseIn_len held n t.tail 1 left
  have h2:=chooseFrom_len t held k (n + 1) (chooseIn held n 1 t.tail left).1
  rw[List.length_tail] at h1
  rw[Nat.succ_mul];omega
theorem freeOf_len (held:List Int):∀(l:List Rg) (i:Nat),(freeOf held i l).length≤l.length
 | [],_=>z_n 0
 | x :: r,i=>by
  unfold freeOf
  have:=freeOf_len held r (i + 1)
  split<;>simp only[List.length_cons]<;>omega
theorem InC.len {t:List Rg} {held:List Int} {reserve:Int} {n i:Nat} {left:Int} {fr fe:List Int} (h:InC t held reserve n i left fr fe):fr.length≤16 * t.length∧fe.length≤t.length:=by
 obtain⟨h0,h1⟩:=h
 have f:=freeOf_len held t.tail 1
 rw[List.length_tail] at f
 by_cases c:n = 0
 ·obtain⟨a1,a2,a3⟩:=h0 c
  have:=congrArg List.length a3
  rw[List.length_append] at this
  rw[a1];constructor
  ·simp
  ·omega
 ·obtain⟨a1,a2⟩:=h1 (by omega)
  have:=congrArg List.length a2
  rw[List.length_append] at this
  have g:=chooseFrom_len t held 16 1 reserve
  rw[a1];constructor<;>omega
def Q2I (l1 l2:List Int) (v:Value) (N:Chs):Prop:=∃v1 v2 A1 A2,SO l1 v1 A1∧SO l2 v2 A2∧v = .tuple #[v1,v2]∧N = A1 ++ A2
theorem perm_in {A1 A2 D:Chs} (x:Nat × Obj):(x :: (A1 ++ (A2 ++ D))).Perm (A2 ++ (x :: (A1 ++ D))):=
 (List.Perm.cons x (by rw[← List.append_assoc,← List.append_assoc];exact List.perm_append_comm.append_right D)).trans List.perm_middle.symm
theorem perm_sw {A1 A2 D:Chs}:(A2 ++ (A1 ++ D)).Perm (A1 ++ (A2 ++ D)):=by
 rw[← List.append_assoc,← List.append_assoc];exact List.perm_append_comm.append_right D
section table
variable {t:List Rg} {sp:List Value} {b cap:Nat} {R:RM} {D:Chs}
theorem m_TableChoose {held:List Int} {hv:Value} (reserve:Int) (hr:inR reserve) (hl:t.length < 1000000) (hi:Ints R hv held) (hhl:held.length < 1000000000000) [a:At D b (C T_Region (rowsE eRg t ++ sp))] :
  Mk F_s_TableChoose [.slice (some ⟨b,0,none⟩) t.length cap,I reserve,hv] R D (Q2I (tableChoose t reserve held).1 (tableChoose t reserve held).2):=by
 refine s_s_TableChoose λF=>?_
 unfold c_s_TableChoose
 refine jro (r_TableOk hl) ?_
 cases hok:tableOk t with
 | false=>
  refine jift (mk_ret [] ?_)
  have:tableChoose t reserve held = ([],[]):=by unfold tableChoose;rw[hok];rfl
  rw[this]
  exact⟨_,_,[],[],.inl ⟨rfl,rfl,rfl⟩,.inl ⟨rfl,rfl,rfl⟩,rfl,rfl⟩
 | true=>
 have eqc:tableChoose t reserve held = (chooseFrom t held 16 1 reserve,freeOf held 1 t.tail):=by unfold tableChoose;rw[hok];rfl
 have T:=tableOk_iff.1 hok
 refine jiff ?_
 refine jcutq (λvs R' D'=>R' = R∧∃v1 A1 v2 A2,SO (chooseFrom t held 16 1 reserve) v1 A1∧SO (freeOf held 1 t.tail) v2 A2∧D' = A1 ++ (A2 ++ (D ++ F))∧vs = [v1,v2]) (λK hK=>?_) ?_
 rotate_left
 ·rintro e R1 D1 ⟨hR,v1,A1,v2,A2,so1,so2,hD,he⟩
  subst hR
  rw[hD];clear hD
  simp only[List.map,lc,ln,lj,z_t] at he
  simp only[he]
  refine jperm (D':=(A1 ++ A2) ++ (D ++ F)) (by rw[List.append_assoc]) ?_
  refine mk_ret (A1 ++ A2) ?_
  rw[eqc]
  exact⟨v1,v2,A1,A2,so1,so2,rfl,rfl⟩
 refine jcutq (λvs R' D'=>R' = R∧∃v1 A1 v2 A2,SO (chooseFrom t held 16 1 reserve) v1 A1∧SO (freeOf held 1 t.tail) v2 A2∧D' = A1 ++ (A2 ++ (D ++ F))∧vs = [v1,v2]) (λK2 hK2=>?_) ?_
 rotate_left
 ·rintro e R1 D1 ⟨hR,v1,A1,v2,A2,so1,so2,hD,he⟩
  subst hR
  rw[hD];clear hD
  simp only[List.map,lc,ln,lj,z_t] at he
  simp only[he]
  exact hK _ _ _ ⟨rfl,v1,A1,v2,A2,so1,so2,rfl,rfl⟩
 refine jlp (λm vs R' D'=>R' = R∧∃(n:Nat) (left:Int) (fr fe:List Int) (v1 v2:Value) (A1 A2:Chs),n≤17∧inR left∧OuC t held reserve n left fr fe∧SO fr v1 A1∧SO fe v2 A2∧D' = A1 ++ (A2 ++ (D ++ F))∧vs = [.slice (some ⟨b,0,none⟩) t.length cap,hv,v1,v2,I left,I n]∧m = 17 - n)
  (n:=17) ⟨rfl,0,reserve,[],[],.slice none 0 0,.slice none 0 0,[],[],by omega,hr,⟨λ_=>⟨rfl,rfl,rfl⟩,λh=>by omega⟩,.inl ⟨rfl,rfl,rfl⟩,.inl ⟨rfl,rfl,rfl⟩,rfl,rfl,rfl⟩ ?_
 rintro m e R1 D1 K3 ⟨hR,n,left,fr,fe,v1,v2,A1,A2,hn,hleft,ou,so1,so2,hD,he,hm⟩ hK3
 subst hR
 rw[hD];clear hD
 simp only[List.map,lc,ln,lj,z_t] at he
 simp only[he]
 refine jle (jif (λhc=>?_) (λhc=>?_))
 rotate_left
 ·have hc:n = 17:=by have:=z_g hc;omega
  subst hc
  obtain⟨o1,o2⟩:=ou.2 (by omega)
  have o2:fr ++ [] = chooseFrom t held 16 1 reserve:=o2
  rw[List.append_nil] at o2
  exact hK2 _ _ _ ⟨rfl,v1,A1,v2,A2,o2▸so1,o1▸so2,rfl,rfl⟩
 have hc:n≤16:=by have:=z_f hc;omega
 refine jcutq (λvs R' D'=>R' = R1∧∃(left:Int) (fr fe:List Int) (v1 v2:Value) (A1 A2:Chs),inR left∧OuC t held reserve (n + 1) left fr fe∧SO fr v1 A1∧SO fe v2 A2∧D' = A1 ++ (A2 ++ (D ++ F))∧vs = [.slice (some ⟨b,0,none⟩) t.length cap,hv,v1,v2,I left,I n]) (λK4 hK4=>?_) ?_
 rotate_left
 ·rintro e R2 D2 ⟨hR,left,fr,fe,v1,v2,A1,A2,hleft,ou,so1,so2,hD,he⟩
  subst hR
  rw[hD];clear hD
  simp only[List.map,lc,ln,lj,z_t] at he
  simp only[he]
  refine jadd ⟨by omega,by omega⟩ ?_
  exact hK3 (17 - (n + 1)) _ _ _ (by omega) ⟨rfl,n + 1,left,fr,fe,v1,v2,A1,A2,by omega,hleft,ou,so1,so2,rfl,rfl,rfl⟩
 refine jcutq (λvs R' D'=>R' = R1∧∃(left:Int) (fr fe:List Int) (v1 v2:Value) (A1 A2:Chs),inR left∧OuC t held reserve (n + 1) left fr fe∧SO fr v1 A1∧SO fe v2 A2∧D' = A1 ++ (A2 ++ (D ++ F))∧vs = [.slice (some ⟨b,0,none⟩) t.length cap,hv,v1,v2,I left,I n]) (λK5 hK5=>?_) ?_
 rotate_left
 ·rintro e R2 D2 ⟨hR,left,fr,fe,v1,v2,A1,A2,hleft,ou,so1,so2,hD,he⟩
  subst hR
  rw[hD];clear hD
  simp only[List.map,lc,ln,lj,z_t] at he
  simp only[he]
  exact hK4 _ _ _ ⟨rfl,left,fr,fe,v1,v2,A1,A2,hleft,ou,so1,so2,rfl,rfl⟩
 refine jcutq (λvs R' D'=>R' = R1∧∃(left:Int) (fr fe:List Int) (v1 v2:Value) (A1 A2:Chs),inR left∧OuC t held reserve (n + 1) left fr fe∧SO fr v1 A1∧SO fe v2 A2∧D' = A1 ++ (A2 ++ (D ++ F))∧vs = [.slice (some ⟨b,0,none⟩) t.length cap,hv,v1,v2,I left,I n]) (λK6 hK6=>?_) ?_
 rotate_left
 ·rintro e R2 D2 ⟨hR,left,fr,fe,v1,v2,A1,A2,hleft,ou,so1,so2,hD,he⟩
  subst hR
  rw[hD];clear hD
  simp only[List.map,lc,ln,lj,z_t] at he
  simp only[he]
  exact hK5 _ _ _ ⟨rfl,left,fr,fe,v1,v2,A1,A2,hleft,ou,so1,so2,rfl,rfl⟩
 refine jlp (λm vs R' D'=>R' = R1∧∃(i:Nat) (left:Int) (fr fe:List Int) (v1 v2:Value) (A1 A2:Chs),1≤i∧i≤t.length + 1∧inR left∧InC t held reserve n i left fr fe∧SO fr v1 A1∧SO fe v2 A2∧D' = A1 ++ (A2 ++ (D ++ F))∧vs = [.slice (some ⟨b,0,none⟩) t.length cap,hv,v1,v2,I left,I n,I i]∧m = t.length + 1 - i)
  (n:=t.length) ⟨rfl,1,left,fr,fe,v1,v2,A1,A2,by omega,by omega,hleft,ou.inner hc,so1,so2,rfl,rfl,by omega⟩ ?_
 clear ou so1 so2 hleft
 rintro m e R2 D2 K7 ⟨hR,i,left,fr,fe,v1,v2,A1,A2,hi1,hi2,hleft,ic,so1,so2,hD,he,hm⟩ hK7
 subst hR
 rw[hD];clear hD
 simp only[List.map,lc,ln,lj,z_t] at he
 simp only[he]
 refine jln (jlt (jif (λhd=>?_) (λhd=>?_)))
 rotate_left
 ·have hd:=z_g hd
  exact hK6 _ _ _ ⟨rfl,left,fr,fe,v1,v2,A1,A2,hleft,ic.outer (by omega),so1,so2,rfl,rfl⟩
 have hd:i < t.length:=by have:=z_f hd;omega
 have n1:=T.n1
 obtain⟨s1,s2,s3,s4⟩:=ic.step hd
 obtain⟨len1,len2⟩:=ic.len
 refine jcutq (λvs R' D'=>R' = R2∧∃(left:Int) (fr fe:List Int) (v1 v2:Value) (A1 A2:Chs),inR left∧InC t held reserve n (i + 1) left fr fe∧SO fr v1 A1∧SO fe v2 A2∧D' = A1 ++ (A2 ++ (D ++ F))∧vs = [.slice (some ⟨b,0,none⟩) t.length cap,hv,v1,v2,I left,I n,I i]) (λK8 hK8=>?_) ?_
 rotate_left
 ·rintro e R3 D3 ⟨hR,left,fr,fe,v1,v2,A1,A2,hleft,ou,so1,so2,hD,he⟩
  subst hR
  rw[hD];clear hD
  simp only[List.map,lc,ln,lj,z_t] at he
  simp only[he]
  refine jadd ⟨by omega,by omega⟩ ?_
  exact hK7 (t.length + 1 - (i + 1)) _ _ _ (by omega) ⟨rfl,i + 1,left,fr,fe,v1,v2,A1,A2,by omega,by omega,hleft,ou,so1,so2,rfl,rfl,rfl⟩
 refine jcutq (λvs R' D'=>R' = R2∧∃(left:Int) (fr fe:List Int) (v1 v2:Value) (A1 A2:Chs),inR left∧InC t held reserve n (i + 1) left fr fe∧SO fr v1 A1∧SO fe v2 A2∧D' = A1 ++ (A2 ++ (D ++ F))∧vs = [.slice (some ⟨b,0,none⟩) t.length cap,hv,v1,v2,I left,I n,I i]) (λK9 hK9=>?_) ?_
 rotate_left
 ·rintro e R3 D3 ⟨hR,left,fr,fe,v1,v2,A1,A2,hleft,ou,so1,so2,hD,he⟩
  subst hR
  rw[hD];clear hD
  simp only[List.map,lc,ln,lj,z_t] at he
  simp only[he]
  exact hK8 _ _ _ ⟨rfl,left,fr,fe,v1,v2,A1,A2,hleft,ou,so1,so2,rfl,rfl⟩
 have RR:=T.row i (by omega) (by omega)
 have t0:=RR.t0
 have t1:=RR.t1
 rw[rv_at hd] at t0 t1
 have hbase:=base_eq (r:=(i:Int)) (by omega) (by omega)
 refine jian hd (jlrow hd (ja λb2=>?_))
 refine js (cs':=eRg (t[i])) rfl rfl (by simp) rfl ?_
 refine jcutq (λvs R' D'=>R' = R2∧D' = A1 ++ (A2 ++ (D ++ F))∧vs = [.slice (some ⟨b,0,none⟩) t.length cap,hv,v1,v2,I left,I n,I i,.bool (!chooseRow held n i t[i])]) (λK10 hK10=>?_) ?_
 rotate_left
 ·rintro e R3 D3 ⟨hR,hD,he⟩
  subst hR
  rw[hD];clear hD
  simp only[List.map,lc,ln,lj,z_t] at he
  simp only[he]
  cases hch:chooseRow held n i t[i] with
  | false=>exact jift (hK9 _ _ _ ⟨rfl,left,fr,fe,v1,v2,A1,A2,hleft,s1 hch,so1,so2,rfl,rfl⟩)
  | true=>
  refine jiff (jeq (jif (λh0=>?_) (λh0=>?_)))
  ·have h0:n = 0:=by have:=eq_of_beq h0;omega
   refine jbs (cs:=[I i]) rfl rfl λb1=>?_
   refine jperm (perm_in _) ?_
   have hx:Reads R3 (A2 ++ ((b1,C 3 [I i]) :: (A1 ++ (D ++ F)))) (some ⟨b1,0,none⟩) (1 * 1) ([(i:Int)].map I):=Reads.held (t:=T_int) (cs:=[I i]) (o:=0) (n:=1 * 1) (z_n 1)
   refine jas so2 rfl (by simp only[List.length_singleton];omega) hx λv' A' so'=>?_
   refine jpart A' (G:=A1 ++ (D ++ F)) (jperm perm_sw ?_)
   exact hK9 _ _ _ ⟨rfl,left,fr,fe ++ [(i:Int)],v1,v',A1,A',hleft,s2 hch h0,so1,so',rfl,rfl⟩
  ·have h0:1≤n:=by have:=ne_of_beq_false h0;omega
   refine jle (jif (λh2=>?_) (λh2=>?_))
   ·have h2:=z_f h2
    refine jbs (cs:=[I i]) rfl rfl λb1=>?_
    refine jperm List.perm_middle.symm ?_
    have hx:Reads R3 (A1 ++ ((b1,C 3 [I i]) :: (A2 ++ (D ++ F)))) (some ⟨b1,0,none⟩) (1 * 1) ([(i:Int)].map I):=Reads.held (t:=T_int) (cs:=[I i]) (o:=0) (n:=1 * 1) (z_n 1)
    refine jas so1 rfl (by simp only[List.length_singleton];omega) hx λv' A' so'=>?_
    have hleft' : inR (left - n):=by have:=hleft.1;have:=hleft.2;constructor<;>omega
    refine jsub hleft' (jpart A' (G:=A2 ++ (D ++ F)) ?_)
    exact hK9 _ _ _ ⟨rfl,left - n,fr ++ [(i:Int)],fe,v',v2,A',A2,hleft',s3 hch h0 h2,so',so2,rfl,rfl⟩
   ·have h2:=z_g h2
    exact hK9 _ _ _ ⟨rfl,left,fr,fe,v1,v2,A1,A2,hleft,s4 h0 h2,so1,so2,rfl,rfl⟩
 refine jor [.slice (some ⟨b,0,none⟩) t.length cap,hv,v1,v2,I left,I n,I i,.pointer (some ⟨b2,0,none⟩)] ((t[i].kind != 3) || (t[i].top != t[i].tams)) (λK' hK'=>?_) (λe c u ho he=>?_)
 ·refine jl (v:=I t[i].kind) rfl (jne (jgtf (λh1=>?_) (λh1=>?_)))
  ·refine jl (v:=I t[i].top) rfl (jl (v:=I t[i].tams) rfl (jne (hK' _ _ _ (h1▸or2_f) (by rw[h1,Bool.false_or]))))
  ·exact hK' _ _ _ (h1▸or2_t) (by rw[h1,Bool.true_or])
 simp only[List.map,lc,ln,lj,z_t] at he
 simp only[he]
 refine jor [.slice (some ⟨b,0,none⟩) t.length cap,hv,v1,v2,I left,I n,I i,.pointer (some ⟨b2,0,none⟩)] ((t[i].kind != 3) || (t[i].top != t[i].tams) || (t[i].live != n)) (λK' hK'=>?_) (λe c u ho he=>?_)
 ·rw[ho]
  refine jgtf (λh1=>?_) (λh1=>?_)
  ·refine jl (v:=I t[i].live) rfl (jne (hK' _ _ _ (h1▸or2_f) (by rw[h1,Bool.false_or])))
  ·exact hK' _ _ _ (h1▸or2_t) (by rw[h1,Bool.true_or])
 simp only[List.map,lc,ln,lj,z_t] at he
 simp only[he]
 generalize hf3:((t[i].kind != 3) || (t[i].top != t[i].tams) || (t[i].live != n)) = f3 at ho
 have ech:chooseRow held n i t[i] = (!f3 && decide (t[i].live < t[i].top - regionBase i) && !(held.contains (i:Int))):=by
  unfold chooseRow
  rw[← hf3]
  simp only[bne,Bool.not_or,Bool.not_not,Bool.and_assoc]
 cases f3 with
 | true=>
  rw[Bool.not_true,Bool.false_and,Bool.false_and] at ech
  refine jcut ?_
  rw[ho]
  refine jtf (jend λe he=>?_)
  simp only[List.map,lc,ln,lj,z_t] at he
  simp only[he]
  refine jtf (jcut (jtf (jend λe he=>?_)))
  simp only[List.map,lc,ln,lj,z_t] at he
  simp only[he]
  refine jcut (jpkt (jtf (jend λe he=>?_)))
  simp only[List.map,lc,ln,lj,z_t] at he
  simp only[he]
  refine jand (jtf jev) (jand (jtf jev) (jtf (jpkt ?_)))
  refine jdrop ?_
  exact hK10 _ _ _ ⟨rfl,rfl,by rw[ech];rfl⟩
 | false=>
  rw[Bool.not_false,Bool.true_and] at ech
  refine jcut ?_
  rw[ho]
  refine jff (jl (v:=I t[i].live) rfl (jl (v:=I t[i].top) rfl (jend λe he=>?_)))
  simp only[List.map,lc,ln,lj,z_t] at he
  simp only[he]
  refine jff (jp (p_RegionBase i) (jcut (jff (jsub ⟨by omega,by omega⟩ (jge (jend λe he=>?_))))))
  simp only[List.map,lc,ln,lj,z_t] at he
  simp only[he]
  refine jcut (jpkf ?_)
  by_cases c4:t[i].live < t[i].top - regionBase i
  ·rw[decide_eq_false (show ¬ t[i].live≥t[i].top - regionBase i by omega)]
   rw[decide_eq_true c4,Bool.true_and] at ech
   refine jff (jend λe he=>?_)
   simp only[List.map,lc,ln,lj,z_t] at he
   simp only[he]
   refine jand (jff (jl (v:=I t[i].live) rfl jev)) (jand (jff (jl (v:=I t[i].top) rfl jev)) (jff ?_))
   refine jro (r_l4Has i hi hhl) (jpkf ?_)
   refine jdrop ?_
   exact hK10 _ _ _ ⟨rfl,rfl,by rw[ech,Bool.not_not]⟩
  ·rw[decide_eq_true (show t[i].live≥t[i].top - regionBase i by omega)]
   rw[decide_eq_false c4,Bool.false_and] at ech
   refine jtf (jend λe he=>?_)
   simp only[List.map,lc,ln,lj,z_t] at he
   simp only[he]
   refine jand (jff (jl (v:=I t[i].live) rfl jev)) (jand (jff (jl (v:=I t[i].top) rfl jev)) (jtf (jpkt ?_)))
   refine jdrop ?_
   exact hK10 _ _ _ ⟨rfl,rfl,by rw[ech];rfl⟩
end table
end Go.Lf
end
section
namespace Go.Lf
open Go Sm
theorem jfz2 {R:RM} {D:Chs} {v:Value} {l:List Int} {i:Int} {k:Value→M} (h:Ints R v l) (h0:0≤i) (h1:i < l.length) (H:∀q:Value,(∀(D' : Chs) (k' : Value→M),J R D' (k' (I (l[i.toNat]'(by omega))))→J R D' (L1 q k'))→J R D (k q)):J R D (IA 1 v (I i) k):=by
 rcases h with ⟨_,h2,_⟩ | ⟨b,o,cap,t,cs,rfl,h2,h3,h4,h5⟩
 ·omega
 ·refine jia h0 h1 (H _ λD' k' H'=>jlr h2 ?_ H')
  have:=congrArg (λl=>l[i.toNat]?) h4
  simp only[List.getElem?_take,List.getElem?_drop,List.getElem?_map] at this
  rw[if_pos (by omega),List.getElem?_eq_getElem (by omega:i.toNat < l.length)] at this
  rw[Nat.mul_one,this];rfl
theorem look_keeps {S S' : Sim} (h:S.look = some S'):S'.c = S.c∧S'.pins = S.pins:=by
 unfold Sim.look at h
 split at h
 ·cases h
 obtain⟨_,_,h⟩:=bind_some h
 obtain⟨_,_,h⟩:=bind_some h
 obtain⟨⟨v,S1⟩,hr,h⟩:=bind_some h
 have e:=read_is hr
 subst e
 obtain⟨_,_,h⟩:=bind_some h
 simp only[Option.some.injEq] at h
 subst h
 exact⟨rfl,rfl⟩
theorem mark_keeps {S S' : Sim} (h:S.mark = some S'):S'.c = S.c∧S'.pins = S.pins:=by
 unfold Sim.mark at h
 split at h
 ·cases h
 dsimp only at h
 split at h
 ·split at h
  ·simp only[Option.some.injEq] at h;subst h;exact⟨rfl,rfl⟩
  ·simp only[Option.some.injEq] at h;subst h;exact⟨rfl,rfl⟩
 obtain⟨a,_,h⟩:=bind_some h
 obtain⟨row,_,h⟩:=bind_some h
 obtain⟨b,_,h⟩:=bind_some h
 split at h
 ·obtain⟨_,_,h⟩:=bind_some h
  obtain⟨⟨v,S1⟩,hr,h⟩:=bind_some h
  have e:=read_is hr
  subst e
  obtain⟨_,_,h⟩:=bind_some h
  simp only[Option.some.injEq] at h
  subst h
  exact⟨rfl,rfl⟩
 ·simp only[Option.some.injEq] at h;subst h;exact⟨rfl,rfl⟩
def Pr (S:Sim):Prop:=inR S.c.reserve∧∀a∈S.pins,regionOf a≤9223372036854775807
theorem choose_drop {t:List Rg} {reserve:Int} {held:List Int} {i:Nat} (h:i < (tableChoose t reserve held).2.length) :
  ∃t',tableDrop (((tableChoose t reserve held).2.take i).foldl (λt r=>(tableDrop t r).getD []) t) ((tableChoose t reserve held).2[i]) = some t'∧t'.length = t.length∧(((tableChoose t reserve held).2.take i).foldl (λt r=>(tableDrop t r).getD []) t).length = t.length:=by
 cases hok:tableOk t with
 | false=>
  have:tableChoose t reserve held = ([],[]):=by unfold tableChoose;rw[hok];rfl
  rw[this] at h;exact absurd h (by simp)
 | true=>
  have T:=tableOk_iff.1 hok
  obtain⟨c1,c2,_⟩:=choose_spec (reserve:=reserve) (held:=held) T
  generalize (tableChoose t reserve held).2 = q at c1 c2 h ⊢
  obtain⟨f1,f2,f3⟩:=fold_spec (q.take i) t T (c1.sublist (List.take_sublist _ _)) λr hr=>by
   obtain⟨a1,a2,a3,_⟩:=c2 r (List.mem_of_mem_take hr)
   exact⟨a1,a2,by omega⟩
  obtain⟨a1,a2,a3,_⟩:=c2 q[i] (List.getElem_mem h)
  have hni:q[i] ∉ q.take i:=by
   intro hm
   obtain⟨j,hj,e⟩:=List.getElem_of_mem hm
   rw[List.length_take] at hj
   rw[List.getElem_take] at e
   have:=(List.getElem_inj c1).1 e
   omega
  have e:=f3 q[i] a1 a2
  rw[if_neg hni] at e
  obtain⟨d1,d2⟩:=drop_spec f1 a1 (by rw[f2];exact a2) (by rw[e];omega)
  exact⟨_,d1,by rw[seti_len,f2],f2⟩
theorem t_choose {p n:Nat} {S S' : Sim} {g:Img} {R:RM} (hok:Ok R S g) (hp:Pr S) (hS:S.choose n = some S') :
  Fn P F_Sim_choose [.pointer (some ⟨p,0,none⟩)] R (simD p S g) (SimQ p S' λ_=>True):=by
 refine s_Sim_choose λF=>?_
 unfold c_Sim_choose
 unfold Sim.choose at hS
 obtain⟨S0,hS0,hS⟩:=bind_some hS
 refine jcutq (λvs R' D'=>R.le R'∧∃g0,Ok R' S0 g0∧S0.sz = true∧Pr S0∧D' = simD p S0 g0 ++ F∧vs = [.pointer (some ⟨p,0,none⟩)]) (λK hK=>?_) ?_
 ·refine jcutq (λvs R' D'=>R.le R'∧∃g0,Ok R' S0 g0∧S0.sz = true∧Pr S0∧D' = simD p S0 g0 ++ F∧vs = [.pointer (some ⟨p,0,none⟩)]) (λK2 hK2=>?_) ?_
  rotate_left
  ·rintro e R1 D1 ⟨hR1,g0,ok0,hz,hp0,hD,he⟩
   rw[hD];clear hD
   simp only[List.map,lc,ln,lj,z_t] at he
   simp only[he]
   exact hK _ _ _ ⟨hR1,g0,ok0,hz,hp0,rfl,rfl⟩
  refine jlp (λm vs R' D'=>R.le R'∧∃S1 g1,Ok R' S1 g1∧Pr S1∧Sim.drain m S1 = some S0∧D' = simD p S1 g1 ++ F∧vs = [.pointer (some ⟨p,0,none⟩)])
   (n:=n) ⟨RM.le.refl R,S,g,hok,hp,hS0,rfl,rfl⟩ ?_
  rintro m e R1 D1 K3 ⟨hR1,S1,g1,ok1,hp1,hdr,hD,he⟩ hK3
  rw[hD];clear hD
  simp only[List.map,lc,ln,lj,z_t] at he
  simp only[he]
  cases m with
  | zero=>exact absurd hdr (by simp[Sim.drain])
  | succ m=>
  unfold Sim.drain at hdr
  split at hdr
  ·cases hdr
  rename_i hz
  have hz:S1.sz = true:=by simpa using hz
  refine jor [.pointer (some ⟨p,0,none⟩)] ((decide ((S1.col.stack.length:Int) > 0)) || (decide ((S1.old.length:Int) > 0))) (λK' hK'=>?_) (λe c u ho he=>?_)
  ·refine jl (v:=g1.stack) rfl (jlnz ok1.stack (jgr (jgtf (λh1=>?_) (λh1=>?_))))
   ·refine jl (v:=g1.old) rfl (jlnz ok1.old (jgr (hK' _ _ _ (h1▸or2_f) (by rw[h1,Bool.false_or]))))
   ·exact hK' _ _ _ (h1▸or2_t) (by rw[h1,Bool.true_or])
  simp only[List.map,lc,ln,lj,z_t] at he
  simp only[he]
  refine jor [.pointer (some ⟨p,0,none⟩)] ((decide ((S1.col.stack.length:Int) > 0) || decide ((S1.old.length:Int) > 0)) || (S1.col.pc == 2)) (λK' hK'=>?_) (λe c u ho he=>?_)
  ·rw[ho]
   refine jgtf (λh1=>?_) (λh1=>?_)
   ·refine jl (v:=I S1.col.pc) rfl (jeq (hK' _ _ _ (h1▸or2_f) (by rw[h1,Bool.false_or])))
   ·exact hK' _ _ _ (h1▸or2_t) (by rw[h1,Bool.true_or])
  simp only[List.map,lc,ln,lj,z_t] at he
  simp only[he]
  rw[ho]
  refine jif (λhc=>?_) (λhc=>?_)
  ·simp only[Bool.or_eq_true,z_d,beq_iff_eq] at hc
   rw[if_pos (by omega)] at hdr
   have hd2:∃S2,(if S1.col.pc = 2 then S1.look else S1.mark) = some S2∧Sim.drain m S2 = some S0:=by
    dsimp only at hdr
    by_cases c2:S1.col.pc = 2
    ·rw[if_pos c2] at hdr ⊢;exact bind_some hdr
    ·rw[if_neg c2] at hdr ⊢;exact bind_some hdr
   obtain⟨S2,h2,hdr⟩:=hd2
   refine jcutq (λvs R' D'=>R.le R'∧∃g2,Ok R' S2 g2∧Pr S2∧D' = simD p S2 g2 ++ F∧vs = [.pointer (some ⟨p,0,none⟩)]) (λK4 hK4=>?_) ?_
   rotate_left
   ·rintro e R2 D2 ⟨hR2,g2,ok2,hp2,hD,he⟩
    rw[hD];clear hD
    simp only[List.map,lc,ln,lj,z_t] at he
    simp only[he]
    exact hK3 m _ _ _ (by omega) ⟨hR2,S2,g2,ok2,hp2,hdr,rfl,rfl⟩
   refine jl (v:=I S1.col.pc) rfl (jeq (jif (λh3=>?_) (λh3=>?_)))
   ·rw[if_pos (eq_of_beq h3)] at h2
    obtain⟨k1,k2⟩:=look_keeps h2
    refine jcS (p:=p) (by exact t_look ok1 h2) λ_ R2 g2 hR2 _ ok2=>?_
    exact hK4 _ _ _ ⟨hR1.trans hR2,g2,ok2,by unfold Pr;rw[k1,k2];exact hp1,rfl,rfl⟩
   ·rw[if_neg (ne_of_beq_false h3)] at h2
    obtain⟨k1,k2⟩:=mark_keeps h2
    refine jcS (p:=p) (by exact t_mark ok1 h2) λ_ R2 g2 hR2 _ ok2=>?_
    exact hK4 _ _ _ ⟨hR1.trans hR2,g2,ok2,by unfold Pr;rw[k1,k2];exact hp1,rfl,rfl⟩
  ·simp only[Bool.or_eq_false_iff,decide_eq_false_iff_not,beq_eq_false_iff_ne] at hc
   rw[if_neg (by omega)] at hdr
   simp only[Option.some.injEq] at hdr
   subst hdr
   exact hK2 _ _ _ ⟨hR1,g1,ok1,hz,hp1,rfl,rfl⟩
 rintro e R1 D1 ⟨hR1,g0,ok0,hz,hp0,hD,he⟩
 rw[hD];clear hD
 simp only[List.map,lc,ln,lj,z_t] at he
 simp only[he]
 clear hp hS0 hok
 have hsz:=sz_ev hz
 have htl:=ok0.tl
 refine jss (p:=p) { S0 with stop:=false } g0 rfl rfl (by decide) (by rfl) (by rfl) ?_
 dsimp only at hS
 obtain⟨t4,ht4,hS⟩:=bind_some hS
 refine jcutq (λvs R' D'=>R' = R1∧∃v A,SO (S0.pins.map regionOf) v A∧D' = A ++ (simD p { S0 with stop:=false } g0 ++ F)∧vs = [.pointer (some ⟨p,0,none⟩),v]) (λK hK=>?_) ?_
 ·refine jcutq (λvs R' D'=>R' = R1∧∃v A,SO (S0.pins.map regionOf) v A∧D' = A ++ (simD p { S0 with stop:=false } g0 ++ F)∧vs = [.pointer (some ⟨p,0,none⟩),v]) (λK2 hK2=>?_) ?_
  rotate_left
  ·rintro e R2 D2 ⟨hR,v,A,so,hD,he⟩
   subst hR
   rw[hD];clear hD
   simp only[List.map,lc,ln,lj,z_t] at he
   simp only[he]
   exact hK _ _ _ ⟨rfl,v,A,so,rfl,rfl⟩
  refine jlp (λm vs R' D'=>R' = R1∧∃(i:Nat) (v:Value) (A:Chs),i≤S0.pins.length∧SO ((S0.pins.take i).map regionOf) v A∧D' = A ++ (simD p { S0 with stop:=false } g0 ++ F)∧vs = [.pointer (some ⟨p,0,none⟩),v,I i]∧m = S0.pins.length - i)
   (n:=S0.pins.length) ⟨rfl,0,.slice none 0 0,[],by omega,.inl ⟨by simp,rfl,rfl⟩,rfl,rfl,by omega⟩ ?_
  rintro m e R2 D2 K3 ⟨hR,i,v,A,hi,so,hD,he,hm⟩ hK3
  subst hR
  rw[hD];clear hD
  simp only[List.map,lc,ln,lj,z_t] at he
  simp only[he]
  refine jl (v:=g0.pins) rfl (jlnz ok0.pins (jlt (jif (λhc=>?_) (λhc=>?_))))
  rotate_left
  ·have hc:=z_g hc
   rw[List.take_of_length_le (by omega)] at so
   exact hK2 _ _ _ ⟨rfl,v,A,so,rfl,rfl⟩
  have hc:i < S0.pins.length:=by have:=z_f hc;omega
  refine jl (v:=g0.pins) rfl (jfz1 ok0.pins (by omega) (by omega) ?_)
  have e0:S0.pins[((i:Nat):Int).toNat]'(by omega) = S0.pins[i]:=by simp
  rw[e0]
  refine jp (p_RegionOf _ (hp0.2 _ (List.getElem_mem hc))) ?_
  refine jbs (cs:=[I (regionOf S0.pins[i])]) rfl rfl λb1=>?_
  refine jperm List.perm_middle.symm ?_
  have hx:Reads R2 (A ++ ((b1,C 3 [I (regionOf S0.pins[i])]) :: (simD p { S0 with stop:=false } g0 ++ F))) (some ⟨b1,0,none⟩) (1 * 1) ([regionOf S0.pins[i]].map I):=Reads.held (t:=T_int) (cs:=[I (regionOf S0.pins[i])]) (o:=0) (n:=1 * 1) (z_n 1)
  obtain⟨sa,sn,sc,rfl⟩:=so.sl
  have hpl:=hsz.2.2.2.1
  refine jas so rfl (by rw[List.length_map,List.length_take,List.length_singleton];omega) hx λv' A' so'=>?_
  refine jadd ⟨by omega,by omega⟩ ?_
  refine jpart A' (G:=simD p { S0 with stop:=false } g0 ++ F) ?_
  exact hK3 (S0.pins.length - (i + 1)) _ _ _ (by omega) ⟨rfl,i + 1,v',A',by omega,by rw[List.take_succ_eq_append_getElem hc,List.map_append];exact so',rfl,rfl,rfl⟩
 rintro e R2 D2 ⟨hR,v,A,so,hD,he⟩
 subst hR
 rw[hD];clear hD
 simp only[List.map,lc,ln,lj,z_t] at he
 simp only[he]
 refine jfso so λR2 hR2 hint=>?_
 have hR2':=hR1.trans hR2
 have ok1:Ok R2 { S0 with stop:=false } g0:={ ok0.le hR2 with }
 refine jl (v:=.slice (some ⟨g0.tb,0,none⟩) S0.table.length g0.tc) rfl (jl (v:=I S0.c.reserve) rfl ?_)
 have hpl:=hsz.2.2.2.1
 refine jmk (m_TableChoose S0.c.reserve hp0.1 (by omega) hint (by rw[List.length_map];omega)) ?_
 rintro _ _ ⟨v1,v2,A1,A2,so1,so2,rfl,rfl⟩
 refine jex rfl (jex rfl ?_)
 rw[List.append_assoc]
 refine jfso so1 λR3 hR3 hi1=>?_
 refine jfso so2 λR4 hR4 hi2=>?_
 have hi1:=hi1.le hR4
 have ok2:=(ok1.le hR3).le hR4
 have hR4':=(hR2'.trans hR3).trans hR4
 clear ok1 ok0 hint so so1 so2 hR3 hR4 hR2 hR2' hR1
 have cd:∀i (h:i < (tableChoose S0.table S0.c.reserve (S0.pins.map regionOf)).2.length),_:=λi h=>choose_drop h
 generalize hq:tableChoose S0.table S0.c.reserve (S0.pins.map regionOf) = q at ht4 hS hi1 hi2 cd ⊢
 obtain⟨q1,q2⟩:=q
 dsimp only at ht4 hS hi1 hi2 cd ⊢
 generalize htf:q2.foldl (λt r=>(tableDrop t r).getD []) S0.table = tf at ht4
 have hl2:q2.length < 1000000:=by
  have:=freeOf_len (S0.pins.map regionOf) S0.table.tail 1
  have e2:q2 = (tableChoose S0.table S0.c.reserve (S0.pins.map regionOf)).2:=by rw[hq]
  rw[List.length_tail] at this
  rw[e2];unfold tableChoose
  split
  ·dsimp only;omega
  ·simp
 have hl1:q1.length < 1000000:=by
  have:=chooseFrom_len S0.table (S0.pins.map regionOf) 16 1 S0.c.reserve
  have e2:q1 = (tableChoose S0.table S0.c.reserve (S0.pins.map regionOf)).1:=by rw[hq]
  rw[e2];unfold tableChoose
  split
  ·dsimp only;omega
  ·simp
 refine jcutq (λvs R' D'=>R' = R4∧∃g1,Ok R4 { S0 with stop:=false,table:=tf } g1∧D' = simD p { S0 with stop:=false,table:=tf } g1 ++ F∧vs = [.pointer (some ⟨p,0,none⟩),v1]) (λK hK=>?_) ?_
 ·refine jcutq (λvs R' D'=>R' = R4∧∃g1,Ok R4 { S0 with stop:=false,table:=tf } g1∧D' = simD p { S0 with stop:=false,table:=tf } g1 ++ F∧vs = [.pointer (some ⟨p,0,none⟩),v1]) (λK2 hK2=>?_) ?_
  rotate_left
  ·rintro e R5 D5 ⟨hR,g1,ok1,hD,he⟩
   subst hR
   rw[hD];clear hD
   simp only[List.map,lc,ln,lj,z_t] at he
   simp only[he]
   exact hK _ _ _ ⟨rfl,g1,ok1,rfl,rfl⟩
  refine jlp (λm vs R' D'=>R' = R4∧∃(i:Nat) (t1:List Rg) (g1:Img),i≤q2.length∧t1 = (q2.take i).foldl (λt r=>(tableDrop t r).getD []) S0.table∧Ok R4 { S0 with stop:=false,table:=t1 } g1∧D' = simD p { S0 with stop:=false,table:=t1 } g1 ++ F∧vs = [.pointer (some ⟨p,0,none⟩),v1,v2,I i]∧m = q2.length - i)
   (n:=q2.length) ⟨rfl,0,S0.table,g0,by omega,rfl,ok2,rfl,rfl,by omega⟩ ?_
  rintro m e R5 D5 K3 ⟨hR,i,t1,g1,hi,ht1,ok1,hD,he,hm⟩ hK3
  subst hR
  rw[hD];clear hD
  simp only[List.map,lc,ln,lj,z_t] at he
  simp only[he]
  refine jlnz hi2 (jlt (jif (λhc=>?_) (λhc=>?_)))
  rotate_left
  ·have hc:=z_g hc
   rw[List.take_of_length_le (by omega),htf] at ht1
   subst ht1
   exact hK2 _ _ _ ⟨rfl,g1,ok1,rfl,rfl⟩
  have hc:i < q2.length:=by have:=z_f hc;omega
  obtain⟨t',d1,d2,d3⟩:=cd i hc
  rw[← ht1] at d1 d3
  refine jl (v:=.slice (some ⟨g1.tb,0,none⟩) t1.length g1.tc) rfl (jfz1 hi2 (by omega) (by omega) ?_)
  have e0:q2[((i:Nat):Int).toNat]'(by omega) = q2[i]:=by simp
  rw[e0]
  refine jmk (m_TableDrop (t:=t1) (sp:=g1.tsp) _ (by omega)) ?_
  rw[d1]
  rintro _ _ ⟨sv,⟨b4,c4,sp4,hc4,rfl,rfl⟩,rfl⟩
  refine jex rfl (jex rfl ?_)
  refine jtab1 (p:=p) ?_
  refine jadd ⟨by omega,by omega⟩ ?_
  refine hK3 (q2.length - (i + 1)) _ _ _ (by omega) ⟨rfl,i + 1,t',{ g1 with tb:=b4,tc:=c4,tsp:=sp4 },by omega,?_,ok1.tab (by omega) _ _ _ hc4,rfl,rfl,rfl⟩
  rw[List.take_succ_eq_append_getElem hc,List.foldl_append,← ht1]
  simp only[List.foldl_cons,List.foldl_nil,d1,Option.getD_some]
 rintro e R5 D5 ⟨hR,g1,ok1,hD,he⟩
 subst hR
 rw[hD];clear hD
 simp only[List.map,lc,ln,lj,z_t] at he
 simp only[he]
 clear cd hi2 htf ok2
 refine jcutq (λvs R' D'=>R' = R5∧∃g1,Ok R5 { S0 with stop:=false,table:=t4 } g1∧D' = simD p { S0 with stop:=false,table:=t4 } g1 ++ F∧vs = [.pointer (some ⟨p,0,none⟩),v1]) (λK hK=>?_) ?_
 ·refine jcutq (λvs R' D'=>R' = R5∧∃g1,Ok R5 { S0 with stop:=false,table:=t4 } g1∧D' = simD p { S0 with stop:=false,table:=t4 } g1 ++ F∧vs = [.pointer (some ⟨p,0,none⟩),v1]) (λK2 hK2=>?_) ?_
  rotate_left
  ·rintro e R5 D5 ⟨hR,g1,ok1,hD,he⟩
   subst hR
   rw[hD];clear hD
   simp only[List.map,lc,ln,lj,z_t] at he
   simp only[he]
   exact hK _ _ _ ⟨rfl,g1,ok1,rfl,rfl⟩
  refine jlp (λm vs R' D'=>R' = R5∧∃(i:Nat) (t1:List Rg),i≤q1.length∧kind4 (q1.drop i) t1 = some t4∧Ok R5 { S0 with stop:=false,table:=t1 } g1∧D' = simD p { S0 with stop:=false,table:=t1 } g1 ++ F∧vs = [.pointer (some ⟨p,0,none⟩),v1,I i]∧m = q1.length - i)
   (n:=q1.length) ⟨rfl,0,tf,by omega,ht4,ok1,rfl,rfl,by omega⟩ ?_
  rintro m e R6 D6 K3 ⟨hR,i,t1,hi,hk4,ok1,hD,he,hm⟩ hK3
  subst hR
  rw[hD];clear hD
  simp only[List.map,lc,ln,lj,z_t] at he
  simp only[he]
  refine jlnz hi1 (jlt (jif (λhc=>?_) (λhc=>?_)))
  rotate_left
  ·have hc:=z_g hc
   rw[List.drop_eq_nil_of_le (by omega)] at hk4
   simp only[kind4,Option.some.injEq] at hk4
   subst hk4
   exact hK2 _ _ _ ⟨rfl,g1,ok1,rfl,rfl⟩
  have hc:i < q1.length:=by have:=z_f hc;omega
  rw[List.drop_eq_getElem_cons hc] at hk4
  unfold kind4 at hk4
  obtain⟨x,hx,hk4⟩:=bind_some hk4
  obtain⟨x0,x1,x2,x3⟩:=idx_some hx
  have e0:q1[((i:Nat):Int).toNat]'(by omega) = q1[i]:=by simp
  have htl1:=ok1.tl
  refine jl (v:=.slice (some ⟨g1.tb,0,none⟩) t1.length g1.tc) rfl (jfz2 hi1 (by omega) (by omega) λqq hqq=>hqq _ _ ?_)
  rw[e0] at hqq ⊢
  obtain⟨k,hk⟩:∃k:Nat,q1[i] = k:=⟨q1[i].toNat,by omega⟩
  rw[hk] at hqq hk4 ⊢
  have hkl:k < t1.length:=by omega
  have hxk:t1[k] = x:=by rw[← x3];simp only[hk,Int.toNat_natCast]
  refine jian hkl ?_
  refine jlr_ (p:=p) hkl ?_
  refine ja λb2=>?_
  refine jand (jl (v:=.slice (some ⟨g1.tb,0,none⟩) t1.length g1.tc) rfl jev) (jand (hqq _ _ jev) (jand (jlr_ (p:=p) hkl jev) ?_))
  have hxk' : ({ S0 with stop:=false,table:=t1 }:Sim).table[k] = x:=hxk
  rw[hxk']
  refine js (cs':=eRg x) rfl rfl (by simp) rfl ?_
  refine js (cs':=eRg { x with kind:=4 }) rfl rfl (by simp) rfl ?_
  refine jl (v:=.slice (some ⟨g1.tb,0,none⟩) t1.length g1.tc) rfl ?_
  refine jfz1 hi1 (by omega) (by omega) ?_
  rw[e0,hk]
  refine jla (l:=eRg { x with kind:=4 }) (by simp) rfl ?_
  refine jian hkl ?_
  refine jsr_ (p:=p) (x:={ x with kind:=4 }) { S0 with stop:=false,table:=t1.set k { x with kind:=4 } } hkl (by rfl) ?_
  refine jadd ⟨by omega,by omega⟩ ?_
  refine jpart (simD p { S0 with stop:=false,table:=t1.set k { x with kind:=4 } } g1) (G:=F) ?_
  refine hK3 (q1.length - (i + 1)) _ _ _ (by omega) ⟨rfl,i + 1,t1.set k { x with kind:=4 },by omega,?_,{ ok1 with tl:=by simpa using htl1,tk:=by simpa using ok1.tk },rfl,rfl,rfl⟩
  rw[← hk4];simp[seti]
 rintro e R6 D6 ⟨hR,g1,ok1,hD,he⟩
 subst hR
 rw[hD];clear hD
 simp only[List.map,lc,ln,lj,z_t] at he
 simp only[he]
 refine jlnz hi1 (jeq (jif (λhc=>?_) (λhc=>?_)))
 ·rw[if_pos (by have:=eq_of_beq hc;omega)] at hS
  refine jcS (p:=p) (by exact t_idle ok1 hS) λ_ R7 g7 hR7 _ ok7=>?_
  exact jretS (hR4'.trans hR7) trivial rfl ok7
 ·rw[if_neg (by have:=ne_of_beq_false hc;omega)] at hS
  simp only[Option.some.injEq] at hS
  refine jss (p:=p) { S0 with stop:=false,table:=t4,phase:=2 } g1 rfl rfl (by decide) (by rfl) (by rfl) ?_
  refine jl (v:=.bool S0.col.asked) rfl (jl (v:=I S0.col.want) rfl ?_)
  refine jbd (cs:=eCol { col0 S0.col.asked S0.col.want with pc:=5,r:=1,p:=16 } (.slice none 0 0)) rfl rfl ?_
  refine jss (p:=p) { S0 with stop:=false,table:=t4,phase:=2,col:={ col0 S0.col.asked S0.col.want with pc:=5,r:=1,p:=16 } } { g1 with stack:=.slice none 0 0 } rfl rfl (by decide) (by rfl) (by rfl) ?_
  subst hS
  refine jretS hR4' trivial rfl ?_
  exact { ok1 with stack:=.inl ⟨rfl,rfl,rfl⟩ }
end Go.Lf
end
section
namespace Go.Lf
open Go Sm
theorem rootsF_get {S:Sim}:∀{l l' : List Int},S.rootsF l = some l'→l'.length = l.length∧∀k (h:k < l.length) (h' : k < l'.length),∃f,S.from_ l[k] = some f∧(if f then idx S.words l[k] else some l[k]) = some l'[k]
 | [],l',e=>by
  simp only[Sim.rootsF,Option.some.injEq] at e
  subst e
  exact⟨rfl,λk h=>absurd h (by simp)⟩
 | a :: r,l',e=>by
  unfold Sim.rootsF at e
  obtain⟨f,hf,e⟩:=bind_some e
  have e2:∃b,(if f then idx S.words a else some a) = some b∧∃r',S.rootsF r = some r'∧b :: r' = l':=by
   cases f with
   | true=>
    obtain⟨b,hb,e⟩:=bind_some e
    obtain⟨r',hr,e⟩:=bind_some e
    simp only[Option.some.injEq] at e
    exact⟨b,hb,r',hr,e⟩
   | false=>
    obtain⟨b,hb,e⟩:=bind_some e
    obtain⟨r',hr,e⟩:=bind_some e
    simp only[Option.some.injEq] at e
    exact⟨b,hb,r',hr,e⟩
  obtain⟨b,hb,r',hr,rfl⟩:=e2
  obtain⟨h1,h2⟩:=rootsF_get hr
  refine⟨by simp[h1],λk h h'=>?_⟩
  cases k with
  | zero=>exact⟨f,hf,hb⟩
  | succ k=>exact h2 k (by simpa using h) (by simpa using h')
theorem thsF_get {S:Sim}:∀{l l' : List Thr},S.thsF l = some l'→l'.length = l.length∧∀k (h:k < l.length) (h' : k < l'.length),∃r,S.rootsF l[k].roots = some r∧l'[k] = { l[k] with roots:=r }
 | [],l',e=>by
  simp only[Sim.thsF,Option.some.injEq] at e
  subst e
  exact⟨rfl,λk h=>absurd h (by simp)⟩
 | a :: r,l',e=>by
  unfold Sim.thsF at e
  obtain⟨r1,h1,e⟩:=bind_some e
  obtain⟨r',hr,e⟩:=bind_some e
  simp only[Option.some.injEq] at e
  subst e
  obtain⟨g1,g2⟩:=thsF_get hr
  refine⟨by simp[g1],λk h h'=>?_⟩
  cases k with
  | zero=>exact⟨r1,h1,rfl⟩
  | succ k=>exact g2 k (by simpa using h) (by simpa using h')
theorem jsi {R:RM} {b k:Nat} {l:List Int} {sp:List Value} {w:Int} {D D' : Chs} {m:M} (hk:k < l.length) [a:At D b (C T_int (l.map I ++ sp))] [u:Up D b (C T_int (l.map I ++ sp)) (C T_int ((l.set k w).map I ++ sp)) D'] (H:J R D' m):J R D (ST 1 (.pointer (some ⟨b,0 + k * 1,none⟩)) (I w) m):=by
 rw[Nat.zero_add,Nat.mul_one]
 refine js (cs:=l.map I ++ sp) (cs':=(l.set k w).map I ++ sp) rfl rfl (by simp;omega) ?_ H
 rw[show cl (I w) = [I w] from rfl,lay_one (by simp;omega),List.set_append_left _ _ (by simpa using hk),List.map_set]
theorem upto_set {α:Type} {l l' : List α} {k:Nat} (hl:l'.length = l.length) (hk:k < l.length):(l'.take k ++ l.drop k).set k (l'[k]'(by omega)) = l'.take (k + 1) ++ l.drop (k + 1):=by
 have e1:(l'.take k).length = k:=by simp;omega
 rw[List.set_append_right _ _ (by omega),e1,Nat.sub_self,List.drop_eq_getElem_cons hk,List.set_cons_zero,List.take_succ_eq_append_getElem (by omega),List.append_assoc,List.singleton_append]
theorem upto_get {α:Type} {l l' : List α} {k:Nat} (hl:l'.length = l.length) (hk:k < l.length) (h:k < (l'.take k ++ l.drop k).length):(l'.take k ++ l.drop k)[k] = l[k]:=by
 have e1:(l'.take k).length = k:=by simp;omega
 rw[List.getElem_append_right (by omega),List.getElem_drop]
 congr 1;omega
theorem upto_len {α:Type} {l l' : List α} {k:Nat} (hl:l'.length = l.length):(l'.take k ++ l.drop k).length = l.length:=by simp;omega
theorem t_finish {p:Nat} {S S' : Sim} {g:Img} {R:RM} (hok:Ok R S g) (hz:S.sz = true) (hT:TOk S.table) (hS:S.finish = some S') :
  Fn P F_Sim_finish [.pointer (some ⟨p,0,none⟩)] R (simD p S g) (SimQ p S' λ_=>True):=by
 refine s_Sim_finish λF=>?_
 unfold c_Sim_finish
 unfold Sim.finish at hS
 obtain⟨th,hth,hS⟩:=bind_some hS
 obtain⟨tl1,tl2⟩:=thsF_get hth
 have hsz:=sz_ev hz
 have hhl:=hok.hl
 have htl:=hok.tl
 refine jcutq (λvs R' D'=>R.le R'∧∃g1,Ok R' { S with th:=th } g1∧D' = simD p { S with th:=th } g1 ++ F∧vs = [.pointer (some ⟨p,0,none⟩)]) (λK hK=>?_) ?_
 ·refine jcutq (λvs R' D'=>R.le R'∧∃g1,Ok R' { S with th:=th } g1∧D' = simD p { S with th:=th } g1 ++ F∧vs = [.pointer (some ⟨p,0,none⟩)]) (λK2 hK2=>?_) ?_
  rotate_left
  ·rintro e R1 D1 ⟨hR,g1,ok1,hD,he⟩
   rw[hD];clear hD
   simp only[List.map,lc,ln,lj,z_t] at he
   simp only[he]
   exact hK _ _ _ ⟨hR,g1,ok1,rfl,rfl⟩
  refine jlp (λm vs R' D'=>R.le R'∧∃(i:Nat) (g1:Img),i≤S.th.length∧Ok R' { S with th:=th.take i ++ S.th.drop i } g1∧D' = simD p { S with th:=th.take i ++ S.th.drop i } g1 ++ F∧vs = [.pointer (some ⟨p,0,none⟩),I i]∧m = S.th.length - i)
   (n:=S.th.length) ⟨RM.le.refl R,0,g,by omega,by simpa using hok,by simp,rfl,by omega⟩ ?_
  rintro m e R1 D1 K3 ⟨hR,i,g1,hi,ok1,hD,he,hm⟩ hK3
  rw[hD];clear hD
  simp only[List.map,lc,ln,lj,z_t] at he
  simp only[he]
  refine jl (v:=.slice (some ⟨g1.hb,0,none⟩) (th.take i ++ S.th.drop i).length g1.hc) rfl (jln (jlt (jif (λhc=>?_) (λhc=>?_))))
  rotate_left
  ·have hc:i = S.th.length:=by have:=z_g hc;rw[upto_len tl1] at this;omega
   have e1:th.take i ++ S.th.drop i = th:=by rw[List.take_of_length_le (by omega),List.drop_eq_nil_of_le (by omega),List.append_nil]
   rw[e1] at ok1 ⊢
   exact hK2 _ _ _ ⟨hR,g1,ok1,rfl,rfl⟩
  have hc:i < S.th.length:=by have:=z_f hc;rw[upto_len tl1] at this;omega
  obtain⟨r',hr',et⟩:=tl2 i hc (by omega)
  obtain⟨rl1,rl2⟩:=rootsF_get hr'
  have hti:idx (th.take i ++ S.th.drop i) i = some (S.th[i]):=by
   unfold idx
   rw[if_pos (by omega),Int.toNat_natCast,List.getElem?_eq_getElem (by rw[upto_len tl1];exact hc),upto_get tl1 hc]
  have hri:=hsz.2.2.2.2 _ (List.getElem_mem hc)
  generalize hS1:({ S with th:=th.take i ++ S.th.drop i }:Sim) = S1 at ok1 ⊢
  have e1:S1.th = th.take i ++ S.th.drop i:=by rw[← hS1]
  have e2:S1.words = S.words:=by rw[← hS1]
  have e3:∀a,S1.from_ a = S.from_ a:=λa=>by rw[← hS1];rfl
  rw[← e1] at hti
  refine jopen (p:=p) ok1 hti rfl λb a cap hv=>?_
  refine jl (v:=.slice a (S.th[i]).roots.length cap) rfl ?_
  refine jc (A:=[]) (t_l5Ints hv hri) ?_
  rintro _ R2 _ hR2 ⟨b4,c4,sp4,hc4,hsp4,rfl,rfl⟩
  refine js (cs':=eThr (S.th[i]) (.slice (some ⟨b4,0,none⟩) (S.th[i]).roots.length c4)) rfl rfl (by simp[eThr]) rfl ?_
  refine jperm (D':=(b4,C T_int ((S.th[i]).roots.map I ++ sp4)) :: (b,C T_l8Thread (eThr (S.th[i]) (.slice (some ⟨b4,0,none⟩) (S.th[i]).roots.length c4))) :: (simD p S1 g1 ++ F)) (List.Perm.refl _) ?_
  refine jpart (simD p S1 g1) (G:=(b4,C T_int ((S.th[i]).roots.map I ++ sp4)) :: (b,C T_l8Thread (eThr (S.th[i]) (.slice (some ⟨b4,0,none⟩) (S.th[i]).roots.length c4))) :: F) ?_
  have ok2:=ok1.le hR2
  have hRR:=hR.trans hR2
  refine jcutq (λvs R' D'=>R.le R'∧∃g2,Ok R' S1 g2∧D' = simD p S1 g2 ++ (b4,C T_int (r'.map I ++ sp4)) :: (b,C T_l8Thread (eThr (S.th[i]) (.slice (some ⟨b4,0,none⟩) (S.th[i]).roots.length c4))) :: F∧vs = [.pointer (some ⟨p,0,none⟩),I i,.pointer (some ⟨b,0,none⟩)]) (λK4 hK4=>?_) ?_
  rotate_left
  ·rintro e R3 D3 ⟨hR3,g2,ok3,hD,he⟩
   rw[hD];clear hD
   simp only[List.map,lc,ln,lj,z_t] at he
   simp only[he]
   refine jperm List.perm_middle ?_
   refine jfreeze (b:=b4) λR4 hR4 hb4=>?_
   have hv2:=ints_of (l:=r') (c:=c4) hb4 (by omega)
   have ok4:=ok3.le hR4
   have ev:eThr (S.th[i]) (.slice (some ⟨b4,0,none⟩) (S.th[i]).roots.length c4) = eThr { S.th[i] with roots:=r' } (.slice (some ⟨b4,0,none⟩) r'.length c4):=by rw[rl1];rfl
   rw[ev]
   refine jput (p:=p) (i:=i) { S1 with th:=seti S1.th i { S.th[i] with roots:=r' } } (by exact ok4) (by omega) (by rw[e1,upto_len tl1];omega) (by exact hv2) (by rfl) λg5 ok5=>?_
   refine jadd ⟨by omega,by omega⟩ ?_
   have e5:({ S1 with th:=seti S1.th i { S.th[i] with roots:=r' } }:Sim) = { S with th:=th.take (i + 1) ++ S.th.drop (i + 1) }:=by
    rw[← hS1,← et]
    have:=upto_set tl1 hc
    simp only[seti,Int.toNat_natCast,this]
   rw[e5] at ok5 ⊢
   refine jpart (simD p { S with th:=th.take (i + 1) ++ S.th.drop (i + 1) } g5) (G:=F) ?_
   exact hK3 (S.th.length - (i + 1)) _ _ _ (by omega) ⟨hR3.trans hR4,i + 1,g5,by omega,ok5,rfl,rfl,rfl⟩
  refine jcutq (λvs R' D'=>R.le R'∧∃g2,Ok R' S1 g2∧D' = simD p S1 g2 ++ (b4,C T_int (r'.map I ++ sp4)) :: (b,C T_l8Thread (eThr (S.th[i]) (.slice (some ⟨b4,0,none⟩) (S.th[i]).roots.length c4))) :: F∧vs = [.pointer (some ⟨p,0,none⟩),I i,.pointer (some ⟨b,0,none⟩)]) (λK5 hK5=>?_) ?_
  rotate_left
  ·rintro e R3 D3 ⟨hR3,g2,ok3,hD,he⟩
   rw[hD];clear hD
   simp only[List.map,lc,ln,lj,z_t] at he
   simp only[he]
   exact hK4 _ _ _ ⟨hR3,g2,ok3,rfl,rfl⟩
  refine jlp (λm vs R' D'=>R.le R'∧∃(k:Nat) (g2:Img) (l:List Int),k≤(S.th[i]).roots.length∧l = r'.take k ++ (S.th[i]).roots.drop k∧Ok R' S1 g2∧D' = simD p S1 g2 ++ (b4,C T_int (l.map I ++ sp4)) :: (b,C T_l8Thread (eThr (S.th[i]) (.slice (some ⟨b4,0,none⟩) (S.th[i]).roots.length c4))) :: F∧vs = [.pointer (some ⟨p,0,none⟩),I i,.pointer (some ⟨b,0,none⟩),I k]∧m = (S.th[i]).roots.length - k)
   (n:=(S.th[i]).roots.length) ⟨hRR,0,g1,(S.th[i]).roots,by omega,by simp,ok2,rfl,rfl,by omega⟩ ?_
  rintro m e R3 D3 K6 ⟨hR3,k,g2,l,hk,hl,ok3,hD,he,hm⟩ hK6
  rw[hD];clear hD
  simp only[List.map,lc,ln,lj,z_t] at he
  simp only[he]
  have hll:l.length = (S.th[i]).roots.length:=by rw[hl,upto_len rl1]
  refine jl (v:=.slice (some ⟨b4,0,none⟩) (S.th[i]).roots.length c4) rfl (jln (jlt (jif (λhd=>?_) (λhd=>?_))))
  rotate_left
  ·have hd:k = (S.th[i]).roots.length:=by have:=z_g hd;omega
   have:l = r':=by rw[hl,List.take_of_length_le (by omega),List.drop_eq_nil_of_le (by omega),List.append_nil]
   subst this
   exact hK5 _ _ _ ⟨hR3,g2,ok3,rfl,rfl⟩
  have hd:k < (S.th[i]).roots.length:=by have:=z_f hd;omega
  obtain⟨f,hf,hw⟩:=rl2 k hd (by omega)
  obtain⟨y,hy⟩:∃y,r'[k]'(by omega) = y:=⟨_,rfl⟩
  rw[hy] at hw
  have hlk:l[k]'(by omega) = (S.th[i]).roots[k]:=by subst hl;exact upto_get rl1 hd (by omega)
  refine jcutq (λvs R' D'=>R.le R'∧∃g2,Ok R' S1 g2∧D' = simD p S1 g2 ++ (b4,C T_int ((l.set k y).map I ++ sp4)) :: (b,C T_l8Thread (eThr (S.th[i]) (.slice (some ⟨b4,0,none⟩) (S.th[i]).roots.length c4))) :: F∧vs = [.pointer (some ⟨p,0,none⟩),I i,.pointer (some ⟨b,0,none⟩),I k]) (λK7 hK7=>?_) ?_
  rotate_left
  ·rintro e R4 D4 ⟨hR4,g3,ok4,hD,he⟩
   rw[hD];clear hD
   simp only[List.map,lc,ln,lj,z_t] at he
   simp only[he]
   refine jadd ⟨by omega,by omega⟩ ?_
   exact hK6 ((S.th[i]).roots.length - (k + 1)) _ _ _ (by omega) ⟨hR4,k + 1,g3,l.set k y,by omega,by rw[hl,← hy];exact upto_set rl1 hd,ok4,rfl,rfl,rfl⟩
  refine jcutq (λvs R' D'=>R.le R'∧∃g2,Ok R' S1 g2∧D' = simD p S1 g2 ++ (b4,C T_int ((l.set k y).map I ++ sp4)) :: (b,C T_l8Thread (eThr (S.th[i]) (.slice (some ⟨b4,0,none⟩) (S.th[i]).roots.length c4))) :: F∧vs = [.pointer (some ⟨p,0,none⟩),I i,.pointer (some ⟨b,0,none⟩),I k]) (λK8 hK8=>?_) ?_
  rotate_left
  ·rintro e R4 D4 ⟨hR4,g3,ok4,hD,he⟩
   rw[hD];clear hD
   simp only[List.map,lc,ln,lj,z_t] at he
   simp only[he]
   exact hK7 _ _ _ ⟨hR4,g3,ok4,rfl,rfl⟩
  have gk:∀g' : Img,(l.map I ++ sp4)[0 + k * 1]? = some (I (S.th[i]).roots[k]):=λ_=>by
   rw[Nat.zero_add,Nat.mul_one,ints_get (by omega),hlk]
  refine jl (v:=.slice (some ⟨b4,0,none⟩) (S.th[i]).roots.length c4) rfl (jian hd (jl (v:=I (S.th[i]).roots[k]) (gk g) ?_))
  refine jcS (p:=p) (by exact t_from ok3 ((e3 _).trans hf)) λ_ R4 g3 hR4 hr ok4=>?_
  subst hr
  refine jif (λhff=>?_) (λhff=>?_)
  ·subst hff
   rw[if_pos rfl] at hw
   obtain⟨w0,w1,w2,w3⟩:=idx_some hw
   refine jl (v:=.slice (some ⟨b4,0,none⟩) (S.th[i]).roots.length c4) rfl (jl (v:=.slice (some ⟨g3.wb,0,none⟩) S1.words.length g3.wc) rfl (jl (v:=.slice (some ⟨b4,0,none⟩) (S.th[i]).roots.length c4) rfl ?_))
   refine jian hd (jl (v:=I (S.th[i]).roots[k]) (gk g) ?_)
   refine jia w0 (by rw[e2];exact w1) (jl (v:=I y) ?_ ?_)
   ·rw[Nat.zero_add,Nat.mul_one,ints_get (by rw[e2];exact w2)]
    simp only[e2,w3]
   refine jian hd (jsi (by omega) ?_)
   exact hK8 _ _ _ ⟨hR3.trans hR4,g3,ok4,rfl,rfl⟩
  ·subst hff
   simp only[Bool.false_eq_true,if_false,Option.some.injEq] at hw
   refine hK8 _ _ _ ⟨hR3.trans hR4,g3,ok4,?_,rfl⟩
   have:l.set k y = l:=by rw[← hw,← hlk];exact List.set_getElem_self _
   rw[this]
 rintro e R1 D1 ⟨hR1,g1,ok1,hD,he⟩
 rw[hD];clear hD
 simp only[List.map,lc,ln,lj,z_t] at he
 simp only[he]
 generalize hdd:dropFrom S.table.length 1 S.table = td at hS
 refine jcutq (λvs R' D'=>R' = R1∧∃g2,Ok R' { S with th:=th,table:=td } g2∧D' = simD p { S with th:=th,table:=td } g2 ++ F∧vs = [.pointer (some ⟨p,0,none⟩)]) (λK hK=>?_) ?_
 rotate_left
 ·rintro e R2 D2 ⟨hR2,g2,ok2,hD,he⟩
  subst hR2
  rw[hD];clear hD
  simp only[List.map,lc,ln,lj,z_t] at he
  simp only[he]
  refine jcS (p:=p) (by exact t_idle ok2 hS) λ_ R7 g7 hR7 _ ok7=>?_
  exact jretS (hR1.trans hR7) trivial rfl ok7
 refine jcutq (λvs R' D'=>R' = R1∧∃g2,Ok R' { S with th:=th,table:=td } g2∧D' = simD p { S with th:=th,table:=td } g2 ++ F∧vs = [.pointer (some ⟨p,0,none⟩)]) (λK2 hK2=>?_) ?_
 rotate_left
 ·rintro e R2 D2 ⟨hR2,g2,ok2,hD,he⟩
  rw[hD];clear hD
  simp only[List.map,lc,ln,lj,z_t] at he
  simp only[he]
  exact hK _ _ _ ⟨hR2,g2,ok2,rfl,rfl⟩
 refine jlp (λm vs R' D'=>R' = R1∧∃(i:Nat) (t1:List Rg) (g2:Img),1≤i∧i≤S.table.length∧TOk t1∧t1.length = S.table.length∧dropFrom (S.table.length + 1 - i) i t1 = td∧Ok R' { S with th:=th,table:=t1 } g2∧D' = simD p { S with th:=th,table:=t1 } g2 ++ F∧vs = [.pointer (some ⟨p,0,none⟩),I i]∧m = S.table.length + 1 - i)
  (n:=S.table.length) ⟨rfl,1,S.table,g1,by omega,by have:=hT.n0;omega,hT,rfl,hdd,ok1,rfl,rfl,by omega⟩ ?_
 rintro m e R2 D2 K3 ⟨hR2,i,t1,g2,hi0,hi1,T,htl1,hdf,ok2,hD,he,hm⟩ hK3
 subst hR2
 rw[hD];clear hD
 simp only[List.map,lc,ln,lj,z_t] at he
 simp only[he]
 refine jl (v:=.slice (some ⟨g2.tb,0,none⟩) t1.length g2.tc) rfl (jln (jlt (jif (λhc=>?_) (λhc=>?_))))
 rotate_left
 ·have hc:i = S.table.length:=by have:=z_g hc;omega
  have:t1 = td:=by
   rw[← hdf,show S.table.length + 1 - i = 0 + 1 by omega]
   unfold dropFrom
   rw[List.getElem?_eq_none (by omega)]
  subst this
  exact hK2 _ _ _ ⟨rfl,g2,ok2,rfl,rfl⟩
 have hc:i < t1.length:=by have:=z_f hc;omega
 rw[show S.table.length + 1 - i = (S.table.length + 1 - (i + 1)) + 1 by omega] at hdf
 unfold dropFrom at hdf
 rw[List.getElem?_eq_getElem hc] at hdf
 simp only at hdf
 refine jcutq (λvs R' D'=>R' = R2∧∃(t2:List Rg) (g3:Img),TOk t2∧t2.length = S.table.length∧dropFrom (S.table.length + 1 - (i + 1)) (i + 1) t2 = td∧Ok R' { S with th:=th,table:=t2 } g3∧D' = simD p { S with th:=th,table:=t2 } g3 ++ F∧vs = [.pointer (some ⟨p,0,none⟩),I i]) (λK4 hK4=>?_) ?_
 rotate_left
 ·rintro e R3 D3 ⟨hR3,t2,g3,T2,hl2,hd2,ok3,hD,he⟩
  subst hR3
  rw[hD];clear hD
  simp only[List.map,lc,ln,lj,z_t] at he
  simp only[he]
  refine jadd ⟨by omega,by omega⟩ ?_
  exact hK3 (S.table.length + 1 - (i + 1)) _ _ _ (by omega) ⟨rfl,i + 1,t2,g3,by omega,by omega,T2,hl2,hd2,ok3,rfl,rfl,rfl⟩
 refine jcutq (λvs R' D'=>R' = R2∧∃(t2:List Rg) (g3:Img),TOk t2∧t2.length = S.table.length∧dropFrom (S.table.length + 1 - (i + 1)) (i + 1) t2 = td∧Ok R' { S with th:=th,table:=t2 } g3∧D' = simD p { S with th:=th,table:=t2 } g3 ++ F∧vs = [.pointer (some ⟨p,0,none⟩),I i]) (λK5 hK5=>?_) ?_
 rotate_left
 ·rintro e R3 D3 ⟨hR3,t2,g3,T2,hl2,hd2,ok3,hD,he⟩
  subst hR3
  rw[hD];clear hD
  simp only[List.map,lc,ln,lj,z_t] at he
  simp only[he]
  exact hK4 _ _ _ ⟨rfl,t2,g3,T2,hl2,hd2,ok3,rfl,rfl⟩
 refine jl (v:=.slice (some ⟨g2.tb,0,none⟩) t1.length g2.tc) rfl (jian hc (jl (v:=I t1[i].kind) (by rw[Nat.zero_add];exact row_cell (f:=0) hc rfl) (jeq (jif (λhk=>?_) (λhk=>?_)))))
 ·rw[if_pos hk] at hdf
  have hk4:(rv t1 i).kind = 4:=by rw[rv_at hc];exact eq_of_beq hk
  obtain⟨d1,d2⟩:=drop_spec (r:=i) T (by omega) (by omega) (by omega)
  rw[d1] at hdf
  simp only[Option.getD_some] at hdf
  refine jl (v:=.slice (some ⟨g2.tb,0,none⟩) t1.length g2.tc) rfl ?_
  refine jmk (m_TableDrop (t:=t1) (sp:=g2.tsp) _ (by omega)) ?_
  rw[d1]
  rintro _ _ ⟨sv,⟨b4,c4,sp4,hc4,rfl,rfl⟩,rfl⟩
  refine jex rfl (jex rfl ?_)
  refine jtab1 (p:=p) ?_
  exact hK5 _ _ _ ⟨rfl,seti t1 i (free i),{ g2 with tb:=b4,tc:=c4,tsp:=sp4 },d2,by rw[seti_len,htl1],hdf,ok2.tab (by rw[seti_len];omega) _ _ _ hc4,rfl,rfl⟩
 ·rw[if_neg (by rw[hk];decide)] at hdf
  exact hK5 _ _ _ ⟨rfl,t1,g2,T,htl1,hdf,ok2,rfl,rfl⟩
end Go.Lf
end
