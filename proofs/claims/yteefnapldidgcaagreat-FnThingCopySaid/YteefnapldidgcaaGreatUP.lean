/- The given row of this law is proved: whatever code comes in, it returns true and leaves the code as it was. Conditions: none. -/
import Derived.Test.YteefnapldidgcaaGreatRows
import Derived.ProofKit
import Derived.ChangeOld
import Derived.Test.YteefnapldidgcaaGreatUO
set_option linter.unusedVariables false
set_option linter.unusedSimpArgs false
section
namespace Go.Lf
open Go Sm
theorem jxse {a b:Shp} {x y:Operand} {R:RM} {D:Chs} {k:Value→M} (H:J R D (k (.bool (a == b)))):J R D (X P (do eqGuard .eql 25 x y (.agg #[I a.refs,I a.nums]) (.agg #[I b.refs,I b.nums]);binOp .eql 25 (.agg #[I a.refs,I a.nums]) (.agg #[I b.refs,I b.nums])) k):=by
 intro h hs w hw
 have hfs:=x_fldsh
 rw[Sem.run_bind,run_eqGuard_agg _ _ _ _ _ _ _ (by kernel_rfl)]
 simp only[Result.andThen_ok]
 rw[run_eql_struct,run_equalIn_struct w 9999 25 _ _ (by kernel_rfl) (by kernel_rfl)]
 rw[x_fields 9998 w [I a.refs,I a.nums] [I b.refs,I b.nums] _ [0,1] [a.refs,a.nums] [b.refs,b.nums] hfs rfl rfl]
 simp only[Result.andThen_ok]
 have:([a.refs,a.nums] == [b.refs,b.nums]) = (a == b):=by
  rw[Bool.eq_iff_iff]
  obtain⟨a1,a2⟩:=a
  obtain⟨b1,b2⟩:=b
  simp
 rw[this]
 subst hw
 exact⟨Same.refl _,H _ hs⟩
theorem fits_two {n:Nat} {a z:Int} (h:fits n a z = true) (hz:2≤z):fits n a 2 = true:=by
 obtain⟨a0,a1,a2,a3⟩:=fits_in h
 unfold fits at h ⊢
 simp only[Bool.and_eq_true,decide_eq_true_eq,beq_iff_eq] at h ⊢
 obtain⟨⟨⟨⟨⟨p0,p1⟩,p2⟩,p3⟩,p4⟩,p5⟩:=h
 refine⟨⟨⟨⟨⟨p0,by decide⟩,by decide⟩,p3⟩,p4⟩,?_⟩
 unfold regionOf at p5 ⊢
 rw[if_neg (by omega),if_neg (by omega)] at p5
 rw[if_neg (by omega),if_neg (by omega)]
 omega
theorem at_mk {w:List Int} {a:Int} {sh:Shp} (hf:fits w.length a 2 = true) (hs:shapeOf (w.getD (a.toNat + 1) 0) = (sh,true)) (hz:fits w.length a (shapeSize sh) = true) :
  thingAt w a = (⟨a,w.getD a.toNat 0,sh,seg w (a + 2) sh.refs,seg w (a + 2 + sh.refs) sh.nums⟩,true):=by
 unfold thingAt
 rw[if_pos hf,hs]
 dsimp only
 rw[hz];rfl
theorem at_inv {w:List Int} {a:Int} (h:(thingAt w a).2 = true):∃sh,shapeOf (w.getD (a.toNat + 1) 0) = (sh,true)∧fits w.length a 2 = true∧fits w.length a (shapeSize sh) = true:=by
 unfold thingAt at h
 split at h
 ·rename_i h0
  dsimp only at h
  split at h
  ·rename_i h1
   simp only[Bool.and_eq_true] at h1
   exact⟨(shapeOf (w.getD (a.toNat + 1) 0)).1,Prod.ext rfl h1.1,h0,h1.2⟩
  ·cases h
 ·cases h
theorem seg_eq {u w:List Int} {p q:Nat} {k:Int} (h:∀j,j < k.toNat→u[p + j]? = w[q + j]?):seg u p k = seg w q k:=by
 unfold seg
 apply List.ext_getElem?
 intro j
 simp only[Int.toNat_natCast]
 rw[List.getElem?_take,List.getElem?_take,List.getElem?_drop,List.getElem?_drop]
 by_cases c:j < k.toNat
 ·rw[if_pos c,if_pos c];exact h j c
 ·rw[if_neg c,if_neg c]
theorem copy_facts {w:List Int} {a b:Int} (h:(thingCopy w a b).2 = true):(thingAt w a).2 = true∧(thingCopy w a b).1.length = w.length∧
  thingAt (thingCopy w a b).1 b = (⟨b,b,(thingAt w a).1.sh,(thingAt w a).1.refs,(thingAt w a).1.nums⟩,true)∧thingAt (thingCopy w a b).1 a = (⟨a,b,(thingAt w a).1.sh,(thingAt w a).1.refs,(thingAt w a).1.nums⟩,true)∧
  ((∀x∈w,Rn x)→Rn b→∀x∈(thingCopy w a b).1,Rn x):=by
 have hc:(((thingAt w a).2 && fits w.length b (shapeSize (thingAt w a).1.sh)) && !(decide (b < a + shapeSize (thingAt w a).1.sh) && decide (a < b + shapeSize (thingAt w a).1.sh))) = true:=by
  unfold thingCopy at h
  split at h
  ·assumption
  ·cases h
 have et:thingCopy w a b = (cpy w a b (shapeSize (thingAt w a).1.sh),true):=by
  unfold thingCopy
  rw[if_pos hc]
 rw[et]
 simp only[Bool.and_eq_true,Bool.not_eq_true',Bool.and_eq_false_iff,decide_eq_false_iff_not] at hc
 obtain⟨⟨h2,hfb⟩,hno⟩:=hc
 obtain⟨q0,q1,q2,q3⟩:=at_rng h2
 obtain⟨sh,hs,hf2,hfz⟩:=at_inv h2
 have hta:=at_mk hf2 hs hfz
 rw[hta] at hfb hno q1 q2 q3 ⊢
 dsimp only at hfb hno q1 q2 q3 ⊢
 obtain⟨f0,f1,f2,f3⟩:=fits_in hfb
 have hsr:0≤sh.refs∧0≤sh.nums∧shapeSize sh = 2 + sh.refs + sh.nums:=by
  unfold shapeSize at q2 ⊢
  split
  ·rename_i hso
   obtain⟨s0,s1,s2,s3⟩:=shapeOk_iff.1 hso
   exact⟨s0,s2,rfl⟩
  ·rename_i hso
   rw[if_neg hso] at q2;omega
 obtain⟨s0,s1,hsz⟩:=hsr
 obtain⟨n,rfl⟩:∃n:Nat,a = n:=⟨a.toNat,by omega⟩
 obtain⟨m,rfl⟩:∃m:Nat,b = m:=⟨b.toNat,by omega⟩
 obtain⟨y,hy⟩:∃y:Nat,shapeSize sh = y:=⟨(shapeSize sh).toNat,by omega⟩
 rw[hy] at hfb hno q1 q2 q3 f1 f2 f3 hfz hsz ⊢
 have cl_:=cpy_len w n m y
 have c1:∀j,1≤j→j < y→(cpy w n m y)[m + j]? = w[n + j]?:=λj j1 j2=>by
  rw[cpy_get (by omega),if_neg (by omega),if_pos (by omega),getD_some (by omega)]
  congr 2;omega
 have c2:∀j,1≤j→j < y→(cpy w n m y)[n + j]? = w[n + j]?:=λj j1 j2=>by
  rw[cpy_get (by omega),if_neg (by omega),if_neg (by omega),getD_some (by omega)]
 have c3:(cpy w n m y).getD m 0 = m:=by rw[List.getD_eq_getElem?_getD,cpy_get (by omega),if_pos (by omega)];rfl
 have c4:(cpy w n m y).getD n 0 = m:=by rw[List.getD_eq_getElem?_getD,cpy_get (by omega),if_pos (by omega)];rfl
 simp only[Int.toNat_natCast] at hs
 refine⟨rfl,cl_,?_,?_,λhw hb x hx=>?_⟩
 ·rw[at_mk (sh:=sh) (by rw[cl_];exact fits_two hfb (by omega)) (by
   simp only[Int.toNat_natCast]
   rw[List.getD_eq_getElem?_getD,c1 1 (by omega) (by omega),← List.getD_eq_getElem?_getD];exact hs) (by rw[cl_,hy];exact hfb)]
  simp only[Int.toNat_natCast]
  rw[c3]
  have e1:seg (cpy w n m y) ((m:Int) + 2) sh.refs = seg w ((n:Int) + 2) sh.refs:=by
   refine seg_eq (p:=m + 2) (q:=n + 2) λj hj=>?_
   rw[Nat.add_assoc,Nat.add_assoc];exact c1 (2 + j) (by omega) (by omega)
  have e2:seg (cpy w n m y) ((m:Int) + 2 + sh.refs) sh.nums = seg w ((n:Int) + 2 + sh.refs) sh.nums:=by
   have:=seg_eq (u:=cpy w n m y) (w:=w) (p:=m + (2 + sh.refs.toNat)) (q:=n + (2 + sh.refs.toNat)) (k:=sh.nums) λj hj=>by
    rw[show m + (2 + sh.refs.toNat) + j = m + (2 + sh.refs.toNat + j) from by omega,show n + (2 + sh.refs.toNat) + j = n + (2 + sh.refs.toNat + j) from by omega];exact c1 (2 + sh.refs.toNat + j) (by omega) (by omega)
   rw[show ((m:Int) + 2 + sh.refs) = ((m + (2 + sh.refs.toNat):Nat):Int) from by omega,show ((n:Int) + 2 + sh.refs) = ((n + (2 + sh.refs.toNat):Nat):Int) from by omega]
   exact this
  rw[e1,e2]
 ·rw[at_mk (sh:=sh) (by rw[cl_];exact hf2) (by
   simp only[Int.toNat_natCast]
   rw[List.getD_eq_getElem?_getD,c2 1 (by omega) (by omega),← List.getD_eq_getElem?_getD];exact hs) (by rw[cl_,hy];exact hfz)]
  simp only[Int.toNat_natCast]
  rw[c4]
  have e1:seg (cpy w n m y) ((n:Int) + 2) sh.refs = seg w ((n:Int) + 2) sh.refs:=by
   refine seg_eq (p:=n + 2) (q:=n + 2) λj hj=>?_
   rw[Nat.add_assoc];exact c2 (2 + j) (by omega) (by omega)
  have e2:seg (cpy w n m y) ((n:Int) + 2 + sh.refs) sh.nums = seg w ((n:Int) + 2 + sh.refs) sh.nums:=by
   have:=seg_eq (u:=cpy w n m y) (w:=w) (p:=n + (2 + sh.refs.toNat)) (q:=n + (2 + sh.refs.toNat)) (k:=sh.nums) λj hj=>by
    rw[Nat.add_assoc];exact c2 (2 + sh.refs.toNat + j) (by omega) (by omega)
   rw[show ((n:Int) + 2 + sh.refs) = ((n + (2 + sh.refs.toNat):Nat):Int) from by omega]
   exact this
  rw[e1,e2]
 ·obtain⟨j,hj⟩:=List.mem_iff_getElem?.1 hx
  have hjl:j < w.length:=by
   have:=(List.getElem?_eq_some_iff.1 hj).1
   omega
  rw[cpy_get hjl] at hj
  have gin:∀i,Rn (w.getD i 0):=λi=>by
   by_cases hi:i < w.length
   ·rw[List.getD_eq_getElem?_getD,List.getElem?_eq_getElem hi];exact hw _ (List.getElem_mem hi)
   ·rw[List.getD_eq_getElem?_getD,List.getElem?_eq_none (by omega)];exact Rn.zero
  have hj:=Option.some.inj hj
  rw[← hj]
  split
  ·exact hb
  split
  ·exact gin _
  ·exact gin _
set_option maxHeartbeats 1000000 in
theorem w_ThingCopy {R:RM} {v:Value} (hc:Cod R v):Fn P F_w_FnThingCopy [v] R [] (λx _ A=>x = .bool true∧A = []):=by
 refine s_w_FnThingCopy λF=>?_
 unfold c_w_FnThingCopy
 have nilI:∀R:RM,Ints R (.slice none 0 0) []:=λR=>.inl ⟨rfl,rfl,rfl⟩
 have hsl:∃a c n,v = .slice a n c:=by
  obtain⟨n,hf⟩:=hc
  obtain⟨a,c,e⟩:=hf.sl
  exact⟨a,c,n,e⟩
 obtain⟨ca,cc,cn,hv⟩:=hsl
 refine jln_ ⟨ca,cc,hv⟩ (jgr (jif (λ_=>jret (A:=[]) (RM.le.refl R) ⟨rfl,rfl⟩) (λ_=>?_)))
 refine jc (A:=[]) (d_DrawThingCopy hc) ?_
 rintro _ R1 _ hR1 ⟨w,wv,a,b,rfl,hi,hwl,hwr,ha,hb,rfl⟩
 refine jex rfl (jex rfl (jex rfl ?_))
 refine jc (A:=[]) (t_i_ThingCopy a b hi (by omega) hwr hb) ?_
 rintro x R2 A2 hR2 q1
 have hi:=hi.le hR2
 have sp:∃x1 x2,x = .tuple #[x1,.bool x2]:=by
  unfold QMk at q1
  split at q1
  ·obtain⟨sv,_,e⟩:=q1;exact⟨_,_,e⟩
  ·exact⟨_,_,q1.1⟩
 obtain⟨x1,x2,rfl⟩:=sp
 refine jex rfl (jex rfl ?_)
 refine jc (A:=[]) (t_ThingCopy a b hi (by omega) ha hb) ?_
 rintro y R3 A3 hR3 q2
 have hi:=hi.le hR3
 have hR13:=(hR1.trans hR2).trans hR3
 rcases mk_both q1 q2 with ⟨hr,s1,s2,o1,o2,e1,rfl⟩ | ⟨hr,e1,rfl,rfl,rfl⟩
 rotate_left
 ·cases e1
  refine jex rfl (jex rfl ?_)
  refine jor [wv,I a,I b,.slice none 0 0,.bool false] false (λK' hK'=>?_) (λe c u ho he=>?_)
  ·refine @jxb _ _ _ _ _ _ _ (jff (jro (r_flInts (nilI _) (nilI _) (by simp) (by simp)) ?_))
   exact hK' _ _ _ or2_f rfl
  simp only[List.map,lc,ln,lj,and_true] at he
  simp only[he]
  rw[ho]
  exact jiff (jift (jln (jeq (jret (A:=[]) hR13 ⟨rfl,rfl⟩))))
 cases e1
 obtain⟨g0,g1,g2,g3,g4⟩:=copy_facts hr
 have hur:=g4 hwr hb
 generalize (thingCopy w a b).1 = u at g1 g2 g3 hur o1 o2
 clear g4
 refine jex rfl (jex rfl (jfso (.inr o2) λR4 hR4 hi2=>?_))
 refine jfso (.inr o1) λR5 hR5 hi1=>?_
 have hi2:=hi2.le hR5
 have hi:=(hi.le hR4).le hR5
 have hR15:=(hR13.trans hR4).trans hR5
 refine jor [wv,I a,I b,x1,.bool true] false (λK' hK'=>?_) (λe c u' ho he=>?_)
 ·refine @jxb _ _ _ _ _ _ _ (jff (jro (r_flInts hi1 hi2 (by omega) (by omega)) ?_))
  exact hK' _ _ _ or2_f (by simp)
 simp only[List.map,lc,ln,lj,and_true] at he
 simp only[he]
 rw[ho]
 refine jiff (jiff ?_)
 have gin:∀(l:List Int),(∀x∈l,Rn x)→∀i,inR (l.getD i 0):=λl hl i=>by
  by_cases hi:i < l.length
  ·rw[List.getD_eq_getElem?_getD,List.getElem?_eq_getElem hi];exact hl _ (List.getElem_mem hi)
  ·rw[List.getD_eq_getElem?_getD,List.getElem?_eq_none (by omega)];exact⟨by decide,by decide⟩
 refine jc (A:=[]) (t_i_ThingAt a hi (by omega) (gin w hwr _)) ?_
 rintro _ R6 _ hR6 ⟨rfl,xa,hxa,rfl⟩
 obtain⟨rv1,nv1,rfl,hr1,hn1⟩:=hxa
 obtain⟨ra1,rc1,e1⟩:=hr1.sl
 obtain⟨na1,nc1,e2⟩:=hn1.sl
 subst e1 e2
 have hi1:=hi1.le hR6
 refine jex rfl (jex rfl (ja λb1=>js (cs':=eTh (thingAt w a).1 (.slice ra1 (thingAt w a).1.refs.length rc1) (.slice na1 (thingAt w a).1.nums.length nc1)) rfl rfl (by exact Nat.le_refl 6) rfl ?_))
 refine jc (A:=[]) (t_i_ThingAt b hi1 (by omega) (gin u hur _)) ?_
 rintro _ R7 _ hR7 ⟨rfl,xb,hxb,rfl⟩
 rw[g2] at hxb ⊢
 obtain⟨rv2,nv2,rfl,hr2,hn2⟩:=hxb
 obtain⟨ra2,rc2,e1⟩:=hr2.sl
 obtain⟨na2,nc2,e2⟩:=hn2.sl
 subst e1 e2
 have hi1:=hi1.le hR7
 refine jex rfl (jex rfl (ja λb2=>js (cs':=[I b,I b,I (thingAt w a).1.sh.refs,I (thingAt w a).1.sh.nums,.slice ra2 (thingAt w a).1.refs.length rc2,.slice na2 (thingAt w a).1.nums.length nc2]) rfl rfl (by exact Nat.le_refl 6) rfl ?_))
 refine jc (A:=[]) (t_i_ThingAt a hi1 (by omega) (gin u hur _)) ?_
 rintro _ R8 _ hR8 ⟨rfl,xc,hxc,rfl⟩
 rw[g3] at hxc ⊢
 obtain⟨rv3,nv3,rfl,hr3,hn3⟩:=hxc
 obtain⟨ra3,rc3,e1⟩:=hr3.sl
 obtain⟨na3,nc3,e2⟩:=hn3.sl
 subst e1 e2
 have hr1:=(hr1.le hR7).le hR8
 have hn1:=(hn1.le hR7).le hR8
 have hr2:=hr2.le hR8
 have hn2:=hn2.le hR8
 have hR18:=((hR15.trans hR6).trans hR7).trans hR8
 refine jex rfl (jex rfl (ja λb3=>js (cs':=[I a,I b,I (thingAt w a).1.sh.refs,I (thingAt w a).1.sh.nums,.slice ra3 (thingAt w a).1.refs.length rc3,.slice na3 (thingAt w a).1.nums.length nc3]) rfl rfl (by exact Nat.le_refl 6) rfl ?_))
 rw[g0]
 have hq:=at_rng g0
 have hrl:(thingAt w a).1.refs.length < 1000000∧(thingAt w a).1.nums.length < 1000000:=by
  obtain⟨sh,hs,hf2,hfz⟩:=at_inv g0
  rw[at_mk hf2 hs hfz]
  dsimp only
  unfold seg
  constructor<;>(rw[List.length_take,List.length_drop];omega)
 generalize (thingAt w a).1 = t at hr1 hn1 hr2 hn2 hr3 hn3 hrl ⊢
 refine jan [I b,.pointer (some ⟨b1,0,none⟩),.pointer (some ⟨b2,0,none⟩),.pointer (some ⟨b3,0,none⟩),.bool true] true (λK' hK'=>?_) (λe c u' ho he=>?_)
 ·exact jtt (hK' _ _ _ and2_t rfl)
 simp only[List.map,lc,ln,lj,and_true] at he
 simp only[he]
 refine jan [I b,.pointer (some ⟨b1,0,none⟩),.pointer (some ⟨b2,0,none⟩),.pointer (some ⟨b3,0,none⟩)] true (λK' hK'=>?_) (λe c u' ho he=>?_)
 ·rw[ho]
  exact jtt (hK' _ _ _ and2_t rfl)
 simp only[List.map,lc,ln,lj,and_true] at he
 simp only[he]
 refine jan [I b,.pointer (some ⟨b1,0,none⟩),.pointer (some ⟨b2,0,none⟩),.pointer (some ⟨b3,0,none⟩)] true (λK' hK'=>?_) (λe c u' ho he=>?_)
 ·rw[ho]
  exact jtt (jl (v:=I b) rfl (jeq (hK' _ _ _ and2_t (by simp))))
 simp only[List.map,lc,ln,lj,and_true] at he
 simp only[he]
 refine jan [.pointer (some ⟨b1,0,none⟩),.pointer (some ⟨b2,0,none⟩),.pointer (some ⟨b3,0,none⟩)] true (λK' hK'=>?_) (λe c u' ho he=>?_)
 ·rw[ho]
  exact jtt (jl (v:=I b) rfl (jeq (hK' _ _ _ and2_t (by simp))))
 simp only[List.map,lc,ln,lj,and_true] at he
 simp only[he]
 refine jan [.pointer (some ⟨b1,0,none⟩),.pointer (some ⟨b2,0,none⟩),.pointer (some ⟨b3,0,none⟩)] true (λK' hK'=>?_) (λe c u' ho he=>?_)
 ·rw[ho]
  refine jtt ?_
  refine jfo ?_
  refine jla (l:=[I t.sh.refs,I t.sh.nums]) (Nat.le_of_ble_eq_true rfl) rfl ?_
  refine jfo ?_
  refine jla (l:=[I t.sh.refs,I t.sh.nums]) (Nat.le_of_ble_eq_true rfl) rfl ?_
  exact @jxse t.sh t.sh _ _ _ _ _ (hK' _ _ _ and2_t (by simp))
 simp only[List.map,lc,ln,lj,and_true] at he
 simp only[he]
 refine jan [.pointer (some ⟨b1,0,none⟩),.pointer (some ⟨b2,0,none⟩),.pointer (some ⟨b3,0,none⟩)] true (λK' hK'=>?_) (λe c u' ho he=>?_)
 ·rw[ho]
  refine jtt (jl (v:=.slice ra1 t.refs.length rc1) rfl (jl (v:=.slice ra2 t.refs.length rc2) rfl ?_))
  exact jro (r_flInts hr1 hr2 hrl.1 hrl.1) (hK' _ _ _ and2_t (by simp))
 simp only[List.map,lc,ln,lj,and_true] at he
 simp only[he]
 refine jan [.pointer (some ⟨b1,0,none⟩),.pointer (some ⟨b3,0,none⟩)] true (λK' hK'=>?_) (λe c u' ho he=>?_)
 ·rw[ho]
  refine jtt (jl (v:=.slice na1 t.nums.length nc1) rfl (jl (v:=.slice na2 t.nums.length nc2) rfl ?_))
  exact jro (r_flInts hn1 hn2 hrl.2 hrl.2) (hK' _ _ _ and2_t (by simp))
 simp only[List.map,lc,ln,lj,and_true] at he
 simp only[he]
 refine jan [] true (λK' hK'=>?_) (λe c u' ho he=>?_)
 ·rw[ho]
  refine jtt (jl (v:=.slice ra1 t.refs.length rc1) rfl (jl (v:=.slice ra3 t.refs.length rc3) rfl ?_))
  exact jro (r_flInts hr1 hr3 hrl.1 hrl.1) (hK' _ _ _ and2_t (by simp))
 simp only[List.map,lc,ln,lj,and_true] at he
 simp only[he]
 rw[ho]
 exact jret (A:=[]) hR18 ⟨rfl,rfl⟩
end Go.Lf
end
section
namespace Go.Lf
open Go Sm
structure Blk (w w' : World):Prop where
 same:Same w w'
 block:∀k,k < w.heap.size→w'.heap[k]? = w.heap[k]?
theorem Blk.frame {W w' : World} (h:Blk W w') (may:MemPlace→Prop):W.keptBut w' may:=by
 refine⟨h.same.1,h.same.2,λi hi=>?_⟩
 rw[h.block i hi]
 split<;>simp_all
theorem Blk.at_ {W w' : World} (h:Blk W w') {p:MemPlace} (hp:p.block < W.heap.size):W.sameAt w' p:=by
 cases p with
 | cell b o=>exact World.cell?_of_block (w:=W) (h.block b hp)
 | map b=>exact h.block b hp
def IsRow (w:World) (a:Option Addr) (len cap:Nat) (zs:List Int):Prop:=
 (a = none∧len = 0∧cap = 0∧zs = [])∨
 ∃x,a = some x∧len≤cap∧zs.length = cap∧(∀i,i < zs.length→w.cell? (x.add i) = some (.int .u8 (zs.getD i 0)))∧∀n∈zs,(Lit.int .u8 n).wf = true
theorem cod_of {w:World} {a:Option Addr} {len cap:Nat} {zs:List Int} (h:IsRow w a len cap zs):Cod (λb=>w.heap[b]?) (.slice a len cap):=by
 rcases h with ⟨rfl,rfl,rfl,rfl⟩ | ⟨x,rfl,hl,hz,hcell,hwz⟩
 ·exact⟨0,none,0,rfl,Nat.le_refl _,.inl rfl⟩
 ·by_cases h0:len = 0
  ·exact⟨len,some x,cap,rfl,hl,.inl h0⟩
  ·obtain⟨b,off,spot⟩:=x
   have hc:=hcell 0 (by omega)
   have hspot:spot = none:=by simpa [Addr.add] using World.cell?_spot hc
   subst hspot
   refine⟨len,_,cap,rfl,hl,.inr ⟨b,off,rfl,λi hi=>?_⟩⟩
   have hi' : i < zs.length:=by omega
   have hc:=hcell i hi'
   have hw:=hwz (zs.getD i 0) (by simp[List.getD,hi'])
   rw[show (⟨b,off,none⟩:Addr).add i = ⟨b,off + i,none⟩ by simp[Addr.add],hc_eq] at hc
   unfold Go.Lf.hc at hc
   split at hc
   ·rename_i cs t fz hb
    refine⟨t,cs,fz,_,hb,hc,?_⟩
    have hr:∀n:Int,(Lit.int .u8 n).wf = true→0≤n∧n < 256:=λn hn=>by
     have h2:(decide (0≤n) && decide (n≤255)) = true:=hn
     simp only[Bool.and_eq_true,decide_eq_true_eq] at h2
     omega
    exact hr _ hw
   ·cases hc
theorem law_walk {f:Nat} (hw:∀(R:RM) (v:Value),Cod R v→Fn P f [v] R [] (λx _ A=>x = .bool true∧A = [])) {w:World} {a:Option Addr} {len cap:Nat} {zs:List Int} (h:IsRow w a len cap zs) :
  Calls P f #[.slice a len cap] w λe w'=>e = .returned (.bool true)∧Blk w w':=by
 have h1:=hw _ _ (cod_of h) [] w.heap ⟨λb o hb=>hb,(λb o hm=>by cases hm),List.nodup_nil⟩ w rfl
 refine h1.mono ?_
 rintro e w' ⟨v,rfl,hs,R',A',h2,h3,rfl,h4⟩
 refine⟨rfl,hs,λk hk=>?_⟩
 have:=h3.rd k _ (h2 k _ (Array.getElem?_eq_getElem hk))
 rw[this,Array.getElem?_eq_getElem hk]
end Go.Lf
end
section
namespace Go.Proofs.YteefnapldidgcaaGreat.fnThingCopy
open Go Go.Lf
open Go.ChangeShapes Go.WideShapes Go.ChangeAt Go.RowKit
set_option linter.unusedVariables false
theorem own:ownKnob Tryz.prog.godebug = none:=by kernel_rfl
theorem laidOut:laidOutB Tryz.prog = true:=by kernel_rfl
set_option maxRecDepth 100000 in
theorem lifted (os:Os) (started:os.Started) (H:Type) (enc:TypeId × Value→H) :
  ReturnsInHanded {} Tryz.checked os 5 .any (Rows.fnThingCopySpec.pre6 enc Tryz.prog Tryz.f5 Rows.fnThingCopyRow.domain false) (Rows.fnThingCopySpec.post enc Tryz.prog Tryz.f5 false true false false):=by
 refine returnsInHanded_of_change (C:=Tryz.checked) own started (by kernel_rfl) Tryz.func5
  (ChangeSpec.witness6 (enc:=enc) (C:=Tryz.checked) false ⟨#[],#[.slice none 0 0],[]⟩ 8 (by kernel_rfl) (by kernel_rfl) (by kernel_rfl) (by kernel_rfl)) ?_
 intro W base args ds gs before hval0 hW hcnd _
 have hval:∀(j:Nat) t v,Tryz.f5.params[j]? = some t→args[j]? = some v→Value.okWide Tryz.prog W .any base t v:=hval0
 have hW':=hW
 obtain⟨p,q,hA0,hV,rfl,hfz,hnd⟩:=hW
 have hA:DataW.TrodAll enc Tryz.prog W 0 (λ_=>true) true Tryz.f5.params.toList args.toList ds p:=hA0
 rw[Tryz.params5] at hA hval
 obtain⟨v0,vs0,d0,ds0,p0,q0,hargs,rfl,rfl,h0,r0⟩:=trodAll_cons hA
 obtain⟨rfl,rfl,rfl⟩:=trodAll_nil r0
 obtain rfl:args = #[v0]:=by cases args;simp_all
 obtain⟨rfl,rfl⟩:=trodVars_none hV
 obtain⟨a0,len0,cap0,rfl⟩:=okWide_slice Tryz.underlying22 (hval 0 22 v0 rfl rfl)
 have k0:=h0
 have lt0:∀x∈p0,x.block < W.heap.size:=by obtain⟨m,hm⟩:=k0;exact DataW.trod_lt m _ _ _ hm
 obtain⟨z0,w0⟩:∃zs,IsRow W a0 len0 cap0 zs:=by
  obtain⟨fuel,hf⟩:=h0
  rcases open_ints Tryz.underlying22 Tryz.underlying5 (by kernel_rfl) hf with ⟨hcs,_⟩ | ⟨x,l,c,zs,hcs,_,hl,hm,hz,_,hcell,hwz⟩
  ·simp[Value.cells] at hcs
   obtain⟨rfl,rfl,rfl⟩:=hcs
   exact⟨[],.inl ⟨rfl,rfl,rfl,rfl⟩⟩
  ·simp[Value.cells] at hcs
   obtain⟨rfl,rfl,rfl⟩:=hcs
   exact⟨zs,.inr ⟨_,rfl,hl,by simpa using hz,hcell,hwz⟩⟩
 clear hA0 hval0
 refine (law_walk (f:=5) (λR v h=>w_ThingCopy h) w0).mono λe W' ⟨he,bel⟩=>?_
 subst he
 have hst:DataW.Trod enc Tryz.prog W' 0 (λb=>decide (b < W.heap.size)) true 22 (Value.slice a0 len0 cap0) d0 p0:=WideElems.Trod_stays laidOut (by kernel_rfl) (of_decide_eq_true (by kernel_rfl)) k0 (λx hx=>bel.at_ (lt0 x hx)) (λx hx=>by simpa using lt0 x hx)
 exact⟨_,rfl,_,_,_,[],_,[],hW',trodAll_mk1 (shut_bool Tryz.underlying4 _),trodAll_mk1 hst,rfl,bel.frame _,λh=>by cases h⟩
theorem over:Rows.fnThingCopyRow.holds Tryz.pinned (OpenSpec.ofChange Rows.fnThingCopySpec):=
 OpenClaim.holds_of_wide 5 Tryz.f5 rfl rfl rfl rfl rfl rfl rfl ⟨rfl,rfl,rfl,rfl,rfl⟩ rfl rfl rfl rfl rfl (by kernel_rfl) Tryz.func5 (by kernel_rfl)
  (of_decide_eq_true (by kernel_rfl)) (by unfold Func.isWrapper;rw[if_neg (of_decide_eq_false (by kernel_rfl))];exact⟨rfl,rfl⟩)
  (λos started H enc _=>lifted os started H enc)
theorem proved:Rows.FnThingCopySaid:=over
#print axioms proved
end Go.Proofs.YteefnapldidgcaaGreat.fnThingCopy
end
