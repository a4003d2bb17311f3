/- A part of the proof of the given row: the walk of the law and of all that it calls. Conditions: none. -/
import Derived.Test.YtoajhnhjmhdfdaaGreatVK
set_option linter.unusedVariables false
set_option linter.unusedSimpArgs false
section
namespace Go.Lf
open Go Sm
theorem Ints.sl {R:RM} {v:Value} {l:List Int} (h:Ints R v l):∃a c,v = .slice a l.length c:=by
 obtain⟨a,cap,hsv,-⟩:=Ints.reads (D:=[]) h
 exact⟨a,cap,hsv⟩
theorem p_WordsOk (a:Option Addr) (n c:Nat) (hn:n < 1000000000000):Pu F_s_WordsOk [.slice a n c] (.bool (wordsOk n)):=by
 intro R
 refine s_s_WordsOk λF=>?_
 unfold c_s_WordsOk
 have eq:(n:Int).tdiv 16 = (n / 16:Nat):=by rw[Int.tdiv_eq_ediv_of_nonneg (by omega)];omega
 have er:(n:Int).tmod 16 = (n % 16:Nat):=by rw[Int.tmod_eq_emod_of_nonneg (by omega)];omega
 refine jln (jquo (by decide) ⟨by omega,by omega⟩ ?_)
 rw[eq]
 refine jan [I ((n / 16:Nat):Int)] (((n:Int).tmod 16 == 0) && (decide (((n / 16:Nat):Int)≥2))) (λK' hK'=>?_) (λe c u ho he=>?_)
 ·refine jln (jrem (by decide) (jeq (jgtt (λh1=>?_) (λh1=>?_))))
  ·refine jge (hK' _ _ _ (h1▸and2_t) (by rw[h1,Bool.true_and]))
  ·exact hK' _ _ _ (h1▸and2_f) (by rw[h1,Bool.false_and])
 simp only[List.map,lc,ln,lj,z_t] at he
 simp only[he]
 refine jan [] ((((n:Int).tmod 16 == 0) && decide (((n / 16:Nat):Int)≥2)) && (decide (((n / 16:Nat):Int)≤12))) (λK' hK'=>?_) (λe c u ho he=>?_)
 ·rw[ho]
  refine jgtt (λh1=>?_) (λh1=>?_)
  ·refine jle (hK' _ _ _ (h1▸and2_t) (by rw[h1,Bool.true_and]))
  ·exact hK' _ _ _ (h1▸and2_f) (by rw[h1,Bool.false_and])
 simp only[List.map,lc,ln,lj,z_t] at he
 simp only[he]
 rw[ho]
 refine jret (A:=[]) (RM.le.refl R) ?_
 congr 1
 unfold wordsOk
 rw[er]
 rw[Bool.eq_iff_iff]
 simp only[z_b,z_d,beq_iff_eq]
 constructor<;>rintro⟨⟨h1,h2⟩,h3⟩<;>exact⟨⟨by omega,by omega⟩,by omega⟩
theorem p_l3Fits (x:Option Addr) (n cc:Nat) (a size:Int) (hn:n < 1000000000000):Pu F_s_l3Fits [.slice x n cc,I a,I size] (.bool (fits n a size)):=by
 intro R
 refine s_s_l3Fits λF=>?_
 unfold c_s_l3Fits
 refine jan [.slice x n cc,I a,I size] ((wordsOk n) && (decide (size > 0))) (λK' hK'=>?_) (λe c u ho he=>?_)
 ·refine jp (p_WordsOk x n cc hn) (jgtt (λh1=>?_) (λh1=>?_))
  ·refine jgr (hK' _ _ _ (h1▸and2_t) (by rw[h1,Bool.true_and]))
  ·exact hK' _ _ _ (h1▸and2_f) (by rw[h1,Bool.false_and])
 simp only[List.map,lc,ln,lj,z_t] at he
 simp only[he]
 refine jan [.slice x n cc,I a,I size] ((wordsOk n && decide (size > 0)) && (decide (size≤16))) (λK' hK'=>?_) (λe c u ho he=>?_)
 ·rw[ho]
  refine jgtt (λh1=>?_) (λh1=>?_)
  ·refine jle (hK' _ _ _ (h1▸and2_t) (by rw[h1,Bool.true_and]))
  ·exact hK' _ _ _ (h1▸and2_f) (by rw[h1,Bool.false_and])
 simp only[List.map,lc,ln,lj,z_t] at he
 simp only[he]
 refine jan [.slice x n cc,I a,I size] ((wordsOk n && decide (size > 0) && decide (size≤16)) && (decide (a≥16))) (λK' hK'=>?_) (λe c u ho he=>?_)
 ·rw[ho]
  refine jgtt (λh1=>?_) (λh1=>?_)
  ·refine jge (hK' _ _ _ (h1▸and2_t) (by rw[h1,Bool.true_and]))
  ·exact hK' _ _ _ (h1▸and2_f) (by rw[h1,Bool.false_and])
 simp only[List.map,lc,ln,lj,z_t] at he
 simp only[he]
 refine jan [I a,I size] ((wordsOk n && decide (size > 0) && decide (size≤16) && decide (a≥16)) && (decide (a < n))) (λK' hK'=>?_) (λe c u ho he=>?_)
 ·rw[ho]
  refine jgtt (λh1=>?_) (λh1=>?_)
  ·refine jln (jlt (hK' _ _ _ (h1▸and2_t) (by rw[h1,Bool.true_and])))
  ·exact hK' _ _ _ (h1▸and2_f) (by rw[h1,Bool.false_and])
 simp only[List.map,lc,ln,lj,z_t] at he
 simp only[he]
 refine jan [] ((wordsOk n && decide (size > 0) && decide (size≤16) && decide (a≥16) && decide (a < n)) && (regionOf a == regionOf (a + size - 1))) (λK' hK'=>?_) (λe c u ho he=>?_)
 ·rw[ho]
  refine jgtt (λh1=>?_) (λh1=>?_)
  ·have h2:=h1
   simp only[z_b,z_d] at h2
   have r1:regionOf a≤9223372036854775807:=by unfold regionOf;split<;>omega
   have r2:regionOf (a + size - 1)≤9223372036854775807:=by unfold regionOf;split<;>omega
   refine jp (p_RegionOf a r1) (jadd ⟨by omega,by omega⟩ (jsub ⟨by omega,by omega⟩ (jp (p_RegionOf _ r2) (jeq (hK' _ _ _ (h1▸and2_t) (by rw[h1,Bool.true_and]))))))
  ·exact hK' _ _ _ (h1▸and2_f) (by rw[h1,Bool.false_and])
 simp only[List.map,lc,ln,lj,z_t] at he
 simp only[he]
 rw[ho]
 refine jret (A:=[]) (RM.le.refl R) ?_
 congr 1
theorem idx_first {n:Int}:∀{l:List Int} {i:Nat} (h:i < l.length),l[i] = n→(∀k (hk:k < l.length),k < i→l[k]≠n)→l.idxOf n = i
 | [],i,h,_,_=>absurd h (by simp)
 | a :: r,0,_,e,_=>by
  have e:a = n:=e
  rw[List.idxOf_cons,e];simp
 | a :: r,i + 1,h,e,hall=>by
  have h0:a≠n:=hall 0 (by simp) (by omega)
  have:=idx_first (l:=r) (i:=i) (by simpa using h) (by simpa using e) (λk hk hki=>by have:=hall (k + 1) (by simpa using hk) (by omega);simpa using this)
  rw[List.idxOf_cons,this]
  have:(a == n) = false:=by simpa using h0
  rw[this];rfl
end Go.Lf
end
section
namespace Go.Lf
open Go Sm
def eTh (t:Thing) (rv nv:Value):List Value:=[I t.at_,I t.moved,I t.sh.refs,I t.sh.nums,rv,nv]
def ThV (R:RM) (v:Value) (t:Thing):Prop:=∃rv nv,v = .agg (eTh t rv nv).toArray∧Ints R rv t.refs∧Ints R nv t.nums
theorem ThV.le {R R' : RM} {v:Value} {t:Thing} (h:R.le R') (H:ThV R v t):ThV R' v t:=by
 obtain⟨rv,nv,h1,h2,h3⟩:=H
 exact⟨rv,nv,h1,h2.le h,h3.le h⟩
theorem fits_in {n:Nat} {a size:Int} (h:fits n a size = true):16≤a∧a + size≤n∧0 < size∧size≤16:=by
 unfold fits wordsOk at h
 simp only[z_b,z_d,beq_iff_eq] at h
 obtain⟨⟨⟨⟨⟨⟨⟨h1,h2⟩,h3⟩,h4⟩,h5⟩,h6⟩,h7⟩,h8⟩:=h
 unfold regionOf at h8
 rw[if_neg (by omega),if_neg (by omega)] at h8
 refine⟨h6,?_,h4,h5⟩
 omega
theorem shape_rng {w:Int} (h:(shapeOf w).2 = true):0≤(shapeOf w).1.refs∧(shapeOf w).1.refs≤4∧0≤(shapeOf w).1.nums∧(shapeOf w).1.nums≤4∧shapeSize (shapeOf w).1 = 2 + (shapeOf w).1.refs + (shapeOf w).1.nums:=by
 unfold shapeOf at h ⊢
 split at h
 ·rename_i hc
  rw[if_pos hc]
  have h1:shapeOk ⟨w / 16,w % 16⟩ = true:=by
   unfold shapeOk
   simp only[z_b,z_d]
   omega
  refine⟨by dsimp only;omega,by dsimp only;omega,by dsimp only;omega,by dsimp only;omega,?_⟩
  unfold shapeSize
  rw[if_pos h1]
 ·exact absurd h (by decide)
theorem seg_step {w:List Int} {k i:Nat} (h:k + i < w.length):(w.drop k).take (i + 1) = (w.drop k).take i ++ [w[k + i]]:=by
 rw[List.take_succ_eq_append_getElem (by rw[List.length_drop];omega),List.getElem_drop]
theorem t_ThingAt {R:RM} {wv:Value} {w:List Int} (a:Int) (h:Ints R wv w) (hl:w.length < 1000000000000) :
  Fn P F_s_ThingAt [wv,I a] R [] (λv R' A=>A = []∧∃x,ThV R' x (thingAt w a).1∧v = .tuple #[x,.bool (thingAt w a).2]):=by
 refine s_s_ThingAt λF=>?_
 unfold c_s_ThingAt
 obtain⟨wa,wc,hwv⟩:=h.sl
 refine ja λb1=>?_
 have none_:∀(R1:RM) (G:Chs),R.le R1→(thingAt w a) = (thing0,false)→∀{D:Chs} [At D b1 (C T_Thing (eTh thing0 (.slice none 0 0) (.slice none 0 0)))] [Sf D F],True:=λ_ _ _ _ _ _ _=>trivial
 clear none_
 rw[hwv]
 refine jp (p_l3Fits wa w.length wc a 2 hl) (jif (λh2=>?_) (λh2=>?_))
 ·have h2:fits w.length a 2 = false:=by simpa using h2
  have et:thingAt w a = (thing0,false):=by unfold thingAt;rw[h2];rfl
  refine jbd (cs:=eTh thing0 (.slice none 0 0) (.slice none 0 0)) rfl rfl ?_
  refine js (cs':=eTh thing0 (.slice none 0 0) (.slice none 0 0)) rfl rfl (by exact z_n 6) rfl ?_
  refine jla (l:=eTh thing0 (.slice none 0 0) (.slice none 0 0)) (by exact z_n 6) rfl ?_
  refine jret (A:=[]) (RM.le.refl R) ⟨rfl,_,?_,by rw[et]⟩
  rw[et]
  exact⟨_,_,rfl,.inl ⟨rfl,rfl,rfl⟩,.inl ⟨rfl,rfl,rfl⟩⟩
 have h2:fits w.length a 2 = true:=by simpa using h2
 obtain⟨a0,a1,-,-⟩:=fits_in h2
 obtain⟨n,rfl⟩:∃n:Nat,a = n:=⟨a.toNat,by omega⟩
 rw[← hwv]
 refine jadd ⟨by omega,by omega⟩ (jfz1 h (by omega) (by omega) ?_)
 have e1:w[((n:Int) + 1).toNat]'(by omega) = w[n + 1]:=getElem_congr_idx (by omega)
 rw[e1]
 refine jp (p_ShapeOf _) (jex rfl (jex rfl ?_))
 have eg:w.getD (((n:Int)).toNat + 1) 0 = w[n + 1]:=by
  rw[Int.toNat_natCast,List.getD_eq_getElem?_getD,List.getElem?_eq_getElem (by omega),Option.getD_some]
 have et0:thingAt w n = if (shapeOf w[n + 1]).2 && fits w.length n (shapeSize (shapeOf w[n + 1]).1) then (⟨n,w.getD ((n:Int)).toNat 0,(shapeOf w[n + 1]).1,seg w (n + 2) (shapeOf w[n + 1]).1.refs,seg w (n + 2 + (shapeOf w[n + 1]).1.refs) (shapeOf w[n + 1]).1.nums⟩,true) else (thing0,false):=by
  unfold thingAt
  rw[if_pos h2,eg]
 have sr:=@shape_rng w[n + 1]
 generalize shapeOf w[n + 1] = s at et0 sr ⊢
 obtain⟨s,sb⟩:=s
 dsimp only at et0 sr ⊢
 refine ja λb2=>?_
 refine js (cs':=[I s.refs,I s.nums]) rfl rfl (by simp) rfl ?_
 rw[hwv]
 refine jor [.slice wa w.length wc,I n,.pointer (some ⟨b1,0,none⟩),.pointer (some ⟨b2,0,none⟩)] ((!sb) || (!fits w.length n (shapeSize s))) (λK' hK'=>?_) (λe c u ho he=>?_)
 ·refine jgtf (λh1=>?_) (λh1=>?_)
  ·refine jla (l:=[I s.refs,I s.nums]) (by simp) rfl (jp (p_ShapeSize s) (jp (p_l3Fits wa w.length wc n (shapeSize s) hl) (hK' _ _ _ (h1▸or2_f) (by rw[h1,Bool.false_or]))))
  ·exact hK' _ _ _ (h1▸or2_t) (by rw[h1,Bool.true_or])
 simp only[List.map,lc,ln,lj,z_t] at he
 simp only[he]
 rw[ho]
 refine jif (λh3=>?_) (λh3=>?_)
 ·have et:thingAt w n = (thing0,false):=by
   rw[et0,if_neg]
   intro hh
   simp only[Bool.or_eq_true,Bool.not_eq_true',z_b] at h3 hh
   rcases h3 with h3 | h3
   ·rw[h3] at hh;exact absurd hh.1 (by decide)
   ·rw[h3] at hh;exact absurd hh.2 (by decide)
  refine jbd (cs:=eTh thing0 (.slice none 0 0) (.slice none 0 0)) rfl rfl ?_
  refine js (cs':=eTh thing0 (.slice none 0 0) (.slice none 0 0)) rfl rfl (by exact z_n 6) rfl ?_
  refine jla (l:=eTh thing0 (.slice none 0 0) (.slice none 0 0)) (by exact z_n 6) rfl ?_
  refine jret (A:=[]) (RM.le.refl R) ⟨rfl,_,?_,by rw[et]⟩
  rw[et]
  exact⟨_,_,rfl,.inl ⟨rfl,rfl,rfl⟩,.inl ⟨rfl,rfl,rfl⟩⟩
 simp only[Bool.or_eq_false_iff,Bool.not_eq_false'] at h3
 obtain⟨h3,h4⟩:=h3
 obtain⟨s1,s2,s3,s4,s5⟩:=sr h3
 obtain⟨-,f1,-,-⟩:=fits_in h4
 rw[h3,h4] at et0
 simp only[Bool.and_self,if_true] at et0
 have eg0:w.getD ((n:Int)).toNat 0 = w[n]:=by rw[Int.toNat_natCast,List.getD_eq_getElem?_getD,List.getElem?_eq_getElem (by omega),Option.getD_some]
 rw[eg0] at et0
 obtain⟨⟨r,hr⟩,⟨m,hm⟩⟩:(∃r:Nat,s.refs = r)∧(∃m:Nat,s.nums = m):=⟨⟨s.refs.toNat,by omega⟩,⟨s.nums.toNat,by omega⟩⟩
 have es1:seg w ((n:Int) + 2) s.refs = (w.drop (n + 2)).take r:=by unfold seg;rw[hr,show ((n:Int) + 2).toNat = n + 2 by omega,Int.toNat_natCast]
 have es2:seg w ((n:Int) + 2 + s.refs) s.nums = (w.drop (n + 2 + r)).take m:=by unfold seg;rw[hr,hm,show ((n:Int) + 2 + r).toNat = n + 2 + r by omega,Int.toNat_natCast]
 rw[es1,es2] at et0
 rw[← hwv]
 refine jfz2 h (by omega) (by omega) λq hq=>hq _ _ ?_
 have e2:w[((n:Int)).toNat]'(by omega) = w[n]:=getElem_congr_idx (by omega)
 rw[e2] at hq ⊢
 refine jla (l:=[I s.refs,I s.nums]) (by simp) rfl ?_
 refine jbd (cs:=eTh ⟨n,w[n],s,[],[]⟩ (.slice none 0 0) (.slice none 0 0)) rfl rfl ?_
 refine ja λb3=>?_
 refine jand (hq _ _ jev) (jand (jla (l:=[I s.refs,I s.nums]) (by simp) rfl jev) ?_)
 refine js (cs':=eTh ⟨n,w[n],s,[],[]⟩ (.slice none 0 0) (.slice none 0 0)) rfl rfl (by exact z_n 6) rfl ?_
 generalize hE:((b2,C T_Shape [I s.refs,I s.nums]) :: (b1,C T_Thing (cl z135)) :: ([] ++ F)) = E
 have ea:At E b1 (C T_Thing (cl z135)):=by rw[← hE];exact inferInstance
 have ea2:At E b2 (C T_Shape [I s.refs,I s.nums]):=by rw[← hE];exact inferInstance
 refine jcutq (λvs R' D'=>R.le R'∧∃v1,Ints R' v1 ((w.drop (n + 2)).take r)∧D' = (b3,C T_Thing (eTh ⟨n,w[n],s,[],[]⟩ v1 (.slice none 0 0))) :: E∧vs = [wv,I n,.pointer (some ⟨b1,0,none⟩),.pointer (some ⟨b2,0,none⟩),.pointer (some ⟨b3,0,none⟩)]) (λK hK=>?_) ?_
 ·refine jcutq (λvs R' D'=>R.le R'∧∃v1,Ints R' v1 ((w.drop (n + 2)).take r)∧D' = (b3,C T_Thing (eTh ⟨n,w[n],s,[],[]⟩ v1 (.slice none 0 0))) :: E∧vs = [wv,I n,.pointer (some ⟨b1,0,none⟩),.pointer (some ⟨b2,0,none⟩),.pointer (some ⟨b3,0,none⟩)]) (λK2 hK2=>?_) ?_
  rotate_left
  ·rintro e R1 D1 ⟨hR,v1,hv1,hD,he⟩
   rw[hD];clear hD
   simp only[List.map,lc,ln,lj,z_t] at he
   simp only[he]
   exact hK _ _ _ ⟨hR,v1,hv1,rfl,rfl⟩
  refine jlp (λk vs R' D'=>R' = R∧∃(i:Nat) (v1:Value) (A:Chs),i≤r∧SO ((w.drop (n + 2)).take i) v1 A∧D' = A ++ ((b3,C T_Thing (eTh ⟨n,w[n],s,[],[]⟩ v1 (.slice none 0 0))) :: E)∧vs = [wv,I n,.pointer (some ⟨b1,0,none⟩),.pointer (some ⟨b2,0,none⟩),.pointer (some ⟨b3,0,none⟩),I i]∧k = r - i)
   (n:=r) ⟨rfl,0,.slice none 0 0,[],by omega,.inl ⟨by simp,rfl,rfl⟩,by rw[← hE];rfl,rfl,by omega⟩ ?_
  rintro k e R1 D1 K3 ⟨hR,i,v1,A,hi,so,hD,he,hk⟩ hK3
  subst hR
  rw[hD];clear hD
  simp only[List.map,lc,ln,lj,z_t] at he
  simp only[he]
  obtain⟨sa,sn,sc,hsl⟩:=so.sl
  refine jl (v:=I s.refs) rfl (jlt (jif (λhc=>?_) (λhc=>?_)))
  rotate_left
  ·have hc:i = r:=by have:=z_g hc;omega
   subst hc
   refine jfso so λR2 hR2 hint=>?_
   exact hK2 _ _ _ ⟨hR2,v1,hint,rfl,rfl⟩
  have hc:i < r:=by have:=z_f hc;omega
  subst hsl
  refine jl (v:=.slice sa sn sc) rfl (jadd ⟨by omega,by omega⟩ (jadd ⟨by omega,by omega⟩ (jfz1 h (by omega) (by omega) ?_)))
  have e3:w[((n:Int) + 2 + i).toNat]'(by omega) = w[n + 2 + i]:=getElem_congr_idx (by omega)
  rw[e3]
  refine jbs (cs:=[I w[n + 2 + i]]) rfl rfl λb4=>?_
  refine jand (jl (v:=.slice sa sn sc) rfl jev) ?_
  refine jperm List.perm_middle.symm ?_
  have hx:Reads R1 (A ++ ((b4,C 3 [I w[n + 2 + i]]) :: (b3,C T_Thing (eTh ⟨n,w[n],s,[],[]⟩ (.slice sa sn sc) (.slice none 0 0))) :: E)) (some ⟨b4,0,none⟩) (1 * 1) ([w[n + 2 + i]].map I):=Reads.held (t:=T_int) (cs:=[I w[n + 2 + i]]) (o:=0) (n:=1 * 1) (z_n 1)
  refine jas so rfl (by rw[List.length_take,List.length_singleton];omega) hx λv' A' so'=>?_
  obtain⟨sa',sn',sc',rfl⟩:=so'.sl
  refine js (cs':=eTh ⟨n,w[n],s,[],[]⟩ (.slice sa' sn' sc') (.slice none 0 0)) rfl rfl (by simp[eTh]) rfl ?_
  refine jadd ⟨by omega,by omega⟩ ?_
  refine jpart A' (G:=(b3,C T_Thing (eTh ⟨n,w[n],s,[],[]⟩ (.slice sa' sn' sc') (.slice none 0 0))) :: E) ?_
  exact hK3 (r - (i + 1)) _ _ _ (by omega) ⟨rfl,i + 1,_,A',by omega,by rw[seg_step (by omega)];exact so',rfl,rfl,rfl⟩
 rintro e R1 D1 ⟨hR,v1,hv1,hD,he⟩
 rw[hD];clear hD
 simp only[List.map,lc,ln,lj,z_t] at he
 simp only[he]
 obtain⟨ta,tc,htv⟩:=hv1.sl
 have h1:=h.le hR
 refine jcutq (λvs R' D'=>R.le R'∧Ints R' v1 ((w.drop (n + 2)).take r)∧∃v2,Ints R' v2 ((w.drop (n + 2 + r)).take m)∧D' = (b3,C T_Thing (eTh ⟨n,w[n],s,[],[]⟩ v1 v2)) :: E∧vs = [.pointer (some ⟨b1,0,none⟩),.pointer (some ⟨b3,0,none⟩)]) (λK hK=>?_) ?_
 ·refine jcutq (λvs R' D'=>R.le R'∧Ints R' v1 ((w.drop (n + 2)).take r)∧∃v2,Ints R' v2 ((w.drop (n + 2 + r)).take m)∧D' = (b3,C T_Thing (eTh ⟨n,w[n],s,[],[]⟩ v1 v2)) :: E∧vs = [.pointer (some ⟨b1,0,none⟩),.pointer (some ⟨b3,0,none⟩)]) (λK2 hK2=>?_) ?_
  rotate_left
  ·rintro e R2 D2 ⟨hR,hv1,v2,hv2,hD,he⟩
   rw[hD];clear hD
   simp only[List.map,lc,ln,lj,z_t] at he
   simp only[he]
   exact hK _ _ _ ⟨hR,hv1,v2,hv2,rfl,rfl⟩
  refine jlp (λk vs R' D'=>R' = R1∧∃(i:Nat) (v2:Value) (A:Chs),i≤m∧SO ((w.drop (n + 2 + r)).take i) v2 A∧D' = A ++ ((b3,C T_Thing (eTh ⟨n,w[n],s,[],[]⟩ v1 v2)) :: E)∧vs = [wv,I n,.pointer (some ⟨b1,0,none⟩),.pointer (some ⟨b2,0,none⟩),.pointer (some ⟨b3,0,none⟩),I i]∧k = m - i)
   (n:=m) ⟨rfl,0,.slice none 0 0,[],by omega,.inl ⟨by simp,rfl,rfl⟩,rfl,rfl,by omega⟩ ?_
  rintro k e R2 D2 K3 ⟨hR2,i,v2,A,hi,so,hD,he,hk⟩ hK3
  subst hR2
  rw[hD];clear hD
  simp only[List.map,lc,ln,lj,z_t] at he
  simp only[he]
  obtain⟨sa,sn,sc,hsl⟩:=so.sl
  refine jl (v:=I s.nums) rfl (jlt (jif (λhc=>?_) (λhc=>?_)))
  rotate_left
  ·have hc:i = m:=by have:=z_g hc;omega
   subst hc
   refine jfso so λR3 hR3 hint=>?_
   exact hK2 _ _ _ ⟨hR.trans hR3,hv1.le hR3,v2,hint,rfl,rfl⟩
  have hc:i < m:=by have:=z_f hc;omega
  subst hsl
  refine jl (v:=.slice sa sn sc) (by rw[htv];rfl) (jadd ⟨by omega,by omega⟩ (jl (v:=I s.refs) rfl (jadd ⟨by omega,by omega⟩ (jadd ⟨by omega,by omega⟩ (jfz1 h1 (by omega) (by omega) ?_)))))
  have e3:w[((n:Int) + 2 + s.refs + i).toNat]'(by omega) = w[n + 2 + r + i]:=getElem_congr_idx (by omega)
  rw[e3]
  refine jbs (cs:=[I w[n + 2 + r + i]]) rfl rfl λb4=>?_
  refine jand (jl (v:=.slice sa sn sc) (by rw[htv];rfl) jev) ?_
  refine jperm List.perm_middle.symm ?_
  have hx:Reads R2 (A ++ ((b4,C 3 [I w[n + 2 + r + i]]) :: (b3,C T_Thing (eTh ⟨n,w[n],s,[],[]⟩ v1 (.slice sa sn sc))) :: E)) (some ⟨b4,0,none⟩) (1 * 1) ([w[n + 2 + r + i]].map I):=Reads.held (t:=T_int) (cs:=[I w[n + 2 + r + i]]) (o:=0) (n:=1 * 1) (z_n 1)
  refine jas so rfl (by rw[List.length_take,List.length_singleton];omega) hx λv' A' so'=>?_
  obtain⟨sa',sn',sc',rfl⟩:=so'.sl
  refine js (cs':=eTh ⟨n,w[n],s,[],[]⟩ v1 (.slice sa' sn' sc')) rfl rfl (by simp[eTh]) (by rw[htv];rfl) ?_
  refine jadd ⟨by omega,by omega⟩ ?_
  refine jpart A' (G:=(b3,C T_Thing (eTh ⟨n,w[n],s,[],[]⟩ v1 (.slice sa' sn' sc'))) :: E) ?_
  exact hK3 (m - (i + 1)) _ _ _ (by omega) ⟨rfl,i + 1,_,A',by omega,by rw[seg_step (by omega)];exact so',rfl,rfl,rfl⟩
 rintro e R2 D2 ⟨hR2,hv1,v2,hv2,hD,he⟩
 rw[hD];clear hD
 simp only[List.map,lc,ln,lj,z_t] at he
 simp only[he]
 obtain⟨ua,uc,huv⟩:=hv2.sl
 subst htv huv hE
 refine jla (l:=eTh ⟨n,w[n],s,[],[]⟩ _ _) (by exact z_n 6) rfl ?_
 refine js (cs':=eTh ⟨n,w[n],s,[],[]⟩ _ _) rfl rfl (by exact z_n 6) rfl ?_
 refine jla (l:=eTh ⟨n,w[n],s,[],[]⟩ _ _) (by exact z_n 6) rfl ?_
 refine jret (A:=[]) hR2 ⟨rfl,_,?_,by rw[et0]⟩
 rw[et0]
 exact⟨_,_,rfl,hv1,hv2⟩
end Go.Lf
end
section
namespace Go.Lf
open Go Sm
def SW (t w:Nat) (rows:List (List Value)) (v:Value) (A:Chs):Prop:=
 (rows = []∧v = .slice none 0 0∧A = [])∨∃b c sp,rows.length≤c∧sp.length = (c - rows.length) * w∧v = .slice (some ⟨b,0,none⟩) rows.length c∧A = [(b,C t (rows.flatten ++ sp))]
theorem SW.sl {t w:Nat} {rows:List (List Value)} {v:Value} {A:Chs} (h:SW t w rows v A):∃a c,v = .slice a rows.length c:=by
 rcases h with ⟨rfl,rfl,_⟩ | ⟨b,c,sp,_,_,rfl,_⟩<;>exact⟨_,_,rfl⟩
theorem jaw {R:RM} {A E:Chs} {t w by_:Nat} {rows rows2:List (List Value)} {v:Value} {xa:Option Addr} {m cx:Nat} {zs:List Value} {k:Value→M} (so:SW t w rows v A)
  (hw:∀r∈rows,r.length = w) (hw2:∀r∈rows2,r.length = w) (hz:zs.length = w) (hf:allFlat rows2.flatten = true) (hm:m = rows2.length) (hb:by_≠0) (hl:by_ * (2 * (rows.length + rows2.length) + 200)≤2 ^ 48) (hx:Reads R (A ++ E) xa (m * w) rows2.flatten)
  (H:∀v' A',SW t w (rows ++ rows2) v' A'→J R (A' ++ E) (k v')):J R (A ++ E) (AP t w by_ zs v (.slice xa m cx) k):=by
 subst hm
 have fl:∀n,(List.replicate n zs).flatten.length = n * w:=λn=>by
  rw[flat_len (w:=w) (by intro x hx;rw[(List.mem_replicate.1 hx).2,hz])];simp
 have l1:=flat_len hw
 have l2:=flat_len hw2
 rcases so with ⟨rfl,rfl,rfl⟩ | ⟨b,c,sp,hc,hsp,rfl,rfl⟩
 ·refine jap hx (sl:=0) (old:=[]) (by rw[Nat.zero_mul];exact Reads.none_) hb (by simpa using hl) (λhc h hst=>?_) (λb c hc=>?_)
  ·have h0:rows2 = []:=List.length_eq_zero_iff.1 (by omega)
   subst h0
   have:=H (.slice none 0 0) [] (.inl ⟨rfl,rfl,rfl⟩) h hst
   simpa using this
  ·have:=H (.slice (some ⟨b,0,none⟩) rows2.length c) [(b,C t (rows2.flatten ++ (List.replicate (c - rows2.length) zs).flatten))] (.inr ⟨b,c,(List.replicate (c - rows2.length) zs).flatten,by simpa using hc,by rw[fl];simp,by simp,by simp⟩)
   simpa using this
 ·refine japh hx (E:=E) (tk:=⟨List.Perm.refl _⟩) (by rw[List.length_append,l1,hsp,← Nat.add_mul];congr 1;omega) hc l2 hf hb hl (λh=>?_) (λb' c' h=>?_)
  ·have el:lay (rows.flatten ++ sp) (rows.length * w) rows2.flatten = (rows ++ rows2).flatten ++ sp.drop (rows2.length * w):=by
    rw[lay_app (by omega),l1,Nat.sub_self];simp[lay,l2]
   rw[el]
   have:=H (.slice (some ⟨b,0,none⟩) (rows ++ rows2).length c) [(b,C t ((rows ++ rows2).flatten ++ sp.drop (rows2.length * w)))] (.inr ⟨b,c,_,by simpa using h,by rw[List.length_drop,hsp,← Nat.sub_mul,List.length_append];congr 1;omega,rfl,rfl⟩)
   simpa using this
  ·refine jperm (List.Perm.swap _ _ _) (jdrop ?_)
   have:=H (.slice (some ⟨b',0,none⟩) (rows ++ rows2).length c') [(b',C t ((rows ++ rows2).flatten ++ (List.replicate (c' - (rows.length + rows2.length)) zs).flatten))] (.inr ⟨b',c',_,by simpa using h,by rw[fl,List.length_append],rfl,rfl⟩)
   rw[List.take_append_of_le_length (by omega),List.take_of_length_le (by omega)]
   simpa using this
theorem jfw {R:RM} {A E:Chs} {t w:Nat} {rows:List (List Value)} {v:Value} {m:M} (so:SW t w rows v A) (hw:∀r∈rows,r.length = w) (H:∀R',R.le R'→Fz R' v w rows.length rows.flatten→J R' E m):J R (A ++ E) m:=by
 rcases so with ⟨rfl,rfl,rfl⟩ | ⟨b,c,sp,hc,hsp,rfl,rfl⟩
 ·exact H R (RM.le.refl _) (.inl ⟨rfl,rfl,rfl⟩)
 ·refine jfreeze (b:=b) (E:=E) (t:=⟨List.Perm.refl _⟩) λR2 hR2 hb=>?_
  exact H R2 hR2 (.inr ⟨b,0,c,t,_,rfl,hb,by rw[List.length_append,flat_len hw];omega,by rw[List.drop_zero,← flat_len hw];simp,hc⟩)
def Rw {α:Type} (p:List Value→α→Prop) (rows:List (List Value)) (l:List α):Prop:=rows.length = l.length∧∀i (h:i < rows.length) (h' : i < l.length),p rows[i] l[i]
theorem Rw.nil {α:Type} {p:List Value→α→Prop}:Rw p [] []:=⟨rfl,λi h=>absurd h (by simp)⟩
theorem Rw.app {α:Type} {p:List Value→α→Prop} {r1 r2:List (List Value)} {l1 l2:List α} (h1:Rw p r1 l1) (h2:Rw p r2 l2):Rw p (r1 ++ r2) (l1 ++ l2):=by
 refine⟨by rw[List.length_append,List.length_append,h1.1,h2.1],λi h h'=>?_⟩
 by_cases c:i < r1.length
 ·rw[List.getElem_append_left c,List.getElem_append_left (by rw[← h1.1];exact c)]
  exact h1.2 i c _
 ·rw[List.getElem_append_right (by omega),List.getElem_append_right (by rw[← h1.1];omega)]
  have e:i - l1.length = i - r1.length:=by rw[h1.1]
  rw[getElem_congr_idx e]
  rw[List.length_append] at h h'
  have:=h1.1
  exact h2.2 _ (by omega) (by omega)
theorem Rw.one {α:Type} {p:List Value→α→Prop} {r:List Value} {x:α} (h:p r x):Rw p [r] [x]:=by
 refine⟨rfl,λi h1 h2=>?_⟩
 have:i = 0:=by simp at h1;omega
 subst this;exact h
theorem Rw.mono {α:Type} {p q:List Value→α→Prop} {r:List (List Value)} {l:List α} (h:Rw p r l) (H:∀x y,p x y→q x y):Rw q r l:=⟨h.1,λi h1 h2=>H _ _ (h.2 i h1 h2)⟩
theorem Rw.all {α:Type} {p:List Value→α→Prop} {r:List (List Value)} {l:List α} (h:Rw p r l) {q:List Value→Prop} (H:∀x y,p x y→q x):∀x∈r,q x:=by
 intro x hx
 obtain⟨i,hi,rfl⟩:=List.getElem_of_mem hx
 exact H _ _ (h.2 i hi (by rw[← h.1];exact hi))
theorem flat_row {w:Nat}:∀{rows:List (List Value)} {i:Nat} (_:∀r∈rows,r.length = w) (h:i < rows.length),(rows.flatten.drop (i * w)).take w = rows[i]
 | [],i,_,h=>absurd h (by simp)
 | a :: r,0,hw,_=>by
  have:a.length = w:=hw a (by simp)
  rw[Nat.zero_mul,List.drop_zero,List.flatten_cons,List.take_append_of_le_length (by omega),List.take_of_length_le (by omega)];rfl
 | a :: r,i + 1,hw,h=>by
  have h1:a.length = w:=hw a (by simp)
  rw[List.flatten_cons,Nat.succ_mul,List.drop_append,List.drop_of_length_le (by omega),ln,h1,Nat.add_sub_cancel]
  exact flat_row (λr hr=>hw r (by simp[hr])) (by simpa using h)
theorem fz_row {R:RM} {v:Value} {w:Nat} {rows:List (List Value)} {i:Nat} (h:Fz R v w rows.length rows.flatten) (hw:∀r∈rows,r.length = w) (hi:i < rows.length) :
  ∃b o cap t cs,v = .slice (some ⟨b,o,none⟩) rows.length cap∧R b = some (C t cs)∧o + i * w + w≤cs.length∧(cs.drop (o + i * w)).take w = rows[i]:=by
 rcases h with ⟨_,h2,_⟩ | ⟨b,o,cap,t,cs,rfl,h2,h3,h4,h5⟩
 ·omega
 ·refine⟨b,o,cap,t,cs,rfl,h2,?_,?_⟩
  ·have:(i + 1) * w≤rows.length * w:=Nat.mul_le_mul_right w (by omega)
   rw[Nat.succ_mul] at this
   omega
  ·rw[← flat_row hw hi,← h4,List.drop_take,List.drop_drop,List.take_take]
   congr 1
   have:(i + 1) * w≤rows.length * w:=Nat.mul_le_mul_right w (by omega)
   rw[Nat.succ_mul] at this
   omega
def ThC (R:RM) (row:List Value) (t:Thing):Prop:=∃rv nv,row = eTh t rv nv∧Ints R rv t.refs∧Ints R nv t.nums
theorem ThC.le {R R' : RM} {row:List Value} {t:Thing} (h:R.le R') (H:ThC R row t):ThC R' row t:=by
 obtain⟨rv,nv,h1,h2,h3⟩:=H
 exact⟨rv,nv,h1,h2.le h,h3.le h⟩
theorem ThC.len {R:RM} {row:List Value} {t:Thing} (H:ThC R row t):row.length = 6:=by
 obtain⟨rv,nv,rfl,h2,h3⟩:=H;rfl
theorem ThC.flat {R:RM} {row:List Value} {t:Thing} (H:ThC R row t):allFlat row = true:=by
 obtain⟨rv,nv,rfl,h2,h3⟩:=H
 obtain⟨_,_,rfl⟩:=h2.sl
 obtain⟨_,_,rfl⟩:=h3.sl
 rfl
def Tgs (R:RM) (v:Value) (l:List Thing):Prop:=∃rows,Rw (ThC R) rows l∧Fz R v 6 rows.length rows.flatten
theorem Tgs.le {R R' : RM} {v:Value} {l:List Thing} (h:R.le R') (H:Tgs R v l):Tgs R' v l:=by
 obtain⟨rows,h1,h2⟩:=H
 exact⟨rows,h1.mono λ_ _=>ThC.le h,h2.le h⟩
theorem Tgs.sl {R:RM} {v:Value} {l:List Thing} (H:Tgs R v l):∃a c,v = .slice a l.length c:=by
 obtain⟨rows,h1,h2⟩:=H
 obtain⟨a,cap,e,-⟩:=Fz.reads (D:=[]) h2
 exact⟨a,cap,by rw[e,h1.1]⟩
theorem jln_ {R:RM} {D:Chs} {v:Value} {n:Nat} {k:Value→M} (h:∃a c,v = .slice a n c) (H:J R D (k (I n))):J R D (LN v k):=by
 obtain⟨a,c,rfl⟩:=h
 exact H
theorem jtg {R:RM} {D:Chs} {v:Value} {l:List Thing} {i:Nat} {k:Value→M} (h:Tgs R v l) (hi:i < l.length)
  (H:∀b o t cs rv nv,Ints R rv (l[i]).refs→Ints R nv (l[i]).nums→R b = some (C t cs)→o + 6≤cs.length→(cs.drop o).take 6 = eTh l[i] rv nv→J R D (k (.pointer (some ⟨b,o,none⟩)))):J R D (IA 6 v (I (i:Int)) k):=by
 obtain⟨rows,h1,h2⟩:=h
 have hi' : i < rows.length:=by rw[h1.1];exact hi
 obtain⟨b,o,cap,t,cs,rfl,hb,hl,hc⟩:=fz_row h2 (h1.all λ_ _=>ThC.len) hi'
 obtain⟨rv,nv,e,r1,r2⟩:=h1.2 i hi' hi
 refine jia (by omega) (by omega) ?_
 rw[Int.toNat_natCast]
 exact H b (o + i * 6) t cs rv nv r1 r2 hb hl (by rw[hc,e])
theorem cell_of {cs row:List Value} {o w f:Nat} {x:Value} (h:(cs.drop o).take w = row) (hf:row[f]? = some x):cs[o + f]? = some x:=by
 rw[← h,List.getElem?_take,List.getElem?_drop] at hf
 split at hf
 ·exact hf
 ·cases hf
end Go.Lf
end
section
namespace Go.Lf
open Go Sm
theorem size_rng (s:Shp):0≤shapeSize s∧shapeSize s≤10:=by
 unfold shapeSize
 split
 ·rename_i h
  unfold shapeOk at h
  simp only[z_b,z_d] at h
  omega
 ·omega
theorem thing_size {w:List Int} {a:Int} (h:(thingAt w a).2 = true):2≤shapeSize (thingAt w a).1.sh:=by
 unfold thingAt at h ⊢
 split at h
 ·rename_i h1
  rw[if_pos h1]
  dsimp only at h ⊢
  split at h
  ·rename_i h2
   rw[if_pos h2]
   simp only[z_b] at h2
   have:=shape_rng h2.1
   dsimp only
   omega
  ·exact absurd h (by decide)
 ·exact absurd h (by decide)
def QTs (r:Option (List Thing)) (v:Value) (R:RM):Prop:=match r with
 | none=>v = .tuple #[.slice none 0 0,.bool false]
 | some l=>∃tv,Tgs R tv l∧v = .tuple #[tv,.bool true]
theorem t_ThingsIn {R:RM} {wv:Value} {w:List Int} (r top:Int) (h:Ints R wv w) (hl:w.length < 1000000000000) :
  Fn P F_s_ThingsIn [wv,I r,I top] R [] (λv R' A=>A = []∧QTs (thingsIn w r top) v R'):=by
 refine s_s_ThingsIn λF=>?_
 unfold c_s_ThingsIn
 obtain⟨wa,wc,hwv⟩:=h.sl
 have eq:(w.length:Int).tdiv 16 = (w.length / 16:Nat):=by rw[Int.tdiv_eq_ediv_of_nonneg (by omega)];omega
 rw[hwv]
 have br:0≤regionBase r∧regionBase r≤176:=by unfold regionBase;split<;>omega
 refine jor [.slice wa w.length wc,I r,I top] ((!wordsOk w.length) || (decide (r < 1))) (λK' hK'=>?_) (λe c u ho he=>?_)
 ·refine jp (p_WordsOk wa w.length wc hl) (jgtf (λh1=>?_) (λh1=>?_))
  ·refine jlt (hK' _ _ _ (h1▸or2_f) (by rw[h1,Bool.false_or]))
  ·exact hK' _ _ _ (h1▸or2_t) (by rw[h1,Bool.true_or])
 simp only[List.map,lc,ln,lj,z_t] at he
 simp only[he]
 refine jor [.slice wa w.length wc,I r,I top] ((!wordsOk w.length || decide (r < 1)) || (decide (r≥(w.length:Int).tdiv 16))) (λK' hK'=>?_) (λe c u ho he=>?_)
 ·rw[ho]
  refine jgtf (λh1=>?_) (λh1=>?_)
  ·refine jln (jquo (by decide) ⟨by omega,by omega⟩ (jge (hK' _ _ _ (h1▸or2_f) (by rw[h1,Bool.false_or]))))
  ·exact hK' _ _ _ (h1▸or2_t) (by rw[h1,Bool.true_or])
 simp only[List.map,lc,ln,lj,z_t] at he
 simp only[he]
 refine jor [.slice wa w.length wc,I r,I top] ((!wordsOk w.length || decide (r < 1) || decide (r≥(w.length:Int).tdiv 16)) || (decide (top < regionBase r))) (λK' hK'=>?_) (λe c u ho he=>?_)
 ·rw[ho]
  refine jgtf (λh1=>?_) (λh1=>?_)
  ·refine jp (p_RegionBase r) (jlt (hK' _ _ _ (h1▸or2_f) (by rw[h1,Bool.false_or])))
  ·exact hK' _ _ _ (h1▸or2_t) (by rw[h1,Bool.true_or])
 simp only[List.map,lc,ln,lj,z_t] at he
 simp only[he]
 refine jor [.slice wa w.length wc,I r,I top] ((!wordsOk w.length || decide (r < 1) || decide (r≥(w.length:Int).tdiv 16) || decide (top < regionBase r)) || (decide (top > regionBase r + 16))) (λK' hK'=>?_) (λe c u ho he=>?_)
 ·rw[ho]
  refine jgtf (λh1=>?_) (λh1=>?_)
  ·refine jp (p_RegionBase r) (jadd ⟨by omega,by omega⟩ (jgr (hK' _ _ _ (h1▸or2_f) (by rw[h1,Bool.false_or]))))
  ·exact hK' _ _ _ (h1▸or2_t) (by rw[h1,Bool.true_or])
 simp only[List.map,lc,ln,lj,z_t] at he
 simp only[he]
 rw[ho]
 refine jif (λh0=>?_) (λh0=>?_)
 ·refine jret (A:=[]) (RM.le.refl R) ⟨rfl,?_⟩
  have:thingsIn w r top = none:=by
   unfold thingsIn
   rw[if_neg]
   intro hh
   simp only[Bool.or_eq_true,Bool.not_eq_true',z_d,z_b] at h0 hh
   rw[eq] at h0
   obtain⟨⟨⟨⟨g1,g2⟩,g3⟩,g4⟩,g5⟩:=hh
   rw[g1] at h0
   rcases h0 with (((h0 | h0) | h0) | h0) | h0
   ·exact absurd h0 (by decide)
   all_goals omega
  rw[this];exact rfl
 simp only[Bool.or_eq_false_iff,Bool.not_eq_false',decide_eq_false_iff_not] at h0
 rw[eq] at h0
 obtain⟨⟨⟨⟨g1,g2⟩,g3⟩,g4⟩,g5⟩:=h0
 have et:thingsIn w r top = thingsFrom w 16 (regionBase r) top:=by
  unfold thingsIn
  rw[if_pos]
  simp only[z_b,z_d]
  exact⟨⟨⟨⟨g1,by omega⟩,by omega⟩,by omega⟩,by omega⟩
 rw[← hwv]
 refine jp (p_RegionBase r) ?_
 refine jcutq (λvs R' D'=>R.le R'∧∃l tv A,thingsIn w r top = some l∧(∃rows,Rw (ThC R') rows l∧SW T_Thing 6 rows tv A)∧D' = A ++ ([] ++ F)∧vs = [tv]) (λK hK=>?_) ?_
 rotate_left
 ·rintro e R1 D1 ⟨hR,l,tv,A,hl,⟨rows,hrw,so⟩,hD,he⟩
  rw[hD];clear hD
  simp only[List.map,lc,ln,lj,z_t] at he
  simp only[he]
  refine jfw so (hrw.all λ_ _=>ThC.len) λR2 hR2 hfz=>?_
  refine jret (A:=[]) (hR.trans hR2) ⟨rfl,?_⟩
  rw[hl]
  exact⟨tv,⟨rows,hrw.mono λ_ _=>ThC.le hR2,hfz⟩,rfl⟩
 refine jcutq (λvs R' D'=>R.le R'∧∃l tv A,thingsIn w r top = some l∧(∃rows,Rw (ThC R') rows l∧SW T_Thing 6 rows tv A)∧D' = A ++ ([] ++ F)∧vs = [tv]) (λK2 hK2=>?_) ?_
 rotate_left
 ·rintro e R1 D1 ⟨hR,l,tv,A,hl,so,hD,he⟩
  rw[hD];clear hD
  simp only[List.map,lc,ln,lj,z_t] at he
  simp only[he]
  exact hK _ _ _ ⟨hR,l,tv,A,hl,so,rfl,rfl⟩
 refine jlp (λm vs R' D'=>R.le R'∧∃(a:Int) (l:List Thing) (tv:Value) (A:Chs) (rows:List (List Value)),m≤16∧regionBase r + 2 * (16 - m)≤a∧a≤top∧l.length≤16 - m∧(match thingsFrom w m a top with | none=>none | some l2=>some (l ++ l2)) = thingsIn w r top∧Rw (ThC R') rows l∧SW T_Thing 6 rows tv A∧D' = A ++ ([] ++ F)∧vs = [wv,I top,tv,I a])
  (n:=16) ⟨RM.le.refl R,regionBase r,[],.slice none 0 0,[],[],by omega,by omega,by omega,by simp,by rw[et];cases thingsFrom w 16 (regionBase r) top<;>rfl,Rw.nil,.inl ⟨rfl,rfl,rfl⟩,rfl,rfl⟩ ?_
 rintro m e R1 D1 K3 ⟨hR,a,l,tv,A,rows,hm,ha,hat,hll,hth,hrw,so,hD,he⟩ hK3
 rw[hD];clear hD
 simp only[List.map,lc,ln,lj,z_t] at he
 simp only[he]
 have h1:=h.le hR
 refine jlt (jif (λhc=>?_) (λhc=>?_))
 rotate_left
 ·have hc:=z_g hc
  refine hK2 _ _ _ ⟨hR,l,tv,A,?_,⟨rows,hrw,so⟩,rfl,rfl⟩
  rw[← hth]
  cases m<;>(unfold thingsFrom;rw[if_neg hc];simp)
 have hc:=z_f hc
 obtain⟨m,rfl⟩:∃k,m = k + 1:=⟨m - 1,by omega⟩
 unfold thingsFrom at hth
 rw[if_pos hc] at hth
 dsimp only at hth
 obtain⟨sz1,sz2⟩:=size_rng (thingAt w a).1.sh
 have tsz:=@thing_size w a
 refine jc (A:=[]) (t_ThingAt a h1 hl) ?_
 rintro _ R2 _ hR2 ⟨rfl,x,⟨rv,nv,rfl,hrv,hnv⟩,rfl⟩
 generalize thingAt w a = t at hth hrv hnv sz1 sz2 tsz ⊢
 obtain⟨t,tb⟩:=t
 dsimp only at hth hrv hnv sz1 sz2 tsz ⊢
 obtain⟨ra,rc,rfl⟩:=hrv.sl
 obtain⟨na,nc,rfl⟩:=hnv.sl
 refine jex rfl (jex rfl (ja λb=>?_))
 refine js (cs':=eTh t (.slice ra t.refs.length rc) (.slice na t.nums.length nc)) rfl rfl (by exact z_n 6) rfl ?_
 refine jor [wv,I top,tv,I a,.pointer (some ⟨b,0,none⟩)] ((!tb) || (decide (a + shapeSize t.sh > top))) (λK' hK'=>?_) (λe c u ho he=>?_)
 ·refine jgtf (λh1=>?_) (λh1=>?_)
  ·refine jfo (jla (t:=T_Thing) (cs:=eTh t (.slice ra t.refs.length rc) (.slice na t.nums.length nc)) (l:=[I t.sh.refs,I t.sh.nums]) (by exact (by decide:4≤6)) rfl (jp (p_ShapeSize t.sh) (jadd ⟨by omega,by omega⟩ (jgr (hK' _ _ _ (h1▸or2_f) (by rw[h1,Bool.false_or]))))))
  ·exact hK' _ _ _ (h1▸or2_t) (by rw[h1,Bool.true_or])
 simp only[List.map,lc,ln,lj,z_t] at he
 simp only[he]
 rw[ho]
 refine jif (λh0=>?_) (λh0=>?_)
 ·refine jret (A:=[]) (hR.trans hR2) ⟨rfl,?_⟩
  have:thingsIn w r top = none:=by
   rw[← hth,if_neg]
   intro hh
   simp only[Bool.or_eq_true,Bool.not_eq_true',z_d,z_b] at h0 hh
   rcases h0 with h0 | h0
   ·rw[h0] at hh;exact absurd hh.1 (by decide)
   ·omega
  rw[this];exact rfl
 simp only[Bool.or_eq_false_iff,Bool.not_eq_false',decide_eq_false_iff_not] at h0
 obtain⟨h2,h3⟩:=h0
 rw[if_pos (by rw[h2];simp;omega)] at hth
 have tsz:=tsz h2
 refine jla (l:=eTh t (.slice ra t.refs.length rc) (.slice na t.nums.length nc)) (by exact z_n 6) rfl ?_
 refine jbs (cs:=eTh t (.slice ra t.refs.length rc) (.slice na t.nums.length nc)) rfl rfl λb4=>?_
 refine jperm (D':=(b4,C T_Thing (eTh t (.slice ra t.refs.length rc) (.slice na t.nums.length nc))) :: ((b,C T_Thing (eTh t (.slice ra t.refs.length rc) (.slice na t.nums.length nc))) :: (A ++ ([] ++ F)))) (List.Perm.refl _) ?_
 refine jpart A (G:=(b4,C T_Thing (eTh t (.slice ra t.refs.length rc) (.slice na t.nums.length nc))) :: (b,C T_Thing (eTh t (.slice ra t.refs.length rc) (.slice na t.nums.length nc))) :: ([] ++ F)) ?_
 have hx:Reads R2 (A ++ ((b4,C T_Thing (eTh t (.slice ra t.refs.length rc) (.slice na t.nums.length nc))) :: (b,C T_Thing (eTh t (.slice ra t.refs.length rc) (.slice na t.nums.length nc))) :: ([] ++ F))) (some ⟨b4,0,none⟩) (1 * 6) [eTh t (.slice ra t.refs.length rc) (.slice na t.nums.length nc)].flatten:=Reads.held (t:=T_Thing) (cs:=eTh t (.slice ra t.refs.length rc) (.slice na t.nums.length nc)) (o:=0) (n:=1 * 6) (z_n 6)
 have hrl:=hrw.1
 refine jaw so (hrw.all λ_ _=>ThC.len) (by intro r hr;rw[List.mem_singleton.1 hr];rfl) rfl rfl rfl (by decide) (by rw[List.length_singleton];omega) hx λv' A' so'=>?_
 refine jfo (jla (t:=T_Thing) (cs:=eTh t (.slice ra t.refs.length rc) (.slice na t.nums.length nc)) (l:=[I t.sh.refs,I t.sh.nums]) (by exact (by decide:4≤6)) rfl (jp (p_ShapeSize t.sh) (jadd ⟨by omega,by omega⟩ ?_)))
 refine jpart A' (G:=[] ++ F) ?_
 refine hK3 m _ _ _ (by omega) ⟨hR.trans hR2,a + shapeSize t.sh,l ++ [t],v',A',rows ++ [eTh t (.slice ra t.refs.length rc) (.slice na t.nums.length nc)],by omega,by omega,by omega,by rw[List.length_append,List.length_singleton];omega,?_,(hrw.mono λ_ _=>ThC.le hR2).app (Rw.one ⟨_,_,rfl,hrv,hnv⟩),so',rfl,rfl⟩
 rw[← hth]
 cases thingsFrom w m (a + shapeSize t.sh) top with
 | none=>rfl
 | some l2=>simp
end Go.Lf
end
section
namespace Go.Lf
open Go Sm
def RdI (R:RM) (D:Chs) (v:Value) (l:List Int):Prop:=(∃a c,v = .slice a l.length c)∧∀(F:Chs) (i:Nat) (h:i < l.length) (k:Value→M),J R (D ++ F) (k (I l[i]))→J R (D ++ F) (IA 1 v (I (i:Int)) λx=>L1 x k)
theorem Ints.rd {R:RM} {D:Chs} {v:Value} {l:List Int} (h:Ints R v l):RdI R D v l:=
 ⟨h.sl,λF i hi k H=>jfz1 h (by omega) (by omega) (by rw[getElem_congr_idx (Int.toNat_natCast i)];exact H)⟩
theorem SO.rd {R:RM} {A E:Chs} {v:Value} {l:List Int} (h:SO l v A):RdI R (A ++ E) v l:=by
 rcases h with ⟨rfl,rfl,rfl⟩ | ⟨b,c,sp,hc,hsp,rfl,rfl⟩
 ·exact⟨⟨_,_,rfl⟩,λF i hi=>absurd hi (by simp)⟩
 ·refine⟨⟨_,_,rfl⟩,λF i hi k H=>jian hi ?_⟩
  exact jl (v:=I l[i]) (by rw[Nat.zero_add,Nat.mul_one];exact ints_get hi) H
theorem r_place {R:RM} {D:Chs} {v:Value} {l:List Int} (n:Int) (h:RdI R D v l) (hl:l.length < 1000000000000):Ro F_s_l5Place [v,I n] (I (placeOf l n)) R D:=by
 refine s_s_l5Place λF=>?_
 unfold c_s_l5Place
 obtain⟨hsl,h⟩:=h
 refine jlp (λm vs R' D'=>R' = R∧D' = D ++ F∧∃i:Nat,i≤l.length∧vs = [v,I n,I i]∧m = l.length - i∧∀k (hk:k < l.length),k < i→l[k]≠n)
  (n:=l.length) ⟨rfl,rfl,0,by omega,rfl,by omega,λk _ h=>by omega⟩ ?_
 rintro m e R1 D1 K ⟨hR1,hD,i,hi,he,hm,hall⟩ hK
 subst hR1
 rw[hD];clear hD
 simp only[List.map,lc,ln,lj,z_t] at he
 simp only[he]
 refine jln_ hsl (jlt (jif (λhc=>?_) (λhc=>?_)))
 ·have hc:i < l.length:=by have:=z_f hc;omega
  refine h F i hc _ (jeq (jif (λhq=>?_) (λhq=>?_)))
  ·refine ro_ret ?_
   have hq:=eq_of_beq hq
   have hm:n∈l:=by rw[← hq];exact List.getElem_mem hc
   unfold placeOf
   rw[if_pos hm,idx_first hc hq hall]
  ·have hq:=ne_of_beq_false hq
   refine jadd ⟨by omega,by omega⟩ ?_
   refine hK (l.length - (i + 1)) _ _ _ (by omega) ⟨rfl,rfl,i + 1,by omega,rfl,rfl,λk hk hki=>?_⟩
   by_cases c:k = i
   ·subst c;exact hq
   ·exact hall k hk (by omega)
 ·have hc:¬ i < l.length:=by have:=z_g hc;omega
  refine ro_ret ?_
  have hm:n ∉ l:=by
   intro hm
   obtain⟨k,hk,hkn⟩:=List.getElem_of_mem hm
   exact hall k hk (by omega) hkn
  unfold placeOf
  rw[if_neg hm]
theorem jas1 {R:RM} {A E G:Chs} {l:List Int} {v:Value} {x:Int} {b1 t cx:Nat} {k:Value→M} (so:SO l v A) (hl:l.length + 1 < 1000000000000)
  [s:Sp G A E] (H:∀v' A',SO (l ++ [x]) v' A'→J R (A' ++ E) (k v')):J R ((b1,C t [I x]) :: G) (AP T_int 1 8 [I 0] v (.slice (some ⟨b1,0,none⟩) 1 cx) k):=by
 have hp:((b1,C t [I x]) :: G).Perm (A ++ ((b1,C t [I x]) :: E)):=(s.p.cons _).trans List.perm_middle.symm
 refine jperm hp ?_
 have hx:Reads R (A ++ ((b1,C t [I x]) :: E)) (some ⟨b1,0,none⟩) (1 * 1) ([x].map I):=Reads.held (t:=t) (cs:=[I x]) (o:=0) (n:=1 * 1) (z_n 1)
 refine jas so rfl (by simpa using hl) hx λv' A' so'=>?_
 exact jperm List.perm_middle (jdrop (H v' A' so'))
theorem t_l6Put {R:RM} {A:Chs} {v:Value} {l:List Int} (a:Int) (so:SO l v A) (hl:l.length < 1000000):Fn P F_s_l6Put [v,I a] R A (λv' R' A'=>R' = R∧SO (putL l a) v' A'):=by
 refine s_s_l6Put λF=>?_
 unfold c_s_l6Put
 obtain⟨sa,sn,sc,hsl⟩:=so.sl
 refine jor [v,I a] ((a == 0) || (decide (placeOf l a≥0))) (λK' hK'=>?_) (λe c u ho he=>?_)
 ·refine jeq (jgtf (λh1=>?_) (λh1=>?_))
  ·refine jro (r_place a so.rd (by omega)) (jge (hK' _ _ _ (h1▸or2_f) (by rw[h1,Bool.false_or])))
  ·exact hK' _ _ _ (h1▸or2_t) (by rw[h1,Bool.true_or])
 simp only[List.map,lc,ln,lj,z_t] at he
 simp only[he]
 rw[ho]
 have hp:decide (placeOf l a≥0) = decide (a∈l):=by
  unfold placeOf
  by_cases c:a∈l
  ·rw[if_pos c,decide_eq_true c,decide_eq_true (by omega)]
  ·rw[if_neg c,decide_eq_false c,decide_eq_false (by omega)]
 rw[hp]
 refine jif (λh0=>?_) (λh0=>?_)
 ·simp only[Bool.or_eq_true,beq_iff_eq,z_d] at h0
  refine jret (A:=A) (RM.le.refl R) ?_
  unfold putL;rw[if_pos h0];exact⟨rfl,so⟩
 ·have h0:¬ (a = 0∨a∈l):=by simpa using h0
  refine jbs (cs:=[I a]) rfl rfl λb1=>?_
  refine jas1 (A:=A) so (by omega) λv' A' so'=>?_
  refine jret (A:=A') (RM.le.refl R) ?_
  unfold putL;rw[if_neg h0];exact⟨rfl,so'⟩
def fpos (l:List Thing) (a:Int):Int:=match l.findIdx? λt=>t.at_ == a with | some i=>(i:Int) | none=>-1
theorem r_l6Find {R:RM} {D:Chs} {v:Value} {l:List Thing} (a:Int) (h:Tgs R v l) (hl:l.length < 1000000000000):Ro F_s_l6Find [v,I a] (I (fpos l a)) R D:=by
 refine s_s_l6Find λF=>?_
 unfold c_s_l6Find
 refine jlp (λm vs R' D'=>R' = R∧D' = D ++ F∧∃i:Nat,i≤l.length∧vs = [v,I a,I i]∧m = l.length - i∧∀k (hk:k < l.length),k < i→(l[k]).at_≠a)
  (n:=l.length) ⟨rfl,rfl,0,by omega,rfl,by omega,λk _ h=>by omega⟩ ?_
 rintro m e R1 D1 K ⟨hR1,hD,i,hi,he,hm,hall⟩ hK
 subst hR1
 rw[hD];clear hD
 simp only[List.map,lc,ln,lj,z_t] at he
 simp only[he]
 refine jln_ h.sl (jlt (jif (λhc=>?_) (λhc=>?_)))
 ·have hc:i < l.length:=by have:=z_f hc;omega
  refine jtg h hc λb o t cs rv nv _ _ hb ho hrow=>?_
  refine jfo (jlr (v:=I (l[i]).at_) hb (cell_of hrow (f:=0) rfl) (jeq (jif (λhq=>?_) (λhq=>?_))))
  ·refine ro_ret ?_
   have hq:=eq_of_beq hq
   unfold fpos
   have:l.findIdx? (λt=>t.at_ == a) = some i:=by
    rw[List.findIdx?_eq_some_iff_getElem]
    exact⟨hc,by simpa using hq,λj hj=>by simpa using hall j (by omega) hj⟩
   rw[this]
  ·have hq:=ne_of_beq_false hq
   refine jadd ⟨by omega,by omega⟩ ?_
   refine hK (l.length - (i + 1)) _ _ _ (by omega) ⟨rfl,rfl,i + 1,by omega,rfl,rfl,λk hk hki=>?_⟩
   by_cases c:k = i
   ·subst c;exact hq
   ·exact hall k hk (by omega)
 ·have hc:¬ i < l.length:=by have:=z_g hc;omega
  refine ro_ret ?_
  have:l.findIdx? (λt=>t.at_ == a) = none:=by
   rw[List.findIdx?_eq_none_iff]
   intro x hx
   obtain⟨k,hk,rfl⟩:=List.getElem_of_mem hx
   have:=hall k hk (by omega)
   simpa using this
  unfold fpos;rw[this]
theorem fpos_of {l:List Thing} {a:Int} {t:Thing} (h:tfind l a = some t):∃(i:Nat) (hi:i < l.length),fpos l a = i∧l[i] = t:=by
 unfold tfind at h
 have h2:(l.findIdx? λt=>t.at_ == a)≠none:=by
  intro hn
  rw[List.findIdx?_eq_none_iff] at hn
  have:=List.find?_some h
  have hm:=List.mem_of_find?_eq_some h
  rw[hn t hm] at this;cases this
 cases hi:l.findIdx? (λt=>t.at_ == a) with
 | none=>exact absurd hi h2
 | some i=>
  have hi2:=hi
  rw[List.findIdx?_eq_some_iff_getElem] at hi2
  obtain⟨hlt,hp,hall⟩:=hi2
  refine⟨i,hlt,by unfold fpos;rw[hi],?_⟩
  have:l.find? (λt=>t.at_ == a) = some l[i]:=by
   rw[List.find?_eq_some_iff_getElem]
   exact⟨hp,i,hlt,rfl,λj hj=>by simpa using hall j hj⟩
  rw[this] at h
  exact (Option.some.injEq _ _).mp h
theorem r_l6Now {R:RM} {D:Chs} {v:Value} {l:List Thing} {a x:Int} (h:Tgs R v l) (hl:l.length < 1000000000000) (hx:now l a = some x):Ro F_s_l6Now [v,I a] (I x) R D:=by
 refine s_s_l6Now λF=>?_
 unfold c_s_l6Now
 unfold now at hx
 refine jeq (jif (λh0=>?_) (λh0=>?_))
 ·rw[if_pos (eq_of_beq h0)] at hx
  simp only[Option.some.injEq] at hx
  exact ro_ret (by rw[hx])
 ·rw[if_neg (ne_of_beq_false h0)] at hx
  obtain⟨t,ht,rfl⟩:=Option.map_eq_some_iff.1 hx
  obtain⟨i,hi,hp,rfl⟩:=fpos_of ht
  refine jro (r_l6Find a h hl) ?_
  rw[hp]
  refine jtg h hi λb o t cs rv nv _ _ hb ho hrow=>?_
  refine jfo (jlr (v:=I (l[i]).moved) hb (cell_of hrow (f:=1) rfl) ?_)
  exact ro_ret rfl
end Go.Lf
end
section
namespace Go.Lf
open Go Sm
def eSt (s:Sm.State) (wv tv mv thv ov pv:Value):List Value:=[wv,tv,mv,I s.phase,.bool s.stop,.bool s.full,.bool s.asked,I s.want,thv,ov,pv,I s.cycles,I s.fulls]
def Rgs (R:RM) (v:Value) (t:List Rg):Prop:=Fz R v 5 t.length (rowsE eRg t)
def Bls (R:RM) (v:Value) (l:List Bool):Prop:=Fz R v 1 l.length (l.map Value.bool)
def ThrC (R:RM) (row:List Value) (t:Th):Prop:=∃rv,row = [rv,I t.next,.bool t.busy,I t.tried]∧Ints R rv t.roots
def Ths (R:RM) (v:Value) (l:List Th):Prop:=∃rows,Rw (ThrC R) rows l∧Fz R v 4 rows.length rows.flatten
structure StC (R:RM) (s:Sm.State) (wv tv mv thv ov pv:Value):Prop where
 w:Ints R wv s.words
 t:Rgs R tv s.table
 m:Bls R mv s.marks
 th:Ths R thv s.threads
 o:Ints R ov s.old
 p:Ints R pv s.pins
theorem ThrC.le {R R' : RM} {row:List Value} {t:Th} (h:R.le R') (H:ThrC R row t):ThrC R' row t:=by
 obtain⟨rv,h1,h2⟩:=H
 exact⟨rv,h1,h2.le h⟩
theorem ThrC.len {R:RM} {row:List Value} {t:Th} (H:ThrC R row t):row.length = 4:=by obtain⟨rv,rfl,h2⟩:=H;rfl
theorem ThrC.flat {R:RM} {row:List Value} {t:Th} (H:ThrC R row t):allFlat row = true:=by
 obtain⟨rv,rfl,h2⟩:=H
 obtain⟨_,_,rfl⟩:=h2.sl
 rfl
theorem Ths.le {R R' : RM} {v:Value} {l:List Th} (h:R.le R') (H:Ths R v l):Ths R' v l:=by
 obtain⟨rows,h1,h2⟩:=H
 exact⟨rows,h1.mono λ_ _=>ThrC.le h,h2.le h⟩
theorem Ths.sl {R:RM} {v:Value} {l:List Th} (H:Ths R v l):∃a c,v = .slice a l.length c:=by
 obtain⟨rows,h1,h2⟩:=H
 obtain⟨a,cap,e,-⟩:=Fz.reads (D:=[]) h2
 exact⟨a,cap,by rw[e,h1.1]⟩
theorem Fz.sl {R:RM} {v:Value} {w n:Nat} {cells:List Value} (H:Fz R v w n cells):∃a c,v = .slice a n c:=by
 obtain⟨a,cap,e,-⟩:=Fz.reads (D:=[]) H
 exact⟨a,cap,e⟩
theorem StC.le {R R' : RM} {s:Sm.State} {wv tv mv thv ov pv:Value} (h:R.le R') (H:StC R s wv tv mv thv ov pv):StC R' s wv tv mv thv ov pv:=
 ⟨H.w.le h,Fz.le h H.t,Fz.le h H.m,H.th.le h,H.o.le h,H.p.le h⟩
theorem rg_len (t:List Rg):∀r∈t.map eRg,r.length = 5:=by
 intro r hr
 obtain⟨x,_,rfl⟩:=List.mem_map.1 hr
 rfl
theorem jrg {R:RM} {D:Chs} {v:Value} {t:List Rg} {i:Nat} {k:Value→M} (h:Rgs R v t) (hi:i < t.length)
  (H:∀b o ty cs,R b = some (C ty cs)→o + 5≤cs.length→(cs.drop o).take 5 = eRg t[i]→J R D (k (.pointer (some ⟨b,o,none⟩)))):J R D (IA 5 v (I (i:Int)) k):=by
 have h' : Fz R v 5 (t.map eRg).length (t.map eRg).flatten:=by rw[List.length_map];exact h
 obtain⟨b,o,cap,ty,cs,rfl,hb,hl,hc⟩:=fz_row h' (rg_len t) (by simpa using hi)
 refine jia (by omega) (by rw[List.length_map];omega) ?_
 rw[Int.toNat_natCast]
 exact H b (o + i * 5) ty cs hb hl (by rw[hc,List.getElem_map])
theorem jtr {R:RM} {D:Chs} {v:Value} {l:List Th} {i:Nat} {k:Value→M} (h:Ths R v l) (hi:i < l.length)
  (H:∀b o ty cs rv,Ints R rv (l[i]).roots→R b = some (C ty cs)→o + 4≤cs.length→(cs.drop o).take 4 = [rv,I (l[i]).next,.bool (l[i]).busy,I (l[i]).tried]→J R D (k (.pointer (some ⟨b,o,none⟩)))):J R D (IA 4 v (I (i:Int)) k):=by
 obtain⟨rows,h1,h2⟩:=h
 have hi' : i < rows.length:=by rw[h1.1];exact hi
 obtain⟨b,o,cap,ty,cs,rfl,hb,hl,hc⟩:=fz_row h2 (h1.all λ_ _=>ThrC.len) hi'
 obtain⟨rv,e,r1⟩:=h1.2 i hi' hi
 refine jia (by omega) (by omega) ?_
 rw[Int.toNat_natCast]
 exact H b (o + i * 4) ty cs rv r1 hb hl (by rw[hc,e])
theorem flat_all {rows:List (List Value)} (h:∀r∈rows,allFlat r = true):allFlat rows.flatten = true:=by
 unfold allFlat at h ⊢
 rw[List.all_eq_true]
 intro x hx
 obtain⟨r,hr,hx⟩:=List.mem_flatten.1 hx
 exact List.all_eq_true.1 (h r hr) x hx
theorem from_len {w:List Int}:∀{n:Nat} {a top:Int} {l:List Thing},thingsFrom w n a top = some l→l.length≤n
 | 0,a,top,l,h=>by
  unfold thingsFrom at h
  split at h
  ·cases h
  ·cases h;simp
 | n + 1,a,top,l,h=>by
  unfold thingsFrom at h
  split at h
  ·dsimp only at h
   split at h
   ·split at h
    ·rename_i l2 h2
     cases h
     have:=from_len h2
     simp;omega
    ·cases h
   ·cases h
  ·cases h;simp
theorem in_len {w:List Int} {r top:Int} {l:List Thing} (h:thingsIn w r top = some l):l.length≤16:=by
 unfold thingsIn at h
 split at h
 ·exact from_len h
 ·cases h
theorem t_l6Things {R:RM} {s:Sm.State} {wv tv mv thv ov pv:Value} (h:StC R s wv tv mv thv ov pv) (hw:s.words.length < 1000000) (ht:s.table.length < 1000000) :
  Fn P F_s_l6Things [.agg (eSt s wv tv mv thv ov pv).toArray] R [] (λv R' A=>A = []∧QTs (stThings s) v R'):=by
 refine s_s_l6Things λF=>?_
 unfold c_s_l6Things
 refine ja λb=>?_
 rw[show cl (.agg (eSt s wv tv mv thv ov pv).toArray) = eSt s wv tv mv thv ov pv from rfl]
 refine jcutq (λvs R' D'=>R.le R'∧∃l v A,stThings s = some l∧(∃rows,Rw (ThC R') rows l∧SW T_Thing 6 rows v A)∧D' = A ++ ((b,C T_State (eSt s wv tv mv thv ov pv)) :: ([] ++ F))∧vs = [v]) (λK hK=>?_) ?_
 rotate_left
 ·rintro e R1 D1 ⟨hR,l,v,A,hl,⟨rows,hrw,so⟩,hD,he⟩
  rw[hD];clear hD
  simp only[List.map,lc,ln,lj,z_t] at he
  simp only[he]
  refine jfw so (hrw.all λ_ _=>ThC.len) λR2 hR2 hfz=>?_
  refine jret (A:=[]) (hR.trans hR2) ⟨rfl,?_⟩
  rw[hl]
  exact⟨v,⟨rows,hrw.mono λ_ _=>ThC.le hR2,hfz⟩,rfl⟩
 refine jcutq (λvs R' D'=>R.le R'∧∃l v A,stThings s = some l∧(∃rows,Rw (ThC R') rows l∧SW T_Thing 6 rows v A)∧D' = A ++ ((b,C T_State (eSt s wv tv mv thv ov pv)) :: ([] ++ F))∧vs = [v]) (λK2 hK2=>?_) ?_
 rotate_left
 ·rintro e R1 D1 ⟨hR,l,v,A,hl,so,hD,he⟩
  rw[hD];clear hD
  simp only[List.map,lc,ln,lj,z_t] at he
  simp only[he]
  exact hK _ _ _ ⟨hR,l,v,A,hl,so,rfl,rfl⟩
 refine jlp (λm vs R' D'=>R.le R'∧∃(i:Nat) (l:List Thing) (v:Value) (A:Chs) (rows:List (List Value)),1≤i∧i≤s.table.length + 1∧l.length≤16 * i∧(match thingsAll s.words i (s.table.drop i) with | none=>none | some l2=>some (l ++ l2)) = stThings s∧Rw (ThC R') rows l∧SW T_Thing 6 rows v A∧D' = A ++ ((b,C T_State (eSt s wv tv mv thv ov pv)) :: ([] ++ F))∧vs = [.pointer (some ⟨b,0,none⟩),v,I i]∧m = s.table.length + 1 - i)
  (n:=s.table.length) ⟨RM.le.refl R,1,[],.slice none 0 0,[],[],by omega,by omega,by simp,by unfold stThings;rw[List.drop_one];cases thingsAll s.words 1 s.table.tail<;>rfl,Rw.nil,.inl ⟨rfl,rfl,rfl⟩,rfl,rfl,by omega⟩ ?_
 rintro m e R1 D1 K3 ⟨hR,i,l,v,A,rows,hi0,hi1,hll,hth,hrw,so,hD,he,hm⟩ hK3
 rw[hD];clear hD
 simp only[List.map,lc,ln,lj,z_t] at he
 simp only[he]
 have h1:=h.le hR
 refine jl (v:=tv) rfl (jln_ h1.t.sl (jlt (jif (λhc=>?_) (λhc=>?_))))
 rotate_left
 ·have hc:=z_g hc
  refine hK2 _ _ _ ⟨hR,l,v,A,?_,⟨rows,hrw,so⟩,rfl,rfl⟩
  rw[← hth,List.drop_eq_nil_of_le (by omega)]
  simp[thingsAll]
 have hc:i < s.table.length:=by have:=z_f hc;omega
 rw[List.drop_eq_getElem_cons hc] at hth
 unfold thingsAll at hth
 refine jl (v:=wv) rfl (jl (v:=tv) rfl (jrg h1.t hc λb2 o2 ty cs hb ho hrow=>?_))
 refine jfo (jlr (v:=I (s.table[i]).top) hb (cell_of hrow (f:=2) rfl) ?_)
 refine jc (A:=[]) (t_ThingsIn i (s.table[i]).top h1.w (by omega)) ?_
 rintro _ R2 _ hR2 ⟨rfl,hq⟩
 cases hti:thingsIn s.words i (s.table[i]).top with
 | none=>
  rw[hti] at hq hth
  subst hq
  refine jex rfl (jex rfl (jift ?_))
  refine jret (A:=[]) (hR.trans hR2) ⟨rfl,?_⟩
  rw[← hth];exact rfl
 | some l1=>
  rw[hti] at hq hth
  obtain⟨tv1,⟨rows1,hrw1,hfz1⟩,rfl⟩:=hq
  refine jnil (jex rfl (jex rfl (jiff ?_)))
  obtain⟨xa,cx,hxv,hx⟩:=Fz.reads (D:=A ++ ((b,C T_State (eSt s wv tv mv thv ov pv)) :: ([] ++ F))) hfz1
  rw[hxv]
  have hrl:=hrw.1
  have hrl1:=hrw1.1
  have hl1:=in_len hti
  refine jaw so (hrw.all λ_ _=>ThC.len) (hrw1.all λ_ _=>ThC.len) rfl (flat_all (hrw1.all λ_ _=>ThC.flat)) rfl (by decide) (by omega) hx λv' A' so'=>?_
  refine jadd ⟨by omega,by omega⟩ ?_
  refine hK3 (s.table.length + 1 - (i + 1)) _ _ _ (by omega) ⟨hR.trans hR2,i + 1,l ++ l1,v',A',rows ++ rows1,by omega,by omega,by rw[List.length_append];omega,?_,(hrw.mono λ_ _=>ThC.le hR2).app hrw1,so',rfl,rfl,rfl⟩
  rw[← hth]
  cases thingsAll s.words (i + 1) (s.table.drop (i + 1)) with
  | none=>rfl
  | some l2=>simp
theorem r_l7Held {R:RM} {D:Chs} {s:Sm.State} {wv tv mv thv ov pv:Value} (r:Int) (h:StC R s wv tv mv thv ov pv) (hp:∀a∈s.pins,regionOf a≤9223372036854775807) (hl:s.pins.length < 1000000) :
  Ro F_s_l7Held [.agg (eSt s wv tv mv thv ov pv).toArray,I r] (.bool (heldR s.pins r)) R D:=by
 refine s_s_l7Held λF=>?_
 unfold c_s_l7Held
 refine ja λb=>?_
 rw[show cl (.agg (eSt s wv tv mv thv ov pv).toArray) = eSt s wv tv mv thv ov pv from rfl]
 refine jlp (λm vs R' D'=>R' = R∧D' = (b,C T_State (eSt s wv tv mv thv ov pv)) :: (D ++ F)∧∃i:Nat,i≤s.pins.length∧vs = [I r,.pointer (some ⟨b,0,none⟩),I i]∧m = s.pins.length - i∧heldR (s.pins.drop i) r = heldR s.pins r)
  (n:=s.pins.length) ⟨rfl,rfl,0,by omega,rfl,by omega,by rw[List.drop_zero]⟩ ?_
 rintro m e R1 D1 K ⟨hR1,hD,i,hi,he,hm,hall⟩ hK
 subst hR1
 rw[hD];clear hD
 simp only[List.map,lc,ln,lj,z_t] at he
 simp only[he]
 refine jl (v:=pv) rfl (jln_ h.p.sl (jlt (jif (λhc=>?_) (λhc=>?_))))
 ·have hc:i < s.pins.length:=by have:=z_f hc;omega
  refine jl (v:=pv) rfl (jfz1 h.p (by omega) (by omega) ?_)
  rw[getElem_congr_idx (Int.toNat_natCast i)]
  rw[List.drop_eq_getElem_cons hc] at hall
  refine jp (p_RegionOf _ (hp _ (List.getElem_mem hc))) (jeq (jif (λhq=>?_) (λhq=>?_)))
  ·refine ro_ret ?_
   rw[← hall]
   unfold heldR
   rw[List.any_cons,hq,Bool.true_or]
  ·refine jadd ⟨by omega,by omega⟩ ?_
   refine hK (s.pins.length - (i + 1)) _ _ _ (by omega) ⟨rfl,rfl,i + 1,by omega,rfl,rfl,?_⟩
   rw[← hall]
   unfold heldR
   rw[List.any_cons,hq,Bool.false_or]
 ·have hc:¬ i < s.pins.length:=by have:=z_g hc;omega
  refine ro_ret ?_
  rw[← hall,List.drop_eq_nil_of_le (by omega)]
  rfl
end Go.Lf
end
section
namespace Go.Lf
open Go Sm
theorem putL_len (had:List Int) (a:Int):had.length≤(putL had a).length:=by
 unfold putL;split<;>simp
theorem nowAll_len {l:List Thing}:∀{xs acc r:List Int},nowAll l xs acc = some r→acc.length≤r.length
 | [],acc,r,h=>by cases h;exact z_n _
 | x :: xs,acc,r,h=>by
  unfold nowAll at h
  obtain⟨y,_,h⟩:=bind_some h
  have:=nowAll_len h
  have:=putL_len acc y
  omega
theorem rootsAll_len {l:List Thing}:∀{ts:List Th} {acc r:List Int},rootsAll l ts acc = some r→acc.length≤r.length
 | [],acc,r,h=>by cases h;exact z_n _
 | x :: xs,acc,r,h=>by
  unfold rootsAll at h
  obtain⟨y,h1,h⟩:=bind_some h
  have:=nowAll_len h1
  have:=rootsAll_len h
  omega
theorem fold_len:∀(ps acc:List Int),acc.length≤(ps.foldl putL acc).length
 | [],acc=>z_n _
 | p :: ps,acc=>by
  have h1:=putL_len acc p
  have h2:=fold_len ps (putL acc p)
  rw[List.foldl_cons];omega
theorem loop_len {l:List Thing}:∀{n i:Nat} {out r:List Int},reachLoop l n i out = some r→out.length≤r.length∧r.length + 1≤i + n
 | 0,i,out,r,h=>by cases h
 | n + 1,i,out,r,h=>by
  unfold reachLoop at h
  split at h
  ·rename_i hn
   cases h
   have:=List.getElem?_eq_none_iff.1 hn
   exact⟨z_n _,by omega⟩
  ·obtain⟨t,_,h⟩:=bind_some h
   obtain⟨y,h1,h⟩:=bind_some h
   have:=nowAll_len h1
   obtain⟨h2,h3⟩:=loop_len h
   exact⟨by omega,by omega⟩
theorem reached_len {s:Sm.State} {l:List Thing} {r:List Int} (h:reached s l = some r):r.length≤l.length + 1:=by
 unfold reached at h
 obtain⟨y,_,h⟩:=bind_some h
 have:=(loop_len h).2
 omega
theorem putL_if {acc:List Int} {x:Int} {R:RM} {D:Chs} {v:Value} {A:Chs} (c:((x != 0) && decide (placeOf acc x < 0)) = false) (so:SO acc v A):SO (putL acc x) v A:=by
 unfold putL
 rw[if_pos]
 ·exact so
 ·unfold placeOf at c
  by_cases h:x = 0
  ·exact .inl h
  ·by_cases hm:x∈acc
   ·exact .inr hm
   ·rw[if_neg hm] at c
    simp[h] at c
theorem putL_else {acc:List Int} {x:Int} (c:((x != 0) && decide (placeOf acc x < 0)) = true):putL acc x = acc ++ [x]:=by
 unfold putL
 rw[if_neg]
 simp only[z_b,bne_iff_ne,ne_eq,z_d] at c
 rintro (h | h)
 ·exact c.1 h
 ·unfold placeOf at c
  rw[if_pos h] at c
  omega
theorem t_l7Reached {R:RM} {s:Sm.State} {wv tv mv thv ov pv lv:Value} {l:List Thing} {live:List Int} (h:StC R s wv tv mv thv ov pv) (hlv:Tgs R lv l) (hll:l.length < 900000) (hr:reached s l = some live) (hn:s.threads.length < 1000000) (hrl:∀t∈s.threads,t.roots.length < 1000000000) (hpl:s.pins.length < 1000000) (hrf:∀t∈l,t.refs.length < 1000000000) :
  Fn P F_s_l7Reached [.agg (eSt s wv tv mv thv ov pv).toArray,lv] R [] (λv _ A=>SO live v A):=by
 refine s_s_l7Reached λF=>?_
 unfold c_s_l7Reached
 have hlen:=reached_len hr
 unfold reached at hr
 obtain⟨out0,hr0,hr1⟩:=bind_some hr
 have hl1:=(loop_len hr1).1
 have hl0:=fold_len s.pins out0
 refine ja λb=>?_
 rw[show cl (.agg (eSt s wv tv mv thv ov pv).toArray) = eSt s wv tv mv thv ov pv from rfl]
 generalize hE:((b,C T_State (eSt s wv tv mv thv ov pv)) :: ([] ++ F)) = E
 have ea:At E b (C T_State (eSt s wv tv mv thv ov pv)):=by rw[← hE];exact inferInstance
 have ef:Sf E F:=by rw[← hE];exact inferInstance
 refine jcutq (λvs R' D'=>R' = R∧∃v A,SO out0 v A∧D' = A ++ E∧vs = [lv,.pointer (some ⟨b,0,none⟩),v]) (λK hK=>?_) ?_
 ·refine jcutq (λvs R' D'=>R' = R∧∃v A,SO out0 v A∧D' = A ++ E∧vs = [lv,.pointer (some ⟨b,0,none⟩),v]) (λK2 hK2=>?_) ?_
  rotate_left
  ·rintro e R1 D1 ⟨hR,v,A,so,hD,he⟩
   rw[hD];clear hD
   simp only[List.map,lc,ln,lj,z_t] at he
   simp only[he]
   exact hK _ _ _ ⟨hR,v,A,so,rfl,rfl⟩
  refine jlp (λm vs R' D'=>R' = R∧∃(i:Nat) (acc:List Int) (v:Value) (A:Chs),i≤s.threads.length∧rootsAll l (s.threads.drop i) acc = some out0∧SO acc v A∧D' = A ++ E∧vs = [lv,.pointer (some ⟨b,0,none⟩),v,I i]∧m = s.threads.length - i)
   (n:=s.threads.length) ⟨rfl,0,[],.slice none 0 0,[],by omega,hr0,.inl ⟨rfl,rfl,rfl⟩,rfl,rfl,by omega⟩ ?_
  rintro m e R1 D1 K3 ⟨hR,i,acc,v,A,hi,hra,so,hD,he,hm⟩ hK3
  subst hR
  rw[hD];clear hD
  simp only[List.map,lc,ln,lj,z_t] at he
  simp only[he]
  refine jl (v:=thv) rfl (jln_ h.th.sl (jlt (jif (λhc=>?_) (λhc=>?_))))
  rotate_left
  ·have hc:=z_g hc
   rw[List.drop_eq_nil_of_le (by omega)] at hra
   cases hra
   exact hK2 _ _ _ ⟨rfl,v,A,so,rfl,rfl⟩
  have hc:i < s.threads.length:=by have:=z_f hc;omega
  rw[List.drop_eq_getElem_cons hc] at hra
  unfold rootsAll at hra
  obtain⟨acc1,hna,hra⟩:=bind_some hra
  have hl2:=rootsAll_len hra
  have hri:=hrl _ (List.getElem_mem hc)
  refine jcutq (λvs R' D'=>R' = R1∧∃v A,SO acc1 v A∧D' = A ++ E∧vs = [lv,.pointer (some ⟨b,0,none⟩),v,I i]) (λK4 hK4=>?_) ?_
  rotate_left
  ·rintro e R2 D2 ⟨hR,v,A,so,hD,he⟩
   subst hR
   rw[hD];clear hD
   simp only[List.map,lc,ln,lj,z_t] at he
   simp only[he]
   refine jadd ⟨by omega,by omega⟩ ?_
   exact hK3 (s.threads.length - (i + 1)) _ _ _ (by omega) ⟨rfl,i + 1,acc1,v,A,by omega,hra,so,rfl,rfl,rfl⟩
  refine jcutq (λvs R' D'=>R' = R1∧∃v A,SO acc1 v A∧D' = A ++ E∧vs = [lv,.pointer (some ⟨b,0,none⟩),v,I i]) (λK5 hK5=>?_) ?_
  rotate_left
  ·rintro e R2 D2 ⟨hR,v,A,so,hD,he⟩
   rw[hD];clear hD
   simp only[List.map,lc,ln,lj,z_t] at he
   simp only[he]
   exact hK4 _ _ _ ⟨hR,v,A,so,rfl,rfl⟩
  refine jcutq (λvs R' D'=>R' = R1∧∃v A,SO acc1 v A∧D' = A ++ E∧vs = [lv,.pointer (some ⟨b,0,none⟩),v,I i]) (λK6 hK6=>?_) ?_
  rotate_left
  ·rintro e R2 D2 ⟨hR,v,A,so,hD,he⟩
   rw[hD];clear hD
   simp only[List.map,lc,ln,lj,z_t] at he
   simp only[he]
   exact hK5 _ _ _ ⟨hR,v,A,so,rfl,rfl⟩
  refine jlp (λm vs R' D'=>R' = R1∧∃(j:Nat) (acc:List Int) (v:Value) (A:Chs),j≤(s.threads[i]).roots.length∧nowAll l ((s.threads[i]).roots.drop j) acc = some acc1∧SO acc v A∧D' = A ++ E∧vs = [lv,.pointer (some ⟨b,0,none⟩),v,I i,I j]∧m = (s.threads[i]).roots.length - j)
   (n:=(s.threads[i]).roots.length) ⟨rfl,0,acc,v,A,by omega,hna,so,rfl,rfl,by omega⟩ ?_
  clear hna so
  rintro m e R2 D2 K7 ⟨hR,j,acc,v,A,hj,hna,so,hD,he,hm⟩ hK7
  subst hR
  rw[hD];clear hD
  simp only[List.map,lc,ln,lj,z_t] at he
  simp only[he]
  have hl3:=nowAll_len hna
  refine jl (v:=thv) rfl (jtr h.th hc λb2 o2 ty cs rv hrv hb ho hrow=>?_)
  refine jfo (jlr (v:=rv) hb (cell_of hrow (f:=0) rfl) (jln_ hrv.sl (jlt (jif (λhd=>?_) (λhd=>?_)))))
  rotate_left
  ·have hd:=z_g hd
   rw[List.drop_eq_nil_of_le (by omega)] at hna
   cases hna
   exact hK6 _ _ _ ⟨rfl,v,A,so,rfl,rfl⟩
  have hd:j < (s.threads[i]).roots.length:=by have:=z_f hd;omega
  rw[List.drop_eq_getElem_cons hd] at hna
  unfold nowAll at hna
  obtain⟨x,hx,hna⟩:=bind_some hna
  refine jcutq (λvs R' D'=>R' = R2∧∃v A,SO (putL acc x) v A∧D' = A ++ E∧vs = [lv,.pointer (some ⟨b,0,none⟩),v,I i,I j]) (λK8 hK8=>?_) ?_
  rotate_left
  ·rintro e R3 D3 ⟨hR,v,A,so,hD,he⟩
   subst hR
   rw[hD];clear hD
   simp only[List.map,lc,ln,lj,z_t] at he
   simp only[he]
   refine jadd ⟨by omega,by omega⟩ ?_
   exact hK7 ((s.threads[i]).roots.length - (j + 1)) _ _ _ (by omega) ⟨rfl,j + 1,_,v,A,by omega,hna,so,rfl,rfl,rfl⟩
  refine jcutq (λvs R' D'=>R' = R2∧∃v A,SO (putL acc x) v A∧D' = A ++ E∧vs = [lv,.pointer (some ⟨b,0,none⟩),v,I i,I j]) (λK9 hK9=>?_) ?_
  rotate_left
  ·rintro e R3 D3 ⟨hR,v,A,so,hD,he⟩
   rw[hD];clear hD
   simp only[List.map,lc,ln,lj,z_t] at he
   simp only[he]
   exact hK8 _ _ _ ⟨hR,v,A,so,rfl,rfl⟩
  refine jl (v:=thv) rfl (jtr h.th hc λb2 o2 ty cs rv hrv hb ho hrow=>?_)
  refine jfo (jlr (v:=rv) hb (cell_of hrow (f:=0) rfl) (jfz1 hrv (by omega) (by omega) ?_))
  rw[getElem_congr_idx (Int.toNat_natCast j)]
  refine jro (r_l6Now hlv (by omega) hx) ?_
  obtain⟨sa,sn,sc,hsl⟩:=so.sl
  refine jan [lv,.pointer (some ⟨b,0,none⟩),v,I i,I j,I x] (((x != 0)) && (decide (placeOf acc x < 0))) (λK' hK'=>?_) (λe c u ho he=>?_)
  ·refine jne (jgtt (λh1=>?_) (λh1=>?_))
   ·refine jro (r_place x so.rd (by omega)) (jlt (hK' _ _ _ (h1▸and2_t) (by rw[h1,Bool.true_and])))
   ·exact hK' _ _ _ (h1▸and2_f) (by rw[h1,Bool.false_and])
  simp only[List.map,lc,ln,lj,z_t] at he
  simp only[he]
  rw[ho]
  refine jif (λh0=>?_) (λh0=>?_)
  ·refine jbs (cs:=[I x]) rfl rfl λb1=>?_
   refine jas1 (A:=A) so (by omega) λv' A' so'=>?_
   exact hK9 _ _ _ ⟨rfl,v',A',by rw[putL_else h0];exact so',rfl,rfl⟩
  ·exact hK9 _ _ _ ⟨rfl,v,A,putL_if (R:=R2) (D:=[]) h0 so,rfl,rfl⟩
 rintro e R1 D1 ⟨hR,v,A,so,hD,he⟩
 subst hR
 rw[hD];clear hD
 simp only[List.map,lc,ln,lj,z_t] at he
 simp only[he]
 generalize hou:s.pins.foldl putL out0 = out1 at hr1 hl1 hl0
 refine jcutq (λvs R' D'=>R' = R1∧∃v A,SO out1 v A∧D' = A ++ E∧vs = [lv,v]) (λK hK=>?_) ?_
 ·refine jcutq (λvs R' D'=>R' = R1∧∃v A,SO out1 v A∧D' = A ++ E∧vs = [lv,v]) (λK2 hK2=>?_) ?_
  rotate_left
  ·rintro e R1 D1 ⟨hR,v,A,so,hD,he⟩
   rw[hD];clear hD
   simp only[List.map,lc,ln,lj,z_t] at he
   simp only[he]
   exact hK _ _ _ ⟨hR,v,A,so,rfl,rfl⟩
  refine jlp (λm vs R' D'=>R' = R1∧∃(i:Nat) (acc:List Int) (v:Value) (A:Chs),i≤s.pins.length∧(s.pins.drop i).foldl putL acc = out1∧SO acc v A∧D' = A ++ E∧vs = [lv,.pointer (some ⟨b,0,none⟩),v,I i]∧m = s.pins.length - i)
   (n:=s.pins.length) ⟨rfl,0,out0,v,A,by omega,hou,so,rfl,rfl,by omega⟩ ?_
  rintro m e R1 D1 K3 ⟨hR,i,acc,v,A,hi,hra,so,hD,he,hm⟩ hK3
  subst hR
  rw[hD];clear hD
  simp only[List.map,lc,ln,lj,z_t] at he
  simp only[he]
  refine jl (v:=pv) rfl (jln_ h.p.sl (jlt (jif (λhc=>?_) (λhc=>?_))))
  rotate_left
  ·have hc:=z_g hc
   rw[List.drop_eq_nil_of_le (by omega),List.foldl_nil] at hra
   subst hra
   exact hK2 _ _ _ ⟨rfl,v,A,so,rfl,rfl⟩
  have hc:i < s.pins.length:=by have:=z_f hc;omega
  rw[List.drop_eq_getElem_cons hc,List.foldl_cons] at hra
  have hl2:=fold_len (s.pins.drop (i + 1)) (putL acc s.pins[i])
  have hl3:=putL_len acc s.pins[i]
  rw[hra] at hl2
  refine jl (v:=pv) rfl (jfz1 h.p (by omega) (by omega) ?_)
  rw[getElem_congr_idx (Int.toNat_natCast i)]
  refine jc (A:=A) (t_l6Put _ so (by omega)) ?_
  rintro v' R2 A' hR2 ⟨hRR,so'⟩
  subst hRR
  refine jadd ⟨by omega,by omega⟩ ?_
  exact hK3 (s.pins.length - (i + 1)) _ _ _ (by omega) ⟨rfl,i + 1,_,v',A',by omega,hra,so',rfl,rfl,rfl⟩
 clear so hr0
 rintro e R2 D2 ⟨hR,v,A,so,hD,he⟩
 subst hR
 rw[hD];clear hD
 simp only[List.map,lc,ln,lj,z_t] at he
 simp only[he]
 refine jcutq (λvs R' D'=>R' = R2∧∃v A,SO live v A∧D' = A ++ E∧vs = [v]) (λK hK=>?_) ?_
 rotate_left
 ·rintro e R3 D3 ⟨hR,v,A,so,hD,he⟩
  subst hR
  rw[hD];clear hD
  simp only[List.map,lc,ln,lj,z_t] at he
  simp only[he]
  exact jret (A:=A) (RM.le.refl R3) so
 refine jcutq (λvs R' D'=>R' = R2∧∃v A,SO live v A∧D' = A ++ E∧vs = [v]) (λK2 hK2=>?_) ?_
 rotate_left
 ·rintro e R3 D3 ⟨hR,v,A,so,hD,he⟩
  rw[hD];clear hD
  simp only[List.map,lc,ln,lj,z_t] at he
  simp only[he]
  exact hK _ _ _ ⟨hR,v,A,so,rfl,rfl⟩
 refine jlp (λm vs R' D'=>R' = R2∧∃(k:Nat) (acc:List Int) (v:Value) (A:Chs),reachLoop l m k acc = some live∧SO acc v A∧D' = A ++ E∧vs = [lv,v,I k])
  (n:=l.length + 2) ⟨rfl,0,out1,v,A,hr1,so,rfl,rfl⟩ ?_
 clear so
 rintro m e R3 D3 K3 ⟨hR,i,acc,v,A,hra,so,hD,he⟩ hK3
 subst hR
 rw[hD];clear hD
 simp only[List.map,lc,ln,lj,z_t] at he
 simp only[he]
 obtain⟨hl2,hl3⟩:=loop_len hra
 obtain⟨m,rfl⟩:∃k,m = k + 1:=by
  cases m with
  | zero=>cases hra
  | succ m=>exact⟨m,rfl⟩
 unfold reachLoop at hra
 obtain⟨hsl,hrd⟩:=so.rd (R:=R3) (E:=E)
 refine jln_ hsl (jlt (jif (λhc=>?_) (λhc=>?_)))
 rotate_left
 ·have hc:=z_g hc
  rw[List.getElem?_eq_none (by omega)] at hra
  cases hra
  exact hK2 _ _ _ ⟨rfl,v,A,so,rfl,rfl⟩
 have hc:i < acc.length:=by have:=z_f hc;omega
 rw[List.getElem?_eq_getElem hc] at hra
 obtain⟨t,ht,hra⟩:=bind_some hra
 obtain⟨acc1,hna,hra⟩:=bind_some hra
 have hl4:=(loop_len hra).1
 refine jcutq (λvs R' D'=>R' = R3∧∃v A,SO acc1 v A∧D' = A ++ E∧vs = [lv,v,I i]) (λK4 hK4=>?_) ?_
 rotate_left
 ·rintro e R2 D2 ⟨hR,v,A,so,hD,he⟩
  subst hR
  rw[hD];clear hD
  simp only[List.map,lc,ln,lj,z_t] at he
  simp only[he]
  refine jadd ⟨by omega,by omega⟩ ?_
  exact hK3 m _ _ _ (by omega) ⟨rfl,i + 1,acc1,v,A,hra,so,rfl,rfl⟩
 refine jcutq (λvs R' D'=>R' = R3∧∃v A,SO acc1 v A∧D' = A ++ E∧vs = [lv,v,I i]) (λK5 hK5=>?_) ?_
 rotate_left
 ·rintro e R2 D2 ⟨hR,v,A,so,hD,he⟩
  rw[hD];clear hD
  simp only[List.map,lc,ln,lj,z_t] at he
  simp only[he]
  exact hK4 _ _ _ ⟨hR,v,A,so,rfl,rfl⟩
 refine jperm (D':=(A ++ E) ++ []) (by rw[List.append_nil]) (hrd [] i hc _ ?_)
 rw[List.append_nil]
 obtain⟨n,hn2,hp,rfl⟩:=fpos_of ht
 refine jro (r_l6Find _ hlv (by omega)) ?_
 rw[hp]
 refine jtg hlv hn2 λb2 o2 ty cs rv nv hrv hnv hb ho hrow=>?_
 have hrfn:=hrf _ (List.getElem_mem hn2)
 obtain⟨ra,rc,rfl⟩:=hrv.sl
 obtain⟨na,nc,rfl⟩:=hnv.sl
 refine jlar hb ho hrow ?_
 refine ja λb3=>?_
 refine js (cs':=eTh l[n] (.slice ra l[n].refs.length rc) (.slice na l[n].nums.length nc)) rfl rfl (by exact z_n 6) rfl ?_
 refine jperm List.perm_middle.symm ?_
 refine jcutq (λvs R' D'=>R' = R3∧∃v A,SO acc1 v A∧D' = A ++ E∧vs = [lv,v,I i]) (λK6 hK6=>?_) ?_
 rotate_left
 ·rintro e R2 D2 ⟨hR,v,A,so,hD,he⟩
  rw[hD];clear hD
  simp only[List.map,lc,ln,lj,z_t] at he
  simp only[he]
  exact hK5 _ _ _ ⟨hR,v,A,so,rfl,rfl⟩
 refine jlp (λm vs R' D'=>R' = R3∧∃(j:Nat) (acc:List Int) (v:Value) (A:Chs),j≤(l[n]).refs.length∧nowAll l ((l[n]).refs.drop j) acc = some acc1∧SO acc v A∧D' = A ++ ((b3,C T_Thing (eTh l[n] (.slice ra l[n].refs.length rc) (.slice na l[n].nums.length nc))) :: E)∧vs = [lv,v,I i,.pointer (some ⟨b3,0,none⟩),I j]∧m = (l[n]).refs.length - j)
  (n:=(l[n]).refs.length) ⟨rfl,0,acc,v,A,by omega,hna,so,rfl,rfl,by omega⟩ ?_
 clear hna so hrd
 rintro m2 e R2 D2 K7 ⟨hR,j,acc,v,A,hj,hna,so,hD,he,hm⟩ hK7
 subst hR
 rw[hD];clear hD
 simp only[List.map,lc,ln,lj,z_t] at he
 simp only[he]
 have hl5:=nowAll_len hna
 refine jl (v:=.slice ra l[n].refs.length rc) rfl (jln (jlt (jif (λhd=>?_) (λhd=>?_))))
 rotate_left
 ·have hd:=z_g hd
  rw[List.drop_eq_nil_of_le (by omega)] at hna
  cases hna
  refine jpart A (G:=E) ?_
  exact hK6 _ _ _ ⟨rfl,v,A,so,rfl,rfl⟩
 have hd:j < (l[n]).refs.length:=by have:=z_f hd;omega
 rw[List.drop_eq_getElem_cons hd] at hna
 unfold nowAll at hna
 obtain⟨x,hx,hna⟩:=bind_some hna
 refine jcutq (λvs R' D'=>R' = R2∧∃v A,SO (putL acc x) v A∧D' = A ++ ((b3,C T_Thing (eTh l[n] (.slice ra l[n].refs.length rc) (.slice na l[n].nums.length nc))) :: E)∧vs = [lv,v,I i,.pointer (some ⟨b3,0,none⟩),I j]) (λK8 hK8=>?_) ?_
 rotate_left
 ·rintro e R3 D3 ⟨hR,v,A,so,hD,he⟩
  subst hR
  rw[hD];clear hD
  simp only[List.map,lc,ln,lj,z_t] at he
  simp only[he]
  refine jadd ⟨by omega,by omega⟩ ?_
  exact hK7 ((l[n]).refs.length - (j + 1)) _ _ _ (by omega) ⟨rfl,j + 1,_,v,A,by omega,hna,so,rfl,rfl,rfl⟩
 refine jcutq (λvs R' D'=>R' = R2∧∃v A,SO (putL acc x) v A∧D' = A ++ ((b3,C T_Thing (eTh l[n] (.slice ra l[n].refs.length rc) (.slice na l[n].nums.length nc))) :: E)∧vs = [lv,v,I i,.pointer (some ⟨b3,0,none⟩),I j]) (λK9 hK9=>?_) ?_
 rotate_left
 ·rintro e R3 D3 ⟨hR,v,A,so,hD,he⟩
  rw[hD];clear hD
  simp only[List.map,lc,ln,lj,z_t] at he
  simp only[he]
  exact hK8 _ _ _ ⟨hR,v,A,so,rfl,rfl⟩
 refine jl (v:=.slice ra l[n].refs.length rc) rfl (jfz1 hrv (by omega) (by omega) ?_)
 rw[getElem_congr_idx (Int.toNat_natCast j)]
 refine jro (r_l6Now hlv (by omega) hx) ?_
 obtain⟨sa,sn,sc,hsl⟩:=so.sl
 refine jan [lv,v,I i,.pointer (some ⟨b3,0,none⟩),I j,I x] (((x != 0)) && (decide (placeOf acc x < 0))) (λK' hK'=>?_) (λe c u ho he=>?_)
 ·refine jne (jgtt (λh1=>?_) (λh1=>?_))
  ·refine jro (r_place x so.rd (by omega)) (jlt (hK' _ _ _ (h1▸and2_t) (by rw[h1,Bool.true_and])))
  ·exact hK' _ _ _ (h1▸and2_f) (by rw[h1,Bool.false_and])
 simp only[List.map,lc,ln,lj,z_t] at he
 simp only[he]
 rw[ho]
 refine jif (λh0=>?_) (λh0=>?_)
 ·refine jbs (cs:=[I x]) rfl rfl λb1=>?_
  refine jas1 (A:=A) so (by omega) λv' A' so'=>?_
  exact hK9 _ _ _ ⟨rfl,v',A',by rw[putL_else h0];exact so',rfl,rfl⟩
 ·exact hK9 _ _ _ ⟨rfl,v,A,putL_if (R:=R2) (D:=[]) h0 so,rfl,rfl⟩
end Go.Lf
end
section
namespace Go.Lf
open Go Sm
theorem jss1 {R:RM} {A E:Chs} {l:List Int} {v:Value} {x:Int} {i:Nat} {m:M} (so:SO l v A) (hi:i < l.length) (H:∀A',SO (l.set i x) v A'→J R (A' ++ E) m):J R (A ++ E) (IA 1 v (I (i:Int)) λq=>ST 1 q (I x) m):=by
 rcases so with ⟨rfl,_,_⟩ | ⟨b,c,sp,hc,hsp,rfl,rfl⟩
 ·exact absurd hi (by simp)
 ·refine jian hi (jsi (l:=l) (sp:=sp) (D':=[(b,C T_int ((l.set i x).map I ++ sp))] ++ E) (by exact hi) ?_)
  exact H _ (.inr ⟨b,c,sp,by simpa using hc,by simpa using hsp,by rw[List.length_set],rfl⟩)
theorem insL_len (l:List Int) (x:Int):(insL l x).length = l.length + 1:=by
 unfold insL
 have:∀k,insPos l x k≤k:=by
  intro k;induction k with
  | zero=>exact z_n 0
  | succ k ih=>unfold insPos;split<;>omega
 have:=this l.length
 simp only[List.length_append,List.length_take,List.length_cons,List.length_drop]
 omega
theorem sorted_len:∀(l acc:List Int),(l.foldl insL acc).length = acc.length + l.length
 | [],acc=>by simp
 | a :: r,acc=>by rw[List.foldl_cons,sorted_len r,insL_len];simp;omega
theorem t_l7Sorted {R:RM} {v:Value} {l:List Int} (h:Ints R v l) (hl:l.length < 1000000):Fn P F_s_l7Sorted [v] R [] (λv' R' A=>R' = R∧SO (sorted l) v' A):=by
 refine s_s_l7Sorted λF=>?_
 unfold c_s_l7Sorted
 refine jcutq (λvs R' D'=>R' = R∧∃v' A,SO (sorted l) v' A∧D' = A ++ F∧vs = [v']) (λK hK=>?_) ?_
 rotate_left
 ·rintro e R3 D3 ⟨hR,v',A,so,hD,he⟩
  subst hR
  rw[hD];clear hD
  simp only[List.map,lc,ln,lj,z_t] at he
  simp only[he]
  exact jret (A:=A) (RM.le.refl R3) ⟨rfl,so⟩
 refine jcutq (λvs R' D'=>R' = R∧∃v' A,SO (sorted l) v' A∧D' = A ++ F∧vs = [v']) (λK2 hK2=>?_) ?_
 rotate_left
 ·rintro e R3 D3 ⟨hR,v',A,so,hD,he⟩
  rw[hD];clear hD
  simp only[List.map,lc,ln,lj,z_t] at he
  simp only[he]
  exact hK _ _ _ ⟨hR,v',A,so,rfl,rfl⟩
 refine jlp (λm vs R' D'=>R' = R∧∃(k:Nat) (acc:List Int) (v' : Value) (A:Chs),k≤l.length∧acc.length = k∧(l.drop k).foldl insL acc = sorted l∧SO acc v' A∧D' = A ++ F∧vs = [v,v',I k]∧m = l.length - k)
  (n:=l.length) ⟨rfl,0,[],.slice none 0 0,[],by omega,rfl,rfl,.inl ⟨rfl,rfl,rfl⟩,rfl,rfl,by omega⟩ ?_
 rintro m e R1 D1 K3 ⟨hR,k,acc,v',A,hk,hal,hra,so,hD,he,hm⟩ hK3
 subst hR
 rw[hD];clear hD
 simp only[List.map,lc,ln,lj,z_t] at he
 simp only[he]
 refine jln_ h.sl (jlt (jif (λhc=>?_) (λhc=>?_)))
 rotate_left
 ·have hc:=z_g hc
  rw[List.drop_eq_nil_of_le (by omega),List.foldl_nil] at hra
  subst hra
  exact hK2 _ _ _ ⟨rfl,v',A,so,rfl,rfl⟩
 have hc:k < l.length:=by have:=z_f hc;omega
 rw[List.drop_eq_getElem_cons hc,List.foldl_cons] at hra
 refine jcutq (λvs R' D'=>R' = R1∧∃v' A,SO (insL acc l[k]) v' A∧D' = A ++ F∧vs = [v,v',I k]) (λK4 hK4=>?_) ?_
 rotate_left
 ·rintro e R2 D2 ⟨hR,v',A,so,hD,he⟩
  subst hR
  rw[hD];clear hD
  simp only[List.map,lc,ln,lj,z_t] at he
  simp only[he]
  refine jadd ⟨by omega,by omega⟩ ?_
  exact hK3 (l.length - (k + 1)) _ _ _ (by omega) ⟨rfl,k + 1,_,v',A,by omega,by rw[insL_len,hal],hra,so,rfl,rfl,rfl⟩
 refine jcutq (λvs R' D'=>R' = R1∧∃v' A,SO (insL acc l[k]) v' A∧D' = A ++ F∧vs = [v,v',I k]) (λK5 hK5=>?_) ?_
 rotate_left
 ·rintro e R2 D2 ⟨hR,v',A,so,hD,he⟩
  rw[hD];clear hD
  simp only[List.map,lc,ln,lj,z_t] at he
  simp only[he]
  exact hK4 _ _ _ ⟨hR,v',A,so,rfl,rfl⟩
 obtain⟨hsl,-⟩:=so.rd (R:=R1) (E:=F)
 refine jln_ hsl (jfz1 h (by omega) (by omega) ?_)
 rw[getElem_congr_idx (Int.toNat_natCast k)]
 generalize l[k] = x at hK5
 refine jbs (cs:=[I x]) rfl rfl λb1=>?_
 refine jas1 (A:=A) so (by omega) λv2 A2 so2=>?_
 refine jcutq (λvs R' D'=>R' = R1∧∃v' A,SO (insL acc x) v' A∧D' = A ++ F∧vs = [v,v',I k]) (λK6 hK6=>?_) ?_
 rotate_left
 ·rintro e R2 D2 ⟨hR,v',A,so,hD,he⟩
  rw[hD];clear hD
  simp only[List.map,lc,ln,lj,z_t] at he
  simp only[he]
  exact hK5 _ _ _ ⟨hR,v',A,so,rfl,rfl⟩
 refine jlp (λm vs R' D'=>R' = R1∧∃(i:Nat) (cur:List Int) (A:Chs),i≤acc.length∧cur = acc.take i ++ x :: acc.drop i∧insPos acc x i = insPos acc x acc.length∧SO cur v2 A∧D' = A ++ F∧vs = [v,v2,I k,I i]∧m = i)
  (n:=acc.length) ⟨rfl,acc.length,acc ++ [x],A2,by omega,by simp,rfl,so2,rfl,rfl,rfl⟩ ?_
 clear so so2
 rintro m2 e R2 D2 K7 ⟨hR,i,cur,A,hi,hcur,hip,so,hD,he,hm⟩ hK7
 subst hR
 rw[hD];clear hD
 simp only[List.map,lc,ln,lj,z_t] at he
 simp only[he]
 have hcl:cur.length = acc.length + 1:=by rw[hcur];simp;omega
 obtain⟨-,hrd⟩:=so.rd (R:=R2) (E:=F)
 have hrd' : ∀(i:Nat) (h:i < cur.length) (k:Value→M),J R2 (A ++ F) (k (I cur[i]))→J R2 (A ++ F) (IA 1 v2 (I (i:Int)) λx=>L1 x k):=λi h k H=>by
  have:=hrd [] i h k (by rw[List.append_nil];exact H)
  rw[List.append_nil] at this;exact this
 have gi:cur[i]'(by omega) = x:=by
  subst hcur
  rw[List.getElem_append_right (by simp;omega)]
  simp[Nat.min_eq_left hi]
 cases i with
 | zero=>
  refine jcut (jgr ?_)
  rw[decide_eq_false (by decide)]
  refine jft (jend λe he=>?_)
  simp only[List.map,lc,ln,lj,z_t] at he
  simp only[he]
  refine jpkf (jiff ?_)
  refine hK6 _ _ _ ⟨rfl,v2,A,?_,rfl,rfl⟩
  have:insL acc x = cur:=by
   unfold insL
   rw[← hip,hcur];rfl
  rw[this];exact so
 | succ i=>
  have gp:cur[i]'(by omega) = acc[i]'(by omega):=by
   subst hcur
   rw[List.getElem_append_left (by simp;omega),List.getElem_take]
  obtain⟨y,hy⟩:∃y,acc[i]'(by omega) = y:=⟨_,rfl⟩
  rw[hy] at gp
  have es:((i + 1:Nat):Int) - 1 = (i:Nat):=by omega
  have hip2:(if x < acc.getD i 0 then insPos acc x i else i + 1) = insPos acc x acc.length:=hip
  rw[List.getD_eq_getElem?_getD,List.getElem?_eq_getElem (by omega),Option.getD_some,hy] at hip2
  refine jcut (jgr ?_)
  rw[decide_eq_true (by omega)]
  refine jtt (jsub ⟨by omega,by omega⟩ ?_)
  rw[es]
  refine hrd' i (by omega) _ (hrd' (i + 1) (by omega) _ (jgr (jend λe he=>?_)))
  simp only[List.map,lc,ln,lj,z_t] at he
  simp only[he]
  rw[gp,gi]
  refine jpkt (jif (λh1=>?_) (λh1=>?_))
  ·have h1:x < y:=z_f h1
   rw[if_pos h1] at hip2
   refine jsub ⟨by omega,by omega⟩ ?_
   rw[es]
   refine hrd' i (by omega) _ (jsub ⟨by omega,by omega⟩ ?_)
   rw[es]
   refine hrd' (i + 1) (by omega) _ ?_
   refine jss1 so (by omega) λA3 so3=>?_
   refine jss1 so3 (by rw[List.length_set];omega) λA4 so4=>?_
   refine jsub ⟨by omega,by omega⟩ ?_
   rw[es]
   rw[gp,gi] at so4
   refine hK7 i _ _ _ (by omega) ⟨rfl,i,_,A4,by omega,?_,hip2,so4,rfl,rfl,rfl⟩
   have e1:acc.take (i + 1) = acc.take i ++ [y]:=by rw[List.take_succ_eq_append_getElem (by omega),hy]
   have e2:acc.drop i = y :: acc.drop (i + 1):=by rw[List.drop_eq_getElem_cons (by omega),hy]
   have l1:(acc.take i).length = i:=by simp;omega
   rw[hcur,e1,e2,List.append_assoc,List.set_append_right _ _ (by omega),List.set_append_right _ _ (by omega),l1]
   simp
  ·have h1:¬ x < y:=z_g h1
   rw[if_neg h1] at hip2
   refine hK6 _ _ _ ⟨rfl,v2,A,?_,rfl,rfl⟩
   have:insL acc x = cur:=by
    unfold insL
    rw[← hip2,hcur]
   rw[this];exact so
end Go.Lf
end
section
namespace Go.Lf
open Go Sm
def TB (l:List Thing):Prop:=∀t∈l,0≤t.at_∧t.at_ < 1000000∧t.refs.length≤4∧t.nums.length≤4
theorem at_tb {w:List Int} {a:Int} (hl:w.length < 1000000) (h:(thingAt w a).2 = true):0≤(thingAt w a).1.at_∧(thingAt w a).1.at_ < 1000000∧(thingAt w a).1.refs.length≤4∧(thingAt w a).1.nums.length≤4:=by
 unfold thingAt at h ⊢
 split at h
 ·rename_i h1
  rw[if_pos h1]
  dsimp only at h ⊢
  split at h
  ·rename_i h2
   rw[if_pos h2]
   simp only[z_b] at h2
   have:=shape_rng h2.1
   have:=fits_in h1
   dsimp only
   refine⟨by omega,by omega,?_,?_⟩
   ·unfold seg;rw[List.length_take];omega
   ·unfold seg;rw[List.length_take];omega
  ·exact absurd h (by decide)
 ·exact absurd h (by decide)
theorem from_tb {w:List Int} (hl:w.length < 1000000):∀{n:Nat} {a top:Int} {l:List Thing},thingsFrom w n a top = some l→TB l
 | 0,a,top,l,h=>by
  unfold thingsFrom at h
  split at h
  ·cases h
  ·cases h;intro t ht;cases ht
 | n + 1,a,top,l,h=>by
  unfold thingsFrom at h
  split at h
  ·dsimp only at h
   split at h
   ·rename_i hc
    simp only[z_b] at hc
    split at h
    ·rename_i l2 h2
     cases h
     intro t ht
     rcases List.mem_cons.1 ht with rfl | ht
     ·exact at_tb hl hc.1
     ·exact from_tb hl h2 t ht
    ·cases h
   ·cases h
  ·cases h;intro t ht;cases ht
theorem all_tb {w:List Int} (hl:w.length < 1000000):∀{t:List Rg} {r:Nat} {l:List Thing},thingsAll w r t = some l→TB l∧l.length≤16 * t.length
 | [],r,l,h=>by
  cases h;exact⟨λt ht=>(by cases ht),by simp⟩
 | x :: t,r,l,h=>by
  unfold thingsAll at h
  split at h
  ·cases h
  ·rename_i a ha
   split at h
   ·cases h
   ·rename_i b hb
    cases h
    obtain⟨h1,h2⟩:=all_tb hl hb
    have h3:=in_len ha
    have h4:TB a:=by
     unfold thingsIn at ha
     split at ha
     ·exact from_tb hl ha
     ·cases ha
    refine⟨λt ht=>?_,by rw[List.length_append,List.length_cons];omega⟩
    rcases List.mem_append.1 ht with ht | ht
    ·exact h4 t ht
    ·exact h1 t ht
theorem wr_some {w w' : List Int} {a v:Int} (h:Sm.wr w a v = some w'):0≤a∧a < w.length∧w' = w.set a.toNat v:=by
 unfold Sm.wr at h
 split at h
 ·rename_i hc
  cases h;exact⟨hc.1,hc.2,rfl⟩
 ·cases h
theorem t_l7Stay {R:RM} {s:Sm.State} {wv tv mv thv ov pv lv:Value} {l:List Thing} {w w' : List Int} {t t' : List Rg} {wsp tsp:List Value} {bw cw bt ct:Nat} (h:StC R s wv tv mv thv ov pv) (hlv:Tgs R lv l) (htb:TB l) (hll:l.length < 1000000)
  (hp:∀a∈s.pins,regionOf a≤9223372036854775807) (hpl:s.pins.length < 1000000) (hS:stay s l w t = some (w',t')) :
  Fn P F_s_l7Stay [.agg (eSt s wv tv mv thv ov pv).toArray,lv,.slice (some ⟨bw,0,none⟩) w.length cw,.slice (some ⟨bt,0,none⟩) t.length ct] R
   [(bw,C T_int (w.map I ++ wsp)),(bt,C T_Region (rowsE eRg t ++ tsp))] (λ_ R' A=>R' = R∧w'.length = w.length∧t'.length = t.length∧A = [(bw,C T_int (w'.map I ++ wsp)),(bt,C T_Region (rowsE eRg t' ++ tsp))]):=by
 refine s_s_l7Stay λF=>?_
 unfold c_s_l7Stay
 refine ja λb=>?_
 rw[show cl (.agg (eSt s wv tv mv thv ov pv).toArray) = eSt s wv tv mv thv ov pv from rfl]
 refine jlp (λm vs R' D'=>R' = R∧∃(i:Nat) (w1:List Int) (t1:List Rg),i≤l.length∧w1.length = w.length∧t1.length = t.length∧stay s (l.drop i) w1 t1 = some (w',t')∧D' = (b,C T_State (eSt s wv tv mv thv ov pv)) :: (bw,C T_int (w1.map I ++ wsp)) :: (bt,C T_Region (rowsE eRg t1 ++ tsp)) :: F∧vs = [lv,.slice (some ⟨bw,0,none⟩) w.length cw,.slice (some ⟨bt,0,none⟩) t.length ct,.pointer (some ⟨b,0,none⟩),I i]∧m = l.length - i)
  (n:=l.length) ⟨rfl,0,w,t,by omega,rfl,rfl,hS,rfl,rfl,by omega⟩ ?_
 clear hS
 rintro m e R1 D1 K ⟨hR,i,w1,t1,hi,hwl,htl,hS,hD,he,hm⟩ hK
 subst hR
 rw[hD];clear hD
 simp only[List.map,lc,ln,lj,z_t] at he
 simp only[he]
 refine jln_ hlv.sl (jlt (jif (λhc=>?_) (λhc=>?_)))
 rotate_left
 ·have hc:=z_g hc
  rw[List.drop_eq_nil_of_le (by omega)] at hS
  cases hS
  refine jret (A:=[(bw,C T_int (w'.map I ++ wsp)),(bt,C T_Region (rowsE eRg t' ++ tsp))]) (RM.le.refl R1) ⟨rfl,hwl,htl,rfl⟩
 have hc:i < l.length:=by have:=z_f hc;omega
 rw[List.drop_eq_getElem_cons hc] at hS
 obtain⟨a0,a1,r1,n1⟩:=htb _ (List.getElem_mem hc)
 unfold stay at hS
 dsimp only at hS
 have hreg:regionOf (l[i]).at_≤9223372036854775807:=by unfold regionOf;split<;>omega
 refine jcutq (λvs R' D'=>R' = R1∧∃(w2:List Int) (t2:List Rg),w2.length = w.length∧t2.length = t.length∧stay s (l.drop (i + 1)) w2 t2 = some (w',t')∧D' = (b,C T_State (eSt s wv tv mv thv ov pv)) :: (bw,C T_int (w2.map I ++ wsp)) :: (bt,C T_Region (rowsE eRg t2 ++ tsp)) :: F∧vs = [lv,.slice (some ⟨bw,0,none⟩) w.length cw,.slice (some ⟨bt,0,none⟩) t.length ct,.pointer (some ⟨b,0,none⟩),I i]) (λK4 hK4=>?_) ?_
 rotate_left
 ·rintro e R2 D2 ⟨hR,w2,t2,hwl2,htl2,hS2,hD,he⟩
  subst hR
  rw[hD];clear hD
  simp only[List.map,lc,ln,lj,z_t] at he
  simp only[he]
  refine jadd ⟨by omega,by omega⟩ ?_
  exact hK (l.length - (i + 1)) _ _ _ (by omega) ⟨rfl,i + 1,w2,t2,by omega,hwl2,htl2,hS2,rfl,rfl,rfl⟩
 refine jcutq (λvs R' D'=>R' = R1∧∃(w2:List Int) (t2:List Rg),w2.length = w.length∧t2.length = t.length∧stay s (l.drop (i + 1)) w2 t2 = some (w',t')∧D' = (b,C T_State (eSt s wv tv mv thv ov pv)) :: (bw,C T_int (w2.map I ++ wsp)) :: (bt,C T_Region (rowsE eRg t2 ++ tsp)) :: F∧vs = [lv,.slice (some ⟨bw,0,none⟩) w.length cw,.slice (some ⟨bt,0,none⟩) t.length ct,.pointer (some ⟨b,0,none⟩),I i]) (λK5 hK5=>?_) ?_
 rotate_left
 ·rintro e R2 D2 ⟨hR,w2,t2,hwl2,htl2,hS2,hD,he⟩
  rw[hD];clear hD
  simp only[List.map,lc,ln,lj,z_t] at he
  simp only[he]
  exact hK4 _ _ _ ⟨hR,w2,t2,hwl2,htl2,hS2,rfl,rfl⟩
 obtain⟨rows,hrw,hfz⟩:=hlv
 have hi' : i < rows.length:=by rw[hrw.1];exact hc
 obtain⟨bl,ol,capl,tyl,csl,hlve,hbl,hol,hcl⟩:=fz_row hfz (hrw.all λ_ _=>ThC.len) hi'
 obtain⟨rv,nv,erow,hrv,hnv⟩:=hrw.2 i hi' hc
 rw[erow] at hcl
 have hlv:Tgs R1 lv l:=⟨rows,hrw,hfz⟩
 have ia:∀{D:Chs} {k:Value→M},J R1 D (k (.pointer (some ⟨bl,ol + i * 6,none⟩)))→J R1 D (IA 6 lv (I (i:Int)) k):=λH=>by
  rw[hlve]
  refine jia (by omega) (by omega) ?_
  rw[Int.toNat_natCast];exact H
 have g0:csl[ol + i * 6 + 0]? = some (I (l[i]).at_):=cell_of hcl (f:=0) rfl
 have g4:csl[ol + i * 6 + 4]? = some rv:=cell_of hcl (f:=4) rfl
 have g5:csl[ol + i * 6 + 5]? = some nv:=cell_of hcl (f:=5) rfl
 have g2:(csl.drop (ol + i * 6 + 2)).take 2 = [I (l[i]).sh.refs,I (l[i]).sh.nums]:=by
  have:=congrArg (λx=>(x.drop 2).take 2) hcl
  simp only[List.drop_take,List.drop_drop,List.take_take] at this
  simpa [eTh] using this
 refine ia (jfo (jlr hbl g0 (jp (p_RegionOf _ hreg) ?_)))
 refine jla (t:=T_State) (cs:=eSt s wv tv mv thv ov pv) (l:=eSt s wv tv mv thv ov pv) (by exact z_n 13) rfl ?_
 refine jro (r_l7Held (regionOf (l[i]).at_) h hp hpl) (jif (λhh=>?_) (λhh=>?_))
 rotate_left
 ·rw[if_neg (by rw[hh];decide)] at hS
  exact hK5 _ _ _ ⟨rfl,w1,t1,hwl,htl,hS,rfl,rfl⟩
 rw[if_pos hh] at hS
 obtain⟨w2,hw2,hS⟩:=bind_some hS
 obtain⟨w3,hw3,hS⟩:=bind_some hS
 obtain⟨w4,hw4,hS⟩:=bind_some hS
 obtain⟨row,hrow,hS⟩:=bind_some hS
 obtain⟨row2,hrow2,hS⟩:=bind_some hS
 obtain⟨q1,q2,q3⟩:=wr_some hw2
 obtain⟨q4,q5,q6⟩:=wr_some hw3
 refine ia (jfo (jlr hbl g0 (ia (jfo (jlr hbl g0 ?_)))))
 refine jia q1 (by omega) ?_
 refine jsi (l:=w1) (sp:=wsp) (by omega) ?_
 rw[← q3]
 refine ia (jfo (jlr hbl g0 (jadd ⟨by omega,by omega⟩ (ia (jfo (jlar hbl (by omega) g2 ?_))))))
 refine jp (p_ShapeWord (l[i]).sh) ?_
 have hl2:w2.length = w1.length:=by rw[q3,List.length_set]
 refine jia q4 (by omega) ?_
 refine jand (jlr hbl g0 jev) ?_
 refine jsi (l:=w2) (sp:=wsp) (by omega) ?_
 rw[← q6]
 have hl3:w3.length = w2.length:=by rw[q6,List.length_set]
 obtain⟨z0,z1,z2,z3⟩:=idx_some hrow
 obtain⟨y0,y1,y2,y3⟩:=idx_some hrow2
 obtain⟨k0,hk0⟩:∃k:Nat,regionOf (l[i]).at_ = k:=⟨(regionOf (l[i]).at_).toNat,by omega⟩
 refine jcutq (λvs R' D'=>R' = R1∧w4.length = w.length∧D' = (b,C T_State (eSt s wv tv mv thv ov pv)) :: (bw,C T_int (w4.map I ++ wsp)) :: (bt,C T_Region (rowsE eRg t1 ++ tsp)) :: F∧vs = [lv,.slice (some ⟨bw,0,none⟩) w.length cw,.slice (some ⟨bt,0,none⟩) t.length ct,.pointer (some ⟨b,0,none⟩),I i,I (regionOf (l[i]).at_)]) (λK6 hK6=>?_) ?_
 rotate_left
 ·rintro e R2 D2 ⟨hR,hwl2,hD,he⟩
  subst hR
  rw[hD];clear hD
  simp only[List.map,lc,ln,lj,z_t] at he
  simp only[he]
  rw[hk0] at hS ⊢
  have hk1:k0 < s.table.length:=by omega
  have hk2:k0 < t1.length:=by omega
  have ez:s.table[k0] = row:=by rw[← z3];exact getElem_congr_idx (by omega)
  refine jl (v:=tv) rfl (jrg h.t hk1 λb2 o2 ty cs hb ho hrw2=>?_)
  refine jfo (jlr (v:=I (s.table[k0]).top) hb (cell_of hrw2 (f:=2) rfl) ?_)
  refine jl (v:=tv) rfl (jrg h.t hk1 λb3 o3 ty3 cs3 hb3 ho3 hrw3=>?_)
  refine jfo (jlr (v:=I (s.table[k0]).top) hb3 (cell_of hrw3 (f:=2) rfl) ?_)
  rw[ez]
  refine jbd (cs:=eRg ⟨3,-1,row.top,row.top,0⟩) rfl rfl ?_
  refine jian (by omega) (jsrow (x:=⟨3,-1,row.top,row.top,0⟩) hk2 ?_)
  exact hK5 _ _ _ ⟨rfl,w4,t1.set k0 ⟨3,-1,row.top,row.top,0⟩,hwl2,by rw[List.length_set];exact htl,by simpa [seti] using hS,rfl,rfl⟩
 refine jcutq (λvs R' D'=>R' = R1∧w4.length = w.length∧D' = (b,C T_State (eSt s wv tv mv thv ov pv)) :: (bw,C T_int (w4.map I ++ wsp)) :: (bt,C T_Region (rowsE eRg t1 ++ tsp)) :: F∧vs = [lv,.slice (some ⟨bw,0,none⟩) w.length cw,.slice (some ⟨bt,0,none⟩) t.length ct,.pointer (some ⟨b,0,none⟩),I i,I (regionOf (l[i]).at_)]) (λK7 hK7=>?_) ?_
 rotate_left
 ·rintro e R2 D2 ⟨hR,hwl2,hD,he⟩
  rw[hD];clear hD
  simp only[List.map,lc,ln,lj,z_t] at he
  simp only[he]
  exact hK6 _ _ _ ⟨hR,hwl2,rfl,rfl⟩
 refine jlp (λm vs R' D'=>R' = R1∧∃(k:Nat) (w5:List Int),k≤(l[i]).nums.length∧w5.length = w.length∧wrs w5 ((l[i]).at_ + 2 + (l[i]).refs.length + k) ((l[i]).nums.drop k) = some w4∧D' = (b,C T_State (eSt s wv tv mv thv ov pv)) :: (bw,C T_int (w5.map I ++ wsp)) :: (bt,C T_Region (rowsE eRg t1 ++ tsp)) :: F∧vs = [lv,.slice (some ⟨bw,0,none⟩) w.length cw,.slice (some ⟨bt,0,none⟩) t.length ct,.pointer (some ⟨b,0,none⟩),I i,I (regionOf (l[i]).at_),I k]∧m = (l[i]).nums.length - k)
  (n:=(l[i]).nums.length) ⟨rfl,0,w3,by omega,by omega,by simpa using hw4,rfl,rfl,by omega⟩ ?_
 rintro m3 e R2 D2 K8 ⟨hR,k,w5,hk,hwl5,hws,hD,he,hm⟩ hK8
 subst hR
 rw[hD];clear hD
 simp only[List.map,lc,ln,lj,z_t] at he
 simp only[he]
 refine ia (jfo (jlr hbl g5 (jln_ hnv.sl (jlt (jif (λhd=>?_) (λhd=>?_))))))
 rotate_left
 ·have hd:=z_g hd
  rw[List.drop_eq_nil_of_le (by omega)] at hws
  cases hws
  exact hK7 _ _ _ ⟨rfl,hwl5,rfl,rfl⟩
 have hd:k < (l[i]).nums.length:=by have:=z_f hd;omega
 rw[List.drop_eq_getElem_cons hd] at hws
 unfold wrs at hws
 obtain⟨w6,hw6,hws⟩:=bind_some hws
 obtain⟨p1,p2,p3⟩:=wr_some hw6
 refine ia (jfo (jlr hbl g0 (jadd ⟨by omega,by omega⟩ (ia (jfo (jlr hbl g4 (jln_ hrv.sl (jadd ⟨by omega,by omega⟩ (jadd ⟨by omega,by omega⟩ ?_)))))))))
 refine ia (jfo (jlr hbl g5 (jfz1 hnv (by omega) (by omega) ?_)))
 rw[getElem_congr_idx (Int.toNat_natCast k)]
 refine jia p1 (by omega) ?_
 refine jsi (l:=w5) (sp:=wsp) (by omega) ?_
 rw[← p3]
 refine jadd ⟨by omega,by omega⟩ ?_
 exact hK8 ((l[i]).nums.length - (k + 1)) _ _ _ (by omega) ⟨rfl,k + 1,w6,by omega,by rw[p3,List.length_set];exact hwl5,by rw[← hws];congr 1;omega,rfl,rfl,rfl⟩
end Go.Lf
end
section
namespace Go.Lf
open Go Sm
theorem p_ConfigOk (cf:Cfg):Pu F_s_ConfigOk [.agg #[I cf.regions,I cf.threads,I cf.reserve]] (.bool (configOk cf)):=by
 intro R
 refine s_s_ConfigOk λF=>?_
 unfold c_s_ConfigOk
 refine ja λb=>?_
 rw[show cl (.agg #[I cf.regions,I cf.threads,I cf.reserve]) = [I cf.regions,I cf.threads,I cf.reserve] from rfl]
 refine jan [.pointer (some ⟨b,0,none⟩)] ((decide (cf.regions≥3)) && (decide (cf.regions≤12))) (λK' hK'=>?_) (λe c u ho he=>?_)
 ·refine jl (v:=I cf.regions) rfl (jge (jgtt (λh1=>?_) (λh1=>?_)))
  ·refine jl (v:=I cf.regions) rfl (jle (hK' _ _ _ (h1▸and2_t) (by rw[h1,Bool.true_and])))
  ·exact hK' _ _ _ (h1▸and2_f) (by rw[h1,Bool.false_and])
 simp only[List.map,lc,ln,lj,z_t] at he
 simp only[he]
 refine jan [.pointer (some ⟨b,0,none⟩)] ((decide (cf.regions≥3) && decide (cf.regions≤12)) && (decide (cf.threads≥1))) (λK' hK'=>?_) (λe c u ho he=>?_)
 ·rw[ho]
  refine jgtt (λh1=>?_) (λh1=>?_)
  ·refine jl (v:=I cf.threads) rfl (jge (hK' _ _ _ (h1▸and2_t) (by rw[h1,Bool.true_and])))
  ·exact hK' _ _ _ (h1▸and2_f) (by rw[h1,Bool.false_and])
 simp only[List.map,lc,ln,lj,z_t] at he
 simp only[he]
 refine jan [.pointer (some ⟨b,0,none⟩)] ((decide (cf.regions≥3) && decide (cf.regions≤12) && decide (cf.threads≥1)) && (decide (cf.threads≤3))) (λK' hK'=>?_) (λe c u ho he=>?_)
 ·rw[ho]
  refine jgtt (λh1=>?_) (λh1=>?_)
  ·refine jl (v:=I cf.threads) rfl (jle (hK' _ _ _ (h1▸and2_t) (by rw[h1,Bool.true_and])))
  ·exact hK' _ _ _ (h1▸and2_f) (by rw[h1,Bool.false_and])
 simp only[List.map,lc,ln,lj,z_t] at he
 simp only[he]
 refine jan [.pointer (some ⟨b,0,none⟩)] ((decide (cf.regions≥3) && decide (cf.regions≤12) && decide (cf.threads≥1) && decide (cf.threads≤3)) && (decide (cf.reserve≥0))) (λK' hK'=>?_) (λe c u ho he=>?_)
 ·rw[ho]
  refine jgtt (λh1=>?_) (λh1=>?_)
  ·refine jl (v:=I cf.reserve) rfl (jge (hK' _ _ _ (h1▸and2_t) (by rw[h1,Bool.true_and])))
  ·exact hK' _ _ _ (h1▸and2_f) (by rw[h1,Bool.false_and])
 simp only[List.map,lc,ln,lj,z_t] at he
 simp only[he]
 refine jan [] ((decide (cf.regions≥3) && decide (cf.regions≤12) && decide (cf.threads≥1) && decide (cf.threads≤3) && decide (cf.reserve≥0)) && (decide (cf.reserve≤100))) (λK' hK'=>?_) (λe c u ho he=>?_)
 ·rw[ho]
  refine jgtt (λh1=>?_) (λh1=>?_)
  ·refine jl (v:=I cf.reserve) rfl (jle (hK' _ _ _ (h1▸and2_t) (by rw[h1,Bool.true_and])))
  ·exact hK' _ _ _ (h1▸and2_f) (by rw[h1,Bool.false_and])
 simp only[List.map,lc,ln,lj,z_t] at he
 simp only[he]
 rw[ho]
 exact jret (A:=[]) (RM.le.refl R) rfl
def QNew (t:List Rg) (v:Value) (N:Chs):Prop:=if t = [] then v = .tuple #[.slice none 0 0,.bool false]∧N = [] else ∃sv,OwnT t sv N∧v = .tuple #[sv,.bool true]
theorem m_TableNew {R:RM} {D:Chs} (n:Int):Mk F_s_TableNew [I n] R D (QNew (tableNew n)):=by
 refine s_s_TableNew λF=>?_
 unfold c_s_TableNew
 refine jor [I n] ((decide (n < 2)) || (decide (n > 12))) (λK' hK'=>?_) (λe c u ho he=>?_)
 ·refine jlt (jgtf (λh1=>?_) (λh1=>?_))
  ·refine jgr (hK' _ _ _ (h1▸or2_f) (by rw[h1,Bool.false_or]))
  ·exact hK' _ _ _ (h1▸or2_t) (by rw[h1,Bool.true_or])
 simp only[List.map,lc,ln,lj,z_t] at he
 simp only[he]
 rw[ho]
 refine jif (λh0=>?_) (λh0=>?_)
 ·have:tableNew n = []:=by
   unfold tableNew
   rw[if_pos]
   simpa using h0
  rw[this]
  exact mk_ret [] ⟨rfl,rfl⟩
 simp only[Bool.or_eq_false_iff,decide_eq_false_iff_not] at h0
 obtain⟨k,rfl⟩:∃k:Nat,n = k:=⟨n.toNat,by omega⟩
 have ht:tableNew k = edge :: (List.range (k - 1)).map λ(i:Nat)=>free ((i:Int) + 1):=by
  unfold tableNew
  rw[if_neg (by omega),Int.toNat_natCast]
 have ht2:tableNew k = ((List.range k).map λj:Nat=>free (j:Int)).set 0 edge:=by
  rw[ht,show k = (k - 1) + 1 by omega,List.range_succ_eq_map]
  simp
 refine jcutq (λvs R' D'=>R' = R∧∃v A,SW T_Region 5 (((List.range k).map λj:Nat=>free (j:Int)).map eRg) v A∧D' = A ++ (D ++ F)∧vs = [v]) (λK hK=>?_) ?_
 ·refine jcutq (λvs R' D'=>R' = R∧∃v A,SW T_Region 5 (((List.range k).map λj:Nat=>free (j:Int)).map eRg) v A∧D' = A ++ (D ++ F)∧vs = [v]) (λK2 hK2=>?_) ?_
  rotate_left
  ·rintro e R1 D1 ⟨hR,v,A,so,hD,he⟩
   rw[hD];clear hD
   simp only[List.map,lc,ln,lj,z_t] at he
   simp only[he]
   exact hK _ _ _ ⟨hR,v,A,so,rfl,rfl⟩
  refine jlp (λm vs R' D'=>R' = R∧∃(i:Nat) (v:Value) (A:Chs),i≤k∧SW T_Region 5 (((List.range i).map λj:Nat=>free (j:Int)).map eRg) v A∧D' = A ++ (D ++ F)∧vs = [I k,v,I i]∧m = k - i)
   (n:=k) ⟨rfl,0,.slice none 0 0,[],by omega,.inl ⟨rfl,rfl,rfl⟩,rfl,rfl,by omega⟩ ?_
  rintro m e R1 D1 K3 ⟨hR,i,v,A,hi,so,hD,he,hm⟩ hK3
  subst hR
  rw[hD];clear hD
  simp only[List.map,lc,ln,lj,z_t] at he
  simp only[he]
  refine jlt (jif (λhc=>?_) (λhc=>?_))
  rotate_left
  ·have hc:i = k:=by have:=z_g hc;omega
   subst hc
   exact hK2 _ _ _ ⟨rfl,v,A,so,rfl,rfl⟩
  have hc:i < k:=by have:=z_f hc;omega
  refine jp (p_RegionBase i) (jp (p_RegionBase i) ?_)
  refine jbd (cs:=eRg (free (i:Int))) rfl rfl ?_
  refine jbs (cs:=eRg (free (i:Int))) rfl rfl λb4=>?_
  refine jperm List.perm_middle.symm ?_
  have hx:Reads R1 (A ++ ((b4,C T_Region (eRg (free (i:Int)))) :: (D ++ F))) (some ⟨b4,0,none⟩) (1 * 5) [eRg (free (i:Int))].flatten:=Reads.held (t:=T_Region) (cs:=eRg (free (i:Int))) (o:=0) (n:=1 * 5) (z_n 5)
  refine jaw so (rg_len _) (by intro r hr;rw[List.mem_singleton.1 hr];rfl) rfl rfl rfl (by decide) (by simp only[List.length_map,List.length_range,List.length_singleton];omega) hx λv' A' so'=>?_
  refine jadd ⟨by omega,by omega⟩ ?_
  refine jpart A' (G:=D ++ F) ?_
  refine hK3 (k - (i + 1)) _ _ _ (by omega) ⟨rfl,i + 1,v',A',by omega,?_,rfl,rfl,rfl⟩
  rw[List.range_succ,List.map_append,List.map_append];exact so'
 rintro e R1 D1 ⟨hR,v,A,so,hD,he⟩
 subst hR
 rw[hD];clear hD
 simp only[List.map,lc,ln,lj,z_t] at he
 simp only[he]
 rcases so with ⟨h1,_,_⟩ | ⟨b,c,sp,hc,hsp,rfl,rfl⟩
 ·have:=congrArg List.length h1
  simp at this;omega
 rw[List.length_map] at hc ⊢
 refine jbd (cs:=eRg edge) rfl rfl ?_
 have hlen:((List.range k).map λj:Nat=>free (j:Int)).length = k:=by simp
 refine jperm (D':=(b,C T_Region (rowsE eRg ((List.range k).map λj:Nat=>free (j:Int)) ++ sp)) :: (D ++ F)) (List.Perm.refl _) ?_
 refine jian (r:=0) (by omega) (jsrow (i:=0) (x:=edge) (by omega) ?_)
 refine mk_ret [(b,C T_Region (rowsE eRg (((List.range k).map λj:Nat=>free (j:Int)).set 0 edge) ++ sp))] ?_
 rw[ht2]
 unfold QNew
 rw[if_neg (by intro hn;have:=congrArg List.length hn;simp at this;omega)]
 exact⟨_,⟨b,c,sp,by rw[List.length_set];exact hc,by rw[List.length_set],rfl⟩,rfl⟩
end Go.Lf
end
section
namespace Go.Lf
open Go Sm
theorem put_step {w:List Int} {n k:Nat} (h:n + k < w.length):(w.take n ++ List.replicate k 0 ++ w.drop (n + k)).set (n + k) 0 = w.take n ++ List.replicate (k + 1) 0 ++ w.drop (n + (k + 1)):=by
 have l1:(w.take n ++ List.replicate k (0:Int)).length = n + k:=by simp;omega
 rw[List.set_append_right _ _ (by omega),l1,Nat.sub_self,List.drop_eq_getElem_cons h,List.set_cons_zero,List.replicate_succ',List.append_assoc,List.append_assoc,List.append_assoc,List.singleton_append,Nat.add_assoc]
def QMk (r:List Int × Bool) (v:Value) (A:Chs):Prop:=if r.2 then ∃sv,OwnI r.1 sv A∧v = .tuple #[sv,.bool true] else v = .tuple #[.slice none 0 0,.bool false]∧A = []
theorem thingMake_eq {w:List Int} {n z:Nat} {s:Shp} (h0:fits w.length n (shapeSize s) = true) (hso:shapeOk s = true) (hz:shapeSize s = z) :
  thingMake w n s = ((((w.take n ++ List.replicate z 0 ++ w.drop (n + z)).set n (n:Int)).set (n + 1) (shapeWord s)),true):=by
 obtain⟨a0,a1,a2,a3⟩:=fits_in h0
 have hsz:shapeSize s = 2 + s.refs + s.nums:=by unfold shapeSize;rw[if_pos hso]
 have hrn:0≤s.refs∧0≤s.nums:=by
  unfold shapeOk at hso
  simp only[z_b,z_d] at hso
  omega
 unfold thingMake
 rw[if_pos h0]
 congr 1
 unfold Sm.put
 obtain⟨z',rfl⟩:∃k,z = k + 2:=⟨z - 2,by omega⟩
 have e1:s.refs.toNat + s.nums.toNat = z':=by omega
 have l1:(w.take n).length = n:=by simp;omega
 have e2:w.take n ++ List.replicate (z' + 2) 0 ++ w.drop (n + (z' + 2)) = w.take n ++ (0 :: 0 :: (List.replicate z' 0 ++ w.drop (n + (z' + 2)))):=by simp[List.replicate_succ]
 rw[e1,e2,Int.toNat_natCast,List.set_append_right _ _ (by omega),l1,Nat.sub_self,List.set_cons_zero,List.set_append_right _ _ (by omega),l1,Nat.add_sub_cancel_left]
 simp[Nat.add_comm,Nat.add_left_comm]
theorem t_ThingMake {R:RM} {wv:Value} {w:List Int} (a:Int) (s:Shp) (h:Ints R wv w) (hl:w.length < 1000000) :
  Fn P F_s_ThingMake [wv,I a,eSh s] R [] (λv R' A=>R' = R∧QMk (thingMake w a s) v A):=by
 refine s_s_ThingMake λF=>?_
 unfold c_s_ThingMake
 obtain⟨wa,wc,hwv,hr⟩:=Fz.reads (D:=[]) h
 refine ja λb1=>?_
 rw[show cl (eSh s) = [I s.refs,I s.nums] from rfl]
 refine jla (l:=[I s.refs,I s.nums]) (by simp) rfl (jp (p_ShapeSize s) ?_)
 rw[hwv]
 refine jp (p_l3Fits wa w.length wc a (shapeSize s) (by omega)) (jif (λh0=>?_) (λh0=>?_))
 ·have h0:fits w.length a (shapeSize s) = false:=by simpa using h0
  refine jret (A:=[]) (RM.le.refl R) ⟨rfl,?_⟩
  have:thingMake w a s = ([],false):=by unfold thingMake;rw[h0];rfl
  rw[this]
  exact⟨rfl,rfl⟩
 have h0:fits w.length a (shapeSize s) = true:=by simpa using h0
 obtain⟨a0,a1,a2,a3⟩:=fits_in h0
 have hso:shapeOk s = true:=by
  unfold shapeSize at a2
  split at a2
  ·assumption
  ·omega
 have hsz:shapeSize s = 2 + s.refs + s.nums:=by unfold shapeSize;rw[if_pos hso]
 have hrn:0≤s.refs∧0≤s.nums:=by
  unfold shapeOk at hso
  simp only[z_b,z_d] at hso
  omega
 obtain⟨n,rfl⟩:∃n:Nat,a = n:=⟨a.toNat,by omega⟩
 obtain⟨z,hz⟩:∃z:Nat,shapeSize s = z:=⟨(shapeSize s).toNat,by omega⟩
 have em:=thingMake_eq h0 hso hz
 rw[hz] at a1 a2 a3 ⊢
 have fin:∀(b c:Nat) (sp:List Value) (E:Chs) (K:Value→M),w.length≤c→sp.length = c - w.length→Sf E F→True:=λ_ _ _ _ _ _ _ _=>trivial
 clear fin
 refine jbs (cs:=[]) rfl rfl λb2=>?_
 have hl0:w.length≠0:=by omega
 have rest:∀(b c:Nat) (sp:List Value) (E:Chs),w.length≤c→sp.length = c - w.length→At E b1 (C T_Shape [I s.refs,I s.nums])→Sf E F→
   J R ((b,C T_int (w.map I ++ sp)) :: E) (CUT [1,5,9] (λJe8=>CUT [1,5,9] (λJe14=>LP [1,5,8,9,10] (λKe15 e15=>BO .lss (e15 10) (e15 8) λx16=>IF x16 (BO .add (e15 1) (e15 10) λx17=>IA 1 (e15 9) x17 λx18=>ST 1 x18 (I 0)<|BO .add (e15 10) (I 1) λx19=>Ke15 [(e15 1),(e15 5),(e15 8),(e15 9),x19]) (Je14 [(e15 1),(e15 5),(e15 9)])) [I n,.pointer (some ⟨b1,0,none⟩),I z,.slice (some ⟨b,0,none⟩) w.length c,(I 0)]) λe14=>Je8 [(e14 1),(e14 5),(e14 9)]) λe8=>IA 1 (e8 9) (e8 1) λx9=>ST 1 x9 (e8 1)<|BO .add (e8 1) (I 1) λx10=>LA 2 (e8 5) λx11=>CA P 81 [x11] λx12=>IA 1 (e8 9) x10 λx13=>ST 1 x13 x12<|POST R F (λv R' A=>R' = R∧QMk (thingMake w n s) v A) (.tuple #[(e8 9),(.bool true)])):=by
  intro b c sp E hc hsp ea ef
  refine jcutq (λvs R' D'=>R' = R∧∃cur:List Int,cur = w.take n ++ List.replicate z 0 ++ w.drop (n + z)∧D' = (b,C T_int (cur.map I ++ sp)) :: E∧vs = [I n,.pointer (some ⟨b1,0,none⟩),.slice (some ⟨b,0,none⟩) w.length c]) (λK hK=>?_) ?_
  ·refine jcutq (λvs R' D'=>R' = R∧∃cur:List Int,cur = w.take n ++ List.replicate z 0 ++ w.drop (n + z)∧D' = (b,C T_int (cur.map I ++ sp)) :: E∧vs = [I n,.pointer (some ⟨b1,0,none⟩),.slice (some ⟨b,0,none⟩) w.length c]) (λK2 hK2=>?_) ?_
   rotate_left
   ·rintro e R1 D1 ⟨hR,cur,hcur,hD,he⟩
    rw[hD];clear hD
    simp only[List.map,lc,ln,lj,z_t] at he
    simp only[he]
    exact hK _ _ _ ⟨hR,cur,hcur,rfl,rfl⟩
   refine jlp (λm vs R' D'=>R' = R∧∃(k:Nat) (cur:List Int),k≤z∧cur = w.take n ++ List.replicate k 0 ++ w.drop (n + k)∧D' = (b,C T_int (cur.map I ++ sp)) :: E∧vs = [I n,.pointer (some ⟨b1,0,none⟩),I z,.slice (some ⟨b,0,none⟩) w.length c,I k]∧m = z - k)
    (n:=z) ⟨rfl,0,w,by omega,by simp,rfl,rfl,by omega⟩ ?_
   rintro m e R1 D1 K3 ⟨hR,k,cur,hk,hcur,hD,he,hm⟩ hK3
   subst hR
   rw[hD];clear hD
   simp only[List.map,lc,ln,lj,z_t] at he
   simp only[he]
   have hcl:cur.length = w.length:=by rw[hcur];simp;omega
   refine jlt (jif (λhc=>?_) (λhc=>?_))
   rotate_left
   ·have hc:k = z:=by have:=z_g hc;omega
    subst hc
    exact hK2 _ _ _ ⟨rfl,cur,hcur,rfl,rfl⟩
   have hc:k < z:=by have:=z_f hc;omega
   refine jadd ⟨by omega,by omega⟩ ?_
   rw[show (n:Int) + k = ((n + k:Nat):Int) by omega]
   refine jian (by omega) (jsi (l:=cur) (sp:=sp) (by omega) (jadd ⟨by omega,by omega⟩ ?_))
   exact hK3 (z - (k + 1)) _ _ _ (by omega) ⟨rfl,k + 1,cur.set (n + k) 0,by omega,by rw[hcur];exact put_step (by omega),rfl,rfl,rfl⟩
  rintro e R1 D1 ⟨hR,cur,hcur,hD,he⟩
  subst hR
  rw[hD];clear hD
  simp only[List.map,lc,ln,lj,z_t] at he
  simp only[he]
  have hcl:cur.length = w.length:=by rw[hcur];simp;omega
  refine jian (by omega) (jsi (l:=cur) (sp:=sp) (by omega) (jadd ⟨by omega,by omega⟩ ?_))
  refine jla (l:=[I s.refs,I s.nums]) (by simp) rfl (jp (p_ShapeWord s) ?_)
  rw[show (n:Int) + 1 = ((n + 1:Nat):Int) by omega]
  refine jian (by omega) (jsi (l:=cur.set n n) (sp:=sp) (by rw[List.length_set];omega) ?_)
  refine jret (A:=[(b,C T_int (((cur.set n n).set (n + 1) (shapeWord s)).map I ++ sp))]) (RM.le.refl R1) ⟨rfl,?_⟩
  rw[em,hcur]
  refine⟨_,⟨b,c,sp,?_,?_,?_,rfl⟩,rfl⟩
  all_goals simp only[List.length_set,← hcur,hcl]
  ·exact hc
  ·exact hsp
 refine jap0 (new:=w.map I) ?_ (by decide) (by omega) (λ_=>rfl) (λh0=>?_) (λb' c hc=>?_)
 ·intro h' hs'
  exact hr h' (St.drop (A:=(b2,C 3 []) :: (b1,C T_Shape [I s.refs,I s.nums]) :: ([] ++ F)) (by simpa using hs'))
 ·omega
 ·exact rest b' c _ _ hc (by rw[flat_len (w:=1) (by intro x hx;rw[(List.mem_replicate.1 hx).2];rfl)];simp) inferInstance inferInstance
end Go.Lf
end
section
namespace Go.Lf
open Go Sm
theorem jnc {R:RM} {D:Chs} {b o:Nat} {k:Value→M} (H:J R D (k (.pointer (some ⟨b,o,none⟩)))):J R D (NC (.pointer (some ⟨b,o,none⟩)) k):=H
def wS (S:Sim) (g:Img):Value:=.slice (some ⟨g.wb,0,none⟩) S.words.length g.wc
def tS (S:Sim) (g:Img):Value:=.slice (some ⟨g.tb,0,none⟩) S.table.length g.tc
def mS (S:Sim) (g:Img):Value:=.slice (some ⟨g.mb,0,none⟩) S.marks.length g.mc
def eVw (S:Sim) (g:Img) (av wv thv:Value):List Value:=[wS S g,tS S g,mS S g,I S.phase,.bool S.stop,.bool S.full,av,wv,thv,g.old,g.pins,I S.cycles,I S.fulls]
theorem eVw_flat {R:RM} {S:Sim} {g:Img} (ok:Ok R S g) {av wv thv:Value} (h1:flat av = true) (h2:flat wv = true) (h3:flat thv = true):allFlat (eVw S g av wv thv) = true:=by
 have h4:=Fz.flat ok.old
 have h5:=Fz.flat ok.pins
 show (true && (true && (true && (true && (true && (true && (flat av && (flat wv && (flat thv && (flat g.old && (flat g.pins && (true && (true && true))))))))))))) = true
 rw[h1,h2,h3,h4,h5];rfl
def seeT (t:Thr):Th:=⟨t.roots,t.next,t.pc != 0,t.tried⟩
theorem t_view_ {p:Nat} {S:Sim} {g:Img} {R:RM} (hok:Ok R S g) (hsz:S.sz = true) :
  Fn P F_Sim_view [.pointer (some ⟨p,0,none⟩)] R (simD p S g) (λv R' A=>∃rows thv A',Rw (ThrC R') rows S.view.threads∧SW 78 4 rows thv A'∧A = A' ++ simD p S g∧v = .agg (eSt S.view (wS S g) (tS S g) (mS S g) thv g.old g.pins).toArray):=by
 refine s_Sim_view λF=>?_
 unfold c_Sim_view
 have hsz:=sz_ev hsz
 have hhl:=hok.hl
 obtain⟨f1,f2,f3⟩:=hok.fl
 refine ja λb1=>?_
 refine jnc (jfo ?_)
 refine jla (o:=0 + 4) (t:=T_l8Sim) (cs:=eSim S g) (l:=eVw S g g.asked g.want g.threads) (by show 4 + 13≤35;omega) rfl ?_
 refine ja λb2=>?_
 refine js (cs':=eVw S g g.asked g.want g.threads) rfl (eVw_flat hok f1 f2 f3) (by exact z_n 13) rfl ?_
 refine js (cs':=eVw S g g.asked g.want (.slice none 0 0)) rfl rfl (by simp[eVw]) rfl ?_
 refine jperm (D':=(b2,C T_State (eVw S g g.asked g.want (.slice none 0 0))) :: (b1,C T_State (cl z58)) :: (simD p S g ++ F)) (List.Perm.refl _) ?_
 refine jcutq (λvs R' D'=>R.le R'∧∃rows v A,Rw (ThrC R') rows (S.th.map seeT)∧SW 78 4 rows v A∧D' = A ++ (b2,C T_State (eVw S g g.asked g.want v)) :: (b1,C T_State (cl z58)) :: (simD p S g ++ F)∧vs = [.pointer (some ⟨p,0,none⟩),.pointer (some ⟨b1,0,none⟩),.pointer (some ⟨b2,0,none⟩)]) (λK hK=>?_) ?_
 ·refine jcutq (λvs R' D'=>R.le R'∧∃rows v A,Rw (ThrC R') rows (S.th.map seeT)∧SW 78 4 rows v A∧D' = A ++ (b2,C T_State (eVw S g g.asked g.want v)) :: (b1,C T_State (cl z58)) :: (simD p S g ++ F)∧vs = [.pointer (some ⟨p,0,none⟩),.pointer (some ⟨b1,0,none⟩),.pointer (some ⟨b2,0,none⟩)]) (λK2 hK2=>?_) ?_
  rotate_left
  ·rintro e R1 D1 ⟨hR,rows,v,A,hrw,so,hD,he⟩
   rw[hD];clear hD
   simp only[List.map,lc,ln,lj,z_t] at he
   simp only[he]
   exact hK _ _ _ ⟨hR,rows,v,A,hrw,so,rfl,rfl⟩
  refine jlp (λm vs R' D'=>R.le R'∧∃(i:Nat) (rows:List (List Value)) (v:Value) (A:Chs),i≤S.th.length∧Rw (ThrC R') rows ((S.th.take i).map seeT)∧SW 78 4 rows v A∧D' = A ++ (b2,C T_State (eVw S g g.asked g.want v)) :: (b1,C T_State (cl z58)) :: (simD p S g ++ F)∧vs = [.pointer (some ⟨p,0,none⟩),.pointer (some ⟨b1,0,none⟩),.pointer (some ⟨b2,0,none⟩),I i]∧m = S.th.length - i)
   (n:=S.th.length) ⟨RM.le.refl R,0,[],.slice none 0 0,[],by omega,Rw.nil,.inl ⟨rfl,rfl,rfl⟩,rfl,rfl,by omega⟩ ?_
  rintro m e R1 D1 K3 ⟨hR,i,rows,v,A,hi,hrw,so,hD,he,hm⟩ hK3
  rw[hD];clear hD
  simp only[List.map,lc,ln,lj,z_t] at he
  simp only[he]
  have ok1:=hok.le hR
  refine jl (v:=.slice (some ⟨g.hb,0,none⟩) S.th.length g.hc) rfl (jln (jlt (jif (λhc=>?_) (λhc=>?_))))
  rotate_left
  ·have hc:=z_g hc
   rw[List.take_of_length_le (by omega)] at hrw
   exact hK2 _ _ _ ⟨hR,rows,v,A,hrw,so,rfl,rfl⟩
  have hc:i < S.th.length:=by have:=z_f hc;omega
  have hti:idx S.th i = some (S.th[i]):=by unfold idx;rw[if_pos (by omega),Int.toNat_natCast,List.getElem?_eq_getElem hc]
  have hri:=hsz.2.2.2.2 _ (List.getElem_mem hc)
  refine jopen (p:=p) ok1 hti rfl λb a cap hv=>?_
  obtain⟨sa,sc,hsl⟩:=so.sl
  subst hsl
  have htk:(S.th.take (i + 1)).map seeT = (S.th.take i).map seeT ++ [seeT S.th[i]]:=by
   rw[List.take_succ_eq_append_getElem hc,List.map_append];rfl
  generalize S.th[i] = t at hti hri hv htk ⊢
  refine jfo (jl (v:=.slice sa rows.length sc) rfl ?_)
  refine jfo (jl (v:=.slice a t.roots.length cap) rfl (jfo (jl (v:=I t.next) rfl (jfo (jl (v:=I t.tried) rfl (jfo (jl (v:=I t.pc) rfl (jne ?_))))))))
  refine jc (A:=[]) (t_l5Ints hv hri) ?_
  rintro _ R2 _ hR2 ⟨b4,c4,sp4,hc4,hsp4,rfl,rfl⟩
  refine jfreeze (b:=b4) λR3 hR3 hb4=>?_
  have hv2:=ints_of (c:=c4) hb4 hc4
  refine jbd (cs:=[.slice (some ⟨b4,0,none⟩) t.roots.length c4,I t.next,.bool (t.pc != 0),I t.tried]) rfl rfl ?_
  refine jand (jl (v:=.slice sa rows.length sc) rfl jev) (jand (jl (v:=I t.next) rfl jev) (jand (jl (v:=I t.tried) rfl jev) (jand (jl (v:=I t.pc) rfl jev) ?_)))
  refine jbs (cs:=[.slice (some ⟨b4,0,none⟩) t.roots.length c4,I t.next,.bool (t.pc != 0),I t.tried]) rfl rfl λb6=>?_
  refine jand (jl (v:=.slice sa rows.length sc) rfl jev) ?_
  refine jperm (D':=(b6,C 78 [.slice (some ⟨b4,0,none⟩) t.roots.length c4,I t.next,.bool (t.pc != 0),I t.tried]) :: (b,C T_l8Thread (eThr t (.slice a t.roots.length cap))) :: (A ++ ((b2,C T_State (eVw S g g.asked g.want (.slice sa rows.length sc))) :: (b1,C T_State (cl z58)) :: (simD p S g ++ F)))) (List.Perm.refl _) ?_
  refine jpart A (G:=(b6,C 78 [.slice (some ⟨b4,0,none⟩) t.roots.length c4,I t.next,.bool (t.pc != 0),I t.tried]) :: (b,C T_l8Thread (eThr t (.slice a t.roots.length cap))) :: (b2,C T_State (eVw S g g.asked g.want (.slice sa rows.length sc))) :: (b1,C T_State (cl z58)) :: (simD p S g ++ F)) ?_
  have hx:Reads R3 (A ++ ((b6,C 78 [.slice (some ⟨b4,0,none⟩) t.roots.length c4,I t.next,.bool (t.pc != 0),I t.tried]) :: (b,C T_l8Thread (eThr t (.slice a t.roots.length cap))) :: (b2,C T_State (eVw S g g.asked g.want (.slice sa rows.length sc))) :: (b1,C T_State (cl z58)) :: (simD p S g ++ F))) (some ⟨b6,0,none⟩) (1 * 4) [[.slice (some ⟨b4,0,none⟩) t.roots.length c4,I t.next,.bool (t.pc != 0),I t.tried]].flatten:=Reads.held (t:=78) (cs:=[.slice (some ⟨b4,0,none⟩) t.roots.length c4,I t.next,.bool (t.pc != 0),I t.tried]) (o:=0) (n:=1 * 4) (z_n 4)
  have hrl:=hrw.1
  rw[List.length_map,List.length_take] at hrl
  refine jaw so (hrw.all λ_ _=>ThrC.len) (by intro r hr;rw[List.mem_singleton.1 hr];rfl) rfl rfl rfl (by decide) (by rw[List.length_singleton];omega) hx λv' A' so'=>?_
  obtain⟨sa',sc',hsl'⟩:=so'.sl
  subst hsl'
  refine js (cs':=eVw S g g.asked g.want (.slice sa' (rows ++ [[.slice (some ⟨b4,0,none⟩) t.roots.length c4,I t.next,.bool (t.pc != 0),I t.tried]]).length sc')) rfl rfl (by simp[eVw]) rfl ?_
  refine jadd ⟨by omega,by omega⟩ ?_
  refine jpart A' (G:=(b2,C T_State (eVw S g g.asked g.want (.slice sa' (rows ++ [[.slice (some ⟨b4,0,none⟩) t.roots.length c4,I t.next,.bool (t.pc != 0),I t.tried]]).length sc'))) :: (b1,C T_State (cl z58)) :: (simD p S g ++ F)) ?_
  refine hK3 (S.th.length - (i + 1)) _ _ _ (by omega) ⟨(hR.trans hR2).trans hR3,i + 1,_,_,A',by omega,?_,so',rfl,rfl,rfl⟩
  rw[htk]
  exact (hrw.mono λ_ _=>ThrC.le (hR2.trans hR3)).app (Rw.one ⟨_,rfl,hv2⟩)
 rintro e R1 D1 ⟨hR,rows,v,A,hrw,so,hD,he⟩
 rw[hD];clear hD
 simp only[List.map,lc,ln,lj,z_t] at he
 simp only[he]
 obtain⟨sa,sc,hsl⟩:=so.sl
 subst hsl
 refine jl (v:=.bool S.col.asked) rfl ?_
 refine js (cs':=eVw S g (.bool S.col.asked) g.want (.slice sa rows.length sc)) rfl rfl (by simp[eVw]) rfl ?_
 refine jl (v:=I S.col.want) rfl ?_
 refine js (cs':=eVw S g (.bool S.col.asked) (I S.col.want) (.slice sa rows.length sc)) rfl rfl (by simp[eVw]) rfl ?_
 refine jla (l:=eVw S g (.bool S.col.asked) (I S.col.want) (.slice sa rows.length sc)) (by exact z_n 13) rfl ?_
 refine js (cs':=eVw S g (.bool S.col.asked) (I S.col.want) (.slice sa rows.length sc)) rfl (eVw_flat hok rfl rfl rfl) (by exact z_n 13) rfl ?_
 refine jla (l:=eVw S g (.bool S.col.asked) (I S.col.want) (.slice sa rows.length sc)) (by exact z_n 13) rfl ?_
 refine jperm (D':=(A ++ simD p S g) ++ ((b2,C T_State (eVw S g (.bool S.col.asked) (I S.col.want) (.slice sa rows.length sc))) :: (b1,C T_State (eVw S g (.bool S.col.asked) (I S.col.want) (.slice sa rows.length sc))) :: F)) ?_ ?_
 ·rw[List.append_assoc]
  exact (List.perm_append_comm_assoc [_,_] (simD p S g) F).append_left A
 exact jret (A:=A ++ simD p S g) hR ⟨rows,.slice sa rows.length sc,A,hrw,so,rfl,rfl⟩
theorem t_view {p:Nat} {S:Sim} {g:Img} {R:RM} (hok:Ok R S g) (hsz:S.sz = true) :
  Fn P F_Sim_view [.pointer (some ⟨p,0,none⟩)] R (simD p S g) (λv R' A=>R.le R'∧A = simD p S g∧∃thv,Ths R' thv S.view.threads∧v = .agg (eSt S.view (wS S g) (tS S g) (mS S g) thv g.old g.pins).toArray):=by
 intro F h hs
 refine CA_mono ?_ (t_view_ hok hsz F h hs)
 rintro v h' ⟨R',A,h1,h2,rows,thv,A',hrw,so,rfl,rfl⟩
 rw[List.append_assoc] at h2
 refine (jfw (E:=simD p S g ++ F) (m:=POST R F _ _) so (hrw.all λ_ _=>ThrC.len) λR2 hR2 hfz=>?_) h' h2
 exact jret (A:=simD p S g) (h1.trans hR2) ⟨h1.trans hR2,rfl,thv,⟨rows,hrw.mono λ_ _=>ThrC.le hR2,hfz⟩,rfl⟩
end Go.Lf
end
