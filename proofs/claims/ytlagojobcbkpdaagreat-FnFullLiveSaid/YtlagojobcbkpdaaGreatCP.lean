/- A part of the proof of the given row: the walk of the law and of all that it calls. Conditions: none. -/
import Derived.Shelf.Sort.Plain
import Derived.Test.YtlagojobcbkpdaaGreatCO
set_option linter.unusedVariables false
set_option linter.unusedSimpArgs false
section
namespace Go.Lf
open Go Sm
theorem VI:Pu Pd [] (.agg (eRg DY).toArray):=by
 intro R;refine VF λF=>?_
 unfold PP;refine ja λb=>jbd (cs:=eRg DY) rfl rfl (js (cs':=eRg DY) rfl rfl (by exact z_n 5) rfl (jla (l:=eRg DY) (by exact z_n 5) rfl ?_))
 exact BA (A:=[]) (RM.le.refl R) rfl
theorem MpI.iff {o:Obj} {q q' : Int→Prop} (h:MpI o q) (e:∀x,q x↔q' x):MpI o q':=by
 have:q = q':=funext λx=>propext (e x)
 rw[← this];exact h
section
variable {R:RM} {D:Chs} {t:List Rg} {sp:List Value} {b cap:Nat}
set_option maxHeartbeats 1000000 in
theorem Pf (hl:t.length < 1000000) [a:At D b (C AI (Ab eRg t ++ sp))]:Ro J4 [S0 b t.length cap] (.bool (BI t)) R D:=by
 refine Q1 λF=>?_
 unfold Ji;have nok:(TOk t→False)→Value.bool false = Value.bool (BI t):=λh=>by
  cases hh:BI t
  ·rfl
  ·exact (h (Bk.1 hh)).elim
 refine AJ (λvs R' D'=>R' = R∧D' = D ++ F∧vs = [S0 b t.length cap,.bool ((decide ((t.length:Int) < 2) || decide ((t.length:Int) > 12)) || !(rv t 0 == DY))]) (λK hK=>?_) ?_
 ·refine jor [S0 b t.length cap] ((decide ((t.length:Int) < 2)) || (decide ((t.length:Int) > 12))) (λK' hK'=>?_) (λe c u ho he=>?_)
  ·refine jln (jlt (BM (λh1=>?_) (λh1=>?_)))
   ·refine jln (jgr (hK' _ _ _ (h1▸Aj) (by rw[h1,Yk])))
   ·exact hK' _ _ _ (h1▸Al) (by rw[h1,Ym])
  simp only[List.map,zc,zl,zj,z_t] at he;simp only[he];refine AJ (λvs R' D'=>R' = R∧D' = D ++ F∧(((decide ((t.length:Int) < 2) || decide ((t.length:Int) > 12)) = false∧∃h:0 < t.length,vs = [S0 b t.length cap,.bool false,.pointer (some ⟨b,0 + (0:Int).toNat * 5,none⟩),.agg (eRg (t[0])).toArray])∨((decide ((t.length:Int) < 2) || decide ((t.length:Int) > 12)) = true∧vs = [S0 b t.length cap,.bool true,U,U]))) (λK2 hK2=>?_) ?_
  ·rw[ho];refine BM (λh1=>?_) (λh1=>?_)
   ·have h1':=h1;simp only[Z1,decide_eq_false_iff_not] at h1';have h0:0 < t.length:=by omega
    refine jia (by omega) (by omega) ?_;refine jla (l:=eRg (t[0])) (Ec h0) (DB (f:=eRg) (w:=5) (λ_=>rfl) h0) ?_;exact hK2 _ _ _ ⟨rfl,rfl,.inl ⟨h1,h0,by rw[h1]⟩⟩
   ·exact hK2 _ _ _ ⟨rfl,rfl,.inr ⟨h1,by rw[h1]⟩⟩
  rintro e2 R2 D2 ⟨hR,hD,h⟩;subst hR;rw[hD];clear hD;rcases h with ⟨h1,h0,he⟩ | ⟨h1,he⟩
  ·simp only[List.map,zc,zl,zj,z_t] at he;simp only[he];refine jff (jp VI (Ae (jla (l:=eRg (t[0])) (Ec h0) (DB (f:=eRg) (w:=5) (λ_=>rfl) h0) jev) ?_));refine @Xb (t[0]) DY _ _ _ _ _ (EC ?_);refine hK _ _ _ ⟨rfl,rfl,?_⟩;rw[h1,Yk,show rv t 0 = t[0] from Do h0]
  ·simp only[List.map,zc,zl,zj,z_t] at he;simp only[he];refine jtf (Ae jev (ED ?_));refine hK _ _ _ ⟨rfl,rfl,?_⟩;rw[h1,Ym]
 rintro e R2 D2 ⟨hR,hD,he⟩;subst hR;rw[hD];clear hD;simp only[List.map,zc,zl,zj,z_t] at he;simp only[he];refine jif (λh0=>?_) (λh0=>?_)
 ·refine Bc (nok λT=>?_);have n0:=T.n0;have n1:=T.n1;have e:=T.e;simp only[ZA,z_d,Z7,beq_eq_false_iff_ne] at h0;rcases h0 with (h | h) | h
  ·omega
  ·omega
  ·exact h e
 simp only[Z1,decide_eq_false_iff_not,ZJ,beq_iff_eq] at h0;obtain⟨⟨n0,n1⟩,hedge⟩:=h0;refine @Xs _ _ _ λmb o hm=>jln ?_
 refine jlp (λn vs R' D'=>R' = R2∧∃(i:Nat) (o:Obj),D' = (mb,o) :: (D ++ F)∧i≤t.length∧vs = [.map (some mb),S0 b t.length cap,I t.length,I i]∧n = t.length - i∧MpI o (λy=>∃k:Nat,1≤k∧k < i∧(rv t k).AT = y)∧(∀k:Nat,1≤k→k < i→Hh k (rv t k)∧∀m:Nat,1≤m→m < k→0≤(rv t k).AT→(rv t m).AT≠(rv t k).AT))
  (n:=t.length) ⟨rfl,0,o,rfl,by omega,rfl,rfl,hm.iff λx=>⟨λh=>h.elim,λ⟨k,_,h,_⟩=>by omega⟩,λk h1 h2=>by omega⟩ ?_
 clear hm;rintro n e R' D' K ⟨hR,i,o,hD,hi,he,hn,hm,hinv⟩ hK;subst hR;rw[hD];clear hD;simp only[List.map,zc,zl,zj,z_t] at he;simp only[he];refine jlt (jif (λhc=>?_) (λhc=>?_));rotate_left
 ·have hc:=z_g hc;refine Ai [] (G:=D ++ F) (Bc ?_);rw[Bk.2 ⟨by omega,by omega,hedge,λq q0 q1=>?_,λq s q0 q1 s0 s1 hoo heq=>?_⟩]
  ·have:=(hinv q.toNat (by omega) (by omega)).1;rwa [show ((q.toNat:Nat):Int) = q from by omega] at this
  ·have h1:=(hinv q.toNat (by omega) (by omega)).2 s.toNat (by omega);have h2:=(hinv s.toNat (by omega) (by omega)).2 q.toNat (by omega);rw[show ((q.toNat:Nat):Int) = q from by omega,show ((s.toNat:Nat):Int) = s from by omega] at h1 h2;rcases Int.lt_trichotomy q s with c | c | c
   ·exact absurd heq (h2 (by omega) (by rw[← heq];exact hoo))
   ·exact c
   ·exact absurd heq.symm (h1 (by omega) hoo)
 have hc:=z_f hc;have hil:i < t.length:=by omega
 have hrv:=Do hil;refine AJ (λvs R3 D3=>R3 = R'∧∃o',D3 = (mb,o') :: (D ++ F)∧MpI o' (λy=>∃k:Nat,1≤k∧k < i + 1∧(rv t k).AT = y)∧(∀k:Nat,1≤k→k < i + 1→Hh k (rv t k)∧∀m:Nat,1≤m→m < k→0≤(rv t k).AT→(rv t m).AT≠(rv t k).AT)∧vs = [.map (some mb),S0 b t.length cap,I t.length,I i]) (λK2 hK2=>?_) ?_;rotate_left
 ·rintro e3 R3 D3 ⟨hR,o',hD,hm',hinv',he⟩;subst hR;rw[hD];clear hD;simp only[List.map,zc,zl,zj,z_t] at he;simp only[he];exact jad (hK (t.length - (i + 1)) _ _ _ (by omega) ⟨rfl,i + 1,o',rfl,by omega,rfl,rfl,hm',hinv'⟩)
 refine AJ (λvs R3 D3=>R3 = R'∧∃o',D3 = (mb,o') :: (D ++ F)∧MpI o' (λy=>∃k:Nat,1≤k∧k < i + 1∧(rv t k).AT = y)∧(∀k:Nat,1≤k→k < i + 1→Hh k (rv t k)∧∀m:Nat,1≤m→m < k→0≤(rv t k).AT→(rv t m).AT≠(rv t k).AT)∧vs = [.map (some mb),S0 b t.length cap,I t.length,I i]) (λK3 hK3=>?_) ?_;rotate_left
 ·rintro e3 R3 D3 ⟨hR,o',hD,hm',hinv',he⟩;subst hR;rw[hD];clear hD;simp only[List.map,zc,zl,zj,z_t] at he;simp only[he];exact hK2 _ _ _ ⟨rfl,o',rfl,hm',hinv',rfl⟩
 refine Cs hil (N7 hil ?_);refine ja λb13=>js (cs':=eRg (t[i])) rfl rfl (by exact z_n 5) rfl (jeq (jif (λhz=>?_) (λhz=>?_)))
 ·have hz:=eq_of_beq hz;have hz:i = 0:=by omega
  refine jk1 (F:=D ++ F) mb ?_;refine hK3 _ _ _ ⟨rfl,o,rfl,hm.iff λy=>⟨λ⟨k,h1,h2,h3⟩=>by omega,λ⟨k,h1,h2,h3⟩=>by omega⟩,λk h1 h2=>by omega,rfl⟩
 have hz:=ne_of_beq_false hz;have hi1:1≤i:=by omega
 obtain⟨sb,hsb⟩:∃sb:Bool,((∃k:Nat,1≤k∧k < i∧(rv t k).AT = (t[i]).AT)↔sb = true):=by
  by_cases h:∃k:Nat,1≤k∧k < i∧(rv t k).AT = (t[i]).AT
  ·exact⟨true,by simp[h]⟩
  ·exact⟨false,by simp[h]⟩
 refine jor [.map (some mb),Pt b13,S0 b t.length cap,I t.length,I i] (!Hj i (t[i]) || (decide ((t[i]).AT≥0) && sb)) (λK' hK'=>?_) (λe c u ho he=>?_)
 ·refine jla (l:=eRg (t[i])) (by exact z_n 5) rfl (jp (Mo (t[i]) (by omega) (by omega)) (BM (λh1=>?_) (λh1=>?_)))
  ·refine jl (v:=I (t[i]).AT) rfl (jge (Bm (λh2=>?_) (λh2=>?_)))
   ·refine jl (v:=I (t[i]).AT) rfl ?_;refine @jlk _ _ _ mb o _ _ sb _ hm hsb ?_;rw[h2];exact ED (hK' _ _ _ (h1▸Aj) (by rw[h1,h2];rfl))
   ·rw[h2];exact EC (hK' _ _ _ (h1▸Aj) (by rw[h1,h2];rfl))
  ·exact hK' _ _ _ (h1▸Al) (by rw[h1];rfl)
 simp only[List.map,zc,zl,zj,z_t] at he;simp only[he];rw[ho];refine jif (λhv=>?_) (λhv=>?_)
 ·refine Ai [] (G:=D ++ F) (Bc (nok λT=>?_));simp only[ZA,Z7,z_b,z_d] at hv;rcases hv with hv | ⟨hv1,hv2⟩
  ·have:=(Iv (by omega) (by omega)).2 (T.row i (by omega) (by omega));rw[hrv,hv] at this;cases this
  ·obtain⟨k,k1,k2,k3⟩:=hsb.2 hv2;have:=T.own i k (by omega) (by omega) (by omega) (by omega) (by rw[hrv];exact hv1) (by rw[hrv,k3]);omega
 ·simp only[Z1,ZJ,aM,decide_eq_false_iff_not] at hv;obtain⟨hv1,hv2⟩:=hv;refine jl (v:=I (t[i]).AT) rfl ?_;refine @jmu _ _ _ mb o _ _ _ _ hm λo' hm'=>?_
  refine jk1 (F:=D ++ F) mb ?_;refine hK3 _ _ _ ⟨rfl,o',rfl,hm'.iff λy=>⟨?_,?_⟩,λk h1 h2=>?_,rfl⟩
  ·rintro (⟨k,h1,h2,h3⟩ | rfl)
   ·exact⟨k,h1,by omega,h3⟩
   ·exact⟨i,hi1,by omega,by rw[hrv]⟩
  ·rintro⟨k,h1,h2,h3⟩;by_cases hk:k = i
   ·subst hk;rw[hrv] at h3;exact .inr h3.symm
   ·exact .inl ⟨k,h1,by omega,h3⟩
  ·by_cases hk:k = i
   ·subst hk;rw[hrv];refine⟨(Iv (by omega) (by omega)).1 hv1,λm m1 m2 h0 heq=>?_⟩;rcases hv2 with hv2 | hv2
    ·omega
    ·have:=hsb.1 ⟨m,m1,m2,heq⟩;rw[hv2] at this;cases this
   ·exact hinv k h1 (by omega)
end
section
variable {R:RM} {D:Chs} {t:List Rg} {sp:List Value} {b cap:Nat}
end
theorem YZ {f:Nat} {args:List Value} {v:Value} {R:RM} {D F:Chs} {k:Value→M} (hF:Ro f args v R D) (H:J R (D ++ F) (k v)):J R (D ++ F) (CA P f args k):=by
 intro h hs;refine EW ?_ (hF F h hs);rintro v' h' ⟨R',A',h1,h2,rfl,rfl⟩;exact H h' (h2.le h1)
section
variable {R:RM} {D:Chs} {t:List Rg} {sp:List Value} {b cap:Nat}
end
section
variable {R:RM} {D:Chs} {t:List Rg} {sp:List Value} {b cap:Nat}
end
theorem getD_some {w:List Int} {j:Nat} (h:j < w.length):w[j]? = some (w.getD j 0):=by
 rw[Z5,Yl h];rfl
theorem GN {R:RM} {D:Chs} {v:Value} {t:AZ} {k:Value→M} (h:ThV R v t) (H:J R D (k (I (AF t.sh)))):J R D (CA P G5 [v] k):=by
 refine jro (D:=D) (v:=I (AF t.sh)) ?_ H;refine LD λF=>?_
 unfold Fu;obtain⟨rv,nv,rfl,hr,hn⟩:=h;refine ja λb=>jfo ?_
 refine jla (l:=[I t.sh.refs,I t.sh.nums]) (Yp rfl) rfl (jp (Eo t.sh) ?_);exact Ai [] (G:=D ++ F) (Bc rfl)
theorem Xq {f:Nat} {args:List Value} {v:Value} {R:RM} {D:Chs} {b:Nat} {o:Obj} {k:Value→M} (hb:R b = some o) (hF:∀R' : RM,R'.le R→Ro f args v R' [(b,o)]) (H:J R D (k v)):J R D (CA P f args k):=by
 intro h hs;have hne:∀c o',(c,o')∈D→c≠b:=λc o' hm e=>by
  have:=(hs.at_ c o' hm).2;rw[e,hb] at this;cases this
 have le:RM.le (λc=>if c = b then none else R c) R:=λc o' h=>by
  have h:(if c = b then none else R c) = some o':=h;split at h
  ·cases h
  ·exact h
 have hs2:St h (λc=>if c = b then none else R c) ((b,o) :: D):=by
  refine⟨λc o' h=>hs.rd c o' (le c o' h),λc o' hm=>?_,?_⟩
  ·rcases Yw.1 hm with e | hm
   ·cases e;exact⟨hs.rd _ _ hb,if_pos rfl⟩
   ·have:=hs.at_ c o' hm;exact⟨this.1,(if_neg (hne c o' hm)).trans this.2⟩
  ·rw[Zn,Zi];refine⟨λhm=>?_,hs.nd⟩;obtain⟨⟨c,o'⟩,h1,h2⟩:=ZU.1 hm;exact hne c o' h1 h2
 refine EW ?_ (hF _ le D h hs2);rintro v' h' ⟨R2,A,hR,hst,rfl,rfl⟩;refine H h' ⟨λc o' hc=>?_,λc o' hm=>⟨(hst.at_ c o' (Zc _ hm)).1,(hs.at_ c o' hm).2⟩,?_⟩
 ·by_cases e:c = b
  ·subst e;rw[hb] at hc;cases hc;exact (hst.at_ _ _ (.head _)).1
  ·exact hst.rd c o' (hR c o' ((if_neg e).trans hc))
 ·have:=hst.nd;exact (Zi.1 this).2
set_option maxHeartbeats 1000000 in
theorem OP {R:RM} {wv:Value} {w:List Int} (r top:Int) (h:BC R wv w) (hl:w.length < 1000000) (hrn:∀x∈w,Rn x) :
  Fn P IY [wv,I r,I top] R [] (λv R' A=>A = []∧QTs (BL w r top) v R'):=by
 refine O7 λF=>?_
 unfold Hw;have inn:∀a:Int,inR (w.getD (a.toNat + 1) 0):=λa=>by
  rw[Z5];cases hx:w[a.toNat + 1]? with
  | none=>exact⟨by decide,by decide⟩
  | some x=>exact hrn x (List.mem_of_getElem? hx)
 obtain⟨wa,wc,hwv⟩:=h.sl;have eq:(w.length:Int).tdiv 16 = (w.length / 16:Nat):=by rw[Ze (by omega)];omega
 rw[hwv];have br:0≤AM r∧AM r≤176:=by unfold AM;split<;>omega
 refine jor [.slice wa w.length wc,I r,I top] ((!BJ w.length) || (decide (r < 1))) (λK' hK'=>?_) (λe c u ho he=>?_)
 ·refine jp (Fy wa w.length wc (by omega)) (BM (λh1=>?_) (λh1=>?_))
  ·refine jlt (hK' _ _ _ (h1▸Aj) (by rw[h1,Yk]))
  ·exact hK' _ _ _ (h1▸Al) (by rw[h1,Ym])
 simp only[List.map,zc,zl,zj,z_t] at he;simp only[he];refine jor [.slice wa w.length wc,I r,I top] ((!BJ w.length || decide (r < 1)) || (decide (r≥(w.length:Int).tdiv 16))) (λK' hK'=>?_) (λe c u ho he=>?_)
 ·rw[ho];refine BM (λh1=>?_) (λh1=>?_)
  ·refine jln (OL (by decide) ⟨by omega,by omega⟩ (jge (hK' _ _ _ (h1▸Aj) (by rw[h1,Yk]))))
  ·exact hK' _ _ _ (h1▸Al) (by rw[h1,Ym])
 simp only[List.map,zc,zl,zj,z_t] at he;simp only[he];refine jor [.slice wa w.length wc,I r,I top] ((!BJ w.length || decide (r < 1) || decide (r≥(w.length:Int).tdiv 16)) || (decide (top < AM r))) (λK' hK'=>?_) (λe c u ho he=>?_)
 ·rw[ho];refine BM (λh1=>?_) (λh1=>?_)
  ·refine jp (Dk r) (jlt (hK' _ _ _ (h1▸Aj) (by rw[h1,Yk])))
  ·exact hK' _ _ _ (h1▸Al) (by rw[h1,Ym])
 simp only[List.map,zc,zl,zj,z_t] at he;simp only[he];refine jor [.slice wa w.length wc,I r,I top] ((!BJ w.length || decide (r < 1) || decide (r≥(w.length:Int).tdiv 16) || decide (top < AM r)) || (decide (top > AM r + 16))) (λK' hK'=>?_) (λe c u ho he=>?_)
 ·rw[ho];refine BM (λh1=>?_) (λh1=>?_)
  ·refine jp (Dk r) (jad (jgr (hK' _ _ _ (h1▸Aj) (by rw[h1,Yk]))))
  ·exact hK' _ _ _ (h1▸Al) (by rw[h1,Ym])
 simp only[List.map,zc,zl,zj,z_t] at he;simp only[he];rw[ho];refine jif (λh0=>?_) (λh0=>?_)
 ·refine BA (A:=[]) (RM.le.refl R) ⟨rfl,?_⟩;have:BL w r top = none:=by
   unfold BL;rw[if_neg];intro hh;simp only[ZA,Z7,z_d,z_b] at h0 hh;rw[eq] at h0;obtain⟨⟨⟨⟨g1,g2⟩,g3⟩,g4⟩,g5⟩:=hh;rw[g1] at h0;rcases h0 with (((h0 | h0) | h0) | h0) | h0
   ·exact absurd h0 (by decide)
   all_goals omega
  rw[this];exact rfl
 simp only[Z1,ZJ,decide_eq_false_iff_not] at h0;rw[eq] at h0;obtain⟨⟨⟨⟨g1,g2⟩,g3⟩,g4⟩,g5⟩:=h0;have et:BL w r top = Ay w 16 (AM r) top:=by
  unfold BL;rw[if_pos];simp only[z_b,z_d];exact⟨⟨⟨⟨g1,by omega⟩,by omega⟩,by omega⟩,by omega⟩
 rw[← hwv];refine AJ (λvs R' D'=>R.le R'∧∃l tv A,BL w r top = some l∧(∃rows,Rw (ThC R') rows l∧SW As 6 rows tv A)∧D' = A ++ ([] ++ F)∧vs = [tv]) (λK hK=>?_) ?_;rotate_left
 ·rintro e R1 D1 ⟨hR,l,tv,A,hl,⟨rows,hrw,so⟩,hD,he⟩;rw[hD];clear hD;simp only[List.map,zc,zl,zj,z_t] at he;simp only[he];refine jfw so (hrw.all λ_ _=>ThC.len) λR2 hR2 hfz=>?_
  refine BA (A:=[]) (hR.trans hR2) ⟨rfl,?_⟩;rw[hl];exact⟨tv,⟨rows,hrw.mono λ_ _=>ThC.le hR2,hfz⟩,rfl⟩
 refine jp (Dk r) ?_;refine AJ (λvs R' D'=>R.le R'∧∃l tv A,BL w r top = some l∧(∃rows,Rw (ThC R') rows l∧SW As 6 rows tv A)∧D' = A ++ ([] ++ F)∧vs = [tv]) (λK2 hK2=>?_) ?_;rotate_left
 ·rintro e R1 D1 ⟨hR,l,tv,A,hl,so,hD,he⟩;rw[hD];clear hD;simp only[List.map,zc,zl,zj,z_t] at he;simp only[he];exact hK _ _ _ ⟨hR,l,tv,A,hl,so,rfl,rfl⟩
 refine jlp (λm vs R' D'=>R.le R'∧∃(a:Int) (l:List AZ) (tv:Value) (A:Chs) (rows:List (List Value)),m≤16∧AM r + 2 * (16 - m)≤a∧a≤top∧l.length≤16 - m∧(match Ay w m a top with | none=>none | some l2=>some (l ++ l2)) = BL w r top∧Rw (ThC R') rows l∧SW As 6 rows tv A∧D' = A ++ ([] ++ F)∧vs = [wv,I top,tv,I a])
  (n:=16) ⟨RM.le.refl R,AM r,[],.slice none 0 0,[],[],by omega,by omega,by omega,by simp,by rw[et];cases Ay w 16 (AM r) top<;>rfl,Rw.nil,.inl ⟨rfl,rfl,rfl⟩,rfl,rfl⟩ ?_
 rintro m e R1 D1 K3 ⟨hR,a,l,tv,A,rows,hm,ha,hat,hll,hth,hrw,so,hD,he⟩ hK3;rw[hD];clear hD;simp only[List.map,zc,zl,zj,z_t] at he;simp only[he];have h1:=h.le hR;refine jlt (jif (λhc=>?_) (λhc=>?_));rotate_left
 ·have hc:=z_g hc;refine hK2 _ _ _ ⟨hR,l,tv,A,?_,⟨rows,hrw,so⟩,rfl,rfl⟩;rw[← hth];cases m<;>(unfold Ay;rw[if_neg hc];simp)
 have hc:=z_f hc;obtain⟨m,rfl⟩:∃k,m = k + 1:=⟨m - 1,by omega⟩;unfold Ay at hth;rw[if_pos hc] at hth;dsimp only at hth;obtain⟨sz1,sz2⟩:=IK (BB w a).1.sh;have tsz:=@HG w a;refine jc (A:=[]) (Fs a h1 hl (inn a)) ?_;rintro _ R2 _ hR2 ⟨rfl,x,⟨rv,nv,rfl,hrv,hnv⟩,rfl⟩;generalize BB w a = t at hth hrv hnv sz1 sz2 tsz ⊢;obtain⟨t,tb⟩:=t;dsimp only at hth hrv hnv sz1 sz2 tsz ⊢;obtain⟨ra,rc,rfl⟩:=hrv.sl;obtain⟨na,nc,rfl⟩:=hnv.sl;refine jex rfl (jex rfl (ja λb=>?_));refine js (cs':=eTh t (.slice ra t.refs.length rc) (.slice na t.nums.length nc)) rfl rfl (by exact z_n 6) rfl ?_;refine jor [wv,I top,tv,I a,Pt b] ((!tb) || (decide (a + AF t.sh > top))) (λK' hK'=>?_) (λe c u ho he=>?_)
 ·refine BM (λh1=>?_) (λh1=>?_)
  ·refine jla (t:=As) (cs:=eTh t (.slice ra t.refs.length rc) (.slice na t.nums.length nc)) (l:=eTh t (.slice ra t.refs.length rc) (.slice na t.nums.length nc)) (by exact z_n 6) rfl (GN ⟨_,_,rfl,hrv,hnv⟩ (jad (jgr (hK' _ _ _ (h1▸Aj) (by rw[h1,Yk])))))
  ·exact hK' _ _ _ (h1▸Al) (by rw[h1,Ym])
 simp only[List.map,zc,zl,zj,z_t] at he;simp only[he];rw[ho];refine jif (λh0=>?_) (λh0=>?_)
 ·refine BA (A:=[]) (hR.trans hR2) ⟨rfl,?_⟩;have:BL w r top = none:=by
   rw[← hth,if_neg];intro hh;simp only[ZA,Z7,z_d,z_b] at h0 hh;rcases h0 with h0 | h0
   ·rw[h0] at hh;exact absurd hh.1 (by decide)
   ·omega
  rw[this];exact rfl
 simp only[Z1,ZJ,decide_eq_false_iff_not] at h0;obtain⟨h2,h3⟩:=h0;rw[if_pos (by rw[h2];simp;omega)] at hth;have tsz:=tsz h2;refine jla (l:=eTh t (.slice ra t.refs.length rc) (.slice na t.nums.length nc)) (by exact z_n 6) rfl ?_;refine jbs (cs:=eTh t (.slice ra t.refs.length rc) (.slice na t.nums.length nc)) rfl rfl λb4=>?_
 refine BH (D':=(b4,C As (eTh t (.slice ra t.refs.length rc) (.slice na t.nums.length nc))) :: ((b,C As (eTh t (.slice ra t.refs.length rc) (.slice na t.nums.length nc))) :: (A ++ ([] ++ F)))) (ZP _) ?_;refine Ai A (G:=(b4,C As (eTh t (.slice ra t.refs.length rc) (.slice na t.nums.length nc))) :: (b,C As (eTh t (.slice ra t.refs.length rc) (.slice na t.nums.length nc))) :: ([] ++ F)) ?_;have hx:BQ R2 (A ++ ((b4,C As (eTh t (.slice ra t.refs.length rc) (.slice na t.nums.length nc))) :: (b,C As (eTh t (.slice ra t.refs.length rc) (.slice na t.nums.length nc))) :: ([] ++ F))) (some ⟨b4,0,none⟩) (1 * 6) [eTh t (.slice ra t.refs.length rc) (.slice na t.nums.length nc)].flatten:=BQ.held (t:=As) (cs:=eTh t (.slice ra t.refs.length rc) (.slice na t.nums.length nc)) (o:=0) (n:=1 * 6) (z_n 6);have hrl:=hrw.1;refine jaw so (hrw.all λ_ _=>ThC.len) (by intro r hr;rw[Z3.1 hr];rfl) rfl rfl rfl (by decide) (by rw[Z4];omega) hx λv' A' so'=>?_
 refine jla (t:=As) (cs:=eTh t (.slice ra t.refs.length rc) (.slice na t.nums.length nc)) (l:=eTh t (.slice ra t.refs.length rc) (.slice na t.nums.length nc)) (by exact z_n 6) rfl (GN ⟨_,_,rfl,hrv,hnv⟩ (jad ?_));refine Ai A' (G:=[] ++ F) ?_;refine hK3 m _ _ _ (by omega) ⟨hR.trans hR2,a + AF t.sh,l ++ [t],v',A',rows ++ [eTh t (.slice ra t.refs.length rc) (.slice na t.nums.length nc)],by omega,by omega,by omega,by rw[Yn,Z4];omega,?_,(hrw.mono λ_ _=>ThC.le hR2).app (Rw.one ⟨_,_,rfl,hrv,hnv⟩),so',rfl,rfl⟩;rw[← hth];cases Ay w m (a + AF t.sh) top with
 | none=>rfl
 | some l2=>simp
end Go.Lf
end
section
namespace Sm
open Go.Lf
def Ee (s:B7):Bool:=BJ s.AB.length && BI s.A0 && s.A0.length == s.AB.length / 16 && s.AR.length == s.AB.length
def ER (s:B7):Option (List AZ):=if Ee s then BE s else none
def DV (s:B7) (a:Int):Bool:=decide (0≤AS a) && decide (AS a < s.A0.length) && (rv s.A0 (AS a)).kind == 4
def Bx (s:B7) (l:List AZ) (t:AZ):Bool:=t.moved == t.at_ || match BW l t.moved with
 | none=>false
 | some n=>n.sh == t.sh && n.moved == n.at_ && !DV s n.at_ && DV s t.at_
def CK (s:B7) (l:List AZ):Bool:=l.all (Bx s l)
def Ed (t:Th):Bool:=decide (t.AD.length≤8) && decide (0≤t.Au) && decide (t.Au≤2)
def Dm (s:B7) (l:List AZ) (a:Int):Bool:=match BW l a with
 | none=>false
 | some t=>t.moved == a && !DV s a
def CX (s:B7) (l:List AZ):Bool:=CK s l && decide (0≤s.Aa) && decide (s.Aa≤3) && decide (1≤s.AA.length) && decide (s.AA.length≤3) && decide (s.AO.length≤8) && s.AA.all Ed && s.AO.all (Dm s l)
def C0 (s:B7):Option (List AZ × List Int):=match ER s with
 | none=>none
 | some l=>if CX s l then (DE s l).map λm=>(l,m) else none
def DJ (s:B7):List Int:=s.AA.flatMap (·.AD) ++ s.AO
theorem Ot {w:List Int}:∀{n:Nat} {a top:Int} {l:List AZ},Ay w n a top = some l→l.Pairwise (λx y=>x.at_ + AF x.sh≤y.at_)∧∀t∈l,a≤t.at_∧t.at_ + AF t.sh≤top∧2≤AF t.sh∧(BB w t.at_) = (t,true)
 | 0,a,top,l,h=>by
  unfold Ay at h;split at h
  ·cases h
  ·cases h;exact⟨List.Pairwise.nil,λt ht=>by cases ht⟩
 | n + 1,a,top,l,h=>by
  unfold Ay at h;split at h;rotate_left
  ·cases h;exact⟨List.Pairwise.nil,λt ht=>by cases ht⟩
  dsimp only at h;split at h;rotate_left
  ·cases h
  rename_i h1 h2;simp only[z_b,z_d] at h2;have hs:=HG h2.1;have ha:(BB w a).1.at_ = a:=by
   have:=h2.1;unfold BB at this ⊢;split at this
   ·rename_i c1;rw[if_pos c1];dsimp only at this ⊢;split at this
    ·rename_i c2;rw[if_pos c2]
    ·cases this
   ·cases this
  cases ht:Ay w n (a + AF (BB w a).1.sh) top with
  | none=>rw[ht] at h;cases h
  | some l2=>
   rw[ht] at h;cases h;obtain⟨i1,i2⟩:=Ot ht;refine⟨List.pairwise_cons.2 ⟨λy hy=>by have:=i2 y hy;rw[ha];omega,i1⟩,λt ht=>?_⟩;rcases Yw.1 ht with rfl | ht
   ·exact⟨by rw[ha];omega,by rw[ha];exact h2.2,hs,by rw[ha,← h2.1]⟩
   ·have:=i2 t ht;exact⟨by omega,this.2⟩
theorem QT {w:List Int} {r:Nat} {top:Int} {l:List AZ} (h:BL w r top = some l):l.Pairwise (λx y=>x.at_ + AF x.sh≤y.at_)∧∀t∈l,16 * (r:Int)≤t.at_∧t.at_ + AF t.sh≤top∧top≤16 * r + 16∧2≤AF t.sh∧BB w t.at_ = (t,true):=by
 unfold BL at h;split at h;rotate_left
 ·cases h
 rename_i c;simp only[z_b,z_d] at c;obtain⟨⟨⟨⟨c1,c2⟩,c3⟩,c4⟩,c5⟩:=c;have:(r:Int) < 12:=by
  unfold BJ at c1;simp only[z_b,z_d] at c1;omega
 have hb:=Cx (r:=(r:Int)) (by omega) this;obtain⟨i1,i2⟩:=Ot h;exact⟨i1,λt ht=>by have:=i2 t ht;rw[hb] at this c5;exact⟨this.1,this.2.1,c5,this.2.2⟩⟩
theorem Ea {w:List Int}:∀{t:List Rg} {r:Nat} {l:List AZ},Bg w r t = some l→l.Pairwise (λx y=>x.at_ + AF x.sh≤y.at_)∧∀x∈l,16 * (r:Int)≤x.at_∧2≤AF x.sh∧BB w x.at_ = (x,true)∧∃k:Nat,∃h:k < t.length,x.at_ / 16 = r + k∧x.at_ + AF x.sh≤(t[k]).top∧(t[k]).top≤16 * (r + k) + 16
 | [],r,l,h=>by cases h;exact⟨List.Pairwise.nil,λt ht=>by cases ht⟩
 | x :: t,r,l,h=>by
  unfold Bg at h;cases h1:BL w r x.top with
  | none=>rw[h1] at h;cases h
  | some a=>
   rw[h1] at h;dsimp only at h;cases h2:Bg w (r + 1) t with
   | none=>rw[h2] at h;cases h
   | some b=>
    rw[h2] at h;cases h;obtain⟨i1,i2⟩:=QT h1;obtain⟨j1,j2⟩:=Ea h2;refine⟨List.pairwise_append.2 ⟨i1,j1,λy hy z hz=>?_⟩,λy hy=>?_⟩
    ·have:=i2 y hy;have:=j2 z hz;omega
    ·rcases ZD.1 hy with hy | hy
     ·have:=i2 y hy;exact⟨this.1,this.2.2.2.1,this.2.2.2.2,0,by simp,by omega,this.2.1,by simpa using this.2.2.1⟩
     ·obtain⟨g1,g2,g3,k,hk,g4,g5,g6⟩:=j2 y hy;exact⟨by omega,g2,g3,k + 1,by simp;omega,by omega,by simpa using g5,by simp only[List.getElem_cons_succ];omega⟩
theorem NZ {l:List AZ} (h:l.Pairwise (λx y=>x.at_ + AF x.sh≤y.at_)) (hs:∀x∈l,2≤AF x.sh):(l.map AZ.at_).Nodup:=by
 rw[List.Nodup,List.pairwise_map];exact h.imp_of_mem λ{a b} ha hb h e=>by have:=hs a ha;omega
theorem Bw {l:List AZ} {a:Int} {t:AZ} (h:BW l a = some t):t∈l∧t.at_ = a:=by
 unfold BW at h;exact⟨aX h,by simpa using List.find?_some h⟩
theorem ES {l:List AZ} (hn:(l.map AZ.at_).Nodup) {t:AZ} (h:t∈l):BW l t.at_ = some t:=by
 unfold BW;induction l with
 | nil=>cases h
 | cons x l ih=>
  rw[Zn,Zi] at hn;rcases Yw.1 h with rfl | h
  ·rw[aT (by simp)]
  ·have:x.at_≠t.at_:=λe=>hn.1 (e▸aA h)
   rw[aU (by simpa using this)];exact ih hn.2 h
end Sm
end
section
namespace Go.Lf
open Go Sm
def RgZ (R:RM) (v:Value) (t:List Rg):Prop:=∃b c sp,v = S0 b t.length c∧R b = some (C AI (Ab eRg t ++ sp))∧t.length≤c
theorem RgZ.le {R R' : RM} {v:Value} {t:List Rg} (h:R.le R') (H:RgZ R v t):RgZ R' v t:=by
 obtain⟨b,c,sp,h1,h2,h3⟩:=H;exact⟨b,c,sp,h1,h _ _ h2,h3⟩
structure SF (R:RM) (s:Sm.B7) (wv tv mv thv ov pv:Value):Prop where
 c:StC R s wv tv mv thv ov pv
 z:RgZ R tv s.A0
 b:StB 9 s
theorem SF.le {R R' : RM} {s:Sm.B7} {wv tv mv thv ov pv:Value} (h:R.le R') (H:SF R s wv tv mv thv ov pv):SF R' s wv tv mv thv ov pv:=⟨H.c.le h,H.z.le h,H.b⟩
theorem Hz {a:Int} (h0:0≤a) (h1:a < 1000000):Pu IR [I a] (I (AS a)):=by
 intro R;refine ON λF=>?_
 unfold I4;have e1:a.tdiv 16 = a / 16:=Ze h0;refine jlt (jif (λh=>?_) (λh=>?_))
 ·have h:=z_f h;omega
 ·refine OL (by decide) (by rw[e1];constructor<;>omega) ?_;rw[e1];exact BA (A:=[]) (RM.le.refl R) (by unfold AS;rw[if_neg (by omega)])
section st
variable {R:RM} {s:Sm.B7} {wv tv mv thv ov pv:Value}
theorem TL (h:SF R s wv tv mv thv ov pv):Ro FX [.agg (eSt s wv tv mv thv ov pv).toArray] (.bool (Ee s)) R []:=by
 refine KO λF=>?_
 unfold Ff;refine ja λb=>?_
 rw[show cl (.agg (eSt s wv tv mv thv ov pv).toArray) = eSt s wv tv mv thv ov pv from rfl];obtain⟨tb,tc,sp,rfl,hb,htc⟩:=h.z;obtain⟨wa,wc,rfl⟩:=h.c.w.sl;obtain⟨ma,mc,rfl⟩:=h.c.m.sl;have t0:=h.b.t0;have t1:=h.b.t1;have wl:=h.b.wl;have eq:(s.AB.length:Int).tdiv 16 = (s.AB.length / 16:Nat):=by rw[Ze (by omega)];omega
 refine jan [Pt b] ((BJ s.AB.length) && (BI s.A0)) (λK' hK'=>?_) (λe c u ho he=>?_)
 ·refine jl (v:=.slice wa s.AB.length wc) rfl (jp (Fy wa s.AB.length wc (by omega)) (Bm (λh1=>?_) (λh1=>?_)))
  ·refine jl (v:=S0 tb s.A0.length tc) rfl (Xq hb (λR' _=>Pf (t:=s.A0) (sp:=sp) (by omega)) (hK' _ _ _ (h1▸Aq) (by rw[h1,Yx])))
  ·exact hK' _ _ _ (h1▸Av) (by rw[h1,Yy])
 simp only[List.map,zc,zl,zj,z_t] at he;simp only[he];refine jan [Pt b] ((BJ s.AB.length && BI s.A0) && ((s.A0.length:Int) == (s.AB.length:Int).tdiv 16)) (λK' hK'=>?_) (λe c u ho he=>?_)
 ·rw[ho];refine Bm (λh1=>?_) (λh1=>?_)
  ·refine jl (v:=S0 tb s.A0.length tc) rfl (jln (jl (v:=.slice wa s.AB.length wc) rfl (jln (OL (by decide) ⟨by omega,by omega⟩ (jeq (hK' _ _ _ (h1▸Aq) (by rw[h1,Yx])))))))
  ·exact hK' _ _ _ (h1▸Av) (by rw[h1,Yy])
 simp only[List.map,zc,zl,zj,z_t] at he;simp only[he];refine jan [] ((BJ s.AB.length && BI s.A0 && ((s.A0.length:Int) == (s.AB.length:Int).tdiv 16)) && ((s.AR.length:Int) == (s.AB.length:Int))) (λK' hK'=>?_) (λe c u ho he=>?_)
 ·rw[ho];refine Bm (λh1=>?_) (λh1=>?_)
  ·refine jl (v:=.slice ma s.AR.length mc) rfl (jln (jl (v:=.slice wa s.AB.length wc) rfl (jln (jeq (hK' _ _ _ (h1▸Aq) (by rw[h1,Yx]))))))
  ·exact hK' _ _ _ (h1▸Av) (by rw[h1,Yy])
 simp only[List.map,zc,zl,zj,z_t] at he;simp only[he];rw[ho];refine Bc ?_;have e1:((s.A0.length:Int) == ((s.AB.length / 16:Nat):Int)) = (s.A0.length == s.AB.length / 16):=by rw[ZT,beq_iff_eq,beq_iff_eq];omega
 have e2:((s.AR.length:Int) == (s.AB.length:Int)) = (s.AR.length == s.AB.length):=by rw[ZT,beq_iff_eq,beq_iff_eq];omega
 rw[eq,e1,e2];rfl
theorem Kt (h:SF R s wv tv mv thv ov pv) {a:Int} (h0:0≤a) (h1:a < 1000000):Ro G4 [.agg (eSt s wv tv mv thv ov pv).toArray,I a] (.bool (DV s a)) R []:=by
 refine L7 λF=>?_
 unfold GH;refine ja λb=>?_
 rw[show cl (.agg (eSt s wv tv mv thv ov pv).toArray) = eSt s wv tv mv thv ov pv from rfl];obtain⟨tb,tc,sp,rfl,hb,htc⟩:=h.z;refine jp (Hz h0 h1) ?_;refine jan [Pt b,I (AS a)] ((decide (AS a≥0)) && (decide (AS a < s.A0.length))) (λK' hK'=>?_) (λe c u ho he=>?_)
 ·refine jge (Bm (λh1=>?_) (λh1=>?_))
  ·refine jl (v:=S0 tb s.A0.length tc) rfl (jln (jlt (hK' _ _ _ (h1▸Aq) (by rw[h1,Yx]))))
  ·exact hK' _ _ _ (h1▸Av) (by rw[h1,Yy])
 simp only[List.map,zc,zl,zj,z_t] at he;simp only[he];refine jan [] (decide (AS a≥0) && decide (AS a < s.A0.length) && ((rv s.A0 (AS a)).kind == 4)) (λK' hK'=>?_) (λe c u ho he=>?_)
 ·rw[ho];refine Bm (λh1=>?_) (λh1=>?_)
  ·have h2:=h1;simp only[z_b,z_d] at h2;obtain⟨r,hr⟩:∃r:Nat,AS a = r:=⟨(AS a).toNat,by omega⟩;have hlt:r < s.A0.length:=by omega
   refine jl (v:=S0 tb s.A0.length tc) rfl ?_;rw[hr];refine Cs hlt (jfo (jlr (v:=I (s.A0[r]).kind) hb (by rw[Z6];exact Bu (f:=0) hlt rfl) (jeq (hK' _ _ ((s.A0[r]).kind == 4) (by rw[← hr,h1];exact Aq) ?_))));rw[h1,hr,Do hlt,Yx]
  ·exact hK' _ _ _ (h1▸Av) (by rw[h1,Yy])
 simp only[List.map,zc,zl,zj,z_t] at he;simp only[he];rw[ho];exact Bc rfl
theorem DD {r:Nat}:∀(l:List Th),(∀t∈l,t.AD.length≤r)→(l.flatMap (·.AD)).length≤r * l.length
 | [],_=>by simp
 | t :: l,h=>by
  have h1:=h t (by simp);have h2:=DD l (λt ht=>h t (by simp[ht]));rw[List.flatMap_cons,Yn,Z8,Nat.mul_succ];omega
theorem TW (h:SF R s wv tv mv thv ov pv):Fn P FW [.agg (eSt s wv tv mv thv ov pv).toArray] R [] (λv R' A=>R' = R∧SO (DJ s) v A):=by
 refine KN λF=>?_
 unfold FV;refine ja λb=>?_
 rw[show cl (.agg (eSt s wv tv mv thv ov pv).toArray) = eSt s wv tv mv thv ov pv from rfl];have n1:=h.b.n1;have rl:=h.b.rl;have pl:=h.b.pl;have fl:=DD s.AA rl;have fle:9 * s.AA.length≤27:=by omega
 refine AJ (λvs R' D'=>R' = R∧∃v A,SO (s.AA.flatMap (·.AD)) v A∧D' = A ++ ((b,C AK (eSt s wv tv mv thv ov pv)) :: F)∧vs = [Pt b,v]) (λK hK=>?_) ?_
 ·refine jl (v:=thv) rfl (CN h.c.th.sl ?_);refine AJ (λvs R' D'=>R' = R∧∃v A,SO (s.AA.flatMap (·.AD)) v A∧D' = A ++ ((b,C AK (eSt s wv tv mv thv ov pv)) :: F)∧vs = [Pt b,v]) (λK2 hK2=>?_) ?_
  ·refine jlp (λm vs R' D'=>R' = R∧∃(i:Nat) (v:Value) (A:Chs),i≤s.AA.length∧m = s.AA.length - i∧SO ((s.AA.take i).flatMap (·.AD)) v A∧D' = A ++ ((b,C AK (eSt s wv tv mv thv ov pv)) :: F)∧vs = [Pt b,v,thv,I s.AA.length,I i]) (n:=s.AA.length) ⟨rfl,0,_,[],by omega,rfl,.inl ⟨rfl,rfl,rfl⟩,rfl,rfl⟩ ?_;rintro m e R1 D1 K3 ⟨hR,i,v,A,hi,hm,so,hD,he⟩ hK3;subst hR;rw[hD];clear hD;simp only[List.map,zc,zl,zj,z_t] at he;simp only[he];refine jlt (jif (λhc=>?_) (λhc=>?_));rotate_left
   ·have hc:=z_g hc;rw[Yz (by omega)] at so;exact hK2 _ _ _ ⟨rfl,v,A,so,rfl,rfl⟩
   have hc:i < s.AA.length:=by have:=z_f hc;omega
   obtain⟨ta,tcc,htv⟩:=h.c.th.sl;refine jtr h.c.th hc λb2 o2 ty cs rv hrv hb2 ho2 hrow=>?_
   refine HL (l:=[rv,I (s.AA[i]).next,.bool (s.AA[i]).busy,I (s.AA[i]).Au]) hb2 ho2 hrow (ja λb3=>?_);obtain⟨ra,rc,rfl⟩:=hrv.sl;refine js (cs':=[.slice ra (s.AA[i]).AD.length rc,I (s.AA[i]).next,.bool (s.AA[i]).busy,I (s.AA[i]).Au]) rfl rfl (Yp rfl) rfl ?_;refine jl (v:=.slice ra (s.AA[i]).AD.length rc) rfl ?_;refine C4 ?_;obtain⟨xa,cx,hxv,hx⟩:=Fz.reads (D:=A ++ ((b,C AK (eSt s wv tv mv thv ov pv)) :: F)) hrv;cases hxv;have hrl:=rl _ (Yv hc);have ftl:=DD (s.AA.take i) (λt ht=>rl t (ZL ht));have ftl2:9 * (s.AA.take i).length≤27:=by rw[Z0];omega
   refine jas so rfl (by omega) hx λv' A' so'=>?_
   refine jad ?_;refine hK3 (s.AA.length - (i + 1)) _ _ _ (by omega) ⟨rfl,i + 1,v',A',by omega,rfl,?_,rfl,rfl⟩;rw[Yq hc,List.flatMap_append];simpa using so'
  rintro e R1 D1 ⟨hR,v,A,so,hD,he⟩;subst hR;rw[hD];clear hD;simp only[List.map,zc,zl,zj,z_t] at he;simp only[he];exact hK _ _ _ ⟨rfl,v,A,so,rfl,rfl⟩
 rintro e R1 D1 ⟨hR,v,A,so,hD,he⟩;subst hR;rw[hD];clear hD;simp only[List.map,zc,zl,zj,z_t] at he;simp only[he];obtain⟨pa,pc,rfl⟩:=h.c.p.sl;refine jl (v:=.slice pa s.AO.length pc) (by exact rfl) ?_;obtain⟨xa,cx,hxv,hx⟩:=Fz.reads (D:=A ++ ((b,C AK (eSt s wv tv mv thv ov (.slice pa s.AO.length pc))) :: F)) h.c.p;cases hxv;refine jas so rfl (by omega) hx λv' A' so'=>?_
 refine Ai A' (G:=F) ?_;exact BA (A:=A') (RM.le.refl _) ⟨rfl,so'⟩
end st
theorem Q9:P.underlying 73 = some (.map 3 62):=by kernel_rfl
theorem Yd (w:World):(zeroValue 62).run P w = .ok z62 w:=by kernel_rfl
theorem Xm (w:World):(Instr.makeMap 73 none).run P w = .ok (.map (some w.heap.size)) (w.alloc (.map #[] 0)):=rfl
def MpT (R:RM) (o:Obj) (l:List AZ):Prop:=∃ps:List (Int × Value),Mg o ps∧ps.length = l.length∧∀i (h:i < ps.length) (h' : i < l.length),(ps[i]).1 = (l[i]).at_∧ThV R (ps[i]).2 (l[i])
theorem MpT.le {R R' : RM} {o:Obj} {l:List AZ} (h:R.le R') (H:MpT R o l):MpT R' o l:=by
 obtain⟨ps,h1,h2,h3⟩:=H;exact⟨ps,h1,h2,λi a b=>⟨(h3 i a b).1,(h3 i a b).2.le h⟩⟩
theorem QS {R:RM} {x:Int}:∀{ps:List (Int × Value)} {l:List AZ},ps.length = l.length→(∀i (h:i < ps.length) (h' : i < l.length),(ps[i]).1 = (l[i]).at_∧ThV R (ps[i]).2 (l[i]))→(BW l x = none∧lk ps x = none)∨∃t v,BW l x = some t∧lk ps x = some v∧ThV R v t
 | [],[],_,_=>.inl ⟨rfl,rfl⟩
 | p :: ps,t :: l,hl,h=>by
  obtain⟨h1,h2⟩:=h 0 (by simp) (by simp);have h1:p.1 = t.at_:=h1;have h2:ThV R p.2 t:=h2;by_cases c:t.at_ = x
  ·refine .inr ⟨t,p.2,?_,?_,h2⟩
   ·unfold BW;rw[aT (by simpa using c)]
   ·unfold lk;rw[aT (by simpa [h1] using c)];rfl
  ·have ih:=QS (R:=R) (x:=x) (ps:=ps) (l:=l) (by simpa using hl) (λi a b=>h (i + 1) (by simpa using a) (by simpa using b));have e1:BW (t :: l) x = BW l x:=by unfold BW;rw[aU (by simpa using c)]
   have e2:lk (p :: ps) x = lk ps x:=by unfold lk;rw[aU (by simpa [h1] using c)]
   rw[e1,e2];exact ih
theorem Tj {R:RM} {D:Chs} {k:Value→M} {b:Nat} {o:Obj} {l:List AZ} {x:Int} (c:Bool) (a:Li R D b o) (hm:MpT R o l)
  (H0:BW l x = none→J R D (k (if c then .tuple #[z62,.bool false] else z62)))
  (H1:∀t v,BW l x = some t→ThV R v t→J R D (k (if c then .tuple #[v,.bool true] else v))):J R D (X P (Instr.lookup 73 (.map (some b)) (I x) c) k):=by
 obtain⟨ps,h1,h2,h3⟩:=hm;refine @YR R D k 73 62 b o ps x z62 c a Q9 Yd h1 ?_;rcases QS (R:=R) (x:=x) h2 h3 with ⟨e1,e2⟩ | ⟨t,v,e1,e2,e3⟩
 ·rw[e2];exact H0 e1
 ·rw[e2];exact H1 t v e1 e3
def QTm (r:Option (List AZ)) (v:Value) (R:RM):Prop:=match r with
 | none=>v = .tuple #[.map none,.bool false]
 | some l=>∃mb o,R mb = some o∧MpT R o l∧v = .tuple #[.map (some mb),.bool true]
section st
variable {R:RM} {s:Sm.B7} {wv tv mv thv ov pv:Value}
set_option maxHeartbeats 1000000 in
theorem Qf (h:SF R s wv tv mv thv ov pv):Fn P Et [.agg (eSt s wv tv mv thv ov pv).toArray] R [] (λv R' A=>A = []∧QTm (ER s) v R'):=by
 refine Ir λF=>?_
 unfold Eu;refine ja λb=>?_
 rw[show cl (.agg (eSt s wv tv mv thv ov pv).toArray) = eSt s wv tv mv thv ov pv from rfl];have t0:=h.b.t0;have t1:=h.b.t1;have wl:=h.b.wl;have wr:=h.b.wr;refine jla (l:=eSt s wv tv mv thv ov pv) (by exact z_n 13) rfl (jrp (TL h) (jif (λh0=>?_) (λh0=>?_)))
 ·have h0:Ee s = false:=by simpa using h0
  refine BA (A:=[]) (RM.le.refl R) ⟨rfl,?_⟩;have:ER s = none:=by unfold ER;rw[if_neg (by rw[h0];decide)]
  rw[this];exact rfl
 have h0:Ee s = true:=by simpa using h0
 have eth:ER s = BE s:=by unfold ER;rw[if_pos h0]
 rw[eth];refine Xr Xm λmb o0 hm0=>?_
 refine AJ (λvs R' D'=>R.le R'∧∃l o,BE s = some l∧MpT R' o l∧D' = (mb,o) :: (b,C AK (eSt s wv tv mv thv ov pv)) :: F∧vs = [.map (some mb)]) (λK hK=>?_) ?_;rotate_left
 ·rintro e R1 D1 ⟨hR,l,o,hl,hm,hD,he⟩;rw[hD];clear hD;simp only[List.map,zc,zl,zj,z_t] at he;simp only[he];refine Bh (b:=mb) λR2 hR2 hb=>?_
  refine BA (A:=[]) (hR.trans hR2) ⟨rfl,?_⟩;rw[hl];exact⟨mb,o,hb,hm.le hR2,rfl⟩
 refine AJ (λvs R' D'=>R.le R'∧∃l o,BE s = some l∧MpT R' o l∧D' = (mb,o) :: (b,C AK (eSt s wv tv mv thv ov pv)) :: F∧vs = [.map (some mb)]) (λK2 hK2=>?_) ?_;rotate_left
 ·rintro e R1 D1 ⟨hR,l,o,hl,hm,hD,he⟩;rw[hD];clear hD;simp only[List.map,zc,zl,zj,z_t] at he;simp only[he];exact hK _ _ _ ⟨hR,l,o,hl,hm,rfl,rfl⟩
 refine jlp (λm vs R' D'=>R.le R'∧∃(i:Nat) (l:List AZ) (o:Obj),1≤i∧i≤s.A0.length + 1∧m = s.A0.length + 1 - i∧(match Bg s.AB i (s.A0.drop i) with | none=>none | some l2=>some (l ++ l2)) = BE s∧MpT R' o l∧(∀t∈l,t.at_ < 16 * i)∧D' = (mb,o) :: (b,C AK (eSt s wv tv mv thv ov pv)) :: F∧vs = [Pt b,.map (some mb),I i])
  (n:=s.A0.length) ⟨RM.le.refl R,1,[],o0,by omega,by omega,by omega,by unfold BE;rw[List.drop_one];cases Bg s.AB 1 s.A0.tail<;>rfl,⟨[],hm0,rfl,λi h=>absurd h (by simp)⟩,(λt ht=>by cases ht),rfl,rfl⟩ ?_
 rintro m e R1 D1 K3 ⟨hR,i,l,o,hi0,hi1,hmm,hth,hm,hlt,hD,he⟩ hK3;rw[hD];clear hD;simp only[List.map,zc,zl,zj,z_t] at he;simp only[he];have h1:=h.le hR;refine jl (v:=tv) rfl (CN h1.c.t.sl (jlt (jif (λhc=>?_) (λhc=>?_))));rotate_left
 ·have hc:=z_g hc;refine hK2 _ _ _ ⟨hR,l,o,?_,hm,rfl,rfl⟩;rw[← hth,Z2 (by omega)];simp[Bg]
 have hc:i < s.A0.length:=by have:=z_f hc;omega
 rw[Yu hc] at hth;unfold Bg at hth;refine AJ (λvs R' D'=>R1.le R'∧∃l1 o,BL s.AB i (s.A0[i]).top = some l1∧MpT R' o (l ++ l1)∧D' = (mb,o) :: (b,C AK (eSt s wv tv mv thv ov pv)) :: F∧vs = [Pt b,.map (some mb),I i]) (λK4 hK4=>?_) ?_;rotate_left
 ·rintro e R2 D2 ⟨hR2,l1,o1,hl1,hm1,hD,he⟩;rw[hD];clear hD;simp only[List.map,zc,zl,zj,z_t] at he;simp only[he];refine jad ?_;refine hK3 (s.A0.length + 1 - (i + 1)) _ _ _ (by omega) ⟨hR.trans hR2,i + 1,l ++ l1,o1,by omega,by omega,by omega,?_,hm1,λt ht=>?_,rfl,rfl⟩
  ·rw[← hth,hl1];dsimp only;cases Bg s.AB (i + 1) (s.A0.drop (i + 1)) with
   | none=>rfl
   | some l2=>simp
  ·rcases ZD.1 ht with ht | ht
   ·have:=hlt t ht;omega
   ·have:=(QT hl1).2 t ht;omega
 refine AJ (λvs R' D'=>R1.le R'∧∃l1 o,BL s.AB i (s.A0[i]).top = some l1∧MpT R' o (l ++ l1)∧D' = (mb,o) :: (b,C AK (eSt s wv tv mv thv ov pv)) :: F∧vs = [Pt b,.map (some mb),I i]) (λK5 hK5=>?_) ?_;rotate_left
 ·rintro e R2 D2 ⟨hR2,l1,o1,hl1,hm1,hD,he⟩;rw[hD];clear hD;simp only[List.map,zc,zl,zj,z_t] at he;simp only[he];exact hK4 _ _ _ ⟨hR2,l1,o1,hl1,hm1,rfl,rfl⟩
 refine jl (v:=wv) rfl (jl (v:=tv) rfl (jrg h1.c.t hc λb2 o2 ty cs hb ho hrow=>?_));refine jfo (jlr (v:=I (s.A0[i]).top) hb (C6 hrow (f:=2) rfl) ?_);refine jc (A:=[]) (OP i (s.A0[i]).top h1.c.w (by omega) wr) ?_;rintro _ R2 _ hR2 ⟨rfl,hq⟩;cases hti:BL s.AB i (s.A0[i]).top with
 | none=>
  rw[hti] at hq hth;subst hq;refine jex rfl (jex rfl (DO ?_));refine BA (A:=[]) (hR.trans hR2) ⟨rfl,?_⟩;rw[← hth];exact rfl
 | some l1=>
  rw[hti] at hq;obtain⟨tv1,htg,rfl⟩:=hq;refine OH (jex rfl (jex rfl (Cn (CN htg.sl ?_))));obtain⟨as1,as2⟩:=QT hti;have nd1:=NZ as1 (λx hx=>(as2 x hx).2.2.2.1);refine AJ (λvs R' D'=>R' = R2∧∃o,MpT R' o (l ++ l1)∧D' = (mb,o) :: (b,C AK (eSt s wv tv mv thv ov pv)) :: F∧vs = [Pt b,.map (some mb),I i]) (λK6 hK6=>?_) ?_;rotate_left
  ·rintro e R3 D3 ⟨hR3,o1,hm1,hD,he⟩;subst hR3;rw[hD];clear hD;simp only[List.map,zc,zl,zj,z_t] at he;simp only[he];exact hK5 _ _ _ ⟨hR2,l1,o1,hti,hm1,rfl,rfl⟩
  refine jlp (λm vs R' D'=>R' = R2∧∃(j:Nat) (o:Obj),j≤l1.length∧m = l1.length - j∧MpT R' o (l ++ l1.take j)∧D' = (mb,o) :: (b,C AK (eSt s wv tv mv thv ov pv)) :: F∧vs = [Pt b,.map (some mb),I i,tv1,I l1.length,I j])
   (n:=l1.length) ⟨rfl,0,o,by omega,rfl,by rw[List.take_zero,ZV];exact hm.le hR2,rfl,rfl⟩ ?_
  rintro m2 e R3 D3 K7 ⟨hR3,j,o1,hj,hm2,⟨ps,hmg,hpl,hps⟩,hD,he⟩ hK7;subst hR3;rw[hD];clear hD;simp only[List.map,zc,zl,zj,z_t] at he;simp only[he];refine jlt (jif (λhcj=>?_) (λhcj=>?_));rotate_left
  ·have hcj:=z_g hcj;rw[Yz (by omega)] at hpl hps;exact hK6 _ _ _ ⟨rfl,o1,⟨ps,hmg,hpl,hps⟩,rfl,rfl⟩
  have hcj:j < l1.length:=by have:=z_f hcj;omega
  have hil:=Qw hti;refine jtg htg hcj λb3 o3 ty3 cs3 rv nv hrv hnv hb3 ho3 hrow3=>?_
  obtain⟨ra,rc,rfl⟩:=hrv.sl;obtain⟨na,nc,rfl⟩:=hnv.sl;refine HL (l:=eTh (l1[j]) (.slice ra (l1[j]).refs.length rc) (.slice na (l1[j]).nums.length nc)) hb3 ho3 hrow3 (ja λb4=>?_);refine js (cs':=eTh (l1[j]) (.slice ra (l1[j]).refs.length rc) (.slice na (l1[j]).nums.length nc)) rfl rfl (by exact z_n 6) rfl ?_;refine jl (v:=I (l1[j]).at_) rfl (jla (l:=eTh (l1[j]) (.slice ra (l1[j]).refs.length rc) (.slice na (l1[j]).nums.length nc)) (by exact z_n 6) rfl ?_);refine @YP _ _ _ 73 62 mb o1 _ ps _ _ _ Q9 hmg λo' hmg'=>?_
  have hno:lk ps (l1[j]).at_ = none:=by
   rcases QS (R:=R3) (x:=(l1[j]).at_) hpl hps with ⟨_,e⟩ | ⟨t,v,e1,_,_⟩
   ·exact e
   ·exfalso;obtain⟨m1,m2⟩:=Bw e1;rcases ZD.1 m1 with m1 | m1
    ·have g1:=hlt t m1;have g2:=(as2 _ (Yv hcj)).1;omega
    ·obtain⟨q,hq,rfl⟩:=ZH m1;rw[Z0] at hq;rw[aZ] at m2;have:=aL.1 as1 q j (by omega) hcj (by omega);have:=(as2 _ (Yv (show q < l1.length by omega))).2.2.2.1;omega
  have hup:up ps (l1[j]).at_ (.agg (eTh (l1[j]) (.slice ra (l1[j]).refs.length rc) (.slice na (l1[j]).nums.length nc)).toArray) = ps ++ [((l1[j]).at_,.agg (eTh (l1[j]) (.slice ra (l1[j]).refs.length rc) (.slice na (l1[j]).nums.length nc)).toArray)]:=by unfold up;rw[if_neg (by rw[hno];simp)]
  rw[hup] at hmg';refine jad ?_;refine Ai [(mb,o')] (G:=(b,C AK (eSt s wv tv mv thv ov pv)) :: F) ?_;refine hK7 (l1.length - (j + 1)) _ _ _ (by omega) ⟨rfl,j + 1,o',by omega,rfl,⟨_,hmg',?_,λq hq hq'=>?_⟩,rfl,rfl⟩
  ·rw[Yq hcj,← Ys,Yn,Yn,hpl];rfl
  ·rw[Yn,Z4] at hq;have e:l ++ l1.take (j + 1) = (l ++ l1.take j) ++ [l1[j]]:=by rw[Yq hcj,Ys]
   simp only[e];by_cases c:q < ps.length
   ·rw[Zs c,Zs (by omega)];exact hps q c (by omega)
   ·rw[Zq (by omega),Zq (by omega)];simp only[List.getElem_singleton];exact⟨trivial,_,_,rfl,hrv,hnv⟩
end st
theorem XX {R:RM} {D:Chs} {k:Value→M} {b:Nat} {o:Obj} {l:List AZ} {x:Int} (a:Li R D b o) (hm:MpT R o l)
  (H:∀(n:AZ) (nb:Bool) (rv nv:Value),nb = (BW l x).isSome→(nb = true→BW l x = some n)→BC R rv n.refs→BC R nv n.nums→J R D (k (.tuple #[.agg (eTh n rv nv).toArray,.bool nb]))):J R D (X P (Instr.lookup 73 (.map (some b)) (I x) true) k):=by
 refine @Tj R D k b o l x true a hm (λh=>?_) (λt v h hv=>?_)
 ·exact H CD false (.slice none 0 0) (.slice none 0 0) (by rw[h];rfl) (λh=>by cases h) (.inl ⟨rfl,rfl,rfl⟩) (.inl ⟨rfl,rfl,rfl⟩)
 ·obtain⟨rv,nv,rfl,h1,h2⟩:=hv;exact H t true rv nv (by rw[h];rfl) (λ_=>h) h1 h2
section st
variable {R:RM} {s:Sm.B7} {wv tv mv thv ov pv:Value}
theorem XW {o:Obj} {l:List AZ} {ps:List (Int × Value)} (h2:ps.length = l.length) (h3:∀i (h:i < ps.length) (h' : i < l.length),(ps[i]).1 = (l[i]).at_∧ThV R (ps[i]).2 (l[i])) {p:Int × Value} (hp:p∈ps):∃t∈l,p.1 = t.at_∧ThV R p.2 t:=by
 obtain⟨i,hi,rfl⟩:=ZH hp;exact⟨l[i],Yv (by omega),h3 i hi (by omega)⟩
theorem XA {l:List AZ} {ps:List (Int × Value)} (h2:ps.length = l.length) (h3:∀i (h:i < ps.length) (h' : i < l.length),(ps[i]).1 = (l[i]).at_∧ThV R (ps[i]).2 (l[i])) {t:AZ} (ht:t∈l):∃p∈ps,p.1 = t.at_:=by
 obtain⟨i,hi,rfl⟩:=ZH ht;exact⟨ps[i]'(by omega),Yv (by omega),(h3 i (by omega) hi).1⟩
set_option maxHeartbeats 1000000 in
set_option maxRecDepth 4000 in
theorem PD (h:SF R s wv tv mv thv ov pv) {mb:Nat} {o:Obj} {l:List AZ} (hb:R mb = some o) (hm:MpT R o l) (tb:TB l) (nd:(l.map AZ.at_).Nodup):Ro Eg [.agg (eSt s wv tv mv thv ov pv).toArray,.map (some mb)] (.bool (CK s l)) R []:=by
 refine I6 λF=>?_
 unfold Ei;refine ja λb=>?_
 rw[show cl (.agg (eSt s wv tv mv thv ov pv).toArray) = eSt s wv tv mv thv ov pv from rfl];obtain⟨ps,hg,h2,h3⟩:=hm;refine @Yh _ _ _ 73 62 mb o ps (Li.fz hb) Q9 hg λib it hit=>?_
 refine jlp (λm vs R' D'=>R' = R∧∃(rem don:List (Int × Value)) (it:Obj) (cur:Option (Int × Value)),m = rem.length∧ps.Perm (don ++ rem)∧ItG mb o it rem cur∧(∀p∈don,∀t∈l,p.1 = t.at_→Bx s l t = true)∧D' = (ib,it) :: (b,C AK (eSt s wv tv mv thv ov pv)) :: ([] ++ F)∧vs = [.map (some mb),Pt b,Pt ib])
  (n:=ps.length) ⟨rfl,ps,[],it,none,rfl,ZP _,hit,(λp hp=>by cases hp),rfl,rfl⟩ ?_
 rintro m e R1 D1 K ⟨hR,rem,don,it,cur,hmm,hpm,hit,hdn,hD,he⟩ hK;subst hR;rw[hD];clear hD;simp only[List.map,zc,zl,zj,z_t] at he;simp only[he];refine @Yf _ _ _ mb ib o it _ ps rem cur _ (Li.fz hb) hg hit (λh0=>?_) (λp rem' it' hpr hit'=>?_)
 ·subst h0;refine jex rfl (Cn ?_);refine Bc ?_;congr 1;rw[eq_comm];unfold CK;rw[ZE];intro t ht;obtain⟨p,hp,hpt⟩:=XA h2 h3 ht;exact hdn p (by have:=hpm.mem_iff.1 hp;simpa using this) t ht hpt
 have hpp:p∈ps:=hpm.mem_iff.2 (ZD.2 (.inr (hpr.mem_iff.2 (.head _))));obtain⟨t,ht,hpt,rv,nv,hpv,hrv,hnv⟩:=XW (o:=o) h2 h3 hpp;obtain⟨ra,rc,rfl⟩:=hrv.sl;obtain⟨na,nc,rfl⟩:=hnv.sl;have htb:=tb t ht;have hlen:rem'.length < m:=by rw[hmm,hpr.length_eq,Z8];omega
 have hpm' : ps.Perm ((don ++ [p]) ++ rem'):=hpm.trans (by
  rw[Ys]
  exact List.Perm.append_left don hpr)
 have huniq:∀t'∈l,p.1 = t'.at_→t' = t:=λt' ht' e=>by
  have e1:=ES nd ht;have e2:=ES nd ht';rw[← e,hpt,e1] at e2;exact (Zb e2).symm
 refine jex rfl (DO ?_);refine AJ (λvs R' D'=>R' = R1∧Bx s l t = true∧D' = (ib,it') :: (b,C AK (eSt s wv tv mv thv ov pv)) :: ([] ++ F)∧vs = [.map (some mb),Pt b,Pt ib]) (λK2 hK2=>?_) ?_;rotate_left
 ·rintro e R2 D2 ⟨hR,hst,hD,he⟩;subst hR;rw[hD];clear hD;simp only[List.map,zc,zl,zj,z_t] at he;simp only[he];refine hK rem'.length _ _ _ hlen ⟨rfl,rem',don ++ [p],it',some p,rfl,hpm',hit',λq hq t' ht' e=>?_,rfl,rfl⟩;rcases ZD.1 hq with hq | hq
  ·exact hdn q hq t' ht' e
  ·rw[Z3.1 hq] at e;rw[huniq t' ht' e];exact hst
 refine @Yb _ _ _ mb ib o it' ps rem' p _ (Li.fz hb) hg hit' ?_;rw[hpv];refine jex rfl (ja λtbk=>?_);refine js (cs':=eTh t (.slice ra t.refs.length rc) (.slice na t.nums.length nc)) rfl rfl (by exact z_n 6) rfl ?_;refine jl (v:=I t.moved) rfl (jl (v:=I t.at_) rfl (jeq (jif (λhc=>?_) (λhc=>?_))))
 ·refine Ai [(ib,it')] (G:=(b,C AK (eSt s wv tv mv thv ov pv)) :: ([] ++ F)) ?_;exact hK2 _ _ _ ⟨rfl,by unfold Bx;rw[hc,Ym],rfl,rfl⟩
 refine jl (v:=I t.moved) rfl ?_;refine XX (Li.fz hb) ⟨ps,hg,h2,h3⟩ λn nb rv2 nv2 hnb hfn hrv2 hnv2=>?_
 obtain⟨ra2,rc2,rfl⟩:=hrv2.sl;obtain⟨na2,nc2,rfl⟩:=hnv2.sl;refine jex rfl (jex rfl (ja λnbk=>?_));refine js (cs':=eTh n (.slice ra2 n.refs.length rc2) (.slice na2 n.nums.length nc2)) rfl rfl (by exact z_n 6) rfl ?_;have hbad:Bx s l t = !(!nb || !(n.sh == t.sh) || (n.moved != n.at_) || DV s n.at_ || !DV s t.at_):=by
  unfold Bx;rw[hc,Yk];cases nb with
  | false=>
   have:BW l t.moved = none:=by
    cases h:BW l t.moved with
    | none=>rfl
    | some x=>rw[h] at hnb;cases hnb
   rw[this];rfl
  | true=>
   rw[hfn rfl];dsimp only;unfold bne;cases n.sh == t.sh<;>cases n.moved == n.at_<;>cases DV s n.at_<;>cases DV s t.at_<;>rfl
 refine jor [.map (some mb),Pt b,Pt tbk,Pt nbk,Pt ib] ((!nb) || (!(n.sh == t.sh))) (λK' hK'=>?_) (λe c u ho he=>?_)
 ·refine BM (λh1=>?_) (λh1=>?_)
  ·refine jfo (jla (t:=As) (cs:=eTh n (.slice ra2 n.refs.length rc2) (.slice na2 n.nums.length nc2)) (l:=[I n.sh.refs,I n.sh.nums]) (by exact (by decide:4≤6)) rfl (jfo (jla (t:=As) (cs:=eTh t (.slice ra t.refs.length rc) (.slice na t.nums.length nc)) (l:=[I t.sh.refs,I t.sh.nums]) (by exact (by decide:4≤6)) rfl (@Xj n.sh t.sh _ _ _ _ _ (hK' _ _ _ (h1▸Aj) (by rw[h1,Yk]))))))
  ·exact hK' _ _ _ (h1▸Al) (by rw[h1,Ym])
 simp only[List.map,zc,zl,zj,z_t] at he;simp only[he];refine jor [.map (some mb),Pt b,Pt tbk,Pt nbk,Pt ib] ((!nb || !(n.sh == t.sh)) || ((n.moved != n.at_))) (λK' hK'=>?_) (λe c u ho he=>?_)
 ·rw[ho];refine BM (λh1=>?_) (λh1=>?_)
  ·refine jl (v:=I n.moved) rfl (jl (v:=I n.at_) rfl (jne (hK' _ _ _ (h1▸Aj) (by rw[h1,Yk]))))
  ·exact hK' _ _ _ (h1▸Al) (by rw[h1,Ym])
 simp only[List.map,zc,zl,zj,z_t] at he;simp only[he];refine jor [.map (some mb),Pt b,Pt tbk,Pt ib] (!nb || !(n.sh == t.sh) || (n.moved != n.at_) || DV s n.at_) (λK' hK'=>?_) (λe c u ho he=>?_)
 ·rw[ho];refine BM (λh1=>?_) (λh1=>?_)
  ·have hnb' : nb = true:=by cases nb with | true=>rfl | false=>cases h1
   have hn:=tb n (Bw (hfn hnb')).1;exact jla (l:=eSt s wv tv mv thv ov pv) (by exact z_n 13) rfl (jl (v:=I n.at_) rfl (jrp (Kt h hn.1 hn.2.1) (hK' _ _ _ (h1▸Aj) (by rw[h1,Yk]))))
  ·exact hK' _ _ _ (h1▸Al) (by rw[h1,Ym])
 simp only[List.map,zc,zl,zj,z_t] at he;simp only[he];refine jor [.map (some mb),Pt b,Pt ib] ((!nb || !(n.sh == t.sh) || (n.moved != n.at_) || DV s n.at_) || (!DV s t.at_)) (λK' hK'=>?_) (λe c u ho he=>?_)
 ·rw[ho];refine BM (λh1=>?_) (λh1=>?_)
  ·refine jla (l:=eSt s wv tv mv thv ov pv) (by exact z_n 13) rfl (jl (v:=I t.at_) rfl (jrp (Kt h htb.1 htb.2.1) (hK' _ _ _ (h1▸Aj) (by rw[h1,Yk]))))
  ·exact hK' _ _ _ (h1▸Al) (by rw[h1,Ym])
 simp only[List.map,zc,zl,zj,z_t] at he;simp only[he];rw[ho];refine jif (λh0=>?_) (λh0=>?_)
 ·refine Bc ?_;congr 1;rw[eq_comm,Zk];unfold CK;intro Bp;have:=ZE.1 Bp t ht;rw[hbad,h0] at this;cases this
 ·refine Ai [(ib,it')] (G:=(b,C AK (eSt s wv tv mv thv ov pv)) :: ([] ++ F)) ?_;exact hK2 _ _ _ ⟨rfl,by rw[hbad,h0];rfl,rfl,rfl⟩
end st
section rules
variable {R:RM} {D:Chs} {k:Value→M}
theorem QY {f:Nat} {cap:Array Value} {args:List Value} (hok:Tf P f = true) (H:J R D (CA P f (args ++ cap.toList) k)):J R D (CV P (.func (.func f) #[] cap) args k):=λh hs=>⟨hok,H h hs⟩
theorem jfd {o n:Nat} {cs:Array Value} {v:Value} (hv:cs.toList[o]? = some v) (H:J R D (k v)):J R D (FD false o n (.agg cs) k):=by
 unfold FD;simp only[cond_false,hv];exact H
end rules
def eHp (s:Sm.B7) (wv tv mv thv ov pv:Value) (mb:Nat) (v:Value):List Value:=[wv,tv,mv,I s.Aa,.bool s.stop,.bool s.full,.bool s.Ag,I s.want,thv,ov,pv,I s.B8,I s.Bf,.map (some mb),v]
section st
variable {R:RM} {s:Sm.B7} {wv tv mv thv ov pv:Value} {l:List AZ}
theorem WA {hb mb:Nat} {o:Obj} {v:Value} {a x:Int} {D:Chs} [at_:At D hb (C 99 (eHp s wv tv mv thv ov pv mb v))] (hm0:R mb = some o) (hm:MpT R o l) (hx:now l a = some x):Ro FS [Pt hb,I a] (I x) R D:=by
 refine HP λF=>?_
 unfold FK;unfold now at hx;refine jeq (jif (λh=>?_) (λh=>?_))
 ·rw[if_pos (by simpa using h)] at hx;cases hx;exact Bc rfl
 have h:a≠0:=by simpa using h
 rw[if_neg h] at hx;refine jl (v:=.map (some mb)) rfl ?_;refine @Tj _ _ _ mb o l a false (Li.fz hm0) hm (λe=>?_) (λt v e hv=>?_)
 ·rw[e] at hx;cases hx
 ·rw[e] at hx;obtain⟨rv,nv,rfl,_,_⟩:=hv;cases hx;exact jfd (v:=I t.moved) rfl (Bc rfl)
theorem PF {x:Int} {r acc:List Int}:Ao l (x :: r) acc = (now l x).bind λy=>Ao l r (CQ acc y):=rfl
def YI (r:Option (List Int)) (s:Sm.B7) (wv tv mv thv ov pv:Value) (mb b1 b3 hb sb:Nat) (v:Value) (A:Chs):Prop:=match r with
 | none=>v = .bool false∧A = []
 | some acc=>v = .bool true∧∃v2 so2 A2,SO acc v2 A2∧MpI so2 (·∈acc)∧A = (b1,C 86 [Pt hb]) :: (b3,C 76 [.map (some sb)]) :: (hb,C 99 (eHp s wv tv mv thv ov pv mb v2)) :: (sb,so2) :: A2
set_option maxHeartbeats 1000000 in
set_option maxRecDepth 4000 in
theorem OZ {xs acc:List Int} {lv v:Value} {mb b1 b3 hb sb:Nat} {o so:Obj} {A:Chs} (hm0:R mb = some o) (hm:MpT R o l) (hmv:∀t∈l,t.moved≠0) (hxs:BC R lv xs) (hxl:xs.length < 1000000) (hal:acc.length + xs.length < 1000000) (hso:SO acc v A) (hms:MpI so (·∈acc)) :
  Fn P Es [lv,Pt b1,Pt b3] R ((b1,C 86 [Pt hb]) :: (b3,C 76 [.map (some sb)]) :: (hb,C 99 (eHp s wv tv mv thv ov pv mb v)) :: (sb,so) :: A)
   (λr R' A'=>R' = R∧YI (Ao l xs acc) s wv tv mv thv ov pv mb b1 b3 hb sb r A'):=by
 refine Iu λF=>?_
 unfold F2;refine CN hxs.sl ?_;refine jlp (λm vs R' D'=>R' = R∧∃(i:Nat) (ac:List Int) (v2:Value) (so2:Obj) (A2:Chs),i≤xs.length∧m = xs.length - i∧Ao l (xs.drop i) ac = Ao l xs acc∧ac.length≤acc.length + i∧SO ac v2 A2∧MpI so2 (·∈ac)∧D' = (b1,C 86 [Pt hb]) :: (b3,C 76 [.map (some sb)]) :: (hb,C 99 (eHp s wv tv mv thv ov pv mb v2)) :: (sb,so2) :: (A2 ++ F)∧vs = [Pt b1,Pt b3,lv,I xs.length,I i])
  (n:=xs.length) ⟨rfl,0,acc,v,so,A,by omega,rfl,rfl,by omega,hso,hms,rfl,rfl⟩ ?_
 rintro m e R1 D1 K ⟨hR,i,ac,v2,so2,A2,hi,hmm,hn,hac,hs2,hm2,hD,he⟩ hK;subst hR;rw[hD];clear hD;simp only[List.map,zc,zl,zj,z_t] at he;simp only[he];refine jlt (jif (λhc=>?_) (λhc=>?_));rotate_left
 ·have hc:=z_g hc;rw[Z2 (by omega)] at hn;refine BA (A:=(b1,C 86 [Pt hb]) :: (b3,C 76 [.map (some sb)]) :: (hb,C 99 (eHp s wv tv mv thv ov pv mb v2)) :: (sb,so2) :: A2) (RM.le.refl _) ⟨rfl,?_⟩;rw[← hn];exact⟨rfl,v2,so2,A2,hs2,hm2,rfl⟩
 have hc:i < xs.length:=by have:=z_f hc;omega
 rw[Yu hc] at hn;refine AJ (λvs R' D'=>R' = R1∧∃(ac2:List Int) (v2:Value) (so2:Obj) (A2:Chs),Ao l (xs.drop (i + 1)) ac2 = Ao l xs acc∧ac2.length≤acc.length + (i + 1)∧SO ac2 v2 A2∧MpI so2 (·∈ac2)∧D' = (b1,C 86 [Pt hb]) :: (b3,C 76 [.map (some sb)]) :: (hb,C 99 (eHp s wv tv mv thv ov pv mb v2)) :: (sb,so2) :: (A2 ++ F)∧vs = [Pt b1,Pt b3,lv,I xs.length,I i]) (λK2 hK2=>?_) ?_;rotate_left
 ·rintro e R2 D2 ⟨hR,ac2,v3,so3,A3,hn2,hac2,hs3,hm3,hD,he⟩;subst hR;rw[hD];clear hD;simp only[List.map,zc,zl,zj,z_t] at he;simp only[he];refine jad ?_;exact hK (xs.length - (i + 1)) _ _ _ (by omega) ⟨rfl,i + 1,ac2,v3,so3,A3,by omega,rfl,hn2,hac2,hs3,hm3,rfl,rfl⟩
 refine AJ (λvs R' D'=>R' = R1∧∃(ac2:List Int) (v2:Value) (so2:Obj) (A2:Chs),Ao l (xs.drop (i + 1)) ac2 = Ao l xs acc∧ac2.length≤acc.length + (i + 1)∧SO ac2 v2 A2∧MpI so2 (·∈ac2)∧D' = (b1,C 86 [Pt hb]) :: (b3,C 76 [.map (some sb)]) :: (hb,C 99 (eHp s wv tv mv thv ov pv mb v2)) :: (sb,so2) :: (A2 ++ F)∧vs = [Pt b1,Pt b3,lv,I xs.length,I i]) (λK3 hK3=>?_) ?_;rotate_left
 ·rintro e R2 D2 ⟨hR,ac2,v3,so3,A3,hn2,hac2,hs3,hm3,hD,he⟩;subst hR;rw[hD];clear hD;simp only[List.map,zc,zl,zj,z_t] at he;simp only[he];exact hK2 _ _ _ ⟨rfl,ac2,v3,so3,A3,hn2,hac2,hs3,hm3,rfl,rfl⟩
 rw[PF] at hn;refine Bv hxs (by omega) (by omega) ?_;simp only[Yj];refine jeq (jif (λh0=>?_) (λh0=>?_))
 ·have h0:xs[i] = 0:=by simpa using h0
  refine hK3 _ _ _ ⟨rfl,ac,v2,so2,A2,?_,by omega,hs2,hm2,rfl,rfl⟩;rw[← hn,h0];simp[now,CQ]
 have h0:xs[i]≠0:=by simpa using h0
 refine jl (v:=Pt hb) rfl (jl (v:=.map (some mb)) rfl ?_);refine XX (Li.fz hm0) hm λn nb rv nv hnb hfn hrv hnv=>?_
 obtain⟨ra,rc,rfl⟩:=hrv.sl;obtain⟨na,nc,rfl⟩:=hnv.sl;refine jex rfl (jex rfl (ja λnbk=>?_));refine js (cs':=eTh n (.slice ra n.refs.length rc) (.slice na n.nums.length nc)) rfl rfl (by exact z_n 6) rfl (C4 ?_);cases nb with
 | false=>
  have hf:BW l xs[i] = none:=by
   cases h:BW l xs[i] with
   | none=>rfl
   | some x=>rw[h] at hnb;cases hnb
  refine DO (BA (A:=[]) (RM.le.refl _) ⟨rfl,?_⟩);rw[← hn];unfold now;rw[if_neg h0,hf];exact⟨rfl,rfl⟩
 | true=>
  have hf:=hfn rfl;have hnow:now l xs[i] = some n.moved:=by unfold now;rw[if_neg h0,hf];rfl
  have hnm:=hmv n (Bw hf).1;rw[hnow] at hn;have hn:Ao l (xs.drop (i + 1)) (CQ ac n.moved) = Ao l xs acc:=hn;unfold CQ at hn;refine Cn (jl (v:=Pt hb) rfl ?_);refine Ai [(hb,C 99 (eHp s wv tv mv thv ov pv mb v2))] (G:=(b1,C 86 [Pt hb]) :: (b3,C 76 [.map (some sb)]) :: (sb,so2) :: (A2 ++ F)) ?_;refine YZ (WA (s:=s) (wv:=wv) (tv:=tv) (mv:=mv) (thv:=thv) (ov:=ov) (pv:=pv) (l:=l) (D:=[(hb,C 99 (eHp s wv tv mv thv ov pv mb v2))]) hm0 hm hnow) ?_;refine Ai [(b1,C 86 [Pt hb]),(b3,C 76 [.map (some sb)]),(hb,C 99 (eHp s wv tv mv thv ov pv mb v2)),(sb,so2)] (G:=A2 ++ F) ?_;refine jl (v:=.map (some sb)) rfl ?_;refine @jlk _ _ _ sb so2 _ n.moved (decide (n.moved∈ac)) _ hm2 (by simp) ?_;refine jif (λhd=>?_) (λhd=>?_);rotate_left
  ·have hd:n.moved∈ac:=by simpa using hd
   rw[if_pos (.inr hd)] at hn;exact hK3 _ _ _ ⟨rfl,ac,v2,so2,A2,hn,by omega,hs2,hm2,rfl,rfl⟩
  have hd:n.moved ∉ ac:=by simpa using hd
  rw[if_neg (by rintro (h | h);exact hnm h;exact hd h)] at hn;refine jl (v:=.map (some sb)) rfl ?_;refine @jmu _ _ _ sb so2 _ _ n.moved _ hm2 λso3 hm3=>?_
  refine jl (v:=Pt hb) rfl (jl (v:=Pt hb) rfl (jl (v:=v2) rfl ?_));refine jbs (cs:=[I n.moved]) rfl rfl λxb=>?_
  refine Ae (jl (v:=Pt hb) rfl jev) (Ae (jl (v:=Pt hb) rfl jev) (Ae (jl (v:=v2) rfl jev) ?_));refine Hr hs2 (by omega) λv3 A3 hs3=>?_
  refine Ae (jl (v:=Pt hb) rfl jev) ?_;obtain⟨a3,c3,rfl⟩:=hs3.sln;refine js (cs':=eHp s wv tv mv thv ov pv mb (.slice a3 (ac ++ [n.moved]).length c3)) rfl rfl (by exact Yp rfl) rfl ?_;refine Ai [(b1,C 86 [Pt hb]),(b3,C 76 [.map (some sb)]),(hb,C 99 (eHp s wv tv mv thv ov pv mb (.slice a3 (ac ++ [n.moved]).length c3))),(sb,so3)] (G:=A3 ++ ([] ++ F)) ?_;refine hK3 _ _ _ ⟨rfl,ac ++ [n.moved],_,so3,A3,hn,by rw[Yn,Z4];omega,hs3,?_,rfl,rfl⟩;have e:(λy=>y∈ac∨y = n.moved) = (·∈ac ++ [n.moved]):=by funext y;simp
  rw[← e];exact hm3
end st
end Go.Lf
end
section
namespace Sm
open Go.Lf
theorem CO {l:List AZ} {x:Int} {r acc:List Int}:Ao l (x :: r) acc = (now l x).bind λy=>Ao l r (CQ acc y):=rfl
theorem CW {l:List AZ}:∀{xs ys acc:List Int},Ao l (xs ++ ys) acc = (Ao l xs acc).bind λo=>Ao l ys o
 | [],ys,acc=>rfl
 | x :: xs,ys,acc=>by
  rw[zc,CO,CO];cases now l x with
  | none=>rfl
  | some y=>exact CW
theorem JA {l:List AZ}:∀{ts:List Th} {acc:List Int},DU l ts acc = Ao l (ts.flatMap (·.AD)) acc
 | [],acc=>rfl
 | t :: ts,acc=>by
  rw[List.flatMap_cons,CW];show (Ao l t.AD acc).bind (λo=>DU l ts o) = _;congr 1;funext o;exact JA
theorem KP {s:B7} {l:List AZ}:∀{ps acc:List Int},ps.all (Dm s l) = true→Ao l ps acc = some (ps.foldl CQ acc)
 | [],acc,_=>rfl
 | a :: ps,acc,h=>by
  rw[List.all_cons,z_b] at h;have h1:=h.1;unfold Dm at h1;have:now l a = some a:=by
   unfold now;split
   ·rename_i e;rw[e]
   ·cases ht:BW l a with
    | none=>rw[ht] at h1;cases h1
    | some t=>
     rw[ht] at h1;simp only[z_b,beq_iff_eq] at h1;rw[aY,h1.1]
  rw[CO,this];exact KP h.2
theorem Dt {s:B7} {l:List AZ} (h:s.AO.all (Dm s l) = true):DE s l = (Ao l (DJ s) []).bind λout=>BN l (l.length + 2) 0 out:=by
 unfold DE DJ;rw[JA,CW];cases Ao l (s.AA.flatMap (·.AD)) [] with
 | none=>rfl
 | some out=>rw[z_o,KP h];rfl
structure Stl (l:List AZ):Prop where
 nd:(l.map AZ.at_).Nodup
 at16:∀t∈l,16≤t.at_
 mv:∀t∈l,∃t'∈l,t'.at_ = t.moved
theorem Stl.nz {l:List AZ} (S:Stl l):∀t∈l,t.moved≠0:=λt ht e=>by
 obtain⟨t',h1,h2⟩:=S.mv t ht;have:=S.at16 t' h1;omega
theorem RK {s:B7} {l:List AZ} (h:ER s = some l) (hs:CK s l = true):Stl l:=by
 unfold ER at h;split at h;rotate_left
 ·cases h
 unfold BE at h;obtain⟨h1,h2⟩:=Ea h;refine⟨NZ h1 λx hx=>(h2 x hx).2.1,λt ht=>by have:=(h2 t ht).1;omega,λt ht=>?_⟩;unfold CK at hs;have:=ZE.1 hs t ht;unfold Bx at this;rw[ZA] at this;rcases this with e | e
 ·exact⟨t,ht,(eq_of_beq e).symm⟩
 ·cases hf:BW l t.moved with
  | none=>rw[hf] at e;cases e
  | some n=>exact⟨n,Bw hf⟩
structure DQ (l:List AZ) (ac:List Int):Prop where
 nd:ac.Nodup
 th:∀a∈ac,∃t,BW l a = some t
theorem DQ.put {l:List AZ} {ac:List Int} (M:DQ l ac) (S:Stl l) {x:Int} (h:x = 0∨∃t∈l,t.at_ = x):DQ l (CQ ac x):=by
 unfold CQ;split
 ·exact M
 ·rename_i c;have c0:x≠0:=λe=>c (.inl e)
  have c1:x ∉ ac:=λe=>c (.inr e)
  refine⟨?_,λa ha=>?_⟩
  ·rw[List.nodup_append];refine⟨M.nd,by simp,λa ha b hb e=>?_⟩;rw[Z3.1 hb] at e;exact c1 (e▸ha)
  ·rcases ZD.1 ha with ha | ha
   ·exact M.th a ha
   ·rw[Z3.1 ha];rcases h with h | ⟨t,h1,h2⟩
    ·exact absurd h c0
    ·exact⟨t,by rw[← h2];exact ES S.nd h1⟩
theorem DQ.all {l:List AZ} (S:Stl l):∀{xs ac ac' : List Int},DQ l ac→Ao l xs ac = some ac'→DQ l ac'
 | [],ac,ac',M,h=>by cases h;exact M
 | x :: xs,ac,ac',M,h=>by
  rw[CO] at h;cases hn:now l x with
  | none=>rw[hn] at h;cases h
  | some y=>
   rw[hn] at h;refine DQ.all S (M.put S ?_) h;unfold now at hn;split at hn
   ·cases hn;exact .inl rfl
   ·obtain⟨t,ht,rfl⟩:=aS.1 hn;exact .inr (S.mv t (Bw ht).1)
theorem DQ.len {l:List AZ} {ac:List Int} (M:DQ l ac):ac.length≤l.length:=by
 have:ac.length≤(l.map AZ.at_).length:=Gf M.nd λx hx=>by
  obtain⟨t,ht⟩:=M.th x hx;obtain⟨h1,h2⟩:=Bw ht;rw[← h2];exact aA h1
 rwa [ZF] at this
theorem DQ.nil {l:List AZ}:DQ l []:=⟨List.nodup_nil,λa h=>by cases h⟩
theorem Cr {l:List AZ} {n i:Nat} {out:List Int} {t:AZ} (hi:i < out.length) (ht:BW l out[i] = some t):BN l (n + 1) i out = (Ao l t.refs out).bind λo=>BN l n (i + 1) o:=by
 conv=>lhs;unfold BN
 rw[Yl hi];dsimp only;rw[ht];rfl
theorem DC {l:List AZ} {n i:Nat} {out:List Int} (hi:out.length≤i):BN l (n + 1) i out = some out:=by
 unfold BN;rw[ZW hi]
end Sm
end
section
namespace Go.Lf
open Go Sm
section rules
variable {R:RM} {D:Chs} {k:Value→M}
theorem XF {l:List Int} {v:Value} {A E:Chs} {i:Nat} (so:SO l v A) [s:Sp D A E] (hi:i < l.length) (H:J R D (k (I l[i]))):J R D (IA 1 v (I (i:Int)) λx=>L1 x k):=by
 refine BH s.p ?_;have:=(so.rd (R:=R) (E:=E)).2 [] i hi k;rw[ZV] at this;exact this (BH s.p.symm H)
end rules
section st
variable {R:RM} {s:Sm.B7} {wv tv mv thv ov pv:Value} {l:List AZ}
def XS (r:Option (List Int)) (s:Sm.B7) (wv tv mv thv ov pv:Value) (mb hb:Nat) (v:Value) (A:Chs):Prop:=match r with
 | none=>v = .bool false∧A = []
 | some met=>v = .bool true∧∃v2 A2,SO met v2 A2∧A = (hb,C 99 (eHp s wv tv mv thv ov pv mb v2)) :: A2
set_option maxHeartbeats 1000000 in
set_option maxRecDepth 4000 in
theorem TG {mb hb:Nat} {o:Obj} (h:SF R s wv tv mv thv ov pv) (hm0:R mb = some o) (hm:MpT R o l) (S:Stl l) (hll:l.length < 10000) (tb:TB l) (hp:s.AO.all (Dm s l) = true) :
  Fn P G8 [Pt hb] R [(hb,C 99 (eHp s wv tv mv thv ov pv mb (.slice none 0 0)))] (λr R' A'=>XS (DE s l) s wv tv mv thv ov pv mb hb r A'):=by
 refine M4 λF=>?_
 unfold Fl;refine ja λb1=>Xs λsb so0 hs0=>ja λb3=>?_
 refine js (cs':=[.map (some sb)]) rfl rfl (Yp rfl) rfl ?_;refine jl (v:=Pt hb) rfl (jnc (jfo (jla (t:=99) (cs:=eHp s wv tv mv thv ov pv mb (.slice none 0 0)) (l:=eSt s wv tv mv thv ov pv) (by exact Yp rfl) rfl ?_)));refine jc (A:=[]) (TW h) ?_;rintro rv R1 A1 hR1 ⟨hR,so1⟩;subst hR;have n1:=h.b.n1;have fl:=DD s.AA h.b.rl;have fle:9 * s.AA.length≤27:=by omega
 have pl:=h.b.pl;have rl:(DJ s).length≤35:=by unfold DJ;rw[Yn];omega
 refine E7 so1 λR2 hR2 hri=>?_
 have h:=h.le hR2;have hm0:=hR2 _ _ hm0;have hm:=hm.le hR2;rw[Dt hp];refine QY (by kernel_rfl) ?_;refine jc (A:=(b1,C 86 [Pt hb]) :: (b3,C 76 [.map (some sb)]) :: (hb,C 99 (eHp s wv tv mv thv ov pv mb (.slice none 0 0))) :: (sb,so0) :: []) (OZ (s:=s) (wv:=wv) (tv:=tv) (mv:=mv) (thv:=thv) (ov:=ov) (pv:=pv) (acc:=[]) hm0 hm S.nz hri (by omega) (by simp;omega) (.inl ⟨rfl,rfl,rfl⟩) (by simpa using hs0)) ?_;rintro r R3 A3 _ ⟨hR,hq⟩;subst hR;cases hn:Ao l (DJ s) [] with
 | none=>
  rw[hn] at hq;obtain⟨rfl,rfl⟩:=hq;exact DO (BA (A:=[]) hR2 ⟨rfl,rfl⟩)
 | some out=>
  rw[hn] at hq;obtain⟨rfl,v2,so2,A2,hs2,hm2,rfl⟩:=hq;rw[z_o];have M0:DQ l out:=DQ.nil.all S hn;refine Cn ?_;refine jlp (λm vs R' D'=>R' = R3∧∃(i:Nat) (ac:List Int) (v2:Value) (so2:Obj) (A2:Chs),i≤ac.length∧m = l.length + 2 - i∧BN l (l.length + 2 - i) i ac = BN l (l.length + 2) 0 out∧DQ l ac∧SO ac v2 A2∧MpI so2 (·∈ac)∧D' = (b1,C 86 [Pt hb]) :: (b3,C 76 [.map (some sb)]) :: (hb,C 99 (eHp s wv tv mv thv ov pv mb v2)) :: (sb,so2) :: (A2 ++ F)∧vs = [Pt b1,.func (.func 147) #[] #[Pt b1,Pt b3],I i])
   (n:=l.length + 2) ⟨rfl,0,out,v2,so2,A2,by omega,by omega,rfl,M0,hs2,hm2,rfl,rfl⟩ ?_
  clear hm2 hs2 M0 hn;rintro m e R4 D4 K ⟨hR,i,ac,v3,so3,A3,hi,hmm,hrl,M,hs3,hm3,hD,he⟩ hK;subst hR;rw[hD];clear hD;simp only[List.map,zc,zl,zj,z_t] at he;simp only[he];have hal:=M.len;obtain⟨a3,c3,rfl⟩:=hs3.sln;refine jl (v:=Pt hb) rfl (jl (v:=.slice a3 ac.length c3) rfl (jln (jlt (jif (λhc=>?_) (λhc=>?_)))));rotate_left
  ·have hc:=z_g hc;obtain⟨q,hq⟩:∃q,l.length + 2 - i = q + 1:=⟨l.length + 1 - i,by omega⟩;rw[hq,DC (by omega)] at hrl;refine Ai [(hb,C 99 (eHp s wv tv mv thv ov pv mb (.slice a3 ac.length c3)))] (G:=A3 ++ F) ?_;refine BA (A:=(hb,C 99 (eHp s wv tv mv thv ov pv mb (.slice a3 ac.length c3))) :: A3) hR2 ?_;rw[← hrl];exact⟨rfl,_,A3,hs3,rfl⟩
  have hc:i < ac.length:=by have:=z_f hc;omega
  obtain⟨t,ht⟩:=M.th _ (Yv hc);obtain⟨htm,hta⟩:=Bw ht;obtain⟨q,hq⟩:∃q,l.length + 2 - i = q + 1:=⟨l.length + 1 - i,by omega⟩;rw[hq,Cr hc ht] at hrl;refine jl (v:=Pt hb) rfl (jl (v:=.map (some mb)) rfl (jl (v:=Pt hb) rfl (jl (v:=.slice a3 ac.length c3) rfl ?_)));refine XF hs3 hc ?_;refine @Tj _ _ _ mb o l ac[i] false (Li.fz hm0) hm (λe=>by rw[ht] at e;cases e) (λt2 v e hv=>?_);rw[ht] at e;cases e;obtain⟨rv,nv,rfl,hrv,hnv⟩:=hv;refine jfd (v:=rv) rfl (QY (by kernel_rfl) ?_);have htb:=tb t htm;refine jc (A:=(b1,C 86 [Pt hb]) :: (b3,C 76 [.map (some sb)]) :: (hb,C 99 (eHp s wv tv mv thv ov pv mb (.slice a3 ac.length c3))) :: (sb,so3) :: A3) (OZ (s:=s) (wv:=wv) (tv:=tv) (mv:=mv) (thv:=thv) (ov:=ov) (pv:=pv) (acc:=ac) hm0 hm S.nz hrv (by omega) (by omega) hs3 hm3) ?_;rintro r R5 A5 _ ⟨hR,hq2⟩;subst hR;cases hn:Ao l t.refs ac with
  | none=>
   rw[hn] at hq2 hrl;obtain⟨rfl,rfl⟩:=hq2;refine DO (BA (A:=[]) hR2 ?_);rw[← hrl];exact⟨rfl,rfl⟩
  | some out2=>
   rw[hn] at hq2 hrl;obtain⟨rfl,v4,so4,A4,hs4,hm4,rfl⟩:=hq2;have M2:=M.all S hn;have ml2:=M2.len;have hge:=DZ hn;refine Cn (jad ?_);refine Ai [(b1,C 86 [Pt hb]),(b3,C 76 [.map (some sb)]),(hb,C 99 (eHp s wv tv mv thv ov pv mb v4)),(sb,so4)] (G:=A4 ++ F) ?_;refine hK q _ _ _ (by omega) ⟨rfl,i + 1,out2,v4,so4,A4,by omega,by omega,?_,M2,hs4,hm4,rfl,rfl⟩;rw[← hrl,z_o];congr 1;omega
end st
def HpV (R:RM) (s:Sm.B7) (wv tv mv thv ov pv:Value) (l:List AZ) (met:List Int) (hb mb:Nat) (v:Value):Prop:=∃o,R hb = some (C 99 (eHp s wv tv mv thv ov pv mb v))∧R mb = some o∧MpT R o l∧BC R v met
def WW (r:Option (List AZ × List Int)) (s:Sm.B7) (wv tv mv thv ov pv:Value) (x:Value) (R:RM):Prop:=match r with
 | none=>x = .pointer none
 | some (l,met)=>∃hb mb v,x = Pt hb∧HpV R s wv tv mv thv ov pv l met hb mb v
section st
variable {R:RM} {s:Sm.B7} {wv tv mv thv ov pv:Value}
theorem M1 {l:List AZ} (h:ER s = some l) (h2:CX s l = false):C0 s = none:=by
 unfold C0;rw[h];dsimp only;rw[if_neg (by rw[h2];decide)]
set_option maxHeartbeats 2000000 in
set_option maxRecDepth 4000 in
theorem MF (h:SF R s wv tv mv thv ov pv):Fn P L8 [.agg (eSt s wv tv mv thv ov pv).toArray] R [] (λr R' A=>A = []∧WW (C0 s) s wv tv mv thv ov pv r R'):=by
 refine QA λF=>?_
 unfold L2;refine ja λb=>?_
 rw[show cl (.agg (eSt s wv tv mv thv ov pv).toArray) = eSt s wv tv mv thv ov pv from rfl];refine jla (l:=eSt s wv tv mv thv ov pv) (by exact z_n 13) rfl ?_;refine jc (A:=[]) (Qf h) ?_;rintro _ R1 _ hR1 ⟨rfl,hq⟩;refine OH ?_;cases hth:ER s with
 | none=>
  rw[hth] at hq;obtain rfl:_ = Value.tuple #[.map none,.bool false]:=hq;have hn:C0 s = none:=by unfold C0;rw[hth]
  refine jex rfl (jex rfl ?_);refine jor [Pt b,.map none] true (λK' hK'=>?_) (λe c u ho he=>?_)
  ·exact jtf (hK' _ _ _ Al rfl)
  simp only[List.map,zc,zl,zj,z_t] at he;simp only[he];refine jor [Pt b,.map none] true (λK' hK'=>?_) (λe c u ho he=>?_)
  ·rw[ho];exact jtf (hK' _ _ _ Al rfl)
  simp only[List.map,zc,zl,zj,z_t] at he;simp only[he];refine jor [Pt b,.map none] true (λK' hK'=>?_) (λe c u ho he=>?_)
  ·rw[ho];exact jtf (hK' _ _ _ Al rfl)
  simp only[List.map,zc,zl,zj,z_t] at he;simp only[he];refine jor [Pt b,.map none] true (λK' hK'=>?_) (λe c u ho he=>?_)
  ·rw[ho];exact jtf (hK' _ _ _ Al rfl)
  simp only[List.map,zc,zl,zj,z_t] at he;simp only[he];refine jor [Pt b,.map none] true (λK' hK'=>?_) (λe c u ho he=>?_)
  ·rw[ho];exact jtf (hK' _ _ _ Al rfl)
  simp only[List.map,zc,zl,zj,z_t] at he;simp only[he];refine jor [Pt b,.map none] true (λK' hK'=>?_) (λe c u ho he=>?_)
  ·rw[ho];exact jtf (hK' _ _ _ Al rfl)
  simp only[List.map,zc,zl,zj,z_t] at he;simp only[he];rw[ho];refine DO (BA (A:=[]) hR1 ⟨rfl,?_⟩);rw[hn];exact rfl
 | some l=>
  rw[hth] at hq;obtain⟨mb,o,hmb,hm,rfl⟩:=hq;have hsf:=h;have h:=h.le hR1;have bnd:TB l∧l.length≤192∧(l.map AZ.at_).Nodup:=by
   have h1:=hth;unfold ER at h1;split at h1;rotate_left
   ·cases h1
   unfold BE at h1;have h2:=Ko (by have:=h.b.wl;have:=h.b.t1;omega) h1;obtain⟨h3,h4⟩:=Ea h1;have:=h.b.t1;rw[Zy] at h2;exact⟨h2.1,by omega,NZ h3 λx hx=>(h4 x hx).2.1⟩
  obtain⟨tb,hll,nd⟩:=bnd;refine jex rfl (jex rfl ?_);refine jor [Pt b,.map (some mb)] (!CK s l) (λK' hK'=>?_) (λe c u ho he=>?_)
  ·exact jff (jla (l:=eSt s wv tv mv thv ov pv) (by exact z_n 13) rfl (jrp (PD h hmb hm tb nd) (hK' _ _ _ Aj rfl)))
  simp only[List.map,zc,zl,zj,z_t] at he;simp only[he];refine jor [Pt b,.map (some mb)] ((!CK s l) || (decide (s.Aa < 0))) (λK' hK'=>?_) (λe c u ho he=>?_)
  ·rw[ho];refine BM (λh1=>?_) (λh1=>?_)
   ·refine jl (v:=I s.Aa) rfl (jlt (hK' _ _ _ (h1▸Aj) (by rw[h1,Yk])))
   ·exact hK' _ _ _ (h1▸Al) (by rw[h1,Ym])
  simp only[List.map,zc,zl,zj,z_t] at he;simp only[he];refine jor [Pt b,.map (some mb)] ((!CK s l || decide (s.Aa < 0)) || (decide (s.Aa > 3))) (λK' hK'=>?_) (λe c u ho he=>?_)
  ·rw[ho];refine BM (λh1=>?_) (λh1=>?_)
   ·refine jl (v:=I s.Aa) rfl (jgr (hK' _ _ _ (h1▸Aj) (by rw[h1,Yk])))
   ·exact hK' _ _ _ (h1▸Al) (by rw[h1,Ym])
  simp only[List.map,zc,zl,zj,z_t] at he;simp only[he];refine jor [Pt b,.map (some mb)] ((!CK s l || decide (s.Aa < 0) || decide (s.Aa > 3)) || (decide ((s.AA.length:Int) < 1))) (λK' hK'=>?_) (λe c u ho he=>?_)
  ·rw[ho];refine BM (λh1=>?_) (λh1=>?_)
   ·refine jl (v:=thv) rfl (CN h.c.th.sl (jlt (hK' _ _ _ (h1▸Aj) (by rw[h1,Yk]))))
   ·exact hK' _ _ _ (h1▸Al) (by rw[h1,Ym])
  simp only[List.map,zc,zl,zj,z_t] at he;simp only[he];refine jor [Pt b,.map (some mb)] ((!CK s l || decide (s.Aa < 0) || decide (s.Aa > 3) || decide ((s.AA.length:Int) < 1)) || (decide ((s.AA.length:Int) > 3))) (λK' hK'=>?_) (λe c u ho he=>?_)
  ·rw[ho];refine BM (λh1=>?_) (λh1=>?_)
   ·refine jl (v:=thv) rfl (CN h.c.th.sl (jgr (hK' _ _ _ (h1▸Aj) (by rw[h1,Yk]))))
   ·exact hK' _ _ _ (h1▸Al) (by rw[h1,Ym])
  simp only[List.map,zc,zl,zj,z_t] at he;simp only[he];refine jor [Pt b,.map (some mb)] ((!CK s l || decide (s.Aa < 0) || decide (s.Aa > 3) || decide ((s.AA.length:Int) < 1) || decide ((s.AA.length:Int) > 3)) || (decide ((s.AO.length:Int) > 8))) (λK' hK'=>?_) (λe c u ho he=>?_)
  ·rw[ho];refine BM (λh1=>?_) (λh1=>?_)
   ·refine jl (v:=pv) rfl (CN h.c.p.sl (jgr (hK' _ _ _ (h1▸Aj) (by rw[h1,Yk]))))
   ·exact hK' _ _ _ (h1▸Al) (by rw[h1,Ym])
  simp only[List.map,zc,zl,zj,z_t] at he;simp only[he];rw[ho];have hno:CX s l = false→∀{D:Chs},[Sf D F]→J R1 D (Er R F (λr R' A=>A = []∧WW (C0 s) s wv tv mv thv ov pv r R') (.pointer none)):=λhh D _=>BA (A:=[]) hR1 ⟨rfl,by rw[M1 hth hh];exact rfl⟩
  refine jif (λh0=>?_) (λh0=>?_)
  ·refine hno ?_;rw[Zk];intro hh;unfold CX at hh;simp only[z_b,z_d] at hh;obtain⟨⟨⟨⟨⟨⟨⟨g1,g2⟩,g3⟩,g4⟩,g5⟩,g6⟩,g7⟩,g8⟩:=hh;rw[g1] at h0;simp only[aa,Yk,ZA,z_d] at h0;omega
  simp only[Z1,ZJ,decide_eq_false_iff_not] at h0;obtain⟨⟨⟨⟨⟨g1,g2⟩,g3⟩,g4⟩,g5⟩,g6⟩:=h0;have S:=RK hth g1;have n1:=h.b.n1;clear ho he;refine AJ (λvs R' D'=>R' = R1∧s.AA.all Ed = true∧D' = (b,C AK (eSt s wv tv mv thv ov pv)) :: F∧vs = [Pt b,.map (some mb)]) (λK hK=>?_) ?_
  ·refine jl (v:=thv) rfl (CN h.c.th.sl ?_);refine AJ (λvs R' D'=>R' = R1∧s.AA.all Ed = true∧D' = (b,C AK (eSt s wv tv mv thv ov pv)) :: F∧vs = [Pt b,.map (some mb)]) (λK2 hK2=>?_) ?_;rotate_left
   ·rintro e R2 D2 ⟨hR,ht,hD,he⟩;subst hR;rw[hD];clear hD;simp only[List.map,zc,zl,zj,z_t] at he;simp only[he];exact hK _ _ _ ⟨rfl,ht,rfl,rfl⟩
   refine jlp (λm vs R' D'=>R' = R1∧∃(i:Nat),i≤s.AA.length∧m = s.AA.length - i∧(s.AA.take i).all Ed = true∧D' = (b,C AK (eSt s wv tv mv thv ov pv)) :: F∧vs = [Pt b,.map (some mb),thv,I s.AA.length,I i]) (n:=s.AA.length) ⟨rfl,0,by omega,rfl,rfl,rfl,rfl⟩ ?_;rintro m e R2 D2 K3 ⟨hR,i,hi,hmm,hta,hD,he⟩ hK3;subst hR;rw[hD];clear hD;simp only[List.map,zc,zl,zj,z_t] at he;simp only[he];refine jlt (jif (λhc=>?_) (λhc=>?_));rotate_left
   ·have hc:=z_g hc;rw[Yz (by omega)] at hta;exact hK2 _ _ _ ⟨rfl,hta,rfl,rfl⟩
   have hc:i < s.AA.length:=by have:=z_f hc;omega
   refine jtr h.c.th hc λb2 o2 ty cs rv hrv hb2 ho2 hrow=>?_
   refine HL (l:=[rv,I (s.AA[i]).next,.bool (s.AA[i]).busy,I (s.AA[i]).Au]) hb2 ho2 hrow (ja λb3=>?_);obtain⟨ra,rc,rfl⟩:=hrv.sl;refine js (cs':=[.slice ra (s.AA[i]).AD.length rc,I (s.AA[i]).next,.bool (s.AA[i]).busy,I (s.AA[i]).Au]) rfl rfl (Yp rfl) rfl ?_;refine jor [Pt b,.map (some mb),Pt b3,thv,I s.AA.length,I (i:Int)] ((decide (((s.AA[i]).AD.length:Int) > 8)) || (decide ((s.AA[i]).Au < 0))) (λK' hK'=>?_) (λe c u ho he=>?_)
   ·refine jl (v:=.slice ra (s.AA[i]).AD.length rc) rfl (jln (jgr (BM (λh1=>?_) (λh1=>?_))))
    ·refine jl (v:=I (s.AA[i]).Au) rfl (jlt (hK' _ _ _ (h1▸Aj) (by rw[h1,Yk])))
    ·exact hK' _ _ _ (h1▸Al) (by rw[h1,Ym])
   simp only[List.map,zc,zl,zj,z_t] at he;simp only[he];refine jor [Pt b,.map (some mb),thv,I s.AA.length,I (i:Int)] ((decide (((s.AA[i]).AD.length:Int) > 8) || decide ((s.AA[i]).Au < 0)) || (decide ((s.AA[i]).Au > 2))) (λK' hK'=>?_) (λe c u ho he=>?_)
   ·rw[ho];refine BM (λh1=>?_) (λh1=>?_)
    ·refine jl (v:=I (s.AA[i]).Au) rfl (jgr (hK' _ _ _ (h1▸Aj) (by rw[h1,Yk])))
    ·exact hK' _ _ _ (h1▸Al) (by rw[h1,Ym])
   simp only[List.map,zc,zl,zj,z_t] at he;simp only[he];rw[ho];have hthr:(decide (((s.AA[i]).AD.length:Int) > 8) || decide ((s.AA[i]).Au < 0) || decide ((s.AA[i]).Au > 2)) = !Ed s.AA[i]:=by
    unfold Ed;rw[ZT];simp only[ZA,Z7,aM,z_d,decide_eq_false_iff_not];omega
   rw[hthr];refine jif (λh1=>?_) (λh1=>?_)
   ·refine hno ?_;rw[Zk];intro hh;unfold CX at hh;simp only[z_b] at hh;have:=ZE.1 hh.1.2 _ (Yv hc);rw[this] at h1;cases h1
   ·refine jad (C4 ?_);refine hK3 (s.AA.length - (i + 1)) _ _ _ (by omega) ⟨rfl,i + 1,by omega,rfl,?_,rfl,rfl⟩;rw[Yq hc,List.all_append,hta];simpa using h1
  rintro e R2 D2 ⟨hR,hta,hD,he⟩;subst hR;rw[hD];clear hD;simp only[List.map,zc,zl,zj,z_t] at he;simp only[he];refine AJ (λvs R' D'=>R' = R2∧s.AO.all (Dm s l) = true∧D' = (b,C AK (eSt s wv tv mv thv ov pv)) :: F∧vs = [Pt b,.map (some mb)]) (λK hK=>?_) ?_
  ·refine jl (v:=pv) rfl (CN h.c.p.sl ?_);refine AJ (λvs R' D'=>R' = R2∧s.AO.all (Dm s l) = true∧D' = (b,C AK (eSt s wv tv mv thv ov pv)) :: F∧vs = [Pt b,.map (some mb)]) (λK2 hK2=>?_) ?_;rotate_left
   ·rintro e R3 D3 ⟨hR,ht,hD,he⟩;subst hR;rw[hD];clear hD;simp only[List.map,zc,zl,zj,z_t] at he;simp only[he];exact hK _ _ _ ⟨rfl,ht,rfl,rfl⟩
   refine jlp (λm vs R' D'=>R' = R2∧∃(i:Nat),i≤s.AO.length∧m = s.AO.length - i∧(s.AO.take i).all (Dm s l) = true∧D' = (b,C AK (eSt s wv tv mv thv ov pv)) :: F∧vs = [Pt b,.map (some mb),pv,I s.AO.length,I i]) (n:=s.AO.length) ⟨rfl,0,by omega,rfl,rfl,rfl,rfl⟩ ?_;rintro m e R3 D3 K3 ⟨hR,i,hi,hmm,hpa,hD,he⟩ hK3;subst hR;rw[hD];clear hD;simp only[List.map,zc,zl,zj,z_t] at he;simp only[he];refine jlt (jif (λhc=>?_) (λhc=>?_));rotate_left
   ·have hc:=z_g hc;rw[Yz (by omega)] at hpa;exact hK2 _ _ _ ⟨rfl,hpa,rfl,rfl⟩
   have hc:i < s.AO.length:=by have:=z_f hc;omega
   have hpv:=h.b.pv _ (Yv hc);refine Bv h.c.p (by omega) (by omega) ?_;simp only[Yj];refine XX (Li.fz hmb) hm λn nb rv nv hnb hfn hrv hnv=>?_
   obtain⟨ra,rc,rfl⟩:=hrv.sl;obtain⟨na,nc,rfl⟩:=hnv.sl;refine jex rfl (jex rfl (ja λb3=>?_));refine js (cs':=eTh n (.slice ra n.refs.length rc) (.slice na n.nums.length nc)) rfl rfl (by exact z_n 6) rfl ?_;refine jor [Pt b,.map (some mb),I (s.AO[i]),pv,I s.AO.length,I (i:Int)] ((!nb) || (n.moved != s.AO[i])) (λK' hK'=>?_) (λe c u ho he=>?_)
   ·refine BM (λh1=>?_) (λh1=>?_)
    ·refine jl (v:=I n.moved) rfl (jne (hK' _ _ _ (h1▸Aj) (by rw[h1,Yk])))
    ·exact hK' _ _ _ (h1▸Al) (by rw[h1,Ym])
   simp only[List.map,zc,zl,zj,z_t] at he;simp only[he];refine jor [Pt b,.map (some mb),pv,I s.AO.length,I (i:Int)] ((!nb || (n.moved != s.AO[i])) || (DV s s.AO[i])) (λK' hK'=>?_) (λe c u ho he=>?_)
   ·rw[ho];refine BM (λh1=>?_) (λh1=>?_)
    ·refine jla (l:=eSt s wv tv mv thv ov pv) (by exact z_n 13) rfl (jrp (Kt h hpv.1 (by omega)) (hK' _ _ _ (h1▸Aj) (by rw[h1,Yk])))
    ·exact hK' _ _ _ (h1▸Al) (by rw[h1,Ym])
   simp only[List.map,zc,zl,zj,z_t] at he;simp only[he];rw[ho];have hpo:(!nb || (n.moved != s.AO[i]) || DV s s.AO[i]) = !Dm s l s.AO[i]:=by
    unfold Dm;cases nb with
    | false=>
     have:BW l s.AO[i] = none:=by
      cases h:BW l s.AO[i] with
      | none=>rfl
      | some x=>rw[h] at hnb;cases hnb
     rw[this];rfl
    | true=>
     rw[hfn rfl];dsimp only;unfold bne;cases n.moved == s.AO[i]<;>cases DV s s.AO[i]<;>rfl
   rw[hpo];refine jif (λh1=>?_) (λh1=>?_)
   ·refine hno ?_;rw[Zk];intro hh;unfold CX at hh;simp only[z_b] at hh;have:=ZE.1 hh.2 _ (Yv hc);rw[this] at h1;cases h1
   ·refine jad (C4 ?_);refine hK3 (s.AO.length - (i + 1)) _ _ _ (by omega) ⟨rfl,i + 1,by omega,rfl,?_,rfl,rfl⟩;rw[Yq hc,List.all_append,hpa];simpa using h1
  rintro e R3 D3 ⟨hR,hpa,hD,he⟩;subst hR;rw[hD];clear hD;simp only[List.map,zc,zl,zj,z_t] at he;simp only[he];have hhead:CX s l = true:=by
   unfold CX;simp only[z_b,z_d];exact⟨⟨⟨⟨⟨⟨⟨g1,by omega⟩,by omega⟩,by omega⟩,by omega⟩,by omega⟩,hta⟩,hpa⟩
  have hho:C0 s = (DE s l).map λm=>(l,m):=by unfold C0;rw[hth];dsimp only;rw[if_pos hhead]
  rw[hho];refine jla (l:=eSt s wv tv mv thv ov pv) (by exact z_n 13) rfl ?_;refine jbd (cs:=eHp s wv tv mv thv ov pv mb (.slice none 0 0)) rfl rfl (ja λhb=>?_);rw[show cl (.agg (eHp s wv tv mv thv ov pv mb (.slice none 0 0)).toArray) = eHp s wv tv mv thv ov pv mb (.slice none 0 0) from rfl];refine jc (A:=[(hb,C 99 (eHp s wv tv mv thv ov pv mb (.slice none 0 0)))]) (TG h hmb hm S (by omega) tb hpa) ?_;intro r R4 A4 hR4 hq;cases hre:DE s l with
  | none=>
   rw[hre] at hq;obtain⟨rfl,rfl⟩:=hq;exact DO (BA (A:=[]) (hR1.trans hR4) ⟨rfl,rfl⟩)
  | some met=>
   rw[hre] at hq;obtain⟨rfl,v2,A2,hs2,rfl⟩:=hq;refine Cn ?_;refine Ai A2 (G:=[(hb,C 99 (eHp s wv tv mv thv ov pv mb v2))] ++ (b,C AK (eSt s wv tv mv thv ov pv)) :: F) ?_;refine E7 hs2 λR5 hR5 hi5=>?_
   refine Bh (b:=hb) λR6 hR6 hb6=>?_
   exact BA (A:=[]) (hR1.trans (hR4.trans (hR5.trans hR6))) ⟨rfl,hb,mb,v2,rfl,o,hb6,hR6 _ _ (hR5 _ _ (hR4 _ _ hmb)),hm.le (hR4.trans (hR5.trans hR6)),hi5.le hR6⟩
end st
end Go.Lf
end
section
namespace Go.Proofs
def Tryz.lays189_ren:Go.Shelf.Ren:=⟨λ | 189=>112 | 125=>150 | 257=>149 | 128=>181 | 129=>182 | 294=>173 | 295=>174 | 296=>175 | 297=>176 | 298=>177 | 299=>178 | 216=>113 | 300=>179 | 301=>180 | 328=>211 | 329=>212 | 330=>213 | 331=>214 | 332=>215 | 215=>151 | 343=>260 | n=>n,λ | 28=>23 | 3=>3 | 46=>130 | 0=>0 | 51=>188 | 53=>191 | 4=>4 | 183=>196 | 182=>195 | 131=>96 | 5=>5 | 9=>9 | 218=>217 | 222=>208 | 228=>236 | 229=>56 | n=>n,λ | n=>n⟩
theorem Tryz.lays189:Go.Proofs.Lays.n189 Tryz.prog Tryz.lays189_ren:={
 mixed:=by kernel_rfl
 f125:=Tryz.func150.trans (congrArg some (by kernel_rfl))
 f128:=Tryz.func181.trans (congrArg some (by kernel_rfl))
 f129:=Tryz.func182.trans (congrArg some (by kernel_rfl))
 f189:=Tryz.func112.trans (congrArg some (by kernel_rfl))
 f215:=Tryz.func151.trans (congrArg some (by kernel_rfl))
 f216:=Tryz.func113.trans (congrArg some (by kernel_rfl))
 f257:=Tryz.func149.trans (congrArg some (by kernel_rfl))
 f294:=Tryz.func173.trans (congrArg some (by kernel_rfl))
 f295:=Tryz.func174.trans (congrArg some (by kernel_rfl))
 f296:=Tryz.func175.trans (congrArg some (by kernel_rfl))
 f297:=Tryz.func176.trans (congrArg some (by kernel_rfl))
 f298:=Tryz.func177.trans (congrArg some (by kernel_rfl))
 f299:=Tryz.func178.trans (congrArg some (by kernel_rfl))
 f300:=Tryz.func179.trans (congrArg some (by kernel_rfl))
 f301:=Tryz.func180.trans (congrArg some (by kernel_rfl))
 f328:=Tryz.func211.trans (congrArg some (by kernel_rfl))
 f329:=Tryz.func212.trans (congrArg some (by kernel_rfl))
 f330:=Tryz.func213.trans (congrArg some (by kernel_rfl))
 f331:=Tryz.func214.trans (congrArg some (by kernel_rfl))
 f332:=Tryz.func215.trans (congrArg some (by kernel_rfl))
 f343:=Tryz.func260.trans (congrArg some (by kernel_rfl))
 t0:=Tryz.underlying0
 a0:=Tryz.isAgg0
 z0:=Tryz.sizeOf0
 v0:=Tryz.zeroValue0
 t3:=Tryz.underlying3
 a3:=Tryz.isAgg3
 z3:=Tryz.sizeOf3
 v3:=Tryz.zeroValue3
 t4:=Tryz.underlying4
 a4:=Tryz.isAgg4
 z4:=Tryz.sizeOf4
 v4:=Tryz.zeroValue4
 t5:=Tryz.underlying5
 a5:=Tryz.isAgg5
 z5:=Tryz.sizeOf5
 v5:=Tryz.zeroValue5
 t9:=Tryz.underlying9
 a9:=Tryz.isAgg9
 z9:=Tryz.sizeOf9
 v9:=Tryz.zeroValue9
 t28:=Tryz.underlying23
 a28:=Tryz.isAgg23
 z28:=Tryz.sizeOf23
 v28:=Tryz.zeroValue23
 t46:=Tryz.underlying130
 a46:=Tryz.isAgg130
 z46:=Tryz.sizeOf130
 v46:=Tryz.zeroValue130
 t51:=Tryz.underlying188
 a51:=Tryz.isAgg188
 z51:=Tryz.sizeOf188
 v51:=Tryz.zeroValue188
 t53:=Tryz.underlying191
 a53:=Tryz.isAgg191
 z53:=Tryz.sizeOf191
 v53:=Tryz.zeroValue191
 t131:=Tryz.underlying96
 a131:=Tryz.isAgg96
 z131:=Tryz.sizeOf96
 v131:=Tryz.zeroValue96
 t182:=Tryz.underlying195
 a182:=Tryz.isAgg195
 z182:=Tryz.sizeOf195
 v182:=Tryz.zeroValue195
 t183:=Tryz.underlying196
 a183:=Tryz.isAgg196
 z183:=Tryz.sizeOf196
 v183:=Tryz.zeroValue196
 t218:=Tryz.underlying217
 a218:=Tryz.isAgg217
 z218:=Tryz.sizeOf217
 v218:=Tryz.zeroValue217
 t222:=Tryz.underlying208
 a222:=Tryz.isAgg208
 z222:=Tryz.sizeOf208
 v222:=Tryz.zeroValue208
 t228:=Tryz.underlying236
 a228:=Tryz.isAgg236
 z228:=Tryz.sizeOf236
 v228:=Tryz.zeroValue236
 t229:=Tryz.underlying56
 a229:=Tryz.isAgg56
 z229:=Tryz.sizeOf56
 v229:=Tryz.zeroValue56 }
end Go.Proofs
namespace Go.Lf
open Go Sm Go.Sort
theorem St.grow {h:Cy} {R:RM} {D:Chs} (hs:St h R D) (os:Array Obj):St (h ++ os) R D:=by
 have key:∀b o,h[b]? = some o→(h ++ os)[b]? = some o:=λb o hb=>by
  have:=(Zm.1 hb).1;rw[Array.getElem?_append_left this];exact hb
 exact⟨λb o hb=>key b o (hs.rd b o hb),λb o hm=>⟨key b o (hs.at_ b o hm).1,(hs.at_ b o hm).2⟩,hs.nd⟩
def KJ (l:List Int):List Int:=l.mergeSort λx y=>decide (x≤y)
theorem Ih (l:List Int):(KJ l).length = l.length:=(List.mergeSort_perm l _).length_eq
theorem Wa {R:RM} {l:List Int} {b c:Nat} {sp:List Value} (hl:l.length < 1000000) :
  Fn P El [S0 b l.length c] R [(b,C Ac (l.map I ++ sp))] (λv R' A=>R' = R∧v = U∧A = [(b,C Ac ((KJ l).map I ++ sp))]):=by
 intro F h hs w hw;subst hw;have hb:=(hs.at_ b (C Ac (l.map I ++ sp)) (by simp)).1;have hblk:b < w.heap.size:=(Zm.1 hb).1;have hH:Holds (Value.int .i64) w b 0 l.toArray:=λj hj=>by
  have hj' : j < l.length:=by simpa using hj
  refine⟨?_,by simp[World.frozen?,hb]⟩;rw[Z6];show w.cell? ⟨b,j,none⟩ = _;rw[SJ];unfold hc;rw[hb];show ((l.map I ++ sp).toArray)[j]? = _;rw[List.getElem?_toArray,Zp (by simpa using hj'),ZQ,Yl hj'];simp[hj']
 refine (Go.Proofs.Any.slices_Sort_int Go.Proofs.Tryz.lays189 b 0 c l w hH hblk (by omega)).mono ?_;rintro e w' ⟨rfl,n,os,rfl⟩;refine⟨_,rfl,⟨rfl,rfl⟩,R,[(b,C Ac ((KJ l).map I ++ sp))],RM.le.refl R,?_,rfl,rfl,rfl⟩;have hmod:(w.heap.modify b (onCells (putCells (Value.int .i64) 0 (KJ l).toArray)))[b]? = some (C Ac ((KJ l).map I ++ sp)):=by
  rw[Zv,if_pos rfl,hb];simp only[aY,onCells];congr 2;apply Array.toList_inj.1;apply List.ext_getElem?;intro k;unfold putCells;rw[ZY,Array.getElem?_mapIdx,List.getElem?_toArray];by_cases hk:k < l.length
  ·have hk2:k < (KJ l).length:=by rw[Ih];exact hk
   rw[Zp (by simpa using hk),Zp (by simpa using hk2),ZQ,ZQ,Yl hk,Yl hk2];simp[hk2]
  ·have hk2:¬ k < (KJ l).length:=by rw[Ih];exact hk
   rw[aW (by simpa using hk),aW (by simpa using hk2),ZF,ZF,Ih];cases sp[k - l.length]? with
   | none=>rfl
   | some x=>simp[hk2]
 have h2:St (w.heap.modify b (onCells (putCells (Value.int .i64) 0 (KJ l).toArray))) R ([(b,C Ac ((KJ l).map I ++ sp))] ++ F):=
  hs.turn (b:=b) (o:=C Ac (l.map I ++ sp)) hmod λb' hne=>by rw[Zv,if_neg (λe=>hne e.symm)]
 exact h2.grow os
theorem UL:∀{a b:List Int},a.Pairwise (· < ·)→b.Pairwise (· < ·)→(∀x,x∈a↔x∈b)→a = b
 | [],[],_,_,_=>rfl
 | [],y :: b,_,_,h=>absurd ((h y).2 (.head _)) (by simp)
 | x :: a,[],_,_,h=>absurd ((h x).1 (.head _)) (by simp)
 | x :: a,y :: b,ha,hb,h=>by
  rw[List.pairwise_cons] at ha hb;have h1:x = y:=by
   rcases Yw.1 ((h x).1 (.head _)) with e | e
   ·exact e
   ·rcases Yw.1 ((h y).2 (.head _)) with e2 | e2
    ·exact e2.symm
    ·have:=hb.1 x e;have:=ha.1 y e2;omega
  subst h1;rw[UL ha.2 hb.2 λz=>?_];have hz:=h z;simp only[Yw] at hz;constructor
  ·intro hm;rcases hz.1 (.inr hm) with e | e
   ·subst e;have:=ha.1 z hm;omega
   ·exact e
  ·intro hm;rcases hz.2 (.inr hm) with e | e
   ·subst e;have:=hb.1 z hm;omega
   ·exact e
theorem VV {l:List Int} (h:l.Nodup):KJ l = Ak l:=by
 obtain⟨h1,h2⟩:=De h;refine UL ?_ h1 λx=>?_
 ·have p:=List.mergeSort_perm l (λx y=>decide (x≤y));have s:(KJ l).Pairwise λx y=>decide (x≤y) = true:=List.pairwise_mergeSort (λa b c h1 h2=>by simp at *;omega) (λa b=>by simp;omega) l
  have nd:(KJ l).Nodup:=p.nodup_iff.2 h;exact (s.and nd).imp λ⟨a,b⟩=>by have:=z_f a;omega
 ·rw[h2];exact (List.mergeSort_perm l _).mem_iff
end Go.Lf
end
section
namespace Go.Lf
open Go Sm
section rules
variable {R:RM} {D:Chs} {k:Value→M}
theorem Wg {a b:Nat} {x y:Value} (hr:∀w,(Go.convert a b x).run P w = .ok y w) (H:J R D (k y)):J R D (X P (Go.convert a b x) k):=by
 intro h hs w hw;rw[hr];subst hw;exact⟨BF.refl _,H _ hs⟩
theorem jix {s:ByteArray} {i n:Int} {kd:IntKind} (h0:0≤i∧i.toNat < s.size) (hn:((s[i.toNat]'h0.2).toNat:Int) = n) (H:J R D (k (.int .u8 n))):J R D (IX (.string s) (.int kd i) k):=λh hs=>⟨h0,by rw[hn];exact H h hs⟩
end rules
set_option maxRecDepth 4000 in
theorem Ss:Pu Ef [.int .u64 0] (I 0):=by
 intro R;refine IW λF=>?_
 unfold EY;refine Bz [.int .u64 0,I 0] (λK1 h1=>?_) (λe he=>?_)
 ·exact h1
 simp only[List.map,zc,zl,zj,z_t] at he;simp only[he];refine Bz [.int .u64 0,I 0] (λK1 h1=>?_) (λe he=>?_)
 ·exact h1
 simp only[List.map,zc,zl,zj,z_t] at he;simp only[he];refine Bz [.int .u64 0,I 0] (λK1 h1=>?_) (λe he=>?_)
 ·exact h1
 simp only[List.map,zc,zl,zj,z_t] at he;simp only[he];refine @Wg _ _ _ 191 5 _ (.int .u8 0) (λw=>by kernel_rfl) ?_;refine jix (n:=0) ⟨by decide,by decide⟩ (by decide) ?_;refine @Wg _ _ _ 5 3 _ (I 0) (λw=>by kernel_rfl) ?_;refine Cd ⟨by decide,by decide⟩ ?_;exact BA (A:=[]) (RM.le.refl R) rfl
theorem VM:Pu FZ [.int .u64 0] (I 0):=by
 intro R;refine KL λF=>?_
 unfold FY;exact Cn (jp Ss (BA (A:=[]) (RM.le.refl R) rfl))
theorem Vj:Pu Cv [.slice none 0 0,I 0,I 0] U:=by
 intro R;refine E5 λF=>?_
 unfold Cw;refine Cd ⟨by decide,by decide⟩ ?_;refine jlp (λm vs R' D'=>R' = R∧D' = [] ++ F∧vs = [.slice none 0 0,I 0,I 0,I 1]) (n:=0) ⟨rfl,rfl,rfl⟩ ?_;rintro m e R1 D1 K ⟨hR,hD,he⟩ _;subst hR;rw[hD];clear hD;simp only[List.map,zc,zl,zj,z_t] at he;simp only[he];exact jlt (Cn (BA (A:=[]) (RM.le.refl _) rfl))
theorem VP:Pu Dd [.slice none 0 0,I 0,I 0,I 0] U:=by
 intro R;refine F5 λF=>?_
 unfold Db;refine jlp (λm vs R' D'=>R' = R∧D' = [] ++ F∧∃x y,vs = [.slice none 0 0,I 0,I 0,I 0,x,y]) (n:=0) ⟨rfl,rfl,_,_,rfl⟩ ?_;rintro m e R1 D1 K ⟨hR,hD,x,y,he⟩ _;subst hR;rw[hD];clear hD;simp only[List.map,zc,zl,zj,z_t] at he;simp only[he];refine AJ (λvs R' D'=>False) (λK2 hK2=>?_) (λe R' D' h=>h.elim);exact RV ⟨by decide,by decide⟩ (jle (DO (jp Vj (BA (A:=[]) (RM.le.refl _) rfl))))
theorem Uh:Pu El [.slice none 0 0] U:=by
 intro R;refine Mr λF=>?_
 unfold H7;refine jln ?_;refine @Wg _ _ _ 3 130 _ (.int .u64 0) (λw=>by kernel_rfl) ?_;exact jp VM (jp VP (BA (A:=[]) (RM.le.refl R) rfl))
end Go.Lf
end
section
namespace Sm
open Go.Lf
theorem Oq {l:List AZ} (S:Stl l):∀{n i:Nat} {out r:List Int},DQ l out→BN l n i out = some r→DQ l r
 | 0,i,out,r,M,h=>by cases h
 | n + 1,i,out,r,M,h=>by
  by_cases c:i < out.length
  ·obtain⟨t,ht⟩:=M.th _ (Yv c);rw[Cr c ht] at h;cases hn:Ao l t.refs out with
   | none=>rw[hn] at h;cases h
   | some o=>rw[hn] at h;exact Oq S (M.all S hn) h
  ·rw[DC (by omega)] at h;cases h;exact M
structure HpF (s:B7) (l:List AZ) (met:List Int):Prop where
 ths:ER s = some l
 head:CX s l = true
 re:DE s l = some met
 S:Stl l
 M:DQ l met
 asc:l.Pairwise (λx y=>x.at_ + AF x.sh≤y.at_)
theorem Df {s:B7} {l:List AZ} {met:List Int} (h:C0 s = some (l,met)):HpF s l met:=by
 unfold C0 at h;cases ht:ER s with
 | none=>rw[ht] at h;cases h
 | some l'=>
  rw[ht] at h;dsimp only at h;split at h;rotate_left
  ·cases h
  rename_i hh;obtain⟨m,hm,e⟩:=aS.1 h;cases e;have h2:=hh;unfold CX at h2;simp only[z_b] at h2;have S:=RK ht h2.1.1.1.1.1.1.1;have M:DQ l met:=by
   rw[Dt h2.2] at hm;cases hn:Ao l (DJ s) [] with
   | none=>rw[hn] at hm;cases hm
   | some out=>rw[hn] at hm;exact Oq S (DQ.nil.all S hn) hm
  refine⟨ht,hh,hm,S,M,?_⟩;have h1:=ht;unfold ER at h1;split at h1
  ·exact (Ea h1).1
  ·cases h1
end Sm
namespace Go.Lf
open Go Sm
section st
variable {R:RM} {s:Sm.B7} {wv tv mv thv ov pv:Value} {l:List AZ} {met:List Int}
theorem Pq {hb mb:Nat} {v:Value} (hv:HpV R s wv tv mv thv ov pv l met hb mb v) (nd:met.Nodup) (hl:met.length < 1000000):Fn P Gv [Pt hb] R [] (λv R' A=>R' = R∧SO (Ak met) v A):=by
 refine Mx λF=>?_
 unfold H5;obtain⟨o,h1,h2,h3,h4⟩:=hv;refine jnc (jfo (jlr (v:=v) h1 rfl ?_));refine jc (A:=[]) (FE h4 hl) ?_;rintro x R1 A1 _ ⟨hR,so,_⟩;subst hR;rcases so with ⟨rfl,rfl,rfl⟩ | ⟨b,c,sp,hc,hsp,rfl,rfl⟩
 ·exact jp Uh (BA (A:=[]) (RM.le.refl _) ⟨rfl,.inl ⟨rfl,rfl,rfl⟩⟩)
 ·refine jc (A:=[(b,C Ac (met.map I ++ sp))]) (Wa (l:=met) (c:=c) hl) ?_;rintro v2 R2 A2 _ ⟨hR,rfl,rfl⟩;subst hR;have e:=VV nd;have e2:=Ih met;rw[e] at e2 ⊢;refine BA (A:=[(b,C Ac ((Ak met).map I ++ sp))]) (RM.le.refl _) ⟨rfl,.inr ⟨b,c,sp,by omega,by omega,by rw[e2],rfl⟩⟩
theorem WR (w:World) (x y:Operand) (hb:Nat):(do eqGuard .eql 86 x y (Pt hb) (.pointer none);binOp .eql 86 (Pt hb) (.pointer none):Sem Value).run P w = .ok (.bool false) w:=by kernel_rfl
theorem WQ (w:World) (x y:Operand):(do eqGuard .eql 86 x y (.pointer none) (.pointer none);binOp .eql 86 (.pointer none) (.pointer none):Sem Value).run P w = .ok (.bool true) w:=by kernel_rfl
theorem jxr {R:RM} {D:Chs} {k:Value→M} {s:Sem Value} {y:Value} (hr:∀w,s.run P w = .ok y w) (H:J R D (k y)):J R D (X P s k):=by
 intro h hs w hw;rw[hr];subst hw;exact⟨BF.refl _,H _ hs⟩
end st
end Go.Lf
end
section
namespace Go.Lf
open Go Sm
section rules
variable {R:RM} {D:Chs} {k:Value→M}
theorem Sn {v:Value} {l:List AZ} {i:Nat} (h:Tgs R v l) (hi:i < l.length) (H:J R D (k (I (l[i]).at_))):J R D (IA 6 v (I (i:Int)) λp=>FO 0 p λq=>L1 q k):=
 jtg h hi λ_ _ _ _ _ _ _ _ hb _ hrow=>jfo (jlr hb (C6 hrow (f:=0) rfl) H)
theorem W8 {v:Value} {l:List AZ} {i:Nat} (h:Tgs R v l) (hi:i < l.length) (H:J R D (k (I (l[i]).moved))):J R D (IA 6 v (I (i:Int)) λp=>FO 1 p λq=>L1 q k):=
 jtg h hi λ_ _ _ _ _ _ _ _ hb _ hrow=>jfo (jlr hb (C6 hrow (f:=1) rfl) H)
theorem Y7 {v:Value} {l:List AZ} {i:Nat} (h:Tgs R v l) (hi:i < l.length) (H:J R D (k (.agg #[I (l[i]).sh.refs,I (l[i]).sh.nums]))):J R D (IA 6 v (I (i:Int)) λp=>FO 2 p λq=>LA 2 q k):=
 jtg h hi λ_ _ _ cs _ _ _ _ hb ho hrow=>jfo (HL (l:=[I (l[i]).sh.refs,I (l[i]).sh.nums]) hb (by omega) (by
  have e:=congrArg (λz=>(z.drop 2).take 2) hrow
  simp only[aO,ad,aV] at e
  exact e) H)
theorem jrk {v:Value} {t:List Rg} {r:Nat} (h:RgZ R v t) (hr:r < t.length) (H:J R D (k (I (t[r]).kind))):J R D (IA 5 v (I (r:Int)) λp=>FO 0 p λq=>L1 q k):=by
 obtain⟨b,c,sp,rfl,hb,_⟩:=h;exact Cs hr (jfo (jlr hb (by rw[Z6];exact Bu (f:=0) hr rfl) H))
theorem GU {l:List AZ} {a:Int} (h:BW l a = none):Nn l a = -1:=by
 unfold Nn;have:l.findIdx? (λt=>t.at_ == a) = none:=by
  rw[List.findIdx?_eq_none_iff];unfold BW at h;rw[List.find?_eq_none] at h;intro x hx;simpa using h x hx
 rw[this]
theorem UW {lv:List Nat} {B:(List Value→M)→M} {K:Env→M} (pre:List Value) (p:Prop) (H1:∀K' : List Value→M,(p→J R D (K' pre))→J R D (B K')) (H2:∀e,p→lv.map e = pre→J R D (K e)):J R D (CUT lv B K):=
 AJ (λvs R' D'=>p∧R' = R∧D' = D∧vs = pre) (λK' h=>H1 K' λhp=>h _ _ _ ⟨hp,rfl,rfl,rfl⟩) λe R' D' ⟨hp,h1,h2,h3⟩=>by
  subst h1 h2;exact H2 e hp h3
theorem Yc {lv:List Nat} {B:(List Value→M)→Env→M} (pre:List Value) (n:Nat) (p:Nat→Prop) (h0:p 0)
  (H:∀(i:Nat) K e,i≤n→p i→(i < n→p (i + 1)→J R D (K (pre ++ [I ((i:Int) + 1)])))→lv.map e = pre ++ [I i]→J R D (B K e)):J R D (LP lv B (pre ++ [I 0])):=by
 refine jlp (λm vs R' D'=>R' = R∧D' = D∧∃i:Nat,i≤n∧m = n - i∧p i∧vs = pre ++ [I i]) (n:=n) ⟨rfl,rfl,0,by omega,by omega,h0,rfl⟩ ?_;rintro m e R1 D1 K ⟨hR,hD,i,hi,hm,hp,he⟩ hK;subst hR hD;exact H i K e hi hp (λh hp'=>hK (n - (i + 1)) _ _ _ (by omega) ⟨rfl,rfl,i + 1,by omega,rfl,hp',rfl⟩) he
end rules
end Go.Lf
end
