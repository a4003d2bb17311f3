/- A part of the proof of the given row: the walk of the law and of all that it calls. Conditions: none. -/
import Derived.Shelf.Sort.Plain
import Derived.Test.YtlagojobcbkpdaaGreatAO
set_option linter.unusedVariables false
set_option linter.unusedSimpArgs false
section
namespace Go.Lf
open Go Sm
theorem TW:Pu Oq [] (.agg (eRg DQ).toArray):=by
 intro R;refine U3 λF=>?_
 unfold Oc;refine ja λb=>jbd (cs:=eRg DQ) rfl rfl (js (cs':=eRg DQ) rfl rfl (by exact z_n 5) rfl (jla (l:=eRg DQ) (by exact z_n 5) rfl ?_))
 exact B8 (A:=[]) (RM.le.refl R) rfl
theorem MpI.iff {o:Obj} {q q' : Int→Prop} (h:MpI o q) (e:∀x,q x↔q' x):MpI o q':=by
 have:q = q':=funext λx=>propext (e x)
 rw[← this];exact h
section
variable {R:RM} {D:Chs} {t:List Rg} {sp:List Value} {b cap:Nat}
set_option maxHeartbeats 1000000 in
theorem On (hl:t.length < 1000000) [a:At D b (C AG (AZ eRg t ++ sp))]:Ro JR [S0 b t.length cap] (.bool (BG t)) R D:=by
 refine Oj λF=>?_
 unfold Ja;have nok:(TOk t→False)→Value.bool false = Value.bool (BG t):=λh=>by
  cases hh:BG t
  ·rfl
  ·exact (h (Bc.1 hh)).elim
 refine AH (λvs R' D'=>R' = R∧D' = D ++ F∧vs = [S0 b t.length cap,.bool ((decide ((t.length:Int) < 2) || decide ((t.length:Int) > 12)) || !(rv t 0 == DQ))]) (λK hK=>?_) ?_
 ·refine jor [S0 b t.length cap] ((decide ((t.length:Int) < 2)) || (decide ((t.length:Int) > 12))) (λK' hK'=>?_) (λe c u ho he=>?_)
  ·refine jln (jlt (BK (λh1=>?_) (λh1=>?_)))
   ·refine jln (jgr (hK' _ _ _ (h1▸Ah) (by rw[h1,Y7])))
   ·exact hK' _ _ _ (h1▸Ag) (by rw[h1,Y8])
  simp only[List.map,zc,zl,zj,z_t] at he;simp only[he];refine AH (λvs R' D'=>R' = R∧D' = D ++ F∧(((decide ((t.length:Int) < 2) || decide ((t.length:Int) > 12)) = false∧∃h:0 < t.length,vs = [S0 b t.length cap,.bool false,.pointer (some ⟨b,0 + (0:Int).toNat * 5,none⟩),.agg (eRg (t[0])).toArray])∨((decide ((t.length:Int) < 2) || decide ((t.length:Int) > 12)) = true∧vs = [S0 b t.length cap,.bool true,U,U]))) (λK2 hK2=>?_) ?_
  ·rw[ho];refine BK (λh1=>?_) (λh1=>?_)
   ·have h1':=h1;simp only[YL,decide_eq_false_iff_not] at h1';have h0:0 < t.length:=by omega
    refine jia (by omega) (by omega) ?_;refine jla (l:=eRg (t[0])) (EL h0) (Cx (f:=eRg) (w:=5) (λ_=>rfl) h0) ?_;exact hK2 _ _ _ ⟨rfl,rfl,.inl ⟨h1,h0,by rw[h1]⟩⟩
   ·exact hK2 _ _ _ ⟨rfl,rfl,.inr ⟨h1,by rw[h1]⟩⟩
  rintro e2 R2 D2 ⟨hR,hD,h⟩;subst hR;rw[hD];clear hD;rcases h with ⟨h1,h0,he⟩ | ⟨h1,he⟩
  ·simp only[List.map,zc,zl,zj,z_t] at he;simp only[he];refine jff (jp TW (Ae (jla (l:=eRg (t[0])) (EL h0) (Cx (f:=eRg) (w:=5) (λ_=>rfl) h0) jev) ?_));refine @XF (t[0]) DQ _ _ _ _ _ (EJ ?_);refine hK _ _ _ ⟨rfl,rfl,?_⟩;rw[h1,Y7,show rv t 0 = t[0] from DZ h0]
  ·simp only[List.map,zc,zl,zj,z_t] at he;simp only[he];refine jtf (Ae jev (ED ?_));refine hK _ _ _ ⟨rfl,rfl,?_⟩;rw[h1,Y8]
 rintro e R2 D2 ⟨hR,hD,he⟩;subst hR;rw[hD];clear hD;simp only[List.map,zc,zl,zj,z_t] at he;simp only[he];refine jif (λh0=>?_) (λh0=>?_)
 ·refine Bi (nok λT=>?_);have n0:=T.n0;have n1:=T.n1;have e:=T.e;simp only[YZ,z_d,YT,beq_eq_false_iff_ne] at h0;rcases h0 with (h | h) | h
  ·omega
  ·omega
  ·exact h e
 simp only[YL,decide_eq_false_iff_not,Yg,beq_iff_eq] at h0;obtain⟨⟨n0,n1⟩,hedge⟩:=h0;refine @Xa _ _ _ λmb o hm=>jln ?_
 refine jlp (λn vs R' D'=>R' = R2∧∃(i:Nat) (o:Obj),D' = (mb,o) :: (D ++ F)∧i≤t.length∧vs = [.map (some mb),S0 b t.length cap,I t.length,I i]∧n = t.length - i∧MpI o (λy=>∃k:Nat,1≤k∧k < i∧(rv t k).AQ = y)∧(∀k:Nat,1≤k→k < i→Hs k (rv t k)∧∀m:Nat,1≤m→m < k→0≤(rv t k).AQ→(rv t m).AQ≠(rv t k).AQ))
  (n:=t.length) ⟨rfl,0,o,rfl,by omega,rfl,rfl,hm.iff λx=>⟨λh=>h.elim,λ⟨k,_,h,_⟩=>by omega⟩,λk h1 h2=>by omega⟩ ?_
 clear hm;rintro n e R' D' K ⟨hR,i,o,hD,hi,he,hn,hm,hinv⟩ hK;subst hR;rw[hD];clear hD;simp only[List.map,zc,zl,zj,z_t] at he;simp only[he];refine jlt (jif (λhc=>?_) (λhc=>?_));rotate_left
 ·have hc:=z_g hc;refine Ar [] (G:=D ++ F) (Bi ?_);rw[Bc.2 ⟨by omega,by omega,hedge,λq q0 q1=>?_,λq s q0 q1 s0 s1 hoo heq=>?_⟩]
  ·have:=(hinv q.toNat (by omega) (by omega)).1;rwa [show ((q.toNat:Nat):Int) = q from by omega] at this
  ·have h1:=(hinv q.toNat (by omega) (by omega)).2 s.toNat (by omega);have h2:=(hinv s.toNat (by omega) (by omega)).2 q.toNat (by omega);rw[show ((q.toNat:Nat):Int) = q from by omega,show ((s.toNat:Nat):Int) = s from by omega] at h1 h2;rcases Int.lt_trichotomy q s with c | c | c
   ·exact absurd heq (h2 (by omega) (by rw[← heq];exact hoo))
   ·exact c
   ·exact absurd heq.symm (h1 (by omega) hoo)
 have hc:=z_f hc;have hil:i < t.length:=by omega
 have hrv:=DZ hil;refine AH (λvs R3 D3=>R3 = R'∧∃o',D3 = (mb,o') :: (D ++ F)∧MpI o' (λy=>∃k:Nat,1≤k∧k < i + 1∧(rv t k).AQ = y)∧(∀k:Nat,1≤k→k < i + 1→Hs k (rv t k)∧∀m:Nat,1≤m→m < k→0≤(rv t k).AQ→(rv t m).AQ≠(rv t k).AQ)∧vs = [.map (some mb),S0 b t.length cap,I t.length,I i]) (λK2 hK2=>?_) ?_;rotate_left
 ·rintro e3 R3 D3 ⟨hR,o',hD,hm',hinv',he⟩;subst hR;rw[hD];clear hD;simp only[List.map,zc,zl,zj,z_t] at he;simp only[he];exact jad (hK (t.length - (i + 1)) _ _ _ (by omega) ⟨rfl,i + 1,o',rfl,by omega,rfl,rfl,hm',hinv'⟩)
 refine AH (λvs R3 D3=>R3 = R'∧∃o',D3 = (mb,o') :: (D ++ F)∧MpI o' (λy=>∃k:Nat,1≤k∧k < i + 1∧(rv t k).AQ = y)∧(∀k:Nat,1≤k→k < i + 1→Hs k (rv t k)∧∀m:Nat,1≤m→m < k→0≤(rv t k).AQ→(rv t m).AQ≠(rv t k).AQ)∧vs = [.map (some mb),S0 b t.length cap,I t.length,I i]) (λK3 hK3=>?_) ?_;rotate_left
 ·rintro e3 R3 D3 ⟨hR,o',hD,hm',hinv',he⟩;subst hR;rw[hD];clear hD;simp only[List.map,zc,zl,zj,z_t] at he;simp only[he];exact hK2 _ _ _ ⟨rfl,o',rfl,hm',hinv',rfl⟩
 refine CZ hil (Mi hil ?_);refine ja λb13=>js (cs':=eRg (t[i])) rfl rfl (by exact z_n 5) rfl (jeq (jif (λhz=>?_) (λhz=>?_)))
 ·have hz:=eq_of_beq hz;have hz:i = 0:=by omega
  refine jk1 (F:=D ++ F) mb ?_;refine hK3 _ _ _ ⟨rfl,o,rfl,hm.iff λy=>⟨λ⟨k,h1,h2,h3⟩=>by omega,λ⟨k,h1,h2,h3⟩=>by omega⟩,λk h1 h2=>by omega,rfl⟩
 have hz:=ne_of_beq_false hz;have hi1:1≤i:=by omega
 obtain⟨sb,hsb⟩:∃sb:Bool,((∃k:Nat,1≤k∧k < i∧(rv t k).AQ = (t[i]).AQ)↔sb = true):=by
  by_cases h:∃k:Nat,1≤k∧k < i∧(rv t k).AQ = (t[i]).AQ
  ·exact⟨true,by simp[h]⟩
  ·exact⟨false,by simp[h]⟩
 refine jor [.map (some mb),Pt b13,S0 b t.length cap,I t.length,I i] (!I4 i (t[i]) || (decide ((t[i]).AQ≥0) && sb)) (λK' hK'=>?_) (λe c u ho he=>?_)
 ·refine jla (l:=eRg (t[i])) (by exact z_n 5) rfl (jp (M7 (t[i]) (by omega) (by omega)) (BK (λh1=>?_) (λh1=>?_)))
  ·refine jl (v:=I (t[i]).AQ) rfl (jge (Bj (λh2=>?_) (λh2=>?_)))
   ·refine jl (v:=I (t[i]).AQ) rfl ?_;refine @jlk _ _ _ mb o _ _ sb _ hm hsb ?_;rw[h2];exact ED (hK' _ _ _ (h1▸Ah) (by rw[h1,h2];rfl))
   ·rw[h2];exact EJ (hK' _ _ _ (h1▸Ah) (by rw[h1,h2];rfl))
  ·exact hK' _ _ _ (h1▸Ag) (by rw[h1];rfl)
 simp only[List.map,zc,zl,zj,z_t] at he;simp only[he];rw[ho];refine jif (λhv=>?_) (λhv=>?_)
 ·refine Ar [] (G:=D ++ F) (Bi (nok λT=>?_));simp only[YZ,YT,z_b,z_d] at hv;rcases hv with hv | ⟨hv1,hv2⟩
  ·have:=(IU (by omega) (by omega)).2 (T.row i (by omega) (by omega));rw[hrv,hv] at this;cases this
  ·obtain⟨k,k1,k2,k3⟩:=hsb.2 hv2;have:=T.own i k (by omega) (by omega) (by omega) (by omega) (by rw[hrv];exact hv1) (by rw[hrv,k3]);omega
 ·simp only[YL,Yg,ZX,decide_eq_false_iff_not] at hv;obtain⟨hv1,hv2⟩:=hv;refine jl (v:=I (t[i]).AQ) rfl ?_;refine @jmu _ _ _ mb o _ _ _ _ hm λo' hm'=>?_
  refine jk1 (F:=D ++ F) mb ?_;refine hK3 _ _ _ ⟨rfl,o',rfl,hm'.iff λy=>⟨?_,?_⟩,λk h1 h2=>?_,rfl⟩
  ·rintro (⟨k,h1,h2,h3⟩ | rfl)
   ·exact⟨k,h1,by omega,h3⟩
   ·exact⟨i,hi1,by omega,by rw[hrv]⟩
  ·rintro⟨k,h1,h2,h3⟩;by_cases hk:k = i
   ·subst hk;rw[hrv] at h3;exact .inr h3.symm
   ·exact .inl ⟨k,h1,by omega,h3⟩
  ·by_cases hk:k = i
   ·subst hk;rw[hrv];refine⟨(IU (by omega) (by omega)).1 hv1,λm m1 m2 h0 heq=>?_⟩;rcases hv2 with hv2 | hv2
    ·omega
    ·have:=hsb.1 ⟨m,m1,m2,heq⟩;rw[hv2] at this;cases this
   ·exact hinv k h1 (by omega)
end
section
variable {R:RM} {D:Chs} {t:List Rg} {sp:List Value} {b cap:Nat}
end
theorem Xo {f:Nat} {args:List Value} {v:Value} {R:RM} {D F:Chs} {k:Value→M} (hF:Ro f args v R D) (H:J R (D ++ F) (k v)):J R (D ++ F) (CA P f args k):=by
 intro h hs;refine ES ?_ (hF F h hs);rintro v' h' ⟨R',A',h1,h2,rfl,rfl⟩;exact H h' (h2.le h1)
section
variable {R:RM} {D:Chs} {t:List Rg} {sp:List Value} {b cap:Nat}
end
section
variable {R:RM} {D:Chs} {t:List Rg} {sp:List Value} {b cap:Nat}
end
theorem getD_some {w:List Int} {j:Nat} (h:j < w.length):w[j]? = some (w.getD j 0):=by
 rw[YU,Y9 h];rfl
theorem Fk {R:RM} {D:Chs} {v:Value} {t:AY} {k:Value→M} (h:ThV R v t) (H:J R D (k (I (AD t.sh)))):J R D (CA P Fa [v] k):=by
 refine jro (D:=D) (v:=I (AD t.sh)) ?_ H;refine KY λF=>?_
 unfold Ft;obtain⟨rv,nv,rfl,hr,hn⟩:=h;refine ja λb=>jfo ?_
 refine jla (l:=[I t.sh.refs,I t.sh.nums]) (YM rfl) rfl (jp (Gb t.sh) ?_);exact Ar [] (G:=D ++ F) (Bi rfl)
theorem XD {f:Nat} {args:List Value} {v:Value} {R:RM} {D:Chs} {b:Nat} {o:Obj} {k:Value→M} (hb:R b = some o) (hF:∀R' : RM,R'.le R→Ro f args v R' [(b,o)]) (H:J R D (k v)):J R D (CA P f args k):=by
 intro h hs;have hne:∀c o',(c,o')∈D→c≠b:=λc o' hm e=>by
  have:=(hs.at_ c o' hm).2;rw[e,hb] at this;cases this
 have le:RM.le (λc=>if c = b then none else R c) R:=λc o' h=>by
  have h:(if c = b then none else R c) = some o':=h;split at h
  ·cases h
  ·exact h
 have hs2:St h (λc=>if c = b then none else R c) ((b,o) :: D):=by
  refine⟨λc o' h=>hs.rd c o' (le c o' h),λc o' hm=>?_,?_⟩
  ·rcases YJ.1 hm with e | hm
   ·cases e;exact⟨hs.rd _ _ hb,if_pos rfl⟩
   ·have:=hs.at_ c o' hm;exact⟨this.1,(if_neg (hne c o' hm)).trans this.2⟩
  ·rw[Z6,Z3];refine⟨λhm=>?_,hs.nd⟩;obtain⟨⟨c,o'⟩,h1,h2⟩:=Yq.1 hm;exact hne c o' h1 h2
 refine ES ?_ (hF _ le D h hs2);rintro v' h' ⟨R2,A,hR,hst,rfl,rfl⟩;refine H h' ⟨λc o' hc=>?_,λc o' hm=>⟨(hst.at_ c o' (Yx _ hm)).1,(hs.at_ c o' hm).2⟩,?_⟩
 ·by_cases e:c = b
  ·subst e;rw[hb] at hc;cases hc;exact (hst.at_ _ _ (.head _)).1
  ·exact hst.rd c o' (hR c o' ((if_neg e).trans hc))
 ·have:=hst.nd;exact (Z3.1 this).2
set_option maxHeartbeats 1000000 in
theorem O3 {R:RM} {wv:Value} {w:List Int} (r top:Int) (h:BJ R wv w) (hl:w.length < 1000000) (hrn:∀x∈w,Rn x) :
  Fn P HJ [wv,I r,I top] R [] (λv R' A=>A = []∧QTs (BH w r top) v R'):=by
 refine NE λF=>?_
 unfold Hw;have inn:∀a:Int,inR (w.getD (a.toNat + 1) 0):=λa=>by
  rw[YU];cases hx:w[a.toNat + 1]? with
  | none=>exact⟨by decide,by decide⟩
  | some x=>exact hrn x (List.mem_of_getElem? hx)
 obtain⟨wa,wc,hwv⟩:=h.sl;have eq:(w.length:Int).tdiv 16 = (w.length / 16:Nat):=by rw[Yz (by omega)];omega
 rw[hwv];have br:0≤AJ r∧AJ r≤176:=by unfold AJ;split<;>omega
 refine jor [.slice wa w.length wc,I r,I top] ((!BF w.length) || (decide (r < 1))) (λK' hK'=>?_) (λe c u ho he=>?_)
 ·refine jp (Fq wa w.length wc (by omega)) (BK (λh1=>?_) (λh1=>?_))
  ·refine jlt (hK' _ _ _ (h1▸Ah) (by rw[h1,Y7]))
  ·exact hK' _ _ _ (h1▸Ag) (by rw[h1,Y8])
 simp only[List.map,zc,zl,zj,z_t] at he;simp only[he];refine jor [.slice wa w.length wc,I r,I top] ((!BF w.length || decide (r < 1)) || (decide (r≥(w.length:Int).tdiv 16))) (λK' hK'=>?_) (λe c u ho he=>?_)
 ·rw[ho];refine BK (λh1=>?_) (λh1=>?_)
  ·refine jln (Ny (by decide) ⟨by omega,by omega⟩ (jge (hK' _ _ _ (h1▸Ah) (by rw[h1,Y7]))))
  ·exact hK' _ _ _ (h1▸Ag) (by rw[h1,Y8])
 simp only[List.map,zc,zl,zj,z_t] at he;simp only[he];refine jor [.slice wa w.length wc,I r,I top] ((!BF w.length || decide (r < 1) || decide (r≥(w.length:Int).tdiv 16)) || (decide (top < AJ r))) (λK' hK'=>?_) (λe c u ho he=>?_)
 ·rw[ho];refine BK (λh1=>?_) (λh1=>?_)
  ·refine jp (Dd r) (jlt (hK' _ _ _ (h1▸Ah) (by rw[h1,Y7])))
  ·exact hK' _ _ _ (h1▸Ag) (by rw[h1,Y8])
 simp only[List.map,zc,zl,zj,z_t] at he;simp only[he];refine jor [.slice wa w.length wc,I r,I top] ((!BF w.length || decide (r < 1) || decide (r≥(w.length:Int).tdiv 16) || decide (top < AJ r)) || (decide (top > AJ r + 16))) (λK' hK'=>?_) (λe c u ho he=>?_)
 ·rw[ho];refine BK (λh1=>?_) (λh1=>?_)
  ·refine jp (Dd r) (jad (jgr (hK' _ _ _ (h1▸Ah) (by rw[h1,Y7]))))
  ·exact hK' _ _ _ (h1▸Ag) (by rw[h1,Y8])
 simp only[List.map,zc,zl,zj,z_t] at he;simp only[he];rw[ho];refine jif (λh0=>?_) (λh0=>?_)
 ·refine B8 (A:=[]) (RM.le.refl R) ⟨rfl,?_⟩;have:BH w r top = none:=by
   unfold BH;rw[if_neg];intro hh;simp only[YZ,YT,z_d,z_b] at h0 hh;rw[eq] at h0;obtain⟨⟨⟨⟨g1,g2⟩,g3⟩,g4⟩,g5⟩:=hh;rw[g1] at h0;rcases h0 with (((h0 | h0) | h0) | h0) | h0
   ·exact absurd h0 (by decide)
   all_goals omega
  rw[this];exact rfl
 simp only[YL,Yg,decide_eq_false_iff_not] at h0;rw[eq] at h0;obtain⟨⟨⟨⟨g1,g2⟩,g3⟩,g4⟩,g5⟩:=h0;have et:BH w r top = Aw w 16 (AJ r) top:=by
  unfold BH;rw[if_pos];simp only[z_b,z_d];exact⟨⟨⟨⟨g1,by omega⟩,by omega⟩,by omega⟩,by omega⟩
 rw[← hwv];refine AH (λvs R' D'=>R.le R'∧∃l tv A,BH w r top = some l∧(∃rows,Rw (ThC R') rows l∧SW Ao 6 rows tv A)∧D' = A ++ ([] ++ F)∧vs = [tv]) (λK hK=>?_) ?_;rotate_left
 ·rintro e R1 D1 ⟨hR,l,tv,A,hl,⟨rows,hrw,so⟩,hD,he⟩;rw[hD];clear hD;simp only[List.map,zc,zl,zj,z_t] at he;simp only[he];refine jfw so (hrw.all λ_ _=>ThC.len) λR2 hR2 hfz=>?_
  refine B8 (A:=[]) (hR.trans hR2) ⟨rfl,?_⟩;rw[hl];exact⟨tv,⟨rows,hrw.mono λ_ _=>ThC.le hR2,hfz⟩,rfl⟩
 refine jp (Dd r) ?_;refine AH (λvs R' D'=>R.le R'∧∃l tv A,BH w r top = some l∧(∃rows,Rw (ThC R') rows l∧SW Ao 6 rows tv A)∧D' = A ++ ([] ++ F)∧vs = [tv]) (λK2 hK2=>?_) ?_;rotate_left
 ·rintro e R1 D1 ⟨hR,l,tv,A,hl,so,hD,he⟩;rw[hD];clear hD;simp only[List.map,zc,zl,zj,z_t] at he;simp only[he];exact hK _ _ _ ⟨hR,l,tv,A,hl,so,rfl,rfl⟩
 refine jlp (λm vs R' D'=>R.le R'∧∃(a:Int) (l:List AY) (tv:Value) (A:Chs) (rows:List (List Value)),m≤16∧AJ r + 2 * (16 - m)≤a∧a≤top∧l.length≤16 - m∧(match Aw w m a top with | none=>none | some l2=>some (l ++ l2)) = BH w r top∧Rw (ThC R') rows l∧SW Ao 6 rows tv A∧D' = A ++ ([] ++ F)∧vs = [wv,I top,tv,I a])
  (n:=16) ⟨RM.le.refl R,AJ r,[],.slice none 0 0,[],[],by omega,by omega,by omega,by simp,by rw[et];cases Aw w 16 (AJ r) top<;>rfl,Rw.nil,.inl ⟨rfl,rfl,rfl⟩,rfl,rfl⟩ ?_
 rintro m e R1 D1 K3 ⟨hR,a,l,tv,A,rows,hm,ha,hat,hll,hth,hrw,so,hD,he⟩ hK3;rw[hD];clear hD;simp only[List.map,zc,zl,zj,z_t] at he;simp only[he];have h1:=h.le hR;refine jlt (jif (λhc=>?_) (λhc=>?_));rotate_left
 ·have hc:=z_g hc;refine hK2 _ _ _ ⟨hR,l,tv,A,?_,⟨rows,hrw,so⟩,rfl,rfl⟩;rw[← hth];cases m<;>(unfold Aw;rw[if_neg hc];simp)
 have hc:=z_f hc;obtain⟨m,rfl⟩:∃k,m = k + 1:=⟨m - 1,by omega⟩;unfold Aw at hth;rw[if_pos hc] at hth;dsimp only at hth;obtain⟨sz1,sz2⟩:=Lu (BA w a).1.sh;have tsz:=@Gx w a;refine jc (A:=[]) (PH a h1 hl (inn a)) ?_;rintro _ R2 _ hR2 ⟨rfl,x,⟨rv,nv,rfl,hrv,hnv⟩,rfl⟩;generalize BA w a = t at hth hrv hnv sz1 sz2 tsz ⊢;obtain⟨t,tb⟩:=t;dsimp only at hth hrv hnv sz1 sz2 tsz ⊢;obtain⟨ra,rc,rfl⟩:=hrv.sl;obtain⟨na,nc,rfl⟩:=hnv.sl;refine jex rfl (jex rfl (ja λb=>?_));refine js (cs':=eTh t (.slice ra t.refs.length rc) (.slice na t.nums.length nc)) rfl rfl (by exact z_n 6) rfl ?_;refine jor [wv,I top,tv,I a,Pt b] ((!tb) || (decide (a + AD t.sh > top))) (λK' hK'=>?_) (λe c u ho he=>?_)
 ·refine BK (λh1=>?_) (λh1=>?_)
  ·refine jla (t:=Ao) (cs:=eTh t (.slice ra t.refs.length rc) (.slice na t.nums.length nc)) (l:=eTh t (.slice ra t.refs.length rc) (.slice na t.nums.length nc)) (by exact z_n 6) rfl (Fk ⟨_,_,rfl,hrv,hnv⟩ (jad (jgr (hK' _ _ _ (h1▸Ah) (by rw[h1,Y7])))))
  ·exact hK' _ _ _ (h1▸Ag) (by rw[h1,Y8])
 simp only[List.map,zc,zl,zj,z_t] at he;simp only[he];rw[ho];refine jif (λh0=>?_) (λh0=>?_)
 ·refine B8 (A:=[]) (hR.trans hR2) ⟨rfl,?_⟩;have:BH w r top = none:=by
   rw[← hth,if_neg];intro hh;simp only[YZ,YT,z_d,z_b] at h0 hh;rcases h0 with h0 | h0
   ·rw[h0] at hh;exact absurd hh.1 (by decide)
   ·omega
  rw[this];exact rfl
 simp only[YL,Yg,decide_eq_false_iff_not] at h0;obtain⟨h2,h3⟩:=h0;rw[if_pos (by rw[h2];simp;omega)] at hth;have tsz:=tsz h2;refine jla (l:=eTh t (.slice ra t.refs.length rc) (.slice na t.nums.length nc)) (by exact z_n 6) rfl ?_;refine jbs (cs:=eTh t (.slice ra t.refs.length rc) (.slice na t.nums.length nc)) rfl rfl λb4=>?_
 refine BC (D':=(b4,C Ao (eTh t (.slice ra t.refs.length rc) (.slice na t.nums.length nc))) :: ((b,C Ao (eTh t (.slice ra t.refs.length rc) (.slice na t.nums.length nc))) :: (A ++ ([] ++ F)))) (Ym _) ?_;refine Ar A (G:=(b4,C Ao (eTh t (.slice ra t.refs.length rc) (.slice na t.nums.length nc))) :: (b,C Ao (eTh t (.slice ra t.refs.length rc) (.slice na t.nums.length nc))) :: ([] ++ F)) ?_;have hx:BM R2 (A ++ ((b4,C Ao (eTh t (.slice ra t.refs.length rc) (.slice na t.nums.length nc))) :: (b,C Ao (eTh t (.slice ra t.refs.length rc) (.slice na t.nums.length nc))) :: ([] ++ F))) (some ⟨b4,0,none⟩) (1 * 6) [eTh t (.slice ra t.refs.length rc) (.slice na t.nums.length nc)].flatten:=BM.held (t:=Ao) (cs:=eTh t (.slice ra t.refs.length rc) (.slice na t.nums.length nc)) (o:=0) (n:=1 * 6) (z_n 6);have hrl:=hrw.1;refine jaw so (hrw.all λ_ _=>ThC.len) (by intro r hr;rw[YR.1 hr];rfl) rfl rfl rfl (by decide) (by rw[YP];omega) hx λv' A' so'=>?_
 refine jla (t:=Ao) (cs:=eTh t (.slice ra t.refs.length rc) (.slice na t.nums.length nc)) (l:=eTh t (.slice ra t.refs.length rc) (.slice na t.nums.length nc)) (by exact z_n 6) rfl (Fk ⟨_,_,rfl,hrv,hnv⟩ (jad ?_));refine Ar A' (G:=[] ++ F) ?_;refine hK3 m _ _ _ (by omega) ⟨hR.trans hR2,a + AD t.sh,l ++ [t],v',A',rows ++ [eTh t (.slice ra t.refs.length rc) (.slice na t.nums.length nc)],by omega,by omega,by omega,by rw[YA,YP];omega,?_,(hrw.mono λ_ _=>ThC.le hR2).app (Rw.one ⟨_,_,rfl,hrv,hnv⟩),so',rfl,rfl⟩;rw[← hth];cases Aw w m (a + AD t.sh) top with
 | none=>rfl
 | some l2=>simp
end Go.Lf
end
section
namespace Sm
open Go.Lf
def EW (s:BI):Bool:=BF s.A6.length && BG s.A0 && s.A0.length == s.A6.length / 16 && s.AN.length == s.A6.length
def EI (s:BI):Option (List AY):=if EW s then BE s else none
def DN (s:BI) (a:Int):Bool:=decide (0≤AO a) && decide (AO a < s.A0.length) && (rv s.A0 (AO a)).kind == 4
def C5 (s:BI) (l:List AY) (t:AY):Bool:=t.moved == t.at_ || match Bf l t.moved with
 | none=>false
 | some n=>n.sh == t.sh && n.moved == n.at_ && !DN s n.at_ && DN s t.at_
def CN (s:BI) (l:List AY):Bool:=l.all (C5 s l)
def EK (t:Th):Bool:=decide (t.AB.length≤8) && decide (0≤t.Aq) && decide (t.Aq≤2)
def DX (s:BI) (l:List AY) (a:Int):Bool:=match Bf l a with
 | none=>false
 | some t=>t.moved == a && !DN s a
def Ci (s:BI) (l:List AY):Bool:=CN s l && decide (0≤s.AX) && decide (s.AX≤3) && decide (1≤s.A7.length) && decide (s.A7.length≤3) && decide (s.AK.length≤8) && s.A7.all EK && s.AK.all (DX s l)
def CL (s:BI):Option (List AY × List Int):=match EI s with
 | none=>none
 | some l=>if Ci s l then (DA s l).map λm=>(l,m) else none
def Dg (s:BI):List Int:=s.A7.flatMap (·.AB) ++ s.AK
theorem P9 {w:List Int}:∀{n:Nat} {a top:Int} {l:List AY},Aw w n a top = some l→l.Pairwise (λx y=>x.at_ + AD x.sh≤y.at_)∧∀t∈l,a≤t.at_∧t.at_ + AD t.sh≤top∧2≤AD t.sh∧(BA w t.at_) = (t,true)
 | 0,a,top,l,h=>by
  unfold Aw at h;split at h
  ·cases h
  ·cases h;exact⟨List.Pairwise.nil,λt ht=>by cases ht⟩
 | n + 1,a,top,l,h=>by
  unfold Aw at h;split at h;rotate_left
  ·cases h;exact⟨List.Pairwise.nil,λt ht=>by cases ht⟩
  dsimp only at h;split at h;rotate_left
  ·cases h
  rename_i h1 h2;simp only[z_b,z_d] at h2;have hs:=Gx h2.1;have ha:(BA w a).1.at_ = a:=by
   have:=h2.1;unfold BA at this ⊢;split at this
   ·rename_i c1;rw[if_pos c1];dsimp only at this ⊢;split at this
    ·rename_i c2;rw[if_pos c2]
    ·cases this
   ·cases this
  cases ht:Aw w n (a + AD (BA w a).1.sh) top with
  | none=>rw[ht] at h;cases h
  | some l2=>
   rw[ht] at h;cases h;obtain⟨i1,i2⟩:=P9 ht;refine⟨List.pairwise_cons.2 ⟨λy hy=>by have:=i2 y hy;rw[ha];omega,i1⟩,λt ht=>?_⟩;rcases YJ.1 ht with rfl | ht
   ·exact⟨by rw[ha];omega,by rw[ha];exact h2.2,hs,by rw[ha,← h2.1]⟩
   ·have:=i2 t ht;exact⟨by omega,this.2⟩
theorem Qs {w:List Int} {r:Nat} {top:Int} {l:List AY} (h:BH w r top = some l):l.Pairwise (λx y=>x.at_ + AD x.sh≤y.at_)∧∀t∈l,16 * (r:Int)≤t.at_∧t.at_ + AD t.sh≤top∧top≤16 * r + 16∧2≤AD t.sh∧BA w t.at_ = (t,true):=by
 unfold BH at h;split at h;rotate_left
 ·cases h
 rename_i c;simp only[z_b,z_d] at c;obtain⟨⟨⟨⟨c1,c2⟩,c3⟩,c4⟩,c5⟩:=c;have:(r:Int) < 12:=by
  unfold BF at c1;simp only[z_b,z_d] at c1;omega
 have hb:=Cs (r:=(r:Int)) (by omega) this;obtain⟨i1,i2⟩:=P9 h;exact⟨i1,λt ht=>by have:=i2 t ht;rw[hb] at this c5;exact⟨this.1,this.2.1,c5,this.2.2⟩⟩
theorem G4 {w:List Int}:∀{t:List Rg} {r:Nat} {l:List AY},BY w r t = some l→l.Pairwise (λx y=>x.at_ + AD x.sh≤y.at_)∧∀x∈l,16 * (r:Int)≤x.at_∧2≤AD x.sh∧BA w x.at_ = (x,true)∧∃k:Nat,∃h:k < t.length,x.at_ / 16 = r + k∧x.at_ + AD x.sh≤(t[k]).top∧(t[k]).top≤16 * (r + k) + 16
 | [],r,l,h=>by cases h;exact⟨List.Pairwise.nil,λt ht=>by cases ht⟩
 | x :: t,r,l,h=>by
  unfold BY at h;cases h1:BH w r x.top with
  | none=>rw[h1] at h;cases h
  | some a=>
   rw[h1] at h;dsimp only at h;cases h2:BY w (r + 1) t with
   | none=>rw[h2] at h;cases h
   | some b=>
    rw[h2] at h;cases h;obtain⟨i1,i2⟩:=Qs h1;obtain⟨j1,j2⟩:=G4 h2;refine⟨List.pairwise_append.2 ⟨i1,j1,λy hy z hz=>?_⟩,λy hy=>?_⟩
    ·have:=i2 y hy;have:=j2 z hz;omega
    ·rcases Ya.1 hy with hy | hy
     ·have:=i2 y hy;exact⟨this.1,this.2.2.2.1,this.2.2.2.2,0,by simp,by omega,this.2.1,by simpa using this.2.2.1⟩
     ·obtain⟨g1,g2,g3,k,hk,g4,g5,g6⟩:=j2 y hy;exact⟨by omega,g2,g3,k + 1,by simp;omega,by omega,by simpa using g5,by simp only[List.getElem_cons_succ];omega⟩
theorem N9 {l:List AY} (h:l.Pairwise (λx y=>x.at_ + AD x.sh≤y.at_)) (hs:∀x∈l,2≤AD x.sh):(l.map AY.at_).Nodup:=by
 rw[List.Nodup,List.pairwise_map];exact h.imp_of_mem λ{a b} ha hb h e=>by have:=hs a ha;omega
theorem Co {l:List AY} {a:Int} {t:AY} (h:Bf l a = some t):t∈l∧t.at_ = a:=by
 unfold Bf at h;exact⟨Zh h,by simpa using List.find?_some h⟩
theorem Eh {l:List AY} (hn:(l.map AY.at_).Nodup) {t:AY} (h:t∈l):Bf l t.at_ = some t:=by
 unfold Bf;induction l with
 | nil=>cases h
 | cons x l ih=>
  rw[Z6,Z3] at hn;rcases YJ.1 h with rfl | h
  ·rw[Zd (by simp)]
  ·have:x.at_≠t.at_:=λe=>hn.1 (e▸ZI h)
   rw[Ze (by simpa using this)];exact ih hn.2 h
end Sm
end
section
namespace Go.Lf
open Go Sm
def RgZ (R:RM) (v:Value) (t:List Rg):Prop:=∃b c sp,v = S0 b t.length c∧R b = some (C AG (AZ eRg t ++ sp))∧t.length≤c
theorem RgZ.le {R R' : RM} {v:Value} {t:List Rg} (h:R.le R') (H:RgZ R v t):RgZ R' v t:=by
 obtain⟨b,c,sp,h1,h2,h3⟩:=H;exact⟨b,c,sp,h1,h _ _ h2,h3⟩
structure SF (R:RM) (s:Sm.BI) (wv tv mv thv ov pv:Value):Prop where
 c:StC R s wv tv mv thv ov pv
 z:RgZ R tv s.A0
 b:StB 9 s
theorem SF.le {R R' : RM} {s:Sm.BI} {wv tv mv thv ov pv:Value} (h:R.le R') (H:SF R s wv tv mv thv ov pv):SF R' s wv tv mv thv ov pv:=⟨H.c.le h,H.z.le h,H.b⟩
theorem Nj {a:Int} (h0:0≤a) (h1:a < 1000000):Pu HG [I a] (I (AO a)):=by
 intro R;refine Ng λF=>?_
 unfold Hn;have e1:a.tdiv 16 = a / 16:=Yz h0;refine jlt (jif (λh=>?_) (λh=>?_))
 ·have h:=z_f h;omega
 ·refine Ny (by decide) (by rw[e1];constructor<;>omega) ?_;rw[e1];exact B8 (A:=[]) (RM.le.refl R) (by unfold AO;rw[if_neg (by omega)])
section st
variable {R:RM} {s:Sm.BI} {wv tv mv thv ov pv:Value}
theorem Sv (h:SF R s wv tv mv thv ov pv):Ro FS [.agg (eSt s wv tv mv thv ov pv).toArray] (.bool (EW s)) R []:=by
 refine Jt λF=>?_
 unfold FU;refine ja λb=>?_
 rw[show cl (.agg (eSt s wv tv mv thv ov pv).toArray) = eSt s wv tv mv thv ov pv from rfl];obtain⟨tb,tc,sp,rfl,hb,htc⟩:=h.z;obtain⟨wa,wc,rfl⟩:=h.c.w.sl;obtain⟨ma,mc,rfl⟩:=h.c.m.sl;have t0:=h.b.t0;have t1:=h.b.t1;have wl:=h.b.wl;have eq:(s.A6.length:Int).tdiv 16 = (s.A6.length / 16:Nat):=by rw[Yz (by omega)];omega
 refine jan [Pt b] ((BF s.A6.length) && (BG s.A0)) (λK' hK'=>?_) (λe c u ho he=>?_)
 ·refine jl (v:=.slice wa s.A6.length wc) rfl (jp (Fq wa s.A6.length wc (by omega)) (Bj (λh1=>?_) (λh1=>?_)))
  ·refine jl (v:=S0 tb s.A0.length tc) rfl (XD hb (λR' _=>On (t:=s.A0) (sp:=sp) (by omega)) (hK' _ _ _ (h1▸Al) (by rw[h1,YG])))
  ·exact hK' _ _ _ (h1▸As) (by rw[h1,YK])
 simp only[List.map,zc,zl,zj,z_t] at he;simp only[he];refine jan [Pt b] ((BF s.A6.length && BG s.A0) && ((s.A0.length:Int) == (s.A6.length:Int).tdiv 16)) (λK' hK'=>?_) (λe c u ho he=>?_)
 ·rw[ho];refine Bj (λh1=>?_) (λh1=>?_)
  ·refine jl (v:=S0 tb s.A0.length tc) rfl (jln (jl (v:=.slice wa s.A6.length wc) rfl (jln (Ny (by decide) ⟨by omega,by omega⟩ (jeq (hK' _ _ _ (h1▸Al) (by rw[h1,YG])))))))
  ·exact hK' _ _ _ (h1▸As) (by rw[h1,YK])
 simp only[List.map,zc,zl,zj,z_t] at he;simp only[he];refine jan [] ((BF s.A6.length && BG s.A0 && ((s.A0.length:Int) == (s.A6.length:Int).tdiv 16)) && ((s.AN.length:Int) == (s.A6.length:Int))) (λK' hK'=>?_) (λe c u ho he=>?_)
 ·rw[ho];refine Bj (λh1=>?_) (λh1=>?_)
  ·refine jl (v:=.slice ma s.AN.length mc) rfl (jln (jl (v:=.slice wa s.A6.length wc) rfl (jln (jeq (hK' _ _ _ (h1▸Al) (by rw[h1,YG]))))))
  ·exact hK' _ _ _ (h1▸As) (by rw[h1,YK])
 simp only[List.map,zc,zl,zj,z_t] at he;simp only[he];rw[ho];refine Bi ?_;have e1:((s.A0.length:Int) == ((s.A6.length / 16:Nat):Int)) = (s.A0.length == s.A6.length / 16):=by rw[Yp,beq_iff_eq,beq_iff_eq];omega
 have e2:((s.AN.length:Int) == (s.A6.length:Int)) = (s.AN.length == s.A6.length):=by rw[Yp,beq_iff_eq,beq_iff_eq];omega
 rw[eq,e1,e2];rfl
theorem KG (h:SF R s wv tv mv thv ov pv) {a:Int} (h0:0≤a) (h1:a < 1000000):Ro Ff [.agg (eSt s wv tv mv thv ov pv).toArray,I a] (.bool (DN s a)) R []:=by
 refine Lj λF=>?_
 unfold G3;refine ja λb=>?_
 rw[show cl (.agg (eSt s wv tv mv thv ov pv).toArray) = eSt s wv tv mv thv ov pv from rfl];obtain⟨tb,tc,sp,rfl,hb,htc⟩:=h.z;refine jp (Nj h0 h1) ?_;refine jan [Pt b,I (AO a)] ((decide (AO a≥0)) && (decide (AO a < s.A0.length))) (λK' hK'=>?_) (λe c u ho he=>?_)
 ·refine jge (Bj (λh1=>?_) (λh1=>?_))
  ·refine jl (v:=S0 tb s.A0.length tc) rfl (jln (jlt (hK' _ _ _ (h1▸Al) (by rw[h1,YG]))))
  ·exact hK' _ _ _ (h1▸As) (by rw[h1,YK])
 simp only[List.map,zc,zl,zj,z_t] at he;simp only[he];refine jan [] (decide (AO a≥0) && decide (AO a < s.A0.length) && ((rv s.A0 (AO a)).kind == 4)) (λK' hK'=>?_) (λe c u ho he=>?_)
 ·rw[ho];refine Bj (λh1=>?_) (λh1=>?_)
  ·have h2:=h1;simp only[z_b,z_d] at h2;obtain⟨r,hr⟩:∃r:Nat,AO a = r:=⟨(AO a).toNat,by omega⟩;have hlt:r < s.A0.length:=by omega
   refine jl (v:=S0 tb s.A0.length tc) rfl ?_;rw[hr];refine CZ hlt (jfo (jlr (v:=I (s.A0[r]).kind) hb (by rw[YQ];exact Bq (f:=0) hlt rfl) (jeq (hK' _ _ ((s.A0[r]).kind == 4) (by rw[← hr,h1];exact Al) ?_))));rw[h1,hr,DZ hlt,YG]
  ·exact hK' _ _ _ (h1▸As) (by rw[h1,YK])
 simp only[List.map,zc,zl,zj,z_t] at he;simp only[he];rw[ho];exact Bi rfl
theorem Cy {r:Nat}:∀(l:List Th),(∀t∈l,t.AB.length≤r)→(l.flatMap (·.AB)).length≤r * l.length
 | [],_=>by simp
 | t :: l,h=>by
  have h1:=h t (by simp);have h2:=Cy l (λt ht=>h t (by simp[ht]));rw[List.flatMap_cons,YA,YY,Nat.mul_succ];omega
theorem SN (h:SF R s wv tv mv thv ov pv):Fn P FV [.agg (eSt s wv tv mv thv ov pv).toArray] R [] (λv R' A=>R' = R∧SO (Dg s) v A):=by
 refine Jp λF=>?_
 unfold FN;refine ja λb=>?_
 rw[show cl (.agg (eSt s wv tv mv thv ov pv).toArray) = eSt s wv tv mv thv ov pv from rfl];have n1:=h.b.n1;have rl:=h.b.rl;have pl:=h.b.pl;have fl:=Cy s.A7 rl;have fle:9 * s.A7.length≤27:=by omega
 refine AH (λvs R' D'=>R' = R∧∃v A,SO (s.A7.flatMap (·.AB)) v A∧D' = A ++ ((b,C AI (eSt s wv tv mv thv ov pv)) :: F)∧vs = [Pt b,v]) (λK hK=>?_) ?_
 ·refine jl (v:=thv) rfl (Cf h.c.th.sl ?_);refine AH (λvs R' D'=>R' = R∧∃v A,SO (s.A7.flatMap (·.AB)) v A∧D' = A ++ ((b,C AI (eSt s wv tv mv thv ov pv)) :: F)∧vs = [Pt b,v]) (λK2 hK2=>?_) ?_
  ·refine jlp (λm vs R' D'=>R' = R∧∃(i:Nat) (v:Value) (A:Chs),i≤s.A7.length∧m = s.A7.length - i∧SO ((s.A7.take i).flatMap (·.AB)) v A∧D' = A ++ ((b,C AI (eSt s wv tv mv thv ov pv)) :: F)∧vs = [Pt b,v,thv,I s.A7.length,I i]) (n:=s.A7.length) ⟨rfl,0,_,[],by omega,rfl,.inl ⟨rfl,rfl,rfl⟩,rfl,rfl⟩ ?_;rintro m e R1 D1 K3 ⟨hR,i,v,A,hi,hm,so,hD,he⟩ hK3;subst hR;rw[hD];clear hD;simp only[List.map,zc,zl,zj,z_t] at he;simp only[he];refine jlt (jif (λhc=>?_) (λhc=>?_));rotate_left
   ·have hc:=z_g hc;rw[YO (by omega)] at so;exact hK2 _ _ _ ⟨rfl,v,A,so,rfl,rfl⟩
   have hc:i < s.A7.length:=by have:=z_f hc;omega
   obtain⟨ta,tcc,htv⟩:=h.c.th.sl;refine jtr h.c.th hc λb2 o2 ty cs rv hrv hb2 ho2 hrow=>?_
   refine Ih (l:=[rv,I (s.A7[i]).next,.bool (s.A7[i]).busy,I (s.A7[i]).Aq]) hb2 ho2 hrow (ja λb3=>?_);obtain⟨ra,rc,rfl⟩:=hrv.sl;refine js (cs':=[.slice ra (s.A7[i]).AB.length rc,I (s.A7[i]).next,.bool (s.A7[i]).busy,I (s.A7[i]).Aq]) rfl rfl (YM rfl) rfl ?_;refine jl (v:=.slice ra (s.A7[i]).AB.length rc) rfl ?_;refine C0 ?_;obtain⟨xa,cx,hxv,hx⟩:=Fz.reads (D:=A ++ ((b,C AI (eSt s wv tv mv thv ov pv)) :: F)) hrv;cases hxv;have hrl:=rl _ (YI hc);have ftl:=Cy (s.A7.take i) (λt ht=>rl t (Yi ht));have ftl2:9 * (s.A7.take i).length≤27:=by rw[YS];omega
   refine jas so rfl (by omega) hx λv' A' so'=>?_
   refine jad ?_;refine hK3 (s.A7.length - (i + 1)) _ _ _ (by omega) ⟨rfl,i + 1,v',A',by omega,rfl,?_,rfl,rfl⟩;rw[YD hc,List.flatMap_append];simpa using so'
  rintro e R1 D1 ⟨hR,v,A,so,hD,he⟩;subst hR;rw[hD];clear hD;simp only[List.map,zc,zl,zj,z_t] at he;simp only[he];exact hK _ _ _ ⟨rfl,v,A,so,rfl,rfl⟩
 rintro e R1 D1 ⟨hR,v,A,so,hD,he⟩;subst hR;rw[hD];clear hD;simp only[List.map,zc,zl,zj,z_t] at he;simp only[he];obtain⟨pa,pc,rfl⟩:=h.c.p.sl;refine jl (v:=.slice pa s.AK.length pc) (by exact rfl) ?_;obtain⟨xa,cx,hxv,hx⟩:=Fz.reads (D:=A ++ ((b,C AI (eSt s wv tv mv thv ov (.slice pa s.AK.length pc))) :: F)) h.c.p;cases hxv;refine jas so rfl (by omega) hx λv' A' so'=>?_
 refine Ar A' (G:=F) ?_;exact B8 (A:=A') (RM.le.refl _) ⟨rfl,so'⟩
end st
theorem QJ:P.underlying 73 = some (.map 3 62):=by kernel_rfl
theorem Xv (w:World):(zeroValue 62).run P w = .ok z62 w:=by kernel_rfl
theorem XH (w:World):(Instr.makeMap 73 none).run P w = .ok (.map (some w.heap.size)) (w.alloc (.map #[] 0)):=rfl
def MpT (R:RM) (o:Obj) (l:List AY):Prop:=∃ps:List (Int × Value),Mg o ps∧ps.length = l.length∧∀i (h:i < ps.length) (h' : i < l.length),(ps[i]).1 = (l[i]).at_∧ThV R (ps[i]).2 (l[i])
theorem MpT.le {R R' : RM} {o:Obj} {l:List AY} (h:R.le R') (H:MpT R o l):MpT R' o l:=by
 obtain⟨ps,h1,h2,h3⟩:=H;exact⟨ps,h1,h2,λi a b=>⟨(h3 i a b).1,(h3 i a b).2.le h⟩⟩
theorem QY {R:RM} {x:Int}:∀{ps:List (Int × Value)} {l:List AY},ps.length = l.length→(∀i (h:i < ps.length) (h' : i < l.length),(ps[i]).1 = (l[i]).at_∧ThV R (ps[i]).2 (l[i]))→(Bf l x = none∧lk ps x = none)∨∃t v,Bf l x = some t∧lk ps x = some v∧ThV R v t
 | [],[],_,_=>.inl ⟨rfl,rfl⟩
 | p :: ps,t :: l,hl,h=>by
  obtain⟨h1,h2⟩:=h 0 (by simp) (by simp);have h1:p.1 = t.at_:=h1;have h2:ThV R p.2 t:=h2;by_cases c:t.at_ = x
  ·refine .inr ⟨t,p.2,?_,?_,h2⟩
   ·unfold Bf;rw[Zd (by simpa using c)]
   ·unfold lk;rw[Zd (by simpa [h1] using c)];rfl
  ·have ih:=QY (R:=R) (x:=x) (ps:=ps) (l:=l) (by simpa using hl) (λi a b=>h (i + 1) (by simpa using a) (by simpa using b));have e1:Bf (t :: l) x = Bf l x:=by unfold Bf;rw[Ze (by simpa using c)]
   have e2:lk (p :: ps) x = lk ps x:=by unfold lk;rw[Ze (by simpa [h1] using c)]
   rw[e1,e2];exact ih
theorem WO {R:RM} {D:Chs} {k:Value→M} {b:Nat} {o:Obj} {l:List AY} {x:Int} (c:Bool) (a:Li R D b o) (hm:MpT R o l)
  (H0:Bf l x = none→J R D (k (if c then .tuple #[z62,.bool false] else z62)))
  (H1:∀t v,Bf l x = some t→ThV R v t→J R D (k (if c then .tuple #[v,.bool true] else v))):J R D (X P (Instr.lookup 73 (.map (some b)) (I x) c) k):=by
 obtain⟨ps,h1,h2,h3⟩:=hm;refine @Xq R D k 73 62 b o ps x z62 c a QJ Xv h1 ?_;rcases QY (R:=R) (x:=x) h2 h3 with ⟨e1,e2⟩ | ⟨t,v,e1,e2,e3⟩
 ·rw[e2];exact H0 e1
 ·rw[e2];exact H1 t v e1 e3
def QTm (r:Option (List AY)) (v:Value) (R:RM):Prop:=match r with
 | none=>v = .tuple #[.map none,.bool false]
 | some l=>∃mb o,R mb = some o∧MpT R o l∧v = .tuple #[.map (some mb),.bool true]
section st
variable {R:RM} {s:Sm.BI} {wv tv mv thv ov pv:Value}
set_option maxHeartbeats 1000000 in
theorem Q1 (h:SF R s wv tv mv thv ov pv):Fn P El [.agg (eSt s wv tv mv thv ov pv).toArray] R [] (λv R' A=>A = []∧QTm (EI s) v R'):=by
 refine IY λF=>?_
 unfold Ey;refine ja λb=>?_
 rw[show cl (.agg (eSt s wv tv mv thv ov pv).toArray) = eSt s wv tv mv thv ov pv from rfl];have t0:=h.b.t0;have t1:=h.b.t1;have wl:=h.b.wl;have wr:=h.b.wr;refine jla (l:=eSt s wv tv mv thv ov pv) (by exact z_n 13) rfl (jrp (Sv h) (jif (λh0=>?_) (λh0=>?_)))
 ·have h0:EW s = false:=by simpa using h0
  refine B8 (A:=[]) (RM.le.refl R) ⟨rfl,?_⟩;have:EI s = none:=by unfold EI;rw[if_neg (by rw[h0];decide)]
  rw[this];exact rfl
 have h0:EW s = true:=by simpa using h0
 have eth:EI s = BE s:=by unfold EI;rw[if_pos h0]
 rw[eth];refine XR XH λmb o0 hm0=>?_
 refine AH (λvs R' D'=>R.le R'∧∃l o,BE s = some l∧MpT R' o l∧D' = (mb,o) :: (b,C AI (eSt s wv tv mv thv ov pv)) :: F∧vs = [.map (some mb)]) (λK hK=>?_) ?_;rotate_left
 ·rintro e R1 D1 ⟨hR,l,o,hl,hm,hD,he⟩;rw[hD];clear hD;simp only[List.map,zc,zl,zj,z_t] at he;simp only[he];refine Ba (b:=mb) λR2 hR2 hb=>?_
  refine B8 (A:=[]) (hR.trans hR2) ⟨rfl,?_⟩;rw[hl];exact⟨mb,o,hb,hm.le hR2,rfl⟩
 refine AH (λvs R' D'=>R.le R'∧∃l o,BE s = some l∧MpT R' o l∧D' = (mb,o) :: (b,C AI (eSt s wv tv mv thv ov pv)) :: F∧vs = [.map (some mb)]) (λK2 hK2=>?_) ?_;rotate_left
 ·rintro e R1 D1 ⟨hR,l,o,hl,hm,hD,he⟩;rw[hD];clear hD;simp only[List.map,zc,zl,zj,z_t] at he;simp only[he];exact hK _ _ _ ⟨hR,l,o,hl,hm,rfl,rfl⟩
 refine jlp (λm vs R' D'=>R.le R'∧∃(i:Nat) (l:List AY) (o:Obj),1≤i∧i≤s.A0.length + 1∧m = s.A0.length + 1 - i∧(match BY s.A6 i (s.A0.drop i) with | none=>none | some l2=>some (l ++ l2)) = BE s∧MpT R' o l∧(∀t∈l,t.at_ < 16 * i)∧D' = (mb,o) :: (b,C AI (eSt s wv tv mv thv ov pv)) :: F∧vs = [Pt b,.map (some mb),I i])
  (n:=s.A0.length) ⟨RM.le.refl R,1,[],o0,by omega,by omega,by omega,by unfold BE;rw[List.drop_one];cases BY s.A6 1 s.A0.tail<;>rfl,⟨[],hm0,rfl,λi h=>absurd h (by simp)⟩,(λt ht=>by cases ht),rfl,rfl⟩ ?_
 rintro m e R1 D1 K3 ⟨hR,i,l,o,hi0,hi1,hmm,hth,hm,hlt,hD,he⟩ hK3;rw[hD];clear hD;simp only[List.map,zc,zl,zj,z_t] at he;simp only[he];have h1:=h.le hR;refine jl (v:=tv) rfl (Cf h1.c.t.sl (jlt (jif (λhc=>?_) (λhc=>?_))));rotate_left
 ·have hc:=z_g hc;refine hK2 _ _ _ ⟨hR,l,o,?_,hm,rfl,rfl⟩;rw[← hth,YN (by omega)];simp[BY]
 have hc:i < s.A0.length:=by have:=z_f hc;omega
 rw[YH hc] at hth;unfold BY at hth;refine AH (λvs R' D'=>R1.le R'∧∃l1 o,BH s.A6 i (s.A0[i]).top = some l1∧MpT R' o (l ++ l1)∧D' = (mb,o) :: (b,C AI (eSt s wv tv mv thv ov pv)) :: F∧vs = [Pt b,.map (some mb),I i]) (λK4 hK4=>?_) ?_;rotate_left
 ·rintro e R2 D2 ⟨hR2,l1,o1,hl1,hm1,hD,he⟩;rw[hD];clear hD;simp only[List.map,zc,zl,zj,z_t] at he;simp only[he];refine jad ?_;refine hK3 (s.A0.length + 1 - (i + 1)) _ _ _ (by omega) ⟨hR.trans hR2,i + 1,l ++ l1,o1,by omega,by omega,by omega,?_,hm1,λt ht=>?_,rfl,rfl⟩
  ·rw[← hth,hl1];dsimp only;cases BY s.A6 (i + 1) (s.A0.drop (i + 1)) with
   | none=>rfl
   | some l2=>simp
  ·rcases Ya.1 ht with ht | ht
   ·have:=hlt t ht;omega
   ·have:=(Qs hl1).2 t ht;omega
 refine AH (λvs R' D'=>R1.le R'∧∃l1 o,BH s.A6 i (s.A0[i]).top = some l1∧MpT R' o (l ++ l1)∧D' = (mb,o) :: (b,C AI (eSt s wv tv mv thv ov pv)) :: F∧vs = [Pt b,.map (some mb),I i]) (λK5 hK5=>?_) ?_;rotate_left
 ·rintro e R2 D2 ⟨hR2,l1,o1,hl1,hm1,hD,he⟩;rw[hD];clear hD;simp only[List.map,zc,zl,zj,z_t] at he;simp only[he];exact hK4 _ _ _ ⟨hR2,l1,o1,hl1,hm1,rfl,rfl⟩
 refine jl (v:=wv) rfl (jl (v:=tv) rfl (jrg h1.c.t hc λb2 o2 ty cs hb ho hrow=>?_));refine jfo (jlr (v:=I (s.A0[i]).top) hb (Bw hrow (f:=2) rfl) ?_);refine jc (A:=[]) (O3 i (s.A0[i]).top h1.c.w (by omega) wr) ?_;rintro _ R2 _ hR2 ⟨rfl,hq⟩;cases hti:BH s.A6 i (s.A0[i]).top with
 | none=>
  rw[hti] at hq hth;subst hq;refine jex rfl (jex rfl (DB ?_));refine B8 (A:=[]) (hR.trans hR2) ⟨rfl,?_⟩;rw[← hth];exact rfl
 | some l1=>
  rw[hti] at hq;obtain⟨tv1,htg,rfl⟩:=hq;refine Nl (jex rfl (jex rfl (CU (Cf htg.sl ?_))));obtain⟨as1,as2⟩:=Qs hti;have nd1:=N9 as1 (λx hx=>(as2 x hx).2.2.2.1);refine AH (λvs R' D'=>R' = R2∧∃o,MpT R' o (l ++ l1)∧D' = (mb,o) :: (b,C AI (eSt s wv tv mv thv ov pv)) :: F∧vs = [Pt b,.map (some mb),I i]) (λK6 hK6=>?_) ?_;rotate_left
  ·rintro e R3 D3 ⟨hR3,o1,hm1,hD,he⟩;subst hR3;rw[hD];clear hD;simp only[List.map,zc,zl,zj,z_t] at he;simp only[he];exact hK5 _ _ _ ⟨hR2,l1,o1,hti,hm1,rfl,rfl⟩
  refine jlp (λm vs R' D'=>R' = R2∧∃(j:Nat) (o:Obj),j≤l1.length∧m = l1.length - j∧MpT R' o (l ++ l1.take j)∧D' = (mb,o) :: (b,C AI (eSt s wv tv mv thv ov pv)) :: F∧vs = [Pt b,.map (some mb),I i,tv1,I l1.length,I j])
   (n:=l1.length) ⟨rfl,0,o,by omega,rfl,by rw[List.take_zero,Ys];exact hm.le hR2,rfl,rfl⟩ ?_
  rintro m2 e R3 D3 K7 ⟨hR3,j,o1,hj,hm2,⟨ps,hmg,hpl,hps⟩,hD,he⟩ hK7;subst hR3;rw[hD];clear hD;simp only[List.map,zc,zl,zj,z_t] at he;simp only[he];refine jlt (jif (λhcj=>?_) (λhcj=>?_));rotate_left
  ·have hcj:=z_g hcj;rw[YO (by omega)] at hpl hps;exact hK6 _ _ _ ⟨rfl,o1,⟨ps,hmg,hpl,hps⟩,rfl,rfl⟩
  have hcj:j < l1.length:=by have:=z_f hcj;omega
  have hil:=Q6 hti;refine jtg htg hcj λb3 o3 ty3 cs3 rv nv hrv hnv hb3 ho3 hrow3=>?_
  obtain⟨ra,rc,rfl⟩:=hrv.sl;obtain⟨na,nc,rfl⟩:=hnv.sl;refine Ih (l:=eTh (l1[j]) (.slice ra (l1[j]).refs.length rc) (.slice na (l1[j]).nums.length nc)) hb3 ho3 hrow3 (ja λb4=>?_);refine js (cs':=eTh (l1[j]) (.slice ra (l1[j]).refs.length rc) (.slice na (l1[j]).nums.length nc)) rfl rfl (by exact z_n 6) rfl ?_;refine jl (v:=I (l1[j]).at_) rfl (jla (l:=eTh (l1[j]) (.slice ra (l1[j]).refs.length rc) (.slice na (l1[j]).nums.length nc)) (by exact z_n 6) rfl ?_);refine @Xx _ _ _ 73 62 mb o1 _ ps _ _ _ QJ hmg λo' hmg'=>?_
  have hno:lk ps (l1[j]).at_ = none:=by
   rcases QY (R:=R3) (x:=(l1[j]).at_) hpl hps with ⟨_,e⟩ | ⟨t,v,e1,_,_⟩
   ·exact e
   ·exfalso;obtain⟨m1,m2⟩:=Co e1;rcases Ya.1 m1 with m1 | m1
    ·have g1:=hlt t m1;have g2:=(as2 _ (YI hcj)).1;omega
    ·obtain⟨q,hq,rfl⟩:=Yf m1;rw[YS] at hq;rw[List.getElem_take] at m2;have:=List.pairwise_iff_getElem.1 as1 q j (by omega) hcj (by omega);have:=(as2 _ (YI (show q < l1.length by omega))).2.2.2.1;omega
  have hup:up ps (l1[j]).at_ (.agg (eTh (l1[j]) (.slice ra (l1[j]).refs.length rc) (.slice na (l1[j]).nums.length nc)).toArray) = ps ++ [((l1[j]).at_,.agg (eTh (l1[j]) (.slice ra (l1[j]).refs.length rc) (.slice na (l1[j]).nums.length nc)).toArray)]:=by unfold up;rw[if_neg (by rw[hno];simp)]
  rw[hup] at hmg';refine jad ?_;refine Ar [(mb,o')] (G:=(b,C AI (eSt s wv tv mv thv ov pv)) :: F) ?_;refine hK7 (l1.length - (j + 1)) _ _ _ (by omega) ⟨rfl,j + 1,o',by omega,rfl,⟨_,hmg',?_,λq hq hq'=>?_⟩,rfl,rfl⟩
  ·rw[YD hcj,← YF,YA,YA,hpl];rfl
  ·rw[YA,YP] at hq;have e:l ++ l1.take (j + 1) = (l ++ l1.take j) ++ [l1[j]]:=by rw[YD hcj,YF]
   simp only[e];by_cases c:q < ps.length
   ·rw[ZN c,ZN (by omega)];exact hps q c (by omega)
   ·rw[ZH (by omega),ZH (by omega)];simp only[List.getElem_singleton];exact⟨trivial,_,_,rfl,hrv,hnv⟩
end st
theorem We {R:RM} {D:Chs} {k:Value→M} {b:Nat} {o:Obj} {l:List AY} {x:Int} (a:Li R D b o) (hm:MpT R o l)
  (H:∀(n:AY) (nb:Bool) (rv nv:Value),nb = (Bf l x).isSome→(nb = true→Bf l x = some n)→BJ R rv n.refs→BJ R nv n.nums→J R D (k (.tuple #[.agg (eTh n rv nv).toArray,.bool nb]))):J R D (X P (Instr.lookup 73 (.map (some b)) (I x) true) k):=by
 refine @WO R D k b o l x true a hm (λh=>?_) (λt v h hv=>?_)
 ·exact H Bz false (.slice none 0 0) (.slice none 0 0) (by rw[h];rfl) (λh=>by cases h) (.inl ⟨rfl,rfl,rfl⟩) (.inl ⟨rfl,rfl,rfl⟩)
 ·obtain⟨rv,nv,rfl,h1,h2⟩:=hv;exact H t true rv nv (by rw[h];rfl) (λ_=>h) h1 h2
section st
variable {R:RM} {s:Sm.BI} {wv tv mv thv ov pv:Value}
theorem WX {o:Obj} {l:List AY} {ps:List (Int × Value)} (h2:ps.length = l.length) (h3:∀i (h:i < ps.length) (h' : i < l.length),(ps[i]).1 = (l[i]).at_∧ThV R (ps[i]).2 (l[i])) {p:Int × Value} (hp:p∈ps):∃t∈l,p.1 = t.at_∧ThV R p.2 t:=by
 obtain⟨i,hi,rfl⟩:=Yf hp;exact⟨l[i],YI (by omega),h3 i hi (by omega)⟩
theorem Ws {l:List AY} {ps:List (Int × Value)} (h2:ps.length = l.length) (h3:∀i (h:i < ps.length) (h' : i < l.length),(ps[i]).1 = (l[i]).at_∧ThV R (ps[i]).2 (l[i])) {t:AY} (ht:t∈l):∃p∈ps,p.1 = t.at_:=by
 obtain⟨i,hi,rfl⟩:=Yf ht;exact⟨ps[i]'(by omega),YI (by omega),(h3 i (by omega) hi).1⟩
set_option maxHeartbeats 1000000 in
set_option maxRecDepth 4000 in
theorem Pc (h:SF R s wv tv mv thv ov pv) {mb:Nat} {o:Obj} {l:List AY} (hb:R mb = some o) (hm:MpT R o l) (tb:TB l) (nd:(l.map AY.at_).Nodup):Ro EU [.agg (eSt s wv tv mv thv ov pv).toArray,.map (some mb)] (.bool (CN s l)) R []:=by
 refine IH λF=>?_
 unfold EO;refine ja λb=>?_
 rw[show cl (.agg (eSt s wv tv mv thv ov pv).toArray) = eSt s wv tv mv thv ov pv from rfl];obtain⟨ps,hg,h2,h3⟩:=hm;refine @Xm _ _ _ 73 62 mb o ps (Li.fz hb) QJ hg λib it hit=>?_
 refine jlp (λm vs R' D'=>R' = R∧∃(rem don:List (Int × Value)) (it:Obj) (cur:Option (Int × Value)),m = rem.length∧ps.Perm (don ++ rem)∧ItG mb o it rem cur∧(∀p∈don,∀t∈l,p.1 = t.at_→C5 s l t = true)∧D' = (ib,it) :: (b,C AI (eSt s wv tv mv thv ov pv)) :: ([] ++ F)∧vs = [.map (some mb),Pt b,Pt ib])
  (n:=ps.length) ⟨rfl,ps,[],it,none,rfl,Ym _,hit,(λp hp=>by cases hp),rfl,rfl⟩ ?_
 rintro m e R1 D1 K ⟨hR,rem,don,it,cur,hmm,hpm,hit,hdn,hD,he⟩ hK;subst hR;rw[hD];clear hD;simp only[List.map,zc,zl,zj,z_t] at he;simp only[he];refine @Xt _ _ _ mb ib o it _ ps rem cur _ (Li.fz hb) hg hit (λh0=>?_) (λp rem' it' hpr hit'=>?_)
 ·subst h0;refine jex rfl (CU ?_);refine Bi ?_;congr 1;rw[eq_comm];unfold CN;rw[Yb];intro t ht;obtain⟨p,hp,hpt⟩:=Ws h2 h3 ht;exact hdn p (by have:=hpm.mem_iff.1 hp;simpa using this) t ht hpt
 have hpp:p∈ps:=hpm.mem_iff.2 (Ya.2 (.inr (hpr.mem_iff.2 (.head _))));obtain⟨t,ht,hpt,rv,nv,hpv,hrv,hnv⟩:=WX (o:=o) h2 h3 hpp;obtain⟨ra,rc,rfl⟩:=hrv.sl;obtain⟨na,nc,rfl⟩:=hnv.sl;have htb:=tb t ht;have hlen:rem'.length < m:=by rw[hmm,hpr.length_eq,YY];omega
 have hpm' : ps.Perm ((don ++ [p]) ++ rem'):=hpm.trans (by
  rw[YF]
  exact List.Perm.append_left don hpr)
 have huniq:∀t'∈l,p.1 = t'.at_→t' = t:=λt' ht' e=>by
  have e1:=Eh nd ht;have e2:=Eh nd ht';rw[← e,hpt,e1] at e2;exact (Yw e2).symm
 refine jex rfl (DB ?_);refine AH (λvs R' D'=>R' = R1∧C5 s l t = true∧D' = (ib,it') :: (b,C AI (eSt s wv tv mv thv ov pv)) :: ([] ++ F)∧vs = [.map (some mb),Pt b,Pt ib]) (λK2 hK2=>?_) ?_;rotate_left
 ·rintro e R2 D2 ⟨hR,hst,hD,he⟩;subst hR;rw[hD];clear hD;simp only[List.map,zc,zl,zj,z_t] at he;simp only[he];refine hK rem'.length _ _ _ hlen ⟨rfl,rem',don ++ [p],it',some p,rfl,hpm',hit',λq hq t' ht' e=>?_,rfl,rfl⟩;rcases Ya.1 hq with hq | hq
  ·exact hdn q hq t' ht' e
  ·rw[YR.1 hq] at e;rw[huniq t' ht' e];exact hst
 refine @Xl _ _ _ mb ib o it' ps rem' p _ (Li.fz hb) hg hit' ?_;rw[hpv];refine jex rfl (ja λtbk=>?_);refine js (cs':=eTh t (.slice ra t.refs.length rc) (.slice na t.nums.length nc)) rfl rfl (by exact z_n 6) rfl ?_;refine jl (v:=I t.moved) rfl (jl (v:=I t.at_) rfl (jeq (jif (λhc=>?_) (λhc=>?_))))
 ·refine Ar [(ib,it')] (G:=(b,C AI (eSt s wv tv mv thv ov pv)) :: ([] ++ F)) ?_;exact hK2 _ _ _ ⟨rfl,by unfold C5;rw[hc,Y8],rfl,rfl⟩
 refine jl (v:=I t.moved) rfl ?_;refine We (Li.fz hb) ⟨ps,hg,h2,h3⟩ λn nb rv2 nv2 hnb hfn hrv2 hnv2=>?_
 obtain⟨ra2,rc2,rfl⟩:=hrv2.sl;obtain⟨na2,nc2,rfl⟩:=hnv2.sl;refine jex rfl (jex rfl (ja λnbk=>?_));refine js (cs':=eTh n (.slice ra2 n.refs.length rc2) (.slice na2 n.nums.length nc2)) rfl rfl (by exact z_n 6) rfl ?_;have hbad:C5 s l t = !(!nb || !(n.sh == t.sh) || (n.moved != n.at_) || DN s n.at_ || !DN s t.at_):=by
  unfold C5;rw[hc,Y7];cases nb with
  | false=>
   have:Bf l t.moved = none:=by
    cases h:Bf l t.moved with
    | none=>rfl
    | some x=>rw[h] at hnb;cases hnb
   rw[this];rfl
  | true=>
   rw[hfn rfl];dsimp only;unfold bne;cases n.sh == t.sh<;>cases n.moved == n.at_<;>cases DN s n.at_<;>cases DN s t.at_<;>rfl
 refine jor [.map (some mb),Pt b,Pt tbk,Pt nbk,Pt ib] ((!nb) || (!(n.sh == t.sh))) (λK' hK'=>?_) (λe c u ho he=>?_)
 ·refine BK (λh1=>?_) (λh1=>?_)
  ·refine jfo (jla (t:=Ao) (cs:=eTh n (.slice ra2 n.refs.length rc2) (.slice na2 n.nums.length nc2)) (l:=[I n.sh.refs,I n.sh.nums]) (by exact (by decide:4≤6)) rfl (jfo (jla (t:=Ao) (cs:=eTh t (.slice ra t.refs.length rc) (.slice na t.nums.length nc)) (l:=[I t.sh.refs,I t.sh.nums]) (by exact (by decide:4≤6)) rfl (@XE n.sh t.sh _ _ _ _ _ (hK' _ _ _ (h1▸Ah) (by rw[h1,Y7]))))))
  ·exact hK' _ _ _ (h1▸Ag) (by rw[h1,Y8])
 simp only[List.map,zc,zl,zj,z_t] at he;simp only[he];refine jor [.map (some mb),Pt b,Pt tbk,Pt nbk,Pt ib] ((!nb || !(n.sh == t.sh)) || ((n.moved != n.at_))) (λK' hK'=>?_) (λe c u ho he=>?_)
 ·rw[ho];refine BK (λh1=>?_) (λh1=>?_)
  ·refine jl (v:=I n.moved) rfl (jl (v:=I n.at_) rfl (jne (hK' _ _ _ (h1▸Ah) (by rw[h1,Y7]))))
  ·exact hK' _ _ _ (h1▸Ag) (by rw[h1,Y8])
 simp only[List.map,zc,zl,zj,z_t] at he;simp only[he];refine jor [.map (some mb),Pt b,Pt tbk,Pt ib] (!nb || !(n.sh == t.sh) || (n.moved != n.at_) || DN s n.at_) (λK' hK'=>?_) (λe c u ho he=>?_)
 ·rw[ho];refine BK (λh1=>?_) (λh1=>?_)
  ·have hnb' : nb = true:=by cases nb with | true=>rfl | false=>cases h1
   have hn:=tb n (Co (hfn hnb')).1;exact jla (l:=eSt s wv tv mv thv ov pv) (by exact z_n 13) rfl (jl (v:=I n.at_) rfl (jrp (KG h hn.1 hn.2.1) (hK' _ _ _ (h1▸Ah) (by rw[h1,Y7]))))
  ·exact hK' _ _ _ (h1▸Ag) (by rw[h1,Y8])
 simp only[List.map,zc,zl,zj,z_t] at he;simp only[he];refine jor [.map (some mb),Pt b,Pt ib] ((!nb || !(n.sh == t.sh) || (n.moved != n.at_) || DN s n.at_) || (!DN s t.at_)) (λK' hK'=>?_) (λe c u ho he=>?_)
 ·rw[ho];refine BK (λh1=>?_) (λh1=>?_)
  ·refine jla (l:=eSt s wv tv mv thv ov pv) (by exact z_n 13) rfl (jl (v:=I t.at_) rfl (jrp (KG h htb.1 htb.2.1) (hK' _ _ _ (h1▸Ah) (by rw[h1,Y7]))))
  ·exact hK' _ _ _ (h1▸Ag) (by rw[h1,Y8])
 simp only[List.map,zc,zl,zj,z_t] at he;simp only[he];rw[ho];refine jif (λh0=>?_) (λh0=>?_)
 ·refine Bi ?_;congr 1;rw[eq_comm,Z4];unfold CN;intro Bk;have:=Yb.1 Bk t ht;rw[hbad,h0] at this;cases this
 ·refine Ar [(ib,it')] (G:=(b,C AI (eSt s wv tv mv thv ov pv)) :: ([] ++ F)) ?_;exact hK2 _ _ _ ⟨rfl,by rw[hbad,h0];rfl,rfl,rfl⟩
end st
section rules
variable {R:RM} {D:Chs} {k:Value→M}
theorem XK {f:Nat} {cap:Array Value} {args:List Value} (hok:So P f = true) (H:J R D (CA P f (args ++ cap.toList) k)):J R D (CV P (.func (.func f) #[] cap) args k):=λh hs=>⟨hok,H h hs⟩
theorem jfd {o n:Nat} {cs:Array Value} {v:Value} (hv:cs.toList[o]? = some v) (H:J R D (k v)):J R D (FD false o n (.agg cs) k):=by
 unfold FD;simp only[cond_false,hv];exact H
end rules
def eHp (s:Sm.BI) (wv tv mv thv ov pv:Value) (mb:Nat) (v:Value):List Value:=[wv,tv,mv,I s.AX,.bool s.stop,.bool s.full,.bool s.Ad,I s.want,thv,ov,pv,I s.Az,I s.BW,.map (some mb),v]
section st
variable {R:RM} {s:Sm.BI} {wv tv mv thv ov pv:Value} {l:List AY}
theorem Ve {hb mb:Nat} {o:Obj} {v:Value} {a x:Int} {D:Chs} [at_:At D hb (C 99 (eHp s wv tv mv thv ov pv mb v))] (hm0:R mb = some o) (hm:MpT R o l) (hx:now l a = some x):Ro Hy [Pt hb,I a] (I x) R D:=by
 refine Nu λF=>?_
 unfold HN;unfold now at hx;refine jeq (jif (λh=>?_) (λh=>?_))
 ·rw[if_pos (by simpa using h)] at hx;cases hx;exact Bi rfl
 have h:a≠0:=by simpa using h
 rw[if_neg h] at hx;refine jl (v:=.map (some mb)) rfl ?_;refine @WO _ _ _ mb o l a false (Li.fz hm0) hm (λe=>?_) (λt v e hv=>?_)
 ·rw[e] at hx;cases hx
 ·rw[e] at hx;obtain⟨rv,nv,rfl,_,_⟩:=hv;cases hx;exact jfd (v:=I t.moved) rfl (Bi rfl)
theorem P4 {x:Int} {r acc:List Int}:Ay l (x :: r) acc = (now l x).bind λy=>Ay l r (Cj acc y):=rfl
def XS (r:Option (List Int)) (s:Sm.BI) (wv tv mv thv ov pv:Value) (mb b1 b3 hb sb:Nat) (v:Value) (A:Chs):Prop:=match r with
 | none=>v = .bool false∧A = []
 | some acc=>v = .bool true∧∃v2 so2 A2,SO acc v2 A2∧MpI so2 (·∈acc)∧A = (b1,C 86 [Pt hb]) :: (b3,C 76 [.map (some sb)]) :: (hb,C 99 (eHp s wv tv mv thv ov pv mb v2)) :: (sb,so2) :: A2
set_option maxHeartbeats 1000000 in
set_option maxRecDepth 4000 in
theorem PX {xs acc:List Int} {lv v:Value} {mb b1 b3 hb sb:Nat} {o so:Obj} {A:Chs} (hm0:R mb = some o) (hm:MpT R o l) (hmv:∀t∈l,t.moved≠0) (hxs:BJ R lv xs) (hxl:xs.length < 1000000) (hal:acc.length + xs.length < 1000000) (hso:SO acc v A) (hms:MpI so (·∈acc)) :
  Fn P Ep [lv,Pt b1,Pt b3] R ((b1,C 86 [Pt hb]) :: (b3,C 76 [.map (some sb)]) :: (hb,C 99 (eHp s wv tv mv thv ov pv mb v)) :: (sb,so) :: A)
   (λr R' A'=>R' = R∧XS (Ay l xs acc) s wv tv mv thv ov pv mb b1 b3 hb sb r A'):=by
 refine Ii λF=>?_
 unfold Em;refine Cf hxs.sl ?_;refine jlp (λm vs R' D'=>R' = R∧∃(i:Nat) (ac:List Int) (v2:Value) (so2:Obj) (A2:Chs),i≤xs.length∧m = xs.length - i∧Ay l (xs.drop i) ac = Ay l xs acc∧ac.length≤acc.length + i∧SO ac v2 A2∧MpI so2 (·∈ac)∧D' = (b1,C 86 [Pt hb]) :: (b3,C 76 [.map (some sb)]) :: (hb,C 99 (eHp s wv tv mv thv ov pv mb v2)) :: (sb,so2) :: (A2 ++ F)∧vs = [Pt b1,Pt b3,lv,I xs.length,I i])
  (n:=xs.length) ⟨rfl,0,acc,v,so,A,by omega,rfl,rfl,by omega,hso,hms,rfl,rfl⟩ ?_
 rintro m e R1 D1 K ⟨hR,i,ac,v2,so2,A2,hi,hmm,hn,hac,hs2,hm2,hD,he⟩ hK;subst hR;rw[hD];clear hD;simp only[List.map,zc,zl,zj,z_t] at he;simp only[he];refine jlt (jif (λhc=>?_) (λhc=>?_));rotate_left
 ·have hc:=z_g hc;rw[YN (by omega)] at hn;refine B8 (A:=(b1,C 86 [Pt hb]) :: (b3,C 76 [.map (some sb)]) :: (hb,C 99 (eHp s wv tv mv thv ov pv mb v2)) :: (sb,so2) :: A2) (RM.le.refl _) ⟨rfl,?_⟩;rw[← hn];exact⟨rfl,v2,so2,A2,hs2,hm2,rfl⟩
 have hc:i < xs.length:=by have:=z_f hc;omega
 rw[YH hc] at hn;refine AH (λvs R' D'=>R' = R1∧∃(ac2:List Int) (v2:Value) (so2:Obj) (A2:Chs),Ay l (xs.drop (i + 1)) ac2 = Ay l xs acc∧ac2.length≤acc.length + (i + 1)∧SO ac2 v2 A2∧MpI so2 (·∈ac2)∧D' = (b1,C 86 [Pt hb]) :: (b3,C 76 [.map (some sb)]) :: (hb,C 99 (eHp s wv tv mv thv ov pv mb v2)) :: (sb,so2) :: (A2 ++ F)∧vs = [Pt b1,Pt b3,lv,I xs.length,I i]) (λK2 hK2=>?_) ?_;rotate_left
 ·rintro e R2 D2 ⟨hR,ac2,v3,so3,A3,hn2,hac2,hs3,hm3,hD,he⟩;subst hR;rw[hD];clear hD;simp only[List.map,zc,zl,zj,z_t] at he;simp only[he];refine jad ?_;exact hK (xs.length - (i + 1)) _ _ _ (by omega) ⟨rfl,i + 1,ac2,v3,so3,A3,by omega,rfl,hn2,hac2,hs3,hm3,rfl,rfl⟩
 refine AH (λvs R' D'=>R' = R1∧∃(ac2:List Int) (v2:Value) (so2:Obj) (A2:Chs),Ay l (xs.drop (i + 1)) ac2 = Ay l xs acc∧ac2.length≤acc.length + (i + 1)∧SO ac2 v2 A2∧MpI so2 (·∈ac2)∧D' = (b1,C 86 [Pt hb]) :: (b3,C 76 [.map (some sb)]) :: (hb,C 99 (eHp s wv tv mv thv ov pv mb v2)) :: (sb,so2) :: (A2 ++ F)∧vs = [Pt b1,Pt b3,lv,I xs.length,I i]) (λK3 hK3=>?_) ?_;rotate_left
 ·rintro e R2 D2 ⟨hR,ac2,v3,so3,A3,hn2,hac2,hs3,hm3,hD,he⟩;subst hR;rw[hD];clear hD;simp only[List.map,zc,zl,zj,z_t] at he;simp only[he];exact hK2 _ _ _ ⟨rfl,ac2,v3,so3,A3,hn2,hac2,hs3,hm3,rfl,rfl⟩
 rw[P4] at hn;refine C7 hxs (by omega) (by omega) ?_;simp only[Y6];refine jeq (jif (λh0=>?_) (λh0=>?_))
 ·have h0:xs[i] = 0:=by simpa using h0
  refine hK3 _ _ _ ⟨rfl,ac,v2,so2,A2,?_,by omega,hs2,hm2,rfl,rfl⟩;rw[← hn,h0];simp[now,Cj]
 have h0:xs[i]≠0:=by simpa using h0
 refine jl (v:=Pt hb) rfl (jl (v:=.map (some mb)) rfl ?_);refine We (Li.fz hm0) hm λn nb rv nv hnb hfn hrv hnv=>?_
 obtain⟨ra,rc,rfl⟩:=hrv.sl;obtain⟨na,nc,rfl⟩:=hnv.sl;refine jex rfl (jex rfl (ja λnbk=>?_));refine js (cs':=eTh n (.slice ra n.refs.length rc) (.slice na n.nums.length nc)) rfl rfl (by exact z_n 6) rfl (C0 ?_);cases nb with
 | false=>
  have hf:Bf l xs[i] = none:=by
   cases h:Bf l xs[i] with
   | none=>rfl
   | some x=>rw[h] at hnb;cases hnb
  refine DB (B8 (A:=[]) (RM.le.refl _) ⟨rfl,?_⟩);rw[← hn];unfold now;rw[if_neg h0,hf];exact⟨rfl,rfl⟩
 | true=>
  have hf:=hfn rfl;have hnow:now l xs[i] = some n.moved:=by unfold now;rw[if_neg h0,hf];rfl
  have hnm:=hmv n (Co hf).1;rw[hnow] at hn;have hn:Ay l (xs.drop (i + 1)) (Cj ac n.moved) = Ay l xs acc:=hn;unfold Cj at hn;refine CU (jl (v:=Pt hb) rfl ?_);refine Ar [(hb,C 99 (eHp s wv tv mv thv ov pv mb v2))] (G:=(b1,C 86 [Pt hb]) :: (b3,C 76 [.map (some sb)]) :: (sb,so2) :: (A2 ++ F)) ?_;refine Xo (Ve (s:=s) (wv:=wv) (tv:=tv) (mv:=mv) (thv:=thv) (ov:=ov) (pv:=pv) (l:=l) (D:=[(hb,C 99 (eHp s wv tv mv thv ov pv mb v2))]) hm0 hm hnow) ?_;refine Ar [(b1,C 86 [Pt hb]),(b3,C 76 [.map (some sb)]),(hb,C 99 (eHp s wv tv mv thv ov pv mb v2)),(sb,so2)] (G:=A2 ++ F) ?_;refine jl (v:=.map (some sb)) rfl ?_;refine @jlk _ _ _ sb so2 _ n.moved (decide (n.moved∈ac)) _ hm2 (by simp) ?_;refine jif (λhd=>?_) (λhd=>?_);rotate_left
  ·have hd:n.moved∈ac:=by simpa using hd
   rw[if_pos (.inr hd)] at hn;exact hK3 _ _ _ ⟨rfl,ac,v2,so2,A2,hn,by omega,hs2,hm2,rfl,rfl⟩
  have hd:n.moved ∉ ac:=by simpa using hd
  rw[if_neg (by rintro (h | h);exact hnm h;exact hd h)] at hn;refine jl (v:=.map (some sb)) rfl ?_;refine @jmu _ _ _ sb so2 _ _ n.moved _ hm2 λso3 hm3=>?_
  refine jl (v:=Pt hb) rfl (jl (v:=Pt hb) rfl (jl (v:=v2) rfl ?_));refine jbs (cs:=[I n.moved]) rfl rfl λxb=>?_
  refine Ae (jl (v:=Pt hb) rfl jev) (Ae (jl (v:=Pt hb) rfl jev) (Ae (jl (v:=v2) rfl jev) ?_));refine I9 hs2 (by omega) λv3 A3 hs3=>?_
  refine Ae (jl (v:=Pt hb) rfl jev) ?_;obtain⟨a3,c3,rfl⟩:=hs3.sln;refine js (cs':=eHp s wv tv mv thv ov pv mb (.slice a3 (ac ++ [n.moved]).length c3)) rfl rfl (by exact YM rfl) rfl ?_;refine Ar [(b1,C 86 [Pt hb]),(b3,C 76 [.map (some sb)]),(hb,C 99 (eHp s wv tv mv thv ov pv mb (.slice a3 (ac ++ [n.moved]).length c3))),(sb,so3)] (G:=A3 ++ ([] ++ F)) ?_;refine hK3 _ _ _ ⟨rfl,ac ++ [n.moved],_,so3,A3,hn,by rw[YA,YP];omega,hs3,?_,rfl,rfl⟩;have e:(λy=>y∈ac∨y = n.moved) = (·∈ac ++ [n.moved]):=by funext y;simp
  rw[← e];exact hm3
end st
end Go.Lf
end
section
namespace Sm
open Go.Lf
theorem Da {l:List AY} {x:Int} {r acc:List Int}:Ay l (x :: r) acc = (now l x).bind λy=>Ay l r (Cj acc y):=rfl
theorem CP {l:List AY}:∀{xs ys acc:List Int},Ay l (xs ++ ys) acc = (Ay l xs acc).bind λo=>Ay l ys o
 | [],ys,acc=>rfl
 | x :: xs,ys,acc=>by
  rw[zc,Da,Da];cases now l x with
  | none=>rfl
  | some y=>exact CP
theorem JE {l:List AY}:∀{ts:List Th} {acc:List Int},DM l ts acc = Ay l (ts.flatMap (·.AB)) acc
 | [],acc=>rfl
 | t :: ts,acc=>by
  rw[List.flatMap_cons,CP];show (Ay l t.AB acc).bind (λo=>DM l ts o) = _;congr 1;funext o;exact JE
theorem K9 {s:BI} {l:List AY}:∀{ps acc:List Int},ps.all (DX s l) = true→Ay l ps acc = some (ps.foldl Cj acc)
 | [],acc,_=>rfl
 | a :: ps,acc,h=>by
  rw[List.all_cons,z_b] at h;have h1:=h.1;unfold DX at h1;have:now l a = some a:=by
   unfold now;split
   ·rename_i e;rw[e]
   ·cases ht:Bf l a with
    | none=>rw[ht] at h1;cases h1
    | some t=>
     rw[ht] at h1;simp only[z_b,beq_iff_eq] at h1;rw[Zi,h1.1]
  rw[Da,this];exact K9 h.2
theorem F4 {s:BI} {l:List AY} (h:s.AK.all (DX s l) = true):DA s l = (Ay l (Dg s) []).bind λout=>BZ l (l.length + 2) 0 out:=by
 unfold DA Dg;rw[JE,CP];cases Ay l (s.A7.flatMap (·.AB)) [] with
 | none=>rfl
 | some out=>rw[z_o,K9 h];rfl
structure Stl (l:List AY):Prop where
 nd:(l.map AY.at_).Nodup
 at16:∀t∈l,16≤t.at_
 mv:∀t∈l,∃t'∈l,t'.at_ = t.moved
theorem Stl.nz {l:List AY} (S:Stl l):∀t∈l,t.moved≠0:=λt ht e=>by
 obtain⟨t',h1,h2⟩:=S.mv t ht;have:=S.at16 t' h1;omega
theorem QM {s:BI} {l:List AY} (h:EI s = some l) (hs:CN s l = true):Stl l:=by
 unfold EI at h;split at h;rotate_left
 ·cases h
 unfold BE at h;obtain⟨h1,h2⟩:=G4 h;refine⟨N9 h1 λx hx=>(h2 x hx).2.1,λt ht=>by have:=(h2 t ht).1;omega,λt ht=>?_⟩;unfold CN at hs;have:=Yb.1 hs t ht;unfold C5 at this;rw[YZ] at this;rcases this with e | e
 ·exact⟨t,ht,(eq_of_beq e).symm⟩
 ·cases hf:Bf l t.moved with
  | none=>rw[hf] at e;cases e
  | some n=>exact⟨n,Co hf⟩
structure DJ (l:List AY) (ac:List Int):Prop where
 nd:ac.Nodup
 th:∀a∈ac,∃t,Bf l a = some t
theorem DJ.put {l:List AY} {ac:List Int} (M:DJ l ac) (S:Stl l) {x:Int} (h:x = 0∨∃t∈l,t.at_ = x):DJ l (Cj ac x):=by
 unfold Cj;split
 ·exact M
 ·rename_i c;have c0:x≠0:=λe=>c (.inl e)
  have c1:x ∉ ac:=λe=>c (.inr e)
  refine⟨?_,λa ha=>?_⟩
  ·rw[List.nodup_append];refine⟨M.nd,by simp,λa ha b hb e=>?_⟩;rw[YR.1 hb] at e;exact c1 (e▸ha)
  ·rcases Ya.1 ha with ha | ha
   ·exact M.th a ha
   ·rw[YR.1 ha];rcases h with h | ⟨t,h1,h2⟩
    ·exact absurd h c0
    ·exact⟨t,by rw[← h2];exact Eh S.nd h1⟩
theorem DJ.all {l:List AY} (S:Stl l):∀{xs ac ac' : List Int},DJ l ac→Ay l xs ac = some ac'→DJ l ac'
 | [],ac,ac',M,h=>by cases h;exact M
 | x :: xs,ac,ac',M,h=>by
  rw[Da] at h;cases hn:now l x with
  | none=>rw[hn] at h;cases h
  | some y=>
   rw[hn] at h;refine DJ.all S (M.put S ?_) h;unfold now at hn;split at hn
   ·cases hn;exact .inl rfl
   ·obtain⟨t,ht,rfl⟩:=Option.map_eq_some_iff.1 hn;exact .inr (S.mv t (Co ht).1)
theorem DJ.len {l:List AY} {ac:List Int} (M:DJ l ac):ac.length≤l.length:=by
 have:ac.length≤(l.map AY.at_).length:=Gs M.nd λx hx=>by
  obtain⟨t,ht⟩:=M.th x hx;obtain⟨h1,h2⟩:=Co ht;rw[← h2];exact ZI h1
 rwa [Yd] at this
theorem DJ.nil {l:List AY}:DJ l []:=⟨List.nodup_nil,λa h=>by cases h⟩
theorem EG {l:List AY} {n i:Nat} {out:List Int} {t:AY} (hi:i < out.length) (ht:Bf l out[i] = some t):BZ l (n + 1) i out = (Ay l t.refs out).bind λo=>BZ l n (i + 1) o:=by
 conv=>lhs;unfold BZ
 rw[Y9 hi];dsimp only;rw[ht];rfl
theorem Ef {l:List AY} {n i:Nat} {out:List Int} (hi:out.length≤i):BZ l (n + 1) i out = some out:=by
 unfold BZ;rw[Yn hi]
end Sm
end
section
namespace Go.Lf
open Go Sm
section rules
variable {R:RM} {D:Chs} {k:Value→M}
theorem XL {l:List Int} {v:Value} {A E:Chs} {i:Nat} (so:SO l v A) [s:Sp D A E] (hi:i < l.length) (H:J R D (k (I l[i]))):J R D (IA 1 v (I (i:Int)) λx=>L1 x k):=by
 refine BC s.p ?_;have:=(so.rd (R:=R) (E:=E)).2 [] i hi k;rw[Ys] at this;exact this (BC s.p.symm H)
end rules
section st
variable {R:RM} {s:Sm.BI} {wv tv mv thv ov pv:Value} {l:List AY}
def WB (r:Option (List Int)) (s:Sm.BI) (wv tv mv thv ov pv:Value) (mb hb:Nat) (v:Value) (A:Chs):Prop:=match r with
 | none=>v = .bool false∧A = []
 | some met=>v = .bool true∧∃v2 A2,SO met v2 A2∧A = (hb,C 99 (eHp s wv tv mv thv ov pv mb v2)) :: A2
set_option maxHeartbeats 1000000 in
set_option maxRecDepth 4000 in
theorem SP {mb hb:Nat} {o:Obj} (h:SF R s wv tv mv thv ov pv) (hm0:R mb = some o) (hm:MpT R o l) (S:Stl l) (hll:l.length < 10000) (tb:TB l) (hp:s.AK.all (DX s l) = true) :
  Fn P Fe [Pt hb] R [(hb,C 99 (eHp s wv tv mv thv ov pv mb (.slice none 0 0)))] (λr R' A'=>WB (DA s l) s wv tv mv thv ov pv mb hb r A'):=by
 refine L2 λF=>?_
 unfold Fl;refine ja λb1=>Xa λsb so0 hs0=>ja λb3=>?_
 refine js (cs':=[.map (some sb)]) rfl rfl (YM rfl) rfl ?_;refine jl (v:=Pt hb) rfl (jnc (jfo (jla (t:=99) (cs:=eHp s wv tv mv thv ov pv mb (.slice none 0 0)) (l:=eSt s wv tv mv thv ov pv) (by exact YM rfl) rfl ?_)));refine jc (A:=[]) (SN h) ?_;rintro rv R1 A1 hR1 ⟨hR,so1⟩;subst hR;have n1:=h.b.n1;have fl:=Cy s.A7 h.b.rl;have fle:9 * s.A7.length≤27:=by omega
 have pl:=h.b.pl;have rl:(Dg s).length≤35:=by unfold Dg;rw[YA];omega
 refine Eu so1 λR2 hR2 hri=>?_
 have h:=h.le hR2;have hm0:=hR2 _ _ hm0;have hm:=hm.le hR2;rw[F4 hp];refine XK (by kernel_rfl) ?_;refine jc (A:=(b1,C 86 [Pt hb]) :: (b3,C 76 [.map (some sb)]) :: (hb,C 99 (eHp s wv tv mv thv ov pv mb (.slice none 0 0))) :: (sb,so0) :: []) (PX (s:=s) (wv:=wv) (tv:=tv) (mv:=mv) (thv:=thv) (ov:=ov) (pv:=pv) (acc:=[]) hm0 hm S.nz hri (by omega) (by simp;omega) (.inl ⟨rfl,rfl,rfl⟩) (by simpa using hs0)) ?_;rintro r R3 A3 _ ⟨hR,hq⟩;subst hR;cases hn:Ay l (Dg s) [] with
 | none=>
  rw[hn] at hq;obtain⟨rfl,rfl⟩:=hq;exact DB (B8 (A:=[]) hR2 ⟨rfl,rfl⟩)
 | some out=>
  rw[hn] at hq;obtain⟨rfl,v2,so2,A2,hs2,hm2,rfl⟩:=hq;rw[z_o];have M0:DJ l out:=DJ.nil.all S hn;refine CU ?_;refine jlp (λm vs R' D'=>R' = R3∧∃(i:Nat) (ac:List Int) (v2:Value) (so2:Obj) (A2:Chs),i≤ac.length∧m = l.length + 2 - i∧BZ l (l.length + 2 - i) i ac = BZ l (l.length + 2) 0 out∧DJ l ac∧SO ac v2 A2∧MpI so2 (·∈ac)∧D' = (b1,C 86 [Pt hb]) :: (b3,C 76 [.map (some sb)]) :: (hb,C 99 (eHp s wv tv mv thv ov pv mb v2)) :: (sb,so2) :: (A2 ++ F)∧vs = [Pt b1,.func (.func 147) #[] #[Pt b1,Pt b3],I i])
   (n:=l.length + 2) ⟨rfl,0,out,v2,so2,A2,by omega,by omega,rfl,M0,hs2,hm2,rfl,rfl⟩ ?_
  clear hm2 hs2 M0 hn;rintro m e R4 D4 K ⟨hR,i,ac,v3,so3,A3,hi,hmm,hrl,M,hs3,hm3,hD,he⟩ hK;subst hR;rw[hD];clear hD;simp only[List.map,zc,zl,zj,z_t] at he;simp only[he];have hal:=M.len;obtain⟨a3,c3,rfl⟩:=hs3.sln;refine jl (v:=Pt hb) rfl (jl (v:=.slice a3 ac.length c3) rfl (jln (jlt (jif (λhc=>?_) (λhc=>?_)))));rotate_left
  ·have hc:=z_g hc;obtain⟨q,hq⟩:∃q,l.length + 2 - i = q + 1:=⟨l.length + 1 - i,by omega⟩;rw[hq,Ef (by omega)] at hrl;refine Ar [(hb,C 99 (eHp s wv tv mv thv ov pv mb (.slice a3 ac.length c3)))] (G:=A3 ++ F) ?_;refine B8 (A:=(hb,C 99 (eHp s wv tv mv thv ov pv mb (.slice a3 ac.length c3))) :: A3) hR2 ?_;rw[← hrl];exact⟨rfl,_,A3,hs3,rfl⟩
  have hc:i < ac.length:=by have:=z_f hc;omega
  obtain⟨t,ht⟩:=M.th _ (YI hc);obtain⟨htm,hta⟩:=Co ht;obtain⟨q,hq⟩:∃q,l.length + 2 - i = q + 1:=⟨l.length + 1 - i,by omega⟩;rw[hq,EG hc ht] at hrl;refine jl (v:=Pt hb) rfl (jl (v:=.map (some mb)) rfl (jl (v:=Pt hb) rfl (jl (v:=.slice a3 ac.length c3) rfl ?_)));refine XL hs3 hc ?_;refine @WO _ _ _ mb o l ac[i] false (Li.fz hm0) hm (λe=>by rw[ht] at e;cases e) (λt2 v e hv=>?_);rw[ht] at e;cases e;obtain⟨rv,nv,rfl,hrv,hnv⟩:=hv;refine jfd (v:=rv) rfl (XK (by kernel_rfl) ?_);have htb:=tb t htm;refine jc (A:=(b1,C 86 [Pt hb]) :: (b3,C 76 [.map (some sb)]) :: (hb,C 99 (eHp s wv tv mv thv ov pv mb (.slice a3 ac.length c3))) :: (sb,so3) :: A3) (PX (s:=s) (wv:=wv) (tv:=tv) (mv:=mv) (thv:=thv) (ov:=ov) (pv:=pv) (acc:=ac) hm0 hm S.nz hrv (by omega) (by omega) hs3 hm3) ?_;rintro r R5 A5 _ ⟨hR,hq2⟩;subst hR;cases hn:Ay l t.refs ac with
  | none=>
   rw[hn] at hq2 hrl;obtain⟨rfl,rfl⟩:=hq2;refine DB (B8 (A:=[]) hR2 ?_);rw[← hrl];exact⟨rfl,rfl⟩
  | some out2=>
   rw[hn] at hq2 hrl;obtain⟨rfl,v4,so4,A4,hs4,hm4,rfl⟩:=hq2;have M2:=M.all S hn;have ml2:=M2.len;have hge:=DR hn;refine CU (jad ?_);refine Ar [(b1,C 86 [Pt hb]),(b3,C 76 [.map (some sb)]),(hb,C 99 (eHp s wv tv mv thv ov pv mb v4)),(sb,so4)] (G:=A4 ++ F) ?_;refine hK q _ _ _ (by omega) ⟨rfl,i + 1,out2,v4,so4,A4,by omega,by omega,?_,M2,hs4,hm4,rfl,rfl⟩;rw[← hrl,z_o];congr 1;omega
end st
def HpV (R:RM) (s:Sm.BI) (wv tv mv thv ov pv:Value) (l:List AY) (met:List Int) (hb mb:Nat) (v:Value):Prop:=∃o,R hb = some (C 99 (eHp s wv tv mv thv ov pv mb v))∧R mb = some o∧MpT R o l∧BJ R v met
def Vx (r:Option (List AY × List Int)) (s:Sm.BI) (wv tv mv thv ov pv:Value) (x:Value) (R:RM):Prop:=match r with
 | none=>x = .pointer none
 | some (l,met)=>∃hb mb v,x = Pt hb∧HpV R s wv tv mv thv ov pv l met hb mb v
section st
variable {R:RM} {s:Sm.BI} {wv tv mv thv ov pv:Value}
theorem M1 {l:List AY} (h:EI s = some l) (h2:Ci s l = false):CL s = none:=by
 unfold CL;rw[h];dsimp only;rw[if_neg (by rw[h2];decide)]
set_option maxHeartbeats 2000000 in
set_option maxRecDepth 4000 in
theorem Ll (h:SF R s wv tv mv thv ov pv):Fn P M5 [.agg (eSt s wv tv mv thv ov pv).toArray] R [] (λr R' A=>A = []∧Vx (CL s) s wv tv mv thv ov pv r R'):=by
 refine Qc λF=>?_
 unfold LD;refine ja λb=>?_
 rw[show cl (.agg (eSt s wv tv mv thv ov pv).toArray) = eSt s wv tv mv thv ov pv from rfl];refine jla (l:=eSt s wv tv mv thv ov pv) (by exact z_n 13) rfl ?_;refine jc (A:=[]) (Q1 h) ?_;rintro _ R1 _ hR1 ⟨rfl,hq⟩;refine Nl ?_;cases hth:EI s with
 | none=>
  rw[hth] at hq;obtain rfl:_ = Value.tuple #[.map none,.bool false]:=hq;have hn:CL s = none:=by unfold CL;rw[hth]
  refine jex rfl (jex rfl ?_);refine jor [Pt b,.map none] true (λK' hK'=>?_) (λe c u ho he=>?_)
  ·exact jtf (hK' _ _ _ Ag rfl)
  simp only[List.map,zc,zl,zj,z_t] at he;simp only[he];refine jor [Pt b,.map none] true (λK' hK'=>?_) (λe c u ho he=>?_)
  ·rw[ho];exact jtf (hK' _ _ _ Ag rfl)
  simp only[List.map,zc,zl,zj,z_t] at he;simp only[he];refine jor [Pt b,.map none] true (λK' hK'=>?_) (λe c u ho he=>?_)
  ·rw[ho];exact jtf (hK' _ _ _ Ag rfl)
  simp only[List.map,zc,zl,zj,z_t] at he;simp only[he];refine jor [Pt b,.map none] true (λK' hK'=>?_) (λe c u ho he=>?_)
  ·rw[ho];exact jtf (hK' _ _ _ Ag rfl)
  simp only[List.map,zc,zl,zj,z_t] at he;simp only[he];refine jor [Pt b,.map none] true (λK' hK'=>?_) (λe c u ho he=>?_)
  ·rw[ho];exact jtf (hK' _ _ _ Ag rfl)
  simp only[List.map,zc,zl,zj,z_t] at he;simp only[he];refine jor [Pt b,.map none] true (λK' hK'=>?_) (λe c u ho he=>?_)
  ·rw[ho];exact jtf (hK' _ _ _ Ag rfl)
  simp only[List.map,zc,zl,zj,z_t] at he;simp only[he];rw[ho];refine DB (B8 (A:=[]) hR1 ⟨rfl,?_⟩);rw[hn];exact rfl
 | some l=>
  rw[hth] at hq;obtain⟨mb,o,hmb,hm,rfl⟩:=hq;have hsf:=h;have h:=h.le hR1;have bnd:TB l∧l.length≤192∧(l.map AY.at_).Nodup:=by
   have h1:=hth;unfold EI at h1;split at h1;rotate_left
   ·cases h1
   unfold BE at h1;have h2:=Lq (by have:=h.b.wl;have:=h.b.t1;omega) h1;obtain⟨h3,h4⟩:=G4 h1;have:=h.b.t1;rw[ZQ] at h2;exact⟨h2.1,by omega,N9 h3 λx hx=>(h4 x hx).2.1⟩
  obtain⟨tb,hll,nd⟩:=bnd;refine jex rfl (jex rfl ?_);refine jor [Pt b,.map (some mb)] (!CN s l) (λK' hK'=>?_) (λe c u ho he=>?_)
  ·exact jff (jla (l:=eSt s wv tv mv thv ov pv) (by exact z_n 13) rfl (jrp (Pc h hmb hm tb nd) (hK' _ _ _ Ah rfl)))
  simp only[List.map,zc,zl,zj,z_t] at he;simp only[he];refine jor [Pt b,.map (some mb)] ((!CN s l) || (decide (s.AX < 0))) (λK' hK'=>?_) (λe c u ho he=>?_)
  ·rw[ho];refine BK (λh1=>?_) (λh1=>?_)
   ·refine jl (v:=I s.AX) rfl (jlt (hK' _ _ _ (h1▸Ah) (by rw[h1,Y7])))
   ·exact hK' _ _ _ (h1▸Ag) (by rw[h1,Y8])
  simp only[List.map,zc,zl,zj,z_t] at he;simp only[he];refine jor [Pt b,.map (some mb)] ((!CN s l || decide (s.AX < 0)) || (decide (s.AX > 3))) (λK' hK'=>?_) (λe c u ho he=>?_)
  ·rw[ho];refine BK (λh1=>?_) (λh1=>?_)
   ·refine jl (v:=I s.AX) rfl (jgr (hK' _ _ _ (h1▸Ah) (by rw[h1,Y7])))
   ·exact hK' _ _ _ (h1▸Ag) (by rw[h1,Y8])
  simp only[List.map,zc,zl,zj,z_t] at he;simp only[he];refine jor [Pt b,.map (some mb)] ((!CN s l || decide (s.AX < 0) || decide (s.AX > 3)) || (decide ((s.A7.length:Int) < 1))) (λK' hK'=>?_) (λe c u ho he=>?_)
  ·rw[ho];refine BK (λh1=>?_) (λh1=>?_)
   ·refine jl (v:=thv) rfl (Cf h.c.th.sl (jlt (hK' _ _ _ (h1▸Ah) (by rw[h1,Y7]))))
   ·exact hK' _ _ _ (h1▸Ag) (by rw[h1,Y8])
  simp only[List.map,zc,zl,zj,z_t] at he;simp only[he];refine jor [Pt b,.map (some mb)] ((!CN s l || decide (s.AX < 0) || decide (s.AX > 3) || decide ((s.A7.length:Int) < 1)) || (decide ((s.A7.length:Int) > 3))) (λK' hK'=>?_) (λe c u ho he=>?_)
  ·rw[ho];refine BK (λh1=>?_) (λh1=>?_)
   ·refine jl (v:=thv) rfl (Cf h.c.th.sl (jgr (hK' _ _ _ (h1▸Ah) (by rw[h1,Y7]))))
   ·exact hK' _ _ _ (h1▸Ag) (by rw[h1,Y8])
  simp only[List.map,zc,zl,zj,z_t] at he;simp only[he];refine jor [Pt b,.map (some mb)] ((!CN s l || decide (s.AX < 0) || decide (s.AX > 3) || decide ((s.A7.length:Int) < 1) || decide ((s.A7.length:Int) > 3)) || (decide ((s.AK.length:Int) > 8))) (λK' hK'=>?_) (λe c u ho he=>?_)
  ·rw[ho];refine BK (λh1=>?_) (λh1=>?_)
   ·refine jl (v:=pv) rfl (Cf h.c.p.sl (jgr (hK' _ _ _ (h1▸Ah) (by rw[h1,Y7]))))
   ·exact hK' _ _ _ (h1▸Ag) (by rw[h1,Y8])
  simp only[List.map,zc,zl,zj,z_t] at he;simp only[he];rw[ho];have hno:Ci s l = false→∀{D:Chs},[Sf D F]→J R1 D (Eb R F (λr R' A=>A = []∧Vx (CL s) s wv tv mv thv ov pv r R') (.pointer none)):=λhh D _=>B8 (A:=[]) hR1 ⟨rfl,by rw[M1 hth hh];exact rfl⟩
  refine jif (λh0=>?_) (λh0=>?_)
  ·refine hno ?_;rw[Z4];intro hh;unfold Ci at hh;simp only[z_b,z_d] at hh;obtain⟨⟨⟨⟨⟨⟨⟨g1,g2⟩,g3⟩,g4⟩,g5⟩,g6⟩,g7⟩,g8⟩:=hh;rw[g1] at h0;simp only[Zj,Y7,YZ,z_d] at h0;omega
  simp only[YL,Yg,decide_eq_false_iff_not] at h0;obtain⟨⟨⟨⟨⟨g1,g2⟩,g3⟩,g4⟩,g5⟩,g6⟩:=h0;have S:=QM hth g1;have n1:=h.b.n1;clear ho he;refine AH (λvs R' D'=>R' = R1∧s.A7.all EK = true∧D' = (b,C AI (eSt s wv tv mv thv ov pv)) :: F∧vs = [Pt b,.map (some mb)]) (λK hK=>?_) ?_
  ·refine jl (v:=thv) rfl (Cf h.c.th.sl ?_);refine AH (λvs R' D'=>R' = R1∧s.A7.all EK = true∧D' = (b,C AI (eSt s wv tv mv thv ov pv)) :: F∧vs = [Pt b,.map (some mb)]) (λK2 hK2=>?_) ?_;rotate_left
   ·rintro e R2 D2 ⟨hR,ht,hD,he⟩;subst hR;rw[hD];clear hD;simp only[List.map,zc,zl,zj,z_t] at he;simp only[he];exact hK _ _ _ ⟨rfl,ht,rfl,rfl⟩
   refine jlp (λm vs R' D'=>R' = R1∧∃(i:Nat),i≤s.A7.length∧m = s.A7.length - i∧(s.A7.take i).all EK = true∧D' = (b,C AI (eSt s wv tv mv thv ov pv)) :: F∧vs = [Pt b,.map (some mb),thv,I s.A7.length,I i]) (n:=s.A7.length) ⟨rfl,0,by omega,rfl,rfl,rfl,rfl⟩ ?_;rintro m e R2 D2 K3 ⟨hR,i,hi,hmm,hta,hD,he⟩ hK3;subst hR;rw[hD];clear hD;simp only[List.map,zc,zl,zj,z_t] at he;simp only[he];refine jlt (jif (λhc=>?_) (λhc=>?_));rotate_left
   ·have hc:=z_g hc;rw[YO (by omega)] at hta;exact hK2 _ _ _ ⟨rfl,hta,rfl,rfl⟩
   have hc:i < s.A7.length:=by have:=z_f hc;omega
   refine jtr h.c.th hc λb2 o2 ty cs rv hrv hb2 ho2 hrow=>?_
   refine Ih (l:=[rv,I (s.A7[i]).next,.bool (s.A7[i]).busy,I (s.A7[i]).Aq]) hb2 ho2 hrow (ja λb3=>?_);obtain⟨ra,rc,rfl⟩:=hrv.sl;refine js (cs':=[.slice ra (s.A7[i]).AB.length rc,I (s.A7[i]).next,.bool (s.A7[i]).busy,I (s.A7[i]).Aq]) rfl rfl (YM rfl) rfl ?_;refine jor [Pt b,.map (some mb),Pt b3,thv,I s.A7.length,I (i:Int)] ((decide (((s.A7[i]).AB.length:Int) > 8)) || (decide ((s.A7[i]).Aq < 0))) (λK' hK'=>?_) (λe c u ho he=>?_)
   ·refine jl (v:=.slice ra (s.A7[i]).AB.length rc) rfl (jln (jgr (BK (λh1=>?_) (λh1=>?_))))
    ·refine jl (v:=I (s.A7[i]).Aq) rfl (jlt (hK' _ _ _ (h1▸Ah) (by rw[h1,Y7])))
    ·exact hK' _ _ _ (h1▸Ag) (by rw[h1,Y8])
   simp only[List.map,zc,zl,zj,z_t] at he;simp only[he];refine jor [Pt b,.map (some mb),thv,I s.A7.length,I (i:Int)] ((decide (((s.A7[i]).AB.length:Int) > 8) || decide ((s.A7[i]).Aq < 0)) || (decide ((s.A7[i]).Aq > 2))) (λK' hK'=>?_) (λe c u ho he=>?_)
   ·rw[ho];refine BK (λh1=>?_) (λh1=>?_)
    ·refine jl (v:=I (s.A7[i]).Aq) rfl (jgr (hK' _ _ _ (h1▸Ah) (by rw[h1,Y7])))
    ·exact hK' _ _ _ (h1▸Ag) (by rw[h1,Y8])
   simp only[List.map,zc,zl,zj,z_t] at he;simp only[he];rw[ho];have hthr:(decide (((s.A7[i]).AB.length:Int) > 8) || decide ((s.A7[i]).Aq < 0) || decide ((s.A7[i]).Aq > 2)) = !EK s.A7[i]:=by
    unfold EK;rw[Yp];simp only[YZ,YT,ZX,z_d,decide_eq_false_iff_not];omega
   rw[hthr];refine jif (λh1=>?_) (λh1=>?_)
   ·refine hno ?_;rw[Z4];intro hh;unfold Ci at hh;simp only[z_b] at hh;have:=Yb.1 hh.1.2 _ (YI hc);rw[this] at h1;cases h1
   ·refine jad (C0 ?_);refine hK3 (s.A7.length - (i + 1)) _ _ _ (by omega) ⟨rfl,i + 1,by omega,rfl,?_,rfl,rfl⟩;rw[YD hc,List.all_append,hta];simpa using h1
  rintro e R2 D2 ⟨hR,hta,hD,he⟩;subst hR;rw[hD];clear hD;simp only[List.map,zc,zl,zj,z_t] at he;simp only[he];refine AH (λvs R' D'=>R' = R2∧s.AK.all (DX s l) = true∧D' = (b,C AI (eSt s wv tv mv thv ov pv)) :: F∧vs = [Pt b,.map (some mb)]) (λK hK=>?_) ?_
  ·refine jl (v:=pv) rfl (Cf h.c.p.sl ?_);refine AH (λvs R' D'=>R' = R2∧s.AK.all (DX s l) = true∧D' = (b,C AI (eSt s wv tv mv thv ov pv)) :: F∧vs = [Pt b,.map (some mb)]) (λK2 hK2=>?_) ?_;rotate_left
   ·rintro e R3 D3 ⟨hR,ht,hD,he⟩;subst hR;rw[hD];clear hD;simp only[List.map,zc,zl,zj,z_t] at he;simp only[he];exact hK _ _ _ ⟨rfl,ht,rfl,rfl⟩
   refine jlp (λm vs R' D'=>R' = R2∧∃(i:Nat),i≤s.AK.length∧m = s.AK.length - i∧(s.AK.take i).all (DX s l) = true∧D' = (b,C AI (eSt s wv tv mv thv ov pv)) :: F∧vs = [Pt b,.map (some mb),pv,I s.AK.length,I i]) (n:=s.AK.length) ⟨rfl,0,by omega,rfl,rfl,rfl,rfl⟩ ?_;rintro m e R3 D3 K3 ⟨hR,i,hi,hmm,hpa,hD,he⟩ hK3;subst hR;rw[hD];clear hD;simp only[List.map,zc,zl,zj,z_t] at he;simp only[he];refine jlt (jif (λhc=>?_) (λhc=>?_));rotate_left
   ·have hc:=z_g hc;rw[YO (by omega)] at hpa;exact hK2 _ _ _ ⟨rfl,hpa,rfl,rfl⟩
   have hc:i < s.AK.length:=by have:=z_f hc;omega
   have hpv:=h.b.pv _ (YI hc);refine C7 h.c.p (by omega) (by omega) ?_;simp only[Y6];refine We (Li.fz hmb) hm λn nb rv nv hnb hfn hrv hnv=>?_
   obtain⟨ra,rc,rfl⟩:=hrv.sl;obtain⟨na,nc,rfl⟩:=hnv.sl;refine jex rfl (jex rfl (ja λb3=>?_));refine js (cs':=eTh n (.slice ra n.refs.length rc) (.slice na n.nums.length nc)) rfl rfl (by exact z_n 6) rfl ?_;refine jor [Pt b,.map (some mb),I (s.AK[i]),pv,I s.AK.length,I (i:Int)] ((!nb) || (n.moved != s.AK[i])) (λK' hK'=>?_) (λe c u ho he=>?_)
   ·refine BK (λh1=>?_) (λh1=>?_)
    ·refine jl (v:=I n.moved) rfl (jne (hK' _ _ _ (h1▸Ah) (by rw[h1,Y7])))
    ·exact hK' _ _ _ (h1▸Ag) (by rw[h1,Y8])
   simp only[List.map,zc,zl,zj,z_t] at he;simp only[he];refine jor [Pt b,.map (some mb),pv,I s.AK.length,I (i:Int)] ((!nb || (n.moved != s.AK[i])) || (DN s s.AK[i])) (λK' hK'=>?_) (λe c u ho he=>?_)
   ·rw[ho];refine BK (λh1=>?_) (λh1=>?_)
    ·refine jla (l:=eSt s wv tv mv thv ov pv) (by exact z_n 13) rfl (jrp (KG h hpv.1 (by omega)) (hK' _ _ _ (h1▸Ah) (by rw[h1,Y7])))
    ·exact hK' _ _ _ (h1▸Ag) (by rw[h1,Y8])
   simp only[List.map,zc,zl,zj,z_t] at he;simp only[he];rw[ho];have hpo:(!nb || (n.moved != s.AK[i]) || DN s s.AK[i]) = !DX s l s.AK[i]:=by
    unfold DX;cases nb with
    | false=>
     have:Bf l s.AK[i] = none:=by
      cases h:Bf l s.AK[i] with
      | none=>rfl
      | some x=>rw[h] at hnb;cases hnb
     rw[this];rfl
    | true=>
     rw[hfn rfl];dsimp only;unfold bne;cases n.moved == s.AK[i]<;>cases DN s s.AK[i]<;>rfl
   rw[hpo];refine jif (λh1=>?_) (λh1=>?_)
   ·refine hno ?_;rw[Z4];intro hh;unfold Ci at hh;simp only[z_b] at hh;have:=Yb.1 hh.2 _ (YI hc);rw[this] at h1;cases h1
   ·refine jad (C0 ?_);refine hK3 (s.AK.length - (i + 1)) _ _ _ (by omega) ⟨rfl,i + 1,by omega,rfl,?_,rfl,rfl⟩;rw[YD hc,List.all_append,hpa];simpa using h1
  rintro e R3 D3 ⟨hR,hpa,hD,he⟩;subst hR;rw[hD];clear hD;simp only[List.map,zc,zl,zj,z_t] at he;simp only[he];have hhead:Ci s l = true:=by
   unfold Ci;simp only[z_b,z_d];exact⟨⟨⟨⟨⟨⟨⟨g1,by omega⟩,by omega⟩,by omega⟩,by omega⟩,by omega⟩,hta⟩,hpa⟩
  have hho:CL s = (DA s l).map λm=>(l,m):=by unfold CL;rw[hth];dsimp only;rw[if_pos hhead]
  rw[hho];refine jla (l:=eSt s wv tv mv thv ov pv) (by exact z_n 13) rfl ?_;refine jbd (cs:=eHp s wv tv mv thv ov pv mb (.slice none 0 0)) rfl rfl (ja λhb=>?_);rw[show cl (.agg (eHp s wv tv mv thv ov pv mb (.slice none 0 0)).toArray) = eHp s wv tv mv thv ov pv mb (.slice none 0 0) from rfl];refine jc (A:=[(hb,C 99 (eHp s wv tv mv thv ov pv mb (.slice none 0 0)))]) (SP h hmb hm S (by omega) tb hpa) ?_;intro r R4 A4 hR4 hq;cases hre:DA s l with
  | none=>
   rw[hre] at hq;obtain⟨rfl,rfl⟩:=hq;exact DB (B8 (A:=[]) (hR1.trans hR4) ⟨rfl,rfl⟩)
  | some met=>
   rw[hre] at hq;obtain⟨rfl,v2,A2,hs2,rfl⟩:=hq;refine CU ?_;refine Ar A2 (G:=[(hb,C 99 (eHp s wv tv mv thv ov pv mb v2))] ++ (b,C AI (eSt s wv tv mv thv ov pv)) :: F) ?_;refine Eu hs2 λR5 hR5 hi5=>?_
   refine Ba (b:=hb) λR6 hR6 hb6=>?_
   exact B8 (A:=[]) (hR1.trans (hR4.trans (hR5.trans hR6))) ⟨rfl,hb,mb,v2,rfl,o,hb6,hR6 _ _ (hR5 _ _ (hR4 _ _ hmb)),hm.le (hR4.trans (hR5.trans hR6)),hi5.le hR6⟩
end st
end Go.Lf
end
section
namespace Go.Proofs
def Tryz.lays189_ren : Go.Shelf.Ren := ⟨fun | 189 => 112 | 125 => 150 | 257 => 149 | 128 => 181 | 129 => 182 | 294 => 173 | 295 => 174 | 296 => 175 | 297 => 176 | 298 => 177 | 299 => 178 | 216 => 113 | 300 => 179 | 301 => 180 | 328 => 211 | 329 => 212 | 330 => 213 | 331 => 214 | 332 => 215 | 215 => 151 | 343 => 260 | n => n, fun | 28 => 23 | 3 => 3 | 46 => 130 | 0 => 0 | 51 => 188 | 53 => 191 | 4 => 4 | 183 => 196 | 182 => 195 | 131 => 96 | 5 => 5 | 9 => 9 | 218 => 217 | 222 => 208 | 228 => 236 | 229 => 56 | n => n, fun | n => n⟩
theorem Tryz.lays189 : Go.Proofs.Lays.n189 Tryz.prog Tryz.lays189_ren := {
  mixed := by kernel_rfl
  f125 := Tryz.func150.trans (congrArg some (by kernel_rfl))
  f128 := Tryz.func181.trans (congrArg some (by kernel_rfl))
  f129 := Tryz.func182.trans (congrArg some (by kernel_rfl))
  f189 := Tryz.func112.trans (congrArg some (by kernel_rfl))
  f215 := Tryz.func151.trans (congrArg some (by kernel_rfl))
  f216 := Tryz.func113.trans (congrArg some (by kernel_rfl))
  f257 := Tryz.func149.trans (congrArg some (by kernel_rfl))
  f294 := Tryz.func173.trans (congrArg some (by kernel_rfl))
  f295 := Tryz.func174.trans (congrArg some (by kernel_rfl))
  f296 := Tryz.func175.trans (congrArg some (by kernel_rfl))
  f297 := Tryz.func176.trans (congrArg some (by kernel_rfl))
  f298 := Tryz.func177.trans (congrArg some (by kernel_rfl))
  f299 := Tryz.func178.trans (congrArg some (by kernel_rfl))
  f300 := Tryz.func179.trans (congrArg some (by kernel_rfl))
  f301 := Tryz.func180.trans (congrArg some (by kernel_rfl))
  f328 := Tryz.func211.trans (congrArg some (by kernel_rfl))
  f329 := Tryz.func212.trans (congrArg some (by kernel_rfl))
  f330 := Tryz.func213.trans (congrArg some (by kernel_rfl))
  f331 := Tryz.func214.trans (congrArg some (by kernel_rfl))
  f332 := Tryz.func215.trans (congrArg some (by kernel_rfl))
  f343 := Tryz.func260.trans (congrArg some (by kernel_rfl))
  t0 := Tryz.underlying0
  a0 := Tryz.isAgg0
  z0 := Tryz.sizeOf0
  v0 := Tryz.zeroValue0
  t3 := Tryz.underlying3
  a3 := Tryz.isAgg3
  z3 := Tryz.sizeOf3
  v3 := Tryz.zeroValue3
  t4 := Tryz.underlying4
  a4 := Tryz.isAgg4
  z4 := Tryz.sizeOf4
  v4 := Tryz.zeroValue4
  t5 := Tryz.underlying5
  a5 := Tryz.isAgg5
  z5 := Tryz.sizeOf5
  v5 := Tryz.zeroValue5
  t9 := Tryz.underlying9
  a9 := Tryz.isAgg9
  z9 := Tryz.sizeOf9
  v9 := Tryz.zeroValue9
  t28 := Tryz.underlying23
  a28 := Tryz.isAgg23
  z28 := Tryz.sizeOf23
  v28 := Tryz.zeroValue23
  t46 := Tryz.underlying130
  a46 := Tryz.isAgg130
  z46 := Tryz.sizeOf130
  v46 := Tryz.zeroValue130
  t51 := Tryz.underlying188
  a51 := Tryz.isAgg188
  z51 := Tryz.sizeOf188
  v51 := Tryz.zeroValue188
  t53 := Tryz.underlying191
  a53 := Tryz.isAgg191
  z53 := Tryz.sizeOf191
  v53 := Tryz.zeroValue191
  t131 := Tryz.underlying96
  a131 := Tryz.isAgg96
  z131 := Tryz.sizeOf96
  v131 := Tryz.zeroValue96
  t182 := Tryz.underlying195
  a182 := Tryz.isAgg195
  z182 := Tryz.sizeOf195
  v182 := Tryz.zeroValue195
  t183 := Tryz.underlying196
  a183 := Tryz.isAgg196
  z183 := Tryz.sizeOf196
  v183 := Tryz.zeroValue196
  t218 := Tryz.underlying217
  a218 := Tryz.isAgg217
  z218 := Tryz.sizeOf217
  v218 := Tryz.zeroValue217
  t222 := Tryz.underlying208
  a222 := Tryz.isAgg208
  z222 := Tryz.sizeOf208
  v222 := Tryz.zeroValue208
  t228 := Tryz.underlying236
  a228 := Tryz.isAgg236
  z228 := Tryz.sizeOf236
  v228 := Tryz.zeroValue236
  t229 := Tryz.underlying56
  a229 := Tryz.isAgg56
  z229 := Tryz.sizeOf56
  v229 := Tryz.zeroValue56 }
end Go.Proofs
namespace Go.Lf
open Go Sm Go.Sort
theorem St.grow {h:Cv} {R:RM} {D:Chs} (hs:St h R D) (os:Array Obj):St (h ++ os) R D:=by
 have key:∀b o,h[b]? = some o→(h ++ os)[b]? = some o:=λb o hb=>by
  have:=(Z5.1 hb).1;rw[Array.getElem?_append_left this];exact hb
 exact⟨λb o hb=>key b o (hs.rd b o hb),λb o hm=>⟨key b o (hs.at_ b o hm).1,(hs.at_ b o hm).2⟩,hs.nd⟩
def Ju (l:List Int):List Int:=l.mergeSort λx y=>decide (x≤y)
theorem I3 (l:List Int):(Ju l).length = l.length:=(List.mergeSort_perm l _).length_eq
theorem Wv {R:RM} {l:List Int} {b c:Nat} {sp:List Value} (hl:l.length < 1000000) :
  Fn P Ed [S0 b l.length c] R [(b,C Aa (l.map I ++ sp))] (λv R' A=>R' = R∧v = U∧A = [(b,C Aa ((Ju l).map I ++ sp))]):=by
 intro F h hs w hw;subst hw;have hb:=(hs.at_ b (C Aa (l.map I ++ sp)) (by simp)).1;have hblk:b < w.heap.size:=(Z5.1 hb).1;have hH:Holds (Value.int .i64) w b 0 l.toArray:=λj hj=>by
  have hj' : j < l.length:=by simpa using hj
  refine⟨?_,by simp[World.frozen?,hb]⟩;rw[YQ];show w.cell? ⟨b,j,none⟩ = _;rw[Rm];unfold hc;rw[hb];show ((l.map I ++ sp).toArray)[j]? = _;rw[List.getElem?_toArray,Z9 (by simpa using hj'),Yj,Y9 hj'];simp[hj']
 refine (Go.Proofs.Any.slices_Sort_int Go.Proofs.Tryz.lays189 b 0 c l w hH hblk (by omega)).mono ?_;rintro e w' ⟨rfl,n,os,rfl⟩;refine⟨_,rfl,⟨rfl,rfl⟩,R,[(b,C Aa ((Ju l).map I ++ sp))],RM.le.refl R,?_,rfl,rfl,rfl⟩;have hmod:(w.heap.modify b (onCells (putCells (Value.int .i64) 0 (Ju l).toArray)))[b]? = some (C Aa ((Ju l).map I ++ sp)):=by
  rw[ZE,if_pos rfl,hb];simp only[Zi,onCells];congr 2;apply Array.toList_inj.1;apply List.ext_getElem?;intro k;unfold putCells;rw[Yu,Array.getElem?_mapIdx,List.getElem?_toArray];by_cases hk:k < l.length
  ·have hk2:k < (Ju l).length:=by rw[I3];exact hk
   rw[Z9 (by simpa using hk),Z9 (by simpa using hk2),Yj,Yj,Y9 hk,Y9 hk2];simp[hk2]
  ·have hk2:¬ k < (Ju l).length:=by rw[I3];exact hk
   rw[Zg (by simpa using hk),Zg (by simpa using hk2),Yd,Yd,I3];cases sp[k - l.length]? with
   | none=>rfl
   | some x=>simp[hk2]
 have h2:St (w.heap.modify b (onCells (putCells (Value.int .i64) 0 (Ju l).toArray))) R ([(b,C Aa ((Ju l).map I ++ sp))] ++ F):=
  hs.turn (b:=b) (o:=C Aa (l.map I ++ sp)) hmod λb' hne=>by rw[ZE,if_neg (λe=>hne e.symm)]
 exact h2.grow os
theorem UA:∀{a b:List Int},a.Pairwise (· < ·)→b.Pairwise (· < ·)→(∀x,x∈a↔x∈b)→a = b
 | [],[],_,_,_=>rfl
 | [],y :: b,_,_,h=>absurd ((h y).2 (.head _)) (by simp)
 | x :: a,[],_,_,h=>absurd ((h x).1 (.head _)) (by simp)
 | x :: a,y :: b,ha,hb,h=>by
  rw[List.pairwise_cons] at ha hb;have h1:x = y:=by
   rcases YJ.1 ((h x).1 (.head _)) with e | e
   ·exact e
   ·rcases YJ.1 ((h y).2 (.head _)) with e2 | e2
    ·exact e2.symm
    ·have:=hb.1 x e;have:=ha.1 y e2;omega
  subst h1;rw[UA ha.2 hb.2 λz=>?_];have hz:=h z;simp only[YJ] at hz;constructor
  ·intro hm;rcases hz.1 (.inr hm) with e | e
   ·subst e;have:=ha.1 z hm;omega
   ·exact e
  ·intro hm;rcases hz.2 (.inr hm) with e | e
   ·subst e;have:=hb.1 z hm;omega
   ·exact e
theorem VC {l:List Int} (h:l.Nodup):Ju l = Av l:=by
 obtain⟨h1,h2⟩:=EQ h;refine UA ?_ h1 λx=>?_
 ·have p:=List.mergeSort_perm l (λx y=>decide (x≤y));have s:(Ju l).Pairwise λx y=>decide (x≤y) = true:=List.pairwise_mergeSort (λa b c h1 h2=>by simp at *;omega) (λa b=>by simp;omega) l
  have nd:(Ju l).Nodup:=p.nodup_iff.2 h;exact (s.and nd).imp λ⟨a,b⟩=>by have:=z_f a;omega
 ·rw[h2];exact (List.mergeSort_perm l _).mem_iff
end Go.Lf
end
section
namespace Go.Lf
open Go Sm
section rules
variable {R:RM} {D:Chs} {k:Value→M}
theorem W9 {a b:Nat} {x y:Value} (hr:∀w,(Go.convert a b x).run P w = .ok y w) (H:J R D (k y)):J R D (X P (Go.convert a b x) k):=by
 intro h hs w hw;rw[hr];subst hw;exact⟨B9.refl _,H _ hs⟩
theorem jix {s:ByteArray} {i n:Int} {kd:IntKind} (h0:0≤i∧i.toNat < s.size) (hn:((s[i.toNat]'h0.2).toNat:Int) = n) (H:J R D (k (.int .u8 n))):J R D (IX (.string s) (.int kd i) k):=λh hs=>⟨h0,by rw[hn];exact H h hs⟩
end rules
set_option maxRecDepth 4000 in
theorem Ru:Pu EN [.int .u64 0] (I 0):=by
 intro R;refine II λF=>?_
 unfold EM;refine Bt [.int .u64 0,I 0] (λK1 h1=>?_) (λe he=>?_)
 ·exact h1
 simp only[List.map,zc,zl,zj,z_t] at he;simp only[he];refine Bt [.int .u64 0,I 0] (λK1 h1=>?_) (λe he=>?_)
 ·exact h1
 simp only[List.map,zc,zl,zj,z_t] at he;simp only[he];refine Bt [.int .u64 0,I 0] (λK1 h1=>?_) (λe he=>?_)
 ·exact h1
 simp only[List.map,zc,zl,zj,z_t] at he;simp only[he];refine @W9 _ _ _ 191 5 _ (.int .u8 0) (λw=>by kernel_rfl) ?_;refine jix (n:=0) ⟨by decide,by decide⟩ (by decide) ?_;refine @W9 _ _ _ 5 3 _ (I 0) (λw=>by kernel_rfl) ?_;refine CT ⟨by decide,by decide⟩ ?_;exact B8 (A:=[]) (RM.le.refl R) rfl
theorem VL:Pu FQ [.int .u64 0] (I 0):=by
 intro R;refine Jr λF=>?_
 unfold FR;exact CU (jp Ru (B8 (A:=[]) (RM.le.refl R) rfl))
theorem Vd:Pu Cq [.slice none 0 0,I 0,I 0] U:=by
 intro R;refine Dm λF=>?_
 unfold Cr;refine CT ⟨by decide,by decide⟩ ?_;refine jlp (λm vs R' D'=>R' = R∧D' = [] ++ F∧vs = [.slice none 0 0,I 0,I 0,I 1]) (n:=0) ⟨rfl,rfl,rfl⟩ ?_;rintro m e R1 D1 K ⟨hR,hD,he⟩ _;subst hR;rw[hD];clear hD;simp only[List.map,zc,zl,zj,z_t] at he;simp only[he];exact jlt (CU (B8 (A:=[]) (RM.le.refl _) rfl))
theorem V1:Pu DW [.slice none 0 0,I 0,I 0,I 0] U:=by
 intro R;refine Ew λF=>?_
 unfold DT;refine jlp (λm vs R' D'=>R' = R∧D' = [] ++ F∧∃x y,vs = [.slice none 0 0,I 0,I 0,I 0,x,y]) (n:=0) ⟨rfl,rfl,_,_,rfl⟩ ?_;rintro m e R1 D1 K ⟨hR,hD,x,y,he⟩ _;subst hR;rw[hD];clear hD;simp only[List.map,zc,zl,zj,z_t] at he;simp only[he];refine AH (λvs R' D'=>False) (λK2 hK2=>?_) (λe R' D' h=>h.elim);exact Py ⟨by decide,by decide⟩ (jle (DB (jp Vd (B8 (A:=[]) (RM.le.refl _) rfl))))
theorem Tv:Pu Ed [.slice none 0 0] U:=by
 intro R;refine MU λF=>?_
 unfold GL;refine jln ?_;refine @W9 _ _ _ 3 130 _ (.int .u64 0) (λw=>by kernel_rfl) ?_;exact jp VL (jp V1 (B8 (A:=[]) (RM.le.refl R) rfl))
end Go.Lf
end
section
namespace Sm
open Go.Lf
theorem Oy {l:List AY} (S:Stl l):∀{n i:Nat} {out r:List Int},DJ l out→BZ l n i out = some r→DJ l r
 | 0,i,out,r,M,h=>by cases h
 | n + 1,i,out,r,M,h=>by
  by_cases c:i < out.length
  ·obtain⟨t,ht⟩:=M.th _ (YI c);rw[EG c ht] at h;cases hn:Ay l t.refs out with
   | none=>rw[hn] at h;cases h
   | some o=>rw[hn] at h;exact Oy S (M.all S hn) h
  ·rw[Ef (by omega)] at h;cases h;exact M
structure HpF (s:BI) (l:List AY) (met:List Int):Prop where
 ths:EI s = some l
 head:Ci s l = true
 re:DA s l = some met
 S:Stl l
 M:DJ l met
 asc:l.Pairwise (λx y=>x.at_ + AD x.sh≤y.at_)
theorem Dq {s:BI} {l:List AY} {met:List Int} (h:CL s = some (l,met)):HpF s l met:=by
 unfold CL at h;cases ht:EI s with
 | none=>rw[ht] at h;cases h
 | some l'=>
  rw[ht] at h;dsimp only at h;split at h;rotate_left
  ·cases h
  rename_i hh;obtain⟨m,hm,e⟩:=Option.map_eq_some_iff.1 h;cases e;have h2:=hh;unfold Ci at h2;simp only[z_b] at h2;have S:=QM ht h2.1.1.1.1.1.1.1;have M:DJ l met:=by
   rw[F4 h2.2] at hm;cases hn:Ay l (Dg s) [] with
   | none=>rw[hn] at hm;cases hm
   | some out=>rw[hn] at hm;exact Oy S (DJ.nil.all S hn) hm
  refine⟨ht,hh,hm,S,M,?_⟩;have h1:=ht;unfold EI at h1;split at h1
  ·exact (G4 h1).1
  ·cases h1
end Sm
namespace Go.Lf
open Go Sm
section st
variable {R:RM} {s:Sm.BI} {wv tv mv thv ov pv:Value} {l:List AY} {met:List Int}
theorem TT {hb mb:Nat} {v:Value} (hv:HpV R s wv tv mv thv ov pv l met hb mb v) (nd:met.Nodup) (hl:met.length < 1000000):Fn P Ga [Pt hb] R [] (λv R' A=>R' = R∧SO (Av met) v A):=by
 refine MX λF=>?_
 unfold GE;obtain⟨o,h1,h2,h3,h4⟩:=hv;refine jnc (jfo (jlr (v:=v) h1 rfl ?_));refine jc (A:=[]) (NN h4 hl) ?_;rintro x R1 A1 _ ⟨hR,so,_⟩;subst hR;rcases so with ⟨rfl,rfl,rfl⟩ | ⟨b,c,sp,hc,hsp,rfl,rfl⟩
 ·exact jp Tv (B8 (A:=[]) (RM.le.refl _) ⟨rfl,.inl ⟨rfl,rfl,rfl⟩⟩)
 ·refine jc (A:=[(b,C Aa (met.map I ++ sp))]) (Wv (l:=met) (c:=c) hl) ?_;rintro v2 R2 A2 _ ⟨hR,rfl,rfl⟩;subst hR;have e:=VC nd;have e2:=I3 met;rw[e] at e2 ⊢;refine B8 (A:=[(b,C Aa ((Av met).map I ++ sp))]) (RM.le.refl _) ⟨rfl,.inr ⟨b,c,sp,by omega,by omega,by rw[e2],rfl⟩⟩
theorem Vp (w:World) (x y:Operand) (hb:Nat):(do eqGuard .eql 86 x y (Pt hb) (.pointer none);binOp .eql 86 (Pt hb) (.pointer none):Sem Value).run P w = .ok (.bool false) w:=by kernel_rfl
theorem Vw (w:World) (x y:Operand):(do eqGuard .eql 86 x y (.pointer none) (.pointer none);binOp .eql 86 (.pointer none) (.pointer none):Sem Value).run P w = .ok (.bool true) w:=by kernel_rfl
theorem jxr {R:RM} {D:Chs} {k:Value→M} {s:Sem Value} {y:Value} (hr:∀w,s.run P w = .ok y w) (H:J R D (k y)):J R D (X P s k):=by
 intro h hs w hw;rw[hr];subst hw;exact⟨B9.refl _,H _ hs⟩
end st
end Go.Lf
end
section
namespace Go.Lf
open Go Sm
section rules
variable {R:RM} {D:Chs} {k:Value→M}
theorem SM {v:Value} {l:List AY} {i:Nat} (h:Tgs R v l) (hi:i < l.length) (H:J R D (k (I (l[i]).at_))):J R D (IA 6 v (I (i:Int)) λp=>FO 0 p λq=>L1 q k):=
 jtg h hi λ_ _ _ _ _ _ _ _ hb _ hrow=>jfo (jlr hb (Bw hrow (f:=0) rfl) H)
theorem VY {v:Value} {l:List AY} {i:Nat} (h:Tgs R v l) (hi:i < l.length) (H:J R D (k (I (l[i]).moved))):J R D (IA 6 v (I (i:Int)) λp=>FO 1 p λq=>L1 q k):=
 jtg h hi λ_ _ _ _ _ _ _ _ hb _ hrow=>jfo (jlr hb (Bw hrow (f:=1) rfl) H)
theorem XU {v:Value} {l:List AY} {i:Nat} (h:Tgs R v l) (hi:i < l.length) (H:J R D (k (.agg #[I (l[i]).sh.refs,I (l[i]).sh.nums]))):J R D (IA 6 v (I (i:Int)) λp=>FO 2 p λq=>LA 2 q k):=
 jtg h hi λ_ _ _ cs _ _ _ _ hb ho hrow=>jfo (Ih (l:=[I (l[i]).sh.refs,I (l[i]).sh.nums]) hb (by omega) (by
  have e:=congrArg (λz=>(z.drop 2).take 2) hrow
  simp only[Za,Zl,Zf] at e
  exact e) H)
theorem jrk {v:Value} {t:List Rg} {r:Nat} (h:RgZ R v t) (hr:r < t.length) (H:J R D (k (I (t[r]).kind))):J R D (IA 5 v (I (r:Int)) λp=>FO 0 p λq=>L1 q k):=by
 obtain⟨b,c,sp,rfl,hb,_⟩:=h;exact CZ hr (jfo (jlr hb (by rw[YQ];exact Bq (f:=0) hr rfl) H))
theorem GA {l:List AY} {a:Int} (h:Bf l a = none):NU l a = -1:=by
 unfold NU;have:l.findIdx? (λt=>t.at_ == a) = none:=by
  rw[List.findIdx?_eq_none_iff];unfold Bf at h;rw[List.find?_eq_none] at h;intro x hx;simpa using h x hx
 rw[this]
theorem Np {lv:List Nat} {B:(List Value→M)→M} {K:Env→M} (pre:List Value) (p:Prop) (H1:∀K' : List Value→M,(p→J R D (K' pre))→J R D (B K')) (H2:∀e,p→lv.map e = pre→J R D (K e)):J R D (CUT lv B K):=
 AH (λvs R' D'=>p∧R' = R∧D' = D∧vs = pre) (λK' h=>H1 K' λhp=>h _ _ _ ⟨hp,rfl,rfl,rfl⟩) λe R' D' ⟨hp,h1,h2,h3⟩=>by
  subst h1 h2;exact H2 e hp h3
theorem Xz {lv:List Nat} {B:(List Value→M)→Env→M} (pre:List Value) (n:Nat) (p:Nat→Prop) (h0:p 0)
  (H:∀(i:Nat) K e,i≤n→p i→(i < n→p (i + 1)→J R D (K (pre ++ [I ((i:Int) + 1)])))→lv.map e = pre ++ [I i]→J R D (B K e)):J R D (LP lv B (pre ++ [I 0])):=by
 refine jlp (λm vs R' D'=>R' = R∧D' = D∧∃i:Nat,i≤n∧m = n - i∧p i∧vs = pre ++ [I i]) (n:=n) ⟨rfl,rfl,0,by omega,by omega,h0,rfl⟩ ?_;rintro m e R1 D1 K ⟨hR,hD,i,hi,hm,hp,he⟩ hK;subst hR hD;exact H i K e hi hp (λh hp'=>hK (n - (i + 1)) _ _ _ (by omega) ⟨rfl,rfl,i + 1,by omega,rfl,hp',rfl⟩) he
end rules
end Go.Lf
end
