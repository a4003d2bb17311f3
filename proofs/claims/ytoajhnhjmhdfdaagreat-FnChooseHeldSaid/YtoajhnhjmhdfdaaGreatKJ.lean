/- A part of the proof of the given row: the walk of the law and of all that it calls. Conditions: none. -/
import Derived.Test.YtoajhnhjmhdfdaaGreatKI
set_option linter.unusedVariables false
set_option linter.unusedSimpArgs false
section
namespace Go.Lf
open Go Sm
def RdI (R:RM) (D:Chs) (v:Value) (l:List Int):Prop:=(∃a c,v = .slice a l.length c)∧∀(F:Chs) (i:Nat) (h:i < l.length) (k:Value→M),J R (D ++ F) (k (I l[i]))→J R (D ++ F) (IA 1 v (I (i:Int)) λx=>L1 x k)
theorem B8.rd {R:RM} {D:Chs} {v:Value} {l:List Int} (h:B8 R v l):RdI R D v l:=
 ⟨h.sl,λF i hi k H=>CR h (by omega) (by omega) (by rw[getElem_congr_idx (Int.toNat_natCast i)];exact H)⟩
theorem SO.rd {R:RM} {A E:Chs} {v:Value} {l:List Int} (h:SO l v A):RdI R (A ++ E) v l:=by
 rcases h with ⟨rfl,rfl,rfl⟩ | ⟨b,c,sp,hc,hsp,rfl,rfl⟩
 ·exact⟨⟨_,_,rfl⟩,λF i hi=>absurd hi (by simp)⟩
 ·refine⟨⟨_,_,rfl⟩,λF i hi k H=>Bi hi ?_⟩;exact jl (v:=I l[i]) (by rw[Nat.zero_add,Nat.mul_one];exact Ge hi) H
theorem GW {R:RM} {D:Chs} {v:Value} {l:List Int} (n:Int) (h:RdI R D v l) (hl:l.length < 1000000000000):Ro IC [v,I n] (I (Bg l n)) R D:=by
 refine ND λF=>?_
 unfold Hy;obtain⟨hsl,h⟩:=h;refine jlp (λm vs R' D'=>R' = R∧D' = D ++ F∧∃i:Nat,i≤l.length∧vs = [v,I n,I i]∧m = l.length - i∧∀k (hk:k < l.length),k < i→l[k]≠n)
  (n:=l.length) ⟨rfl,rfl,0,by omega,rfl,by omega,λk _ h=>by omega⟩ ?_
 rintro m e R1 D1 K ⟨hR1,hD,i,hi,he,hm,Bk⟩ hK;subst hR1;rw[hD];clear hD;simp only[List.map,lc,ln,lj,z_t] at he;simp only[he];refine Ci hsl (jlt (jif (λhc=>?_) (λhc=>?_)))
 ·have hc:i < l.length:=by have:=z_f hc;omega
  refine h F i hc _ (jeq (jif (λhq=>?_) (λhq=>?_)))
  ·refine BW ?_;have hq:=eq_of_beq hq;have hm:n∈l:=by rw[← hq];exact List.getElem_mem hc
   unfold Bg;rw[if_pos hm,LM hc hq Bk]
  ·have hq:=ne_of_beq_false hq;refine Ae ⟨by omega,by omega⟩ ?_;refine hK (l.length - (i + 1)) _ _ _ (by omega) ⟨rfl,rfl,i + 1,by omega,rfl,rfl,λk hk hki=>?_⟩;by_cases c:k = i
   ·subst c;exact hq
   ·exact Bk k hk (by omega)
 ·have hc:¬ i < l.length:=by have:=z_g hc;omega
  refine BW ?_;have hm:n ∉ l:=by
   intro hm;obtain⟨k,hk,hkn⟩:=List.getElem_of_mem hm;exact Bk k hk (by omega) hkn
  unfold Bg;rw[if_neg hm]
theorem FW {R:RM} {A E G:Chs} {l:List Int} {v:Value} {x:Int} {b1 t cx:Nat} {k:Value→M} (so:SO l v A) (hl:l.length + 1 < 1000000000000)
  [s:Sp G A E] (H:∀v' A',SO (l ++ [x]) v' A'→J R (A' ++ E) (k v')):J R ((b1,C t [I x]) :: G) (AP Ab 1 8 [I 0] v (.slice (some ⟨b1,0,none⟩) 1 cx) k):=by
 have hp:((b1,C t [I x]) :: G).Perm (A ++ ((b1,C t [I x]) :: E)):=(s.p.cons _).trans List.perm_middle.symm;refine Aw hp ?_;have hx:BI R (A ++ ((b1,C t [I x]) :: E)) (some ⟨b1,0,none⟩) (1 * 1) ([x].map I):=BI.held (t:=t) (cs:=[I x]) (o:=0) (n:=1 * 1) (z_n 1);refine jas so rfl (by simpa using hl) hx λv' A' so'=>?_
 exact Aw List.perm_middle (Ca (H v' A' so'))
theorem Tp {R:RM} {A:Chs} {v:Value} {l:List Int} (a:Int) (so:SO l v A) (hl:l.length < 1000000):Fn P L9 [v,I a] R A (λv' R' A'=>R' = R∧SO (DV l a) v' A'):=by
 refine Pp λF=>?_
 unfold Lc;obtain⟨sa,sn,sc,hsl⟩:=so.sl;refine jor [v,I a] ((a == 0) || (decide (Bg l a≥0))) (λK' hK'=>?_) (λe c u ho he=>?_)
 ·refine jeq (BY (λh1=>?_) (λh1=>?_))
  ·refine jro (GW a so.rd (by omega)) (jge (hK' _ _ _ (h1▸Ax) (by rw[h1,Bool.false_or])))
  ·exact hK' _ _ _ (h1▸BA) (by rw[h1,Bool.true_or])
 simp only[List.map,lc,ln,lj,z_t] at he;simp only[he];rw[ho];have hp:decide (Bg l a≥0) = decide (a∈l):=by
  unfold Bg;by_cases c:a∈l
  ·rw[if_pos c,decide_eq_true c,decide_eq_true (by omega)]
  ·rw[if_neg c,decide_eq_false c,decide_eq_false (by omega)]
 rw[hp];refine jif (λh0=>?_) (λh0=>?_)
 ·simp only[Bool.or_eq_true,beq_iff_eq,z_d] at h0;refine BV (A:=A) (RM.le.refl R) ?_;unfold DV;rw[if_pos h0];exact⟨rfl,so⟩
 ·have h0:¬ (a = 0∨a∈l):=by simpa using h0
  refine jbs (cs:=[I a]) rfl rfl λb1=>?_
  refine FW (A:=A) so (by omega) λv' A' so'=>?_
  refine BV (A:=A') (RM.le.refl R) ?_;unfold DV;rw[if_neg h0];exact⟨rfl,so'⟩
def SB (l:List Ap) (a:Int):Int:=match l.findIdx? λt=>t.at_ == a with | some i=>(i:Int) | none=>-1
theorem GU {R:RM} {D:Chs} {v:Value} {l:List Ap} (a:Int) (h:Tgs R v l) (hl:l.length < 1000000000000):Ro JK [v,I a] (I (SB l a)) R D:=by
 refine PD λF=>?_
 unfold KE;refine jlp (λm vs R' D'=>R' = R∧D' = D ++ F∧∃i:Nat,i≤l.length∧vs = [v,I a,I i]∧m = l.length - i∧∀k (hk:k < l.length),k < i→(l[k]).at_≠a)
  (n:=l.length) ⟨rfl,rfl,0,by omega,rfl,by omega,λk _ h=>by omega⟩ ?_
 rintro m e R1 D1 K ⟨hR1,hD,i,hi,he,hm,Bk⟩ hK;subst hR1;rw[hD];clear hD;simp only[List.map,lc,ln,lj,z_t] at he;simp only[he];refine Ci h.sl (jlt (jif (λhc=>?_) (λhc=>?_)))
 ·have hc:i < l.length:=by have:=z_f hc;omega
  refine jtg h hc λb o t cs rv nv _ _ hb ho hrow=>?_
  refine jfo (jlr (v:=I (l[i]).at_) hb (CN hrow (f:=0) rfl) (jeq (jif (λhq=>?_) (λhq=>?_))))
  ·refine BW ?_;have hq:=eq_of_beq hq;unfold SB;have:l.findIdx? (λt=>t.at_ == a) = some i:=by
    rw[List.findIdx?_eq_some_iff_getElem];exact⟨hc,by simpa using hq,λj hj=>by simpa using Bk j (by omega) hj⟩
   rw[this]
  ·have hq:=ne_of_beq_false hq;refine Ae ⟨by omega,by omega⟩ ?_;refine hK (l.length - (i + 1)) _ _ _ (by omega) ⟨rfl,rfl,i + 1,by omega,rfl,rfl,λk hk hki=>?_⟩;by_cases c:k = i
   ·subst c;exact hq
   ·exact Bk k hk (by omega)
 ·have hc:¬ i < l.length:=by have:=z_g hc;omega
  refine BW ?_;have:l.findIdx? (λt=>t.at_ == a) = none:=by
   rw[List.findIdx?_eq_none_iff];intro x hx;obtain⟨k,hk,rfl⟩:=List.getElem_of_mem hx;have:=Bk k hk (by omega);simpa using this
  unfold SB;rw[this]
theorem It {l:List Ap} {a:Int} {t:Ap} (h:G6 l a = some t):∃(i:Nat) (hi:i < l.length),SB l a = i∧l[i] = t:=by
 unfold G6 at h;have h2:(l.findIdx? λt=>t.at_ == a)≠none:=by
  intro hn;rw[List.findIdx?_eq_none_iff] at hn;have:=List.find?_some h;have hm:=List.mem_of_find?_eq_some h;rw[hn t hm] at this;cases this
 cases hi:l.findIdx? (λt=>t.at_ == a) with
 | none=>exact absurd hi h2
 | some i=>
  have hi2:=hi;rw[List.findIdx?_eq_some_iff_getElem] at hi2;obtain⟨hlt,hp,Bk⟩:=hi2;refine⟨i,hlt,by unfold SB;rw[hi],?_⟩;have:l.find? (λt=>t.at_ == a) = some l[i]:=by
   rw[List.find?_eq_some_iff_getElem];exact⟨hp,i,hlt,rfl,λj hj=>by simpa using Bk j hj⟩
  rw[this] at h;exact (Option.some.injEq _ _).mp h
theorem Is {R:RM} {D:Chs} {v:Value} {l:List Ap} {a x:Int} (h:Tgs R v l) (hl:l.length < 1000000000000) (hx:now l a = some x):Ro LJ [v,I a] (I x) R D:=by
 refine QO λF=>?_
 unfold LU;unfold now at hx;refine jeq (jif (λh0=>?_) (λh0=>?_))
 ·rw[if_pos (eq_of_beq h0)] at hx;simp only[Option.some.injEq] at hx;exact BW (by rw[hx])
 ·rw[if_neg (ne_of_beq_false h0)] at hx;obtain⟨t,ht,rfl⟩:=Option.map_eq_some_iff.1 hx;obtain⟨i,hi,hp,rfl⟩:=It ht;refine jro (GU a h hl) ?_;rw[hp];refine jtg h hi λb o t cs rv nv _ _ hb ho hrow=>?_
  refine jfo (jlr (v:=I (l[i]).moved) hb (CN hrow (f:=1) rfl) ?_);exact BW rfl
end Go.Lf
end
section
namespace Go.Lf
open Go Sm
def eSt (s:Sm.CP) (wv tv mv thv ov pv:Value):List Value:=[wv,tv,mv,I s.Ac,.bool s.stop,.bool s.full,.bool s.Af,I s.want,thv,ov,pv,I s.Ar,I s.BU]
def Rgs (R:RM) (v:Value) (t:List Rg):Prop:=Fz R v 5 t.length (AY eRg t)
def Bls (R:RM) (v:Value) (l:List Bool):Prop:=Fz R v 1 l.length (l.map Value.bool)
def Cb (R:RM) (row:List Value) (t:Th):Prop:=∃rv,row = [rv,I t.next,.bool t.busy,I t.BE]∧B8 R rv t.AB
def Ths (R:RM) (v:Value) (l:List Th):Prop:=∃rows,Rw (Cb R) rows l∧Fz R v 4 rows.length rows.flatten
structure StC (R:RM) (s:Sm.CP) (wv tv mv thv ov pv:Value):Prop where
 w:B8 R wv s.A7
 t:Rgs R tv s.A0
 m:Bls R mv s.AR
 th:Ths R thv s.AD
 o:B8 R ov s.old
 p:B8 R pv s.AT
theorem Cb.le {R R' : RM} {row:List Value} {t:Th} (h:R.le R') (H:Cb R row t):Cb R' row t:=by
 obtain⟨rv,h1,h2⟩:=H;exact⟨rv,h1,h2.le h⟩
theorem Cb.len {R:RM} {row:List Value} {t:Th} (H:Cb R row t):row.length = 4:=by obtain⟨rv,rfl,h2⟩:=H;rfl
theorem Cb.flat {R:RM} {row:List Value} {t:Th} (H:Cb R row t):C4 row = true:=by
 obtain⟨rv,rfl,h2⟩:=H;obtain⟨_,_,rfl⟩:=h2.sl;rfl
theorem Ths.le {R R' : RM} {v:Value} {l:List Th} (h:R.le R') (H:Ths R v l):Ths R' v l:=by
 obtain⟨rows,h1,h2⟩:=H;exact⟨rows,h1.mono λ_ _=>Cb.le h,h2.le h⟩
theorem Ths.sl {R:RM} {v:Value} {l:List Th} (H:Ths R v l):∃a c,v = .slice a l.length c:=by
 obtain⟨rows,h1,h2⟩:=H;obtain⟨a,cap,e,-⟩:=Fz.reads (D:=[]) h2;exact⟨a,cap,by rw[e,h1.1]⟩
theorem Fz.sl {R:RM} {v:Value} {w n:Nat} {cells:List Value} (H:Fz R v w n cells):∃a c,v = .slice a n c:=by
 obtain⟨a,cap,e,-⟩:=Fz.reads (D:=[]) H;exact⟨a,cap,e⟩
theorem StC.le {R R' : RM} {s:Sm.CP} {wv tv mv thv ov pv:Value} (h:R.le R') (H:StC R s wv tv mv thv ov pv):StC R' s wv tv mv thv ov pv:=
 ⟨H.w.le h,Fz.le h H.t,Fz.le h H.m,H.th.le h,H.o.le h,H.p.le h⟩
theorem Rl (t:List Rg):∀r∈t.map eRg,r.length = 5:=by
 intro r hr;obtain⟨x,_,rfl⟩:=List.mem_map.1 hr;rfl
theorem jrg {R:RM} {D:Chs} {v:Value} {t:List Rg} {i:Nat} {k:Value→M} (h:Rgs R v t) (hi:i < t.length)
  (H:∀b o ty cs,R b = some (C ty cs)→o + 5≤cs.length→(cs.drop o).take 5 = eRg t[i]→J R D (k (.pointer (some ⟨b,o,none⟩)))):J R D (IA 5 v (I (i:Int)) k):=by
 have h' : Fz R v 5 (t.map eRg).length (t.map eRg).flatten:=by rw[List.length_map];exact h
 obtain⟨b,o,cap,ty,cs,rfl,hb,hl,hc⟩:=Lq h' (Rl t) (by simpa using hi);refine jia (by omega) (by rw[List.length_map];omega) ?_;rw[Int.toNat_natCast];exact H b (o + i * 5) ty cs hb hl (by rw[hc,List.getElem_map])
theorem jtr {R:RM} {D:Chs} {v:Value} {l:List Th} {i:Nat} {k:Value→M} (h:Ths R v l) (hi:i < l.length)
  (H:∀b o ty cs rv,B8 R rv (l[i]).AB→R b = some (C ty cs)→o + 4≤cs.length→(cs.drop o).take 4 = [rv,I (l[i]).next,.bool (l[i]).busy,I (l[i]).BE]→J R D (k (.pointer (some ⟨b,o,none⟩)))):J R D (IA 4 v (I (i:Int)) k):=by
 obtain⟨rows,h1,h2⟩:=h;have hi' : i < rows.length:=by rw[h1.1];exact hi
 obtain⟨b,o,cap,ty,cs,rfl,hb,hl,hc⟩:=Lq h2 (h1.all λ_ _=>Cb.len) hi';obtain⟨rv,e,r1⟩:=h1.2 i hi' hi;refine jia (by omega) (by omega) ?_;rw[Int.toNat_natCast];exact H b (o + i * 4) ty cs rv r1 hb hl (by rw[hc,e])
theorem Mz {rows:List (List Value)} (h:∀r∈rows,C4 r = true):C4 rows.flatten = true:=by
 unfold C4 at h ⊢;rw[List.all_eq_true];intro x hx;obtain⟨r,hr,hx⟩:=List.mem_flatten.1 hx;exact List.all_eq_true.1 (h r hr) x hx
theorem N9 {w:List Int}:∀{n:Nat} {a top:Int} {l:List Ap},BM w n a top = some l→l.length≤n
 | 0,a,top,l,h=>by
  unfold BM at h;split at h
  ·cases h
  ·cases h;simp
 | n + 1,a,top,l,h=>by
  unfold BM at h;split at h
  ·dsimp only at h;split at h
   ·split at h
    ·rename_i l2 h2;cases h;have:=N9 h2;simp;omega
    ·cases h
   ·cases h
  ·cases h;simp
theorem SM {w:List Int} {r top:Int} {l:List Ap} (h:Bw w r top = some l):l.length≤16:=by
 unfold Bw at h;split at h
 ·exact N9 h
 ·cases h
theorem O4 {R:RM} {s:Sm.CP} {wv tv mv thv ov pv:Value} (h:StC R s wv tv mv thv ov pv) (hw:s.A7.length < 1000000) (ht:s.A0.length < 1000000) :
  Fn P Gt [.agg (eSt s wv tv mv thv ov pv).toArray] R [] (λv R' A=>A = []∧QTs (CB s) v R'):=by
 refine MU λF=>?_
 unfold Gg;refine ja λb=>?_
 rw[show cl (.agg (eSt s wv tv mv thv ov pv).toArray) = eSt s wv tv mv thv ov pv from rfl];refine AI (λvs R' D'=>R.le R'∧∃l v A,CB s = some l∧(∃rows,Rw (ThC R') rows l∧SW B9 6 rows v A)∧D' = A ++ ((b,C AO (eSt s wv tv mv thv ov pv)) :: ([] ++ F))∧vs = [v]) (λK hK=>?_) ?_;rotate_left
 ·rintro e R1 D1 ⟨hR,l,v,A,hl,⟨rows,hrw,so⟩,hD,he⟩;rw[hD];clear hD;simp only[List.map,lc,ln,lj,z_t] at he;simp only[he];refine jfw so (hrw.all λ_ _=>ThC.len) λR2 hR2 hfz=>?_
  refine BV (A:=[]) (hR.trans hR2) ⟨rfl,?_⟩;rw[hl];exact⟨v,⟨rows,hrw.mono λ_ _=>ThC.le hR2,hfz⟩,rfl⟩
 refine AI (λvs R' D'=>R.le R'∧∃l v A,CB s = some l∧(∃rows,Rw (ThC R') rows l∧SW B9 6 rows v A)∧D' = A ++ ((b,C AO (eSt s wv tv mv thv ov pv)) :: ([] ++ F))∧vs = [v]) (λK2 hK2=>?_) ?_;rotate_left
 ·rintro e R1 D1 ⟨hR,l,v,A,hl,so,hD,he⟩;rw[hD];clear hD;simp only[List.map,lc,ln,lj,z_t] at he;simp only[he];exact hK _ _ _ ⟨hR,l,v,A,hl,so,rfl,rfl⟩
 refine jlp (λm vs R' D'=>R.le R'∧∃(i:Nat) (l:List Ap) (v:Value) (A:Chs) (rows:List (List Value)),1≤i∧i≤s.A0.length + 1∧l.length≤16 * i∧(match CF s.A7 i (s.A0.drop i) with | none=>none | some l2=>some (l ++ l2)) = CB s∧Rw (ThC R') rows l∧SW B9 6 rows v A∧D' = A ++ ((b,C AO (eSt s wv tv mv thv ov pv)) :: ([] ++ F))∧vs = [.pointer (some ⟨b,0,none⟩),v,I i]∧m = s.A0.length + 1 - i)
  (n:=s.A0.length) ⟨RM.le.refl R,1,[],.slice none 0 0,[],[],by omega,by omega,by simp,by unfold CB;rw[List.drop_one];cases CF s.A7 1 s.A0.tail<;>rfl,Rw.nil,.inl ⟨rfl,rfl,rfl⟩,rfl,rfl,by omega⟩ ?_
 rintro m e R1 D1 K3 ⟨hR,i,l,v,A,rows,hi0,hi1,hll,hth,hrw,so,hD,he,hm⟩ hK3;rw[hD];clear hD;simp only[List.map,lc,ln,lj,z_t] at he;simp only[he];have h1:=h.le hR;refine jl (v:=tv) rfl (Ci h1.t.sl (jlt (jif (λhc=>?_) (λhc=>?_))));rotate_left
 ·have hc:=z_g hc;refine hK2 _ _ _ ⟨hR,l,v,A,?_,⟨rows,hrw,so⟩,rfl,rfl⟩;rw[← hth,List.drop_eq_nil_of_le (by omega)];simp[CF]
 have hc:i < s.A0.length:=by have:=z_f hc;omega
 rw[List.drop_eq_getElem_cons hc] at hth;unfold CF at hth;refine jl (v:=wv) rfl (jl (v:=tv) rfl (jrg h1.t hc λb2 o2 ty cs hb ho hrow=>?_));refine jfo (jlr (v:=I (s.A0[i]).top) hb (CN hrow (f:=2) rfl) ?_);refine jc (A:=[]) (P6 i (s.A0[i]).top h1.w (by omega)) ?_;rintro _ R2 _ hR2 ⟨rfl,hq⟩;cases hti:Bw s.A7 i (s.A0[i]).top with
 | none=>
  rw[hti] at hq hth;subst hq;refine jex rfl (jex rfl (FK ?_));refine BV (A:=[]) (hR.trans hR2) ⟨rfl,?_⟩;rw[← hth];exact rfl
 | some l1=>
  rw[hti] at hq hth;obtain⟨tv1,⟨rows1,hrw1,hfz1⟩,rfl⟩:=hq;refine Q6 (jex rfl (jex rfl (Cy ?_)));obtain⟨xa,cx,hxv,hx⟩:=Fz.reads (D:=A ++ ((b,C AO (eSt s wv tv mv thv ov pv)) :: ([] ++ F))) hfz1;rw[hxv];have hrl:=hrw.1;have hrl1:=hrw1.1;have hl1:=SM hti;refine jaw so (hrw.all λ_ _=>ThC.len) (hrw1.all λ_ _=>ThC.len) rfl (Mz (hrw1.all λ_ _=>ThC.flat)) rfl (by decide) (by omega) hx λv' A' so'=>?_
  refine Ae ⟨by omega,by omega⟩ ?_;refine hK3 (s.A0.length + 1 - (i + 1)) _ _ _ (by omega) ⟨hR.trans hR2,i + 1,l ++ l1,v',A',rows ++ rows1,by omega,by omega,by rw[List.length_append];omega,?_,(hrw.mono λ_ _=>ThC.le hR2).app hrw1,so',rfl,rfl,rfl⟩;rw[← hth];cases CF s.A7 (i + 1) (s.A0.drop (i + 1)) with
  | none=>rfl
  | some l2=>simp
theorem Jr {R:RM} {D:Chs} {s:Sm.CP} {wv tv mv thv ov pv:Value} (r:Int) (h:StC R s wv tv mv thv ov pv) (hp:∀a∈s.AT,Aa a≤9223372036854775807) (hl:s.AT.length < 1000000) :
  Ro JZ [.agg (eSt s wv tv mv thv ov pv).toArray,I r] (.bool (Bt s.AT r)) R D:=by
 refine OA λF=>?_
 unfold Jt;refine ja λb=>?_
 rw[show cl (.agg (eSt s wv tv mv thv ov pv).toArray) = eSt s wv tv mv thv ov pv from rfl];refine jlp (λm vs R' D'=>R' = R∧D' = (b,C AO (eSt s wv tv mv thv ov pv)) :: (D ++ F)∧∃i:Nat,i≤s.AT.length∧vs = [I r,.pointer (some ⟨b,0,none⟩),I i]∧m = s.AT.length - i∧Bt (s.AT.drop i) r = Bt s.AT r)
  (n:=s.AT.length) ⟨rfl,rfl,0,by omega,rfl,by omega,by rw[List.drop_zero]⟩ ?_
 rintro m e R1 D1 K ⟨hR1,hD,i,hi,he,hm,Bk⟩ hK;subst hR1;rw[hD];clear hD;simp only[List.map,lc,ln,lj,z_t] at he;simp only[he];refine jl (v:=pv) rfl (Ci h.p.sl (jlt (jif (λhc=>?_) (λhc=>?_))))
 ·have hc:i < s.AT.length:=by have:=z_f hc;omega
  refine jl (v:=pv) rfl (CR h.p (by omega) (by omega) ?_);rw[getElem_congr_idx (Int.toNat_natCast i)];rw[List.drop_eq_getElem_cons hc] at Bk;refine jp (Co _ (hp _ (List.getElem_mem hc))) (jeq (jif (λhq=>?_) (λhq=>?_)))
  ·refine BW ?_;rw[← Bk];unfold Bt;rw[List.any_cons,hq,Bool.true_or]
  ·refine Ae ⟨by omega,by omega⟩ ?_;refine hK (s.AT.length - (i + 1)) _ _ _ (by omega) ⟨rfl,rfl,i + 1,by omega,rfl,rfl,?_⟩;rw[← Bk];unfold Bt;rw[List.any_cons,hq,Bool.false_or]
 ·have hc:¬ i < s.AT.length:=by have:=z_g hc;omega
  refine BW ?_;rw[← Bk,List.drop_eq_nil_of_le (by omega)];rfl
end Go.Lf
end
section
namespace Go.Lf
open Go Sm
theorem K9 (had:List Int) (a:Int):had.length≤(DV had a).length:=by
 unfold DV;split<;>simp
theorem Dt {l:List Ap}:∀{xs acc r:List Int},E0 l xs acc = some r→acc.length≤r.length
 | [],acc,r,h=>by cases h;exact z_n _
 | x :: xs,acc,r,h=>by
  unfold E0 at h;obtain⟨y,_,h⟩:=AC h;have:=Dt h;have:=K9 acc y;omega
theorem Gj {l:List Ap}:∀{ts:List Th} {acc r:List Int},Dd l ts acc = some r→acc.length≤r.length
 | [],acc,r,h=>by cases h;exact z_n _
 | x :: xs,acc,r,h=>by
  unfold Dd at h;obtain⟨y,h1,h⟩:=AC h;have:=Dt h1;have:=Gj h;omega
theorem JU:∀(ps acc:List Int),acc.length≤(ps.foldl DV acc).length
 | [],acc=>z_n _
 | p :: ps,acc=>by
  have h1:=K9 acc p;have h2:=JU ps (DV acc p);rw[List.foldl_cons];omega
theorem F6 {l:List Ap}:∀{n i:Nat} {out r:List Int},DN l n i out = some r→out.length≤r.length∧r.length + 1≤i + n
 | 0,i,out,r,h=>by cases h
 | n + 1,i,out,r,h=>by
  unfold DN at h;split at h
  ·rename_i hn;cases h;have:=List.getElem?_eq_none_iff.1 hn;exact⟨z_n _,by omega⟩
  ·obtain⟨t,_,h⟩:=AC h;obtain⟨y,h1,h⟩:=AC h;have:=Dt h1;obtain⟨h2,h3⟩:=F6 h;exact⟨by omega,by omega⟩
theorem Ht {s:Sm.CP} {l:List Ap} {r:List Int} (h:Ed s l = some r):r.length≤l.length + 1:=by
 unfold Ed at h;obtain⟨y,_,h⟩:=AC h;have:=(F6 h).2;omega
theorem PS {acc:List Int} {x:Int} {R:RM} {D:Chs} {v:Value} {A:Chs} (c:((x != 0) && decide (Bg acc x < 0)) = false) (so:SO acc v A):SO (DV acc x) v A:=by
 unfold DV;rw[if_pos]
 ·exact so
 ·unfold Bg at c;by_cases h:x = 0
  ·exact .inl h
  ·by_cases hm:x∈acc
   ·exact .inr hm
   ·rw[if_neg hm] at c;simp[h] at c
theorem Ld {acc:List Int} {x:Int} (c:((x != 0) && decide (Bg acc x < 0)) = true):DV acc x = acc ++ [x]:=by
 unfold DV;rw[if_neg];simp only[z_b,bne_iff_ne,ne_eq,z_d] at c;rintro (h | h)
 ·exact c.1 h
 ·unfold Bg at c;rw[if_pos h] at c;omega
theorem Mb {R:RM} {s:Sm.CP} {wv tv mv thv ov pv lv:Value} {l:List Ap} {AH:List Int} (h:StC R s wv tv mv thv ov pv) (hlv:Tgs R lv l) (hll:l.length < 900000) (hr:Ed s l = some AH) (hn:s.AD.length < 1000000) (hrl:∀t∈s.AD,t.AB.length < 1000000000) (hpl:s.AT.length < 1000000) (hrf:∀t∈l,t.refs.length < 1000000000) :
  Fn P Fh [.agg (eSt s wv tv mv thv ov pv).toArray,lv] R [] (λv _ A=>SO AH v A):=by
 refine L2 λF=>?_
 unfold Fr;have hlen:=Ht hr;unfold Ed at hr;obtain⟨out0,hr0,hr1⟩:=AC hr;have hl1:=(F6 hr1).1;have hl0:=JU s.AT out0;refine ja λb=>?_
 rw[show cl (.agg (eSt s wv tv mv thv ov pv).toArray) = eSt s wv tv mv thv ov pv from rfl];generalize hE:((b,C AO (eSt s wv tv mv thv ov pv)) :: ([] ++ F)) = E;have ea:At E b (C AO (eSt s wv tv mv thv ov pv)):=by rw[← hE];exact inferInstance
 have ef:Sf E F:=by rw[← hE];exact inferInstance
 refine AI (λvs R' D'=>R' = R∧∃v A,SO out0 v A∧D' = A ++ E∧vs = [lv,.pointer (some ⟨b,0,none⟩),v]) (λK hK=>?_) ?_
 ·refine AI (λvs R' D'=>R' = R∧∃v A,SO out0 v A∧D' = A ++ E∧vs = [lv,.pointer (some ⟨b,0,none⟩),v]) (λK2 hK2=>?_) ?_;rotate_left
  ·rintro e R1 D1 ⟨hR,v,A,so,hD,he⟩;rw[hD];clear hD;simp only[List.map,lc,ln,lj,z_t] at he;simp only[he];exact hK _ _ _ ⟨hR,v,A,so,rfl,rfl⟩
  refine jlp (λm vs R' D'=>R' = R∧∃(i:Nat) (acc:List Int) (v:Value) (A:Chs),i≤s.AD.length∧Dd l (s.AD.drop i) acc = some out0∧SO acc v A∧D' = A ++ E∧vs = [lv,.pointer (some ⟨b,0,none⟩),v,I i]∧m = s.AD.length - i)
   (n:=s.AD.length) ⟨rfl,0,[],.slice none 0 0,[],by omega,hr0,.inl ⟨rfl,rfl,rfl⟩,rfl,rfl,by omega⟩ ?_
  rintro m e R1 D1 K3 ⟨hR,i,acc,v,A,hi,hra,so,hD,he,hm⟩ hK3;subst hR;rw[hD];clear hD;simp only[List.map,lc,ln,lj,z_t] at he;simp only[he];refine jl (v:=thv) rfl (Ci h.th.sl (jlt (jif (λhc=>?_) (λhc=>?_))));rotate_left
  ·have hc:=z_g hc;rw[List.drop_eq_nil_of_le (by omega)] at hra;cases hra;exact hK2 _ _ _ ⟨rfl,v,A,so,rfl,rfl⟩
  have hc:i < s.AD.length:=by have:=z_f hc;omega
  rw[List.drop_eq_getElem_cons hc] at hra;unfold Dd at hra;obtain⟨acc1,hna,hra⟩:=AC hra;have hl2:=Gj hra;have hri:=hrl _ (List.getElem_mem hc);refine AI (λvs R' D'=>R' = R1∧∃v A,SO acc1 v A∧D' = A ++ E∧vs = [lv,.pointer (some ⟨b,0,none⟩),v,I i]) (λK4 hK4=>?_) ?_;rotate_left
  ·rintro e R2 D2 ⟨hR,v,A,so,hD,he⟩;subst hR;rw[hD];clear hD;simp only[List.map,lc,ln,lj,z_t] at he;simp only[he];refine Ae ⟨by omega,by omega⟩ ?_;exact hK3 (s.AD.length - (i + 1)) _ _ _ (by omega) ⟨rfl,i + 1,acc1,v,A,by omega,hra,so,rfl,rfl,rfl⟩
  refine AI (λvs R' D'=>R' = R1∧∃v A,SO acc1 v A∧D' = A ++ E∧vs = [lv,.pointer (some ⟨b,0,none⟩),v,I i]) (λK5 hK5=>?_) ?_;rotate_left
  ·rintro e R2 D2 ⟨hR,v,A,so,hD,he⟩;rw[hD];clear hD;simp only[List.map,lc,ln,lj,z_t] at he;simp only[he];exact hK4 _ _ _ ⟨hR,v,A,so,rfl,rfl⟩
  refine AI (λvs R' D'=>R' = R1∧∃v A,SO acc1 v A∧D' = A ++ E∧vs = [lv,.pointer (some ⟨b,0,none⟩),v,I i]) (λK6 hK6=>?_) ?_;rotate_left
  ·rintro e R2 D2 ⟨hR,v,A,so,hD,he⟩;rw[hD];clear hD;simp only[List.map,lc,ln,lj,z_t] at he;simp only[he];exact hK5 _ _ _ ⟨hR,v,A,so,rfl,rfl⟩
  refine jlp (λm vs R' D'=>R' = R1∧∃(j:Nat) (acc:List Int) (v:Value) (A:Chs),j≤(s.AD[i]).AB.length∧E0 l ((s.AD[i]).AB.drop j) acc = some acc1∧SO acc v A∧D' = A ++ E∧vs = [lv,.pointer (some ⟨b,0,none⟩),v,I i,I j]∧m = (s.AD[i]).AB.length - j)
   (n:=(s.AD[i]).AB.length) ⟨rfl,0,acc,v,A,by omega,hna,so,rfl,rfl,by omega⟩ ?_
  clear hna so;rintro m e R2 D2 K7 ⟨hR,j,acc,v,A,hj,hna,so,hD,he,hm⟩ hK7;subst hR;rw[hD];clear hD;simp only[List.map,lc,ln,lj,z_t] at he;simp only[he];have hl3:=Dt hna;refine jl (v:=thv) rfl (jtr h.th hc λb2 o2 ty cs rv hrv hb ho hrow=>?_);refine jfo (jlr (v:=rv) hb (CN hrow (f:=0) rfl) (Ci hrv.sl (jlt (jif (λhd=>?_) (λhd=>?_)))));rotate_left
  ·have hd:=z_g hd;rw[List.drop_eq_nil_of_le (by omega)] at hna;cases hna;exact hK6 _ _ _ ⟨rfl,v,A,so,rfl,rfl⟩
  have hd:j < (s.AD[i]).AB.length:=by have:=z_f hd;omega
  rw[List.drop_eq_getElem_cons hd] at hna;unfold E0 at hna;obtain⟨x,hx,hna⟩:=AC hna;refine AI (λvs R' D'=>R' = R2∧∃v A,SO (DV acc x) v A∧D' = A ++ E∧vs = [lv,.pointer (some ⟨b,0,none⟩),v,I i,I j]) (λK8 hK8=>?_) ?_;rotate_left
  ·rintro e R3 D3 ⟨hR,v,A,so,hD,he⟩;subst hR;rw[hD];clear hD;simp only[List.map,lc,ln,lj,z_t] at he;simp only[he];refine Ae ⟨by omega,by omega⟩ ?_;exact hK7 ((s.AD[i]).AB.length - (j + 1)) _ _ _ (by omega) ⟨rfl,j + 1,_,v,A,by omega,hna,so,rfl,rfl,rfl⟩
  refine AI (λvs R' D'=>R' = R2∧∃v A,SO (DV acc x) v A∧D' = A ++ E∧vs = [lv,.pointer (some ⟨b,0,none⟩),v,I i,I j]) (λK9 hK9=>?_) ?_;rotate_left
  ·rintro e R3 D3 ⟨hR,v,A,so,hD,he⟩;rw[hD];clear hD;simp only[List.map,lc,ln,lj,z_t] at he;simp only[he];exact hK8 _ _ _ ⟨hR,v,A,so,rfl,rfl⟩
  refine jl (v:=thv) rfl (jtr h.th hc λb2 o2 ty cs rv hrv hb ho hrow=>?_);refine jfo (jlr (v:=rv) hb (CN hrow (f:=0) rfl) (CR hrv (by omega) (by omega) ?_));rw[getElem_congr_idx (Int.toNat_natCast j)];refine jro (Is hlv (by omega) hx) ?_;obtain⟨sa,sn,sc,hsl⟩:=so.sl;refine jan [lv,.pointer (some ⟨b,0,none⟩),v,I i,I j,I x] (((x != 0)) && (decide (Bg acc x < 0))) (λK' hK'=>?_) (λe c u ho he=>?_)
  ·refine jne (Bl (λh1=>?_) (λh1=>?_))
   ·refine jro (GW x so.rd (by omega)) (jlt (hK' _ _ _ (h1▸As) (by rw[h1,Bool.true_and])))
   ·exact hK' _ _ _ (h1▸Au) (by rw[h1,Bool.false_and])
  simp only[List.map,lc,ln,lj,z_t] at he;simp only[he];rw[ho];refine jif (λh0=>?_) (λh0=>?_)
  ·refine jbs (cs:=[I x]) rfl rfl λb1=>?_
   refine FW (A:=A) so (by omega) λv' A' so'=>?_
   exact hK9 _ _ _ ⟨rfl,v',A',by rw[Ld h0];exact so',rfl,rfl⟩
  ·exact hK9 _ _ _ ⟨rfl,v,A,PS (R:=R2) (D:=[]) h0 so,rfl,rfl⟩
 rintro e R1 D1 ⟨hR,v,A,so,hD,he⟩;subst hR;rw[hD];clear hD;simp only[List.map,lc,ln,lj,z_t] at he;simp only[he];generalize hou:s.AT.foldl DV out0 = out1 at hr1 hl1 hl0;refine AI (λvs R' D'=>R' = R1∧∃v A,SO out1 v A∧D' = A ++ E∧vs = [lv,v]) (λK hK=>?_) ?_
 ·refine AI (λvs R' D'=>R' = R1∧∃v A,SO out1 v A∧D' = A ++ E∧vs = [lv,v]) (λK2 hK2=>?_) ?_;rotate_left
  ·rintro e R1 D1 ⟨hR,v,A,so,hD,he⟩;rw[hD];clear hD;simp only[List.map,lc,ln,lj,z_t] at he;simp only[he];exact hK _ _ _ ⟨hR,v,A,so,rfl,rfl⟩
  refine jlp (λm vs R' D'=>R' = R1∧∃(i:Nat) (acc:List Int) (v:Value) (A:Chs),i≤s.AT.length∧(s.AT.drop i).foldl DV acc = out1∧SO acc v A∧D' = A ++ E∧vs = [lv,.pointer (some ⟨b,0,none⟩),v,I i]∧m = s.AT.length - i)
   (n:=s.AT.length) ⟨rfl,0,out0,v,A,by omega,hou,so,rfl,rfl,by omega⟩ ?_
  rintro m e R1 D1 K3 ⟨hR,i,acc,v,A,hi,hra,so,hD,he,hm⟩ hK3;subst hR;rw[hD];clear hD;simp only[List.map,lc,ln,lj,z_t] at he;simp only[he];refine jl (v:=pv) rfl (Ci h.p.sl (jlt (jif (λhc=>?_) (λhc=>?_))));rotate_left
  ·have hc:=z_g hc;rw[List.drop_eq_nil_of_le (by omega),List.foldl_nil] at hra;subst hra;exact hK2 _ _ _ ⟨rfl,v,A,so,rfl,rfl⟩
  have hc:i < s.AT.length:=by have:=z_f hc;omega
  rw[List.drop_eq_getElem_cons hc,List.foldl_cons] at hra;have hl2:=JU (s.AT.drop (i + 1)) (DV acc s.AT[i]);have hl3:=K9 acc s.AT[i];rw[hra] at hl2;refine jl (v:=pv) rfl (CR h.p (by omega) (by omega) ?_);rw[getElem_congr_idx (Int.toNat_natCast i)];refine jc (A:=A) (Tp _ so (by omega)) ?_;rintro v' R2 A' hR2 ⟨hRR,so'⟩;subst hRR;refine Ae ⟨by omega,by omega⟩ ?_;exact hK3 (s.AT.length - (i + 1)) _ _ _ (by omega) ⟨rfl,i + 1,_,v',A',by omega,hra,so',rfl,rfl,rfl⟩
 clear so hr0;rintro e R2 D2 ⟨hR,v,A,so,hD,he⟩;subst hR;rw[hD];clear hD;simp only[List.map,lc,ln,lj,z_t] at he;simp only[he];refine AI (λvs R' D'=>R' = R2∧∃v A,SO AH v A∧D' = A ++ E∧vs = [v]) (λK hK=>?_) ?_;rotate_left
 ·rintro e R3 D3 ⟨hR,v,A,so,hD,he⟩;subst hR;rw[hD];clear hD;simp only[List.map,lc,ln,lj,z_t] at he;simp only[he];exact BV (A:=A) (RM.le.refl R3) so
 refine AI (λvs R' D'=>R' = R2∧∃v A,SO AH v A∧D' = A ++ E∧vs = [v]) (λK2 hK2=>?_) ?_;rotate_left
 ·rintro e R3 D3 ⟨hR,v,A,so,hD,he⟩;rw[hD];clear hD;simp only[List.map,lc,ln,lj,z_t] at he;simp only[he];exact hK _ _ _ ⟨hR,v,A,so,rfl,rfl⟩
 refine jlp (λm vs R' D'=>R' = R2∧∃(k:Nat) (acc:List Int) (v:Value) (A:Chs),DN l m k acc = some AH∧SO acc v A∧D' = A ++ E∧vs = [lv,v,I k])
  (n:=l.length + 2) ⟨rfl,0,out1,v,A,hr1,so,rfl,rfl⟩ ?_
 clear so;rintro m e R3 D3 K3 ⟨hR,i,acc,v,A,hra,so,hD,he⟩ hK3;subst hR;rw[hD];clear hD;simp only[List.map,lc,ln,lj,z_t] at he;simp only[he];obtain⟨hl2,hl3⟩:=F6 hra;obtain⟨m,rfl⟩:∃k,m = k + 1:=by
  cases m with
  | zero=>cases hra
  | succ m=>exact⟨m,rfl⟩
 unfold DN at hra;obtain⟨hsl,hrd⟩:=so.rd (R:=R3) (E:=E);refine Ci hsl (jlt (jif (λhc=>?_) (λhc=>?_)));rotate_left
 ·have hc:=z_g hc;rw[List.getElem?_eq_none (by omega)] at hra;cases hra;exact hK2 _ _ _ ⟨rfl,v,A,so,rfl,rfl⟩
 have hc:i < acc.length:=by have:=z_f hc;omega
 rw[List.getElem?_eq_getElem hc] at hra;obtain⟨t,ht,hra⟩:=AC hra;obtain⟨acc1,hna,hra⟩:=AC hra;have hl4:=(F6 hra).1;refine AI (λvs R' D'=>R' = R3∧∃v A,SO acc1 v A∧D' = A ++ E∧vs = [lv,v,I i]) (λK4 hK4=>?_) ?_;rotate_left
 ·rintro e R2 D2 ⟨hR,v,A,so,hD,he⟩;subst hR;rw[hD];clear hD;simp only[List.map,lc,ln,lj,z_t] at he;simp only[he];refine Ae ⟨by omega,by omega⟩ ?_;exact hK3 m _ _ _ (by omega) ⟨rfl,i + 1,acc1,v,A,hra,so,rfl,rfl⟩
 refine AI (λvs R' D'=>R' = R3∧∃v A,SO acc1 v A∧D' = A ++ E∧vs = [lv,v,I i]) (λK5 hK5=>?_) ?_;rotate_left
 ·rintro e R2 D2 ⟨hR,v,A,so,hD,he⟩;rw[hD];clear hD;simp only[List.map,lc,ln,lj,z_t] at he;simp only[he];exact hK4 _ _ _ ⟨hR,v,A,so,rfl,rfl⟩
 refine Aw (D':=(A ++ E) ++ []) (by rw[List.append_nil]) (hrd [] i hc _ ?_);rw[List.append_nil];obtain⟨n,hn2,hp,rfl⟩:=It ht;refine jro (GU _ hlv (by omega)) ?_;rw[hp];refine jtg hlv hn2 λb2 o2 ty cs rv nv hrv hnv hb ho hrow=>?_
 have hrfn:=hrf _ (List.getElem_mem hn2);obtain⟨ra,rc,rfl⟩:=hrv.sl;obtain⟨na,nc,rfl⟩:=hnv.sl;refine PC hb ho hrow ?_;refine ja λb3=>?_
 refine js (cs':=eTh l[n] (.slice ra l[n].refs.length rc) (.slice na l[n].nums.length nc)) rfl rfl (by exact z_n 6) rfl ?_;refine Aw List.perm_middle.symm ?_;refine AI (λvs R' D'=>R' = R3∧∃v A,SO acc1 v A∧D' = A ++ E∧vs = [lv,v,I i]) (λK6 hK6=>?_) ?_;rotate_left
 ·rintro e R2 D2 ⟨hR,v,A,so,hD,he⟩;rw[hD];clear hD;simp only[List.map,lc,ln,lj,z_t] at he;simp only[he];exact hK5 _ _ _ ⟨hR,v,A,so,rfl,rfl⟩
 refine jlp (λm vs R' D'=>R' = R3∧∃(j:Nat) (acc:List Int) (v:Value) (A:Chs),j≤(l[n]).refs.length∧E0 l ((l[n]).refs.drop j) acc = some acc1∧SO acc v A∧D' = A ++ ((b3,C B9 (eTh l[n] (.slice ra l[n].refs.length rc) (.slice na l[n].nums.length nc))) :: E)∧vs = [lv,v,I i,.pointer (some ⟨b3,0,none⟩),I j]∧m = (l[n]).refs.length - j)
  (n:=(l[n]).refs.length) ⟨rfl,0,acc,v,A,by omega,hna,so,rfl,rfl,by omega⟩ ?_
 clear hna so hrd;rintro m2 e R2 D2 K7 ⟨hR,j,acc,v,A,hj,hna,so,hD,he,hm⟩ hK7;subst hR;rw[hD];clear hD;simp only[List.map,lc,ln,lj,z_t] at he;simp only[he];have hl5:=Dt hna;refine jl (v:=.slice ra l[n].refs.length rc) rfl (jln (jlt (jif (λhd=>?_) (λhd=>?_))));rotate_left
 ·have hd:=z_g hd;rw[List.drop_eq_nil_of_le (by omega)] at hna;cases hna;refine Av A (G:=E) ?_;exact hK6 _ _ _ ⟨rfl,v,A,so,rfl,rfl⟩
 have hd:j < (l[n]).refs.length:=by have:=z_f hd;omega
 rw[List.drop_eq_getElem_cons hd] at hna;unfold E0 at hna;obtain⟨x,hx,hna⟩:=AC hna;refine AI (λvs R' D'=>R' = R2∧∃v A,SO (DV acc x) v A∧D' = A ++ ((b3,C B9 (eTh l[n] (.slice ra l[n].refs.length rc) (.slice na l[n].nums.length nc))) :: E)∧vs = [lv,v,I i,.pointer (some ⟨b3,0,none⟩),I j]) (λK8 hK8=>?_) ?_;rotate_left
 ·rintro e R3 D3 ⟨hR,v,A,so,hD,he⟩;subst hR;rw[hD];clear hD;simp only[List.map,lc,ln,lj,z_t] at he;simp only[he];refine Ae ⟨by omega,by omega⟩ ?_;exact hK7 ((l[n]).refs.length - (j + 1)) _ _ _ (by omega) ⟨rfl,j + 1,_,v,A,by omega,hna,so,rfl,rfl,rfl⟩
 refine AI (λvs R' D'=>R' = R2∧∃v A,SO (DV acc x) v A∧D' = A ++ ((b3,C B9 (eTh l[n] (.slice ra l[n].refs.length rc) (.slice na l[n].nums.length nc))) :: E)∧vs = [lv,v,I i,.pointer (some ⟨b3,0,none⟩),I j]) (λK9 hK9=>?_) ?_;rotate_left
 ·rintro e R3 D3 ⟨hR,v,A,so,hD,he⟩;rw[hD];clear hD;simp only[List.map,lc,ln,lj,z_t] at he;simp only[he];exact hK8 _ _ _ ⟨hR,v,A,so,rfl,rfl⟩
 refine jl (v:=.slice ra l[n].refs.length rc) rfl (CR hrv (by omega) (by omega) ?_);rw[getElem_congr_idx (Int.toNat_natCast j)];refine jro (Is hlv (by omega) hx) ?_;obtain⟨sa,sn,sc,hsl⟩:=so.sl;refine jan [lv,v,I i,.pointer (some ⟨b3,0,none⟩),I j,I x] (((x != 0)) && (decide (Bg acc x < 0))) (λK' hK'=>?_) (λe c u ho he=>?_)
 ·refine jne (Bl (λh1=>?_) (λh1=>?_))
  ·refine jro (GW x so.rd (by omega)) (jlt (hK' _ _ _ (h1▸As) (by rw[h1,Bool.true_and])))
  ·exact hK' _ _ _ (h1▸Au) (by rw[h1,Bool.false_and])
 simp only[List.map,lc,ln,lj,z_t] at he;simp only[he];rw[ho];refine jif (λh0=>?_) (λh0=>?_)
 ·refine jbs (cs:=[I x]) rfl rfl λb1=>?_
  refine FW (A:=A) so (by omega) λv' A' so'=>?_
  exact hK9 _ _ _ ⟨rfl,v',A',by rw[Ld h0];exact so',rfl,rfl⟩
 ·exact hK9 _ _ _ ⟨rfl,v,A,PS (R:=R2) (D:=[]) h0 so,rfl,rfl⟩
end Go.Lf
end
section
namespace Go.Lf
open Go Sm
theorem Uy {R:RM} {A E:Chs} {l:List Int} {v:Value} {x:Int} {i:Nat} {m:M} (so:SO l v A) (hi:i < l.length) (H:∀A',SO (l.set i x) v A'→J R (A' ++ E) m):J R (A ++ E) (IA 1 v (I (i:Int)) λq=>ST 1 q (I x) m):=by
 rcases so with ⟨rfl,_,_⟩ | ⟨b,c,sp,hc,hsp,rfl,rfl⟩
 ·exact absurd hi (by simp)
 ·refine Bi hi (jsi (l:=l) (sp:=sp) (D':=[(b,C Ab ((l.set i x).map I ++ sp))] ++ E) (by exact hi) ?_);exact H _ (.inr ⟨b,c,sp,by simpa using hc,by simpa using hsp,by rw[List.length_set],rfl⟩)
theorem NU (l:List Int) (x:Int):(Ez l x).length = l.length + 1:=by
 unfold Ez;have:∀k,DK l x k≤k:=by
  intro k;induction k with
  | zero=>exact z_n 0
  | succ k ih=>unfold DK;split<;>omega
 have:=this l.length;simp only[List.length_append,List.length_take,List.length_cons,List.length_drop];omega
theorem Jb:∀(l acc:List Int),(l.foldl Ez acc).length = acc.length + l.length
 | [],acc=>by simp
 | a :: r,acc=>by rw[List.foldl_cons,Jb r,NU];simp;omega
theorem OB {R:RM} {v:Value} {l:List Int} (h:B8 R v l) (hl:l.length < 1000000):Fn P GS [v] R [] (λv' R' A=>R' = R∧SO (Cu l) v' A):=by
 refine M8 λF=>?_
 unfold GZ;refine AI (λvs R' D'=>R' = R∧∃v' A,SO (Cu l) v' A∧D' = A ++ F∧vs = [v']) (λK hK=>?_) ?_;rotate_left
 ·rintro e R3 D3 ⟨hR,v',A,so,hD,he⟩;subst hR;rw[hD];clear hD;simp only[List.map,lc,ln,lj,z_t] at he;simp only[he];exact BV (A:=A) (RM.le.refl R3) ⟨rfl,so⟩
 refine AI (λvs R' D'=>R' = R∧∃v' A,SO (Cu l) v' A∧D' = A ++ F∧vs = [v']) (λK2 hK2=>?_) ?_;rotate_left
 ·rintro e R3 D3 ⟨hR,v',A,so,hD,he⟩;rw[hD];clear hD;simp only[List.map,lc,ln,lj,z_t] at he;simp only[he];exact hK _ _ _ ⟨hR,v',A,so,rfl,rfl⟩
 refine jlp (λm vs R' D'=>R' = R∧∃(k:Nat) (acc:List Int) (v' : Value) (A:Chs),k≤l.length∧acc.length = k∧(l.drop k).foldl Ez acc = Cu l∧SO acc v' A∧D' = A ++ F∧vs = [v,v',I k]∧m = l.length - k)
  (n:=l.length) ⟨rfl,0,[],.slice none 0 0,[],by omega,rfl,rfl,.inl ⟨rfl,rfl,rfl⟩,rfl,rfl,by omega⟩ ?_
 rintro m e R1 D1 K3 ⟨hR,k,acc,v',A,hk,hal,hra,so,hD,he,hm⟩ hK3;subst hR;rw[hD];clear hD;simp only[List.map,lc,ln,lj,z_t] at he;simp only[he];refine Ci h.sl (jlt (jif (λhc=>?_) (λhc=>?_)));rotate_left
 ·have hc:=z_g hc;rw[List.drop_eq_nil_of_le (by omega),List.foldl_nil] at hra;subst hra;exact hK2 _ _ _ ⟨rfl,v',A,so,rfl,rfl⟩
 have hc:k < l.length:=by have:=z_f hc;omega
 rw[List.drop_eq_getElem_cons hc,List.foldl_cons] at hra;refine AI (λvs R' D'=>R' = R1∧∃v' A,SO (Ez acc l[k]) v' A∧D' = A ++ F∧vs = [v,v',I k]) (λK4 hK4=>?_) ?_;rotate_left
 ·rintro e R2 D2 ⟨hR,v',A,so,hD,he⟩;subst hR;rw[hD];clear hD;simp only[List.map,lc,ln,lj,z_t] at he;simp only[he];refine Ae ⟨by omega,by omega⟩ ?_;exact hK3 (l.length - (k + 1)) _ _ _ (by omega) ⟨rfl,k + 1,_,v',A,by omega,by rw[NU,hal],hra,so,rfl,rfl,rfl⟩
 refine AI (λvs R' D'=>R' = R1∧∃v' A,SO (Ez acc l[k]) v' A∧D' = A ++ F∧vs = [v,v',I k]) (λK5 hK5=>?_) ?_;rotate_left
 ·rintro e R2 D2 ⟨hR,v',A,so,hD,he⟩;rw[hD];clear hD;simp only[List.map,lc,ln,lj,z_t] at he;simp only[he];exact hK4 _ _ _ ⟨hR,v',A,so,rfl,rfl⟩
 obtain⟨hsl,-⟩:=so.rd (R:=R1) (E:=F);refine Ci hsl (CR h (by omega) (by omega) ?_);rw[getElem_congr_idx (Int.toNat_natCast k)];generalize l[k] = x at hK5;refine jbs (cs:=[I x]) rfl rfl λb1=>?_
 refine FW (A:=A) so (by omega) λv2 A2 so2=>?_
 refine AI (λvs R' D'=>R' = R1∧∃v' A,SO (Ez acc x) v' A∧D' = A ++ F∧vs = [v,v',I k]) (λK6 hK6=>?_) ?_;rotate_left
 ·rintro e R2 D2 ⟨hR,v',A,so,hD,he⟩;rw[hD];clear hD;simp only[List.map,lc,ln,lj,z_t] at he;simp only[he];exact hK5 _ _ _ ⟨hR,v',A,so,rfl,rfl⟩
 refine jlp (λm vs R' D'=>R' = R1∧∃(i:Nat) (cur:List Int) (A:Chs),i≤acc.length∧cur = acc.take i ++ x :: acc.drop i∧DK acc x i = DK acc x acc.length∧SO cur v2 A∧D' = A ++ F∧vs = [v,v2,I k,I i]∧m = i)
  (n:=acc.length) ⟨rfl,acc.length,acc ++ [x],A2,by omega,by simp,rfl,so2,rfl,rfl,rfl⟩ ?_
 clear so so2;rintro m2 e R2 D2 K7 ⟨hR,i,cur,A,hi,hcur,hip,so,hD,he,hm⟩ hK7;subst hR;rw[hD];clear hD;simp only[List.map,lc,ln,lj,z_t] at he;simp only[he];have hcl:cur.length = acc.length + 1:=by rw[hcur];simp;omega
 obtain⟨-,hrd⟩:=so.rd (R:=R2) (E:=F);have hrd' : ∀(i:Nat) (h:i < cur.length) (k:Value→M),J R2 (A ++ F) (k (I cur[i]))→J R2 (A ++ F) (IA 1 v2 (I (i:Int)) λx=>L1 x k):=λi h k H=>by
  have:=hrd [] i h k (by rw[List.append_nil];exact H);rw[List.append_nil] at this;exact this
 have gi:cur[i]'(by omega) = x:=by
  subst hcur;rw[List.getElem_append_right (by simp;omega)];simp[Nat.min_eq_left hi]
 cases i with
 | zero=>
  refine Ce (jgr ?_);rw[decide_eq_false (by decide)];refine jft (C8 λe he=>?_);simp only[List.map,lc,ln,lj,z_t] at he;simp only[he];refine De (Cy ?_);refine hK6 _ _ _ ⟨rfl,v2,A,?_,rfl,rfl⟩;have:Ez acc x = cur:=by
   unfold Ez;rw[← hip,hcur];rfl
  rw[this];exact so
 | succ i=>
  have gp:cur[i]'(by omega) = acc[i]'(by omega):=by
   subst hcur;rw[List.getElem_append_left (by simp;omega),List.getElem_take]
  obtain⟨y,hy⟩:∃y,acc[i]'(by omega) = y:=⟨_,rfl⟩;rw[hy] at gp;have es:((i + 1:Nat):Int) - 1 = (i:Nat):=by omega
  have hip2:(if x < acc.getD i 0 then DK acc x i else i + 1) = DK acc x acc.length:=hip;rw[List.getD_eq_getElem?_getD,List.getElem?_eq_getElem (by omega),Option.getD_some,hy] at hip2;refine Ce (jgr ?_);rw[decide_eq_true (by omega)];refine jtt (DL ⟨by omega,by omega⟩ ?_);rw[es];refine hrd' i (by omega) _ (hrd' (i + 1) (by omega) _ (jgr (C8 λe he=>?_)));simp only[List.map,lc,ln,lj,z_t] at he;simp only[he];rw[gp,gi];refine Df (jif (λh1=>?_) (λh1=>?_))
  ·have h1:x < y:=z_f h1;rw[if_pos h1] at hip2;refine DL ⟨by omega,by omega⟩ ?_;rw[es];refine hrd' i (by omega) _ (DL ⟨by omega,by omega⟩ ?_);rw[es];refine hrd' (i + 1) (by omega) _ ?_;refine Uy so (by omega) λA3 so3=>?_
   refine Uy so3 (by rw[List.length_set];omega) λA4 so4=>?_
   refine DL ⟨by omega,by omega⟩ ?_;rw[es];rw[gp,gi] at so4;refine hK7 i _ _ _ (by omega) ⟨rfl,i,_,A4,by omega,?_,hip2,so4,rfl,rfl,rfl⟩;have e1:acc.take (i + 1) = acc.take i ++ [y]:=by rw[List.take_succ_eq_append_getElem (by omega),hy]
   have e2:acc.drop i = y :: acc.drop (i + 1):=by rw[List.drop_eq_getElem_cons (by omega),hy]
   have l1:(acc.take i).length = i:=by simp;omega
   rw[hcur,e1,e2,List.append_assoc,List.set_append_right _ _ (by omega),List.set_append_right _ _ (by omega),l1];simp
  ·have h1:¬ x < y:=z_g h1;rw[if_neg h1] at hip2;refine hK6 _ _ _ ⟨rfl,v2,A,?_,rfl,rfl⟩;have:Ez acc x = cur:=by
    unfold Ez;rw[← hip2,hcur]
   rw[this];exact so
end Go.Lf
end
section
namespace Go.Lf
open Go Sm
def TB (l:List Ap):Prop:=∀t∈l,0≤t.at_∧t.at_ < 1000000∧t.refs.length≤4∧t.nums.length≤4
theorem VP {w:List Int} {a:Int} (hl:w.length < 1000000) (h:(Ba w a).2 = true):0≤(Ba w a).1.at_∧(Ba w a).1.at_ < 1000000∧(Ba w a).1.refs.length≤4∧(Ba w a).1.nums.length≤4:=by
 unfold Ba at h ⊢;split at h
 ·rename_i h1;rw[if_pos h1];dsimp only at h ⊢;split at h
  ·rename_i h2;rw[if_pos h2];simp only[z_b] at h2;have:=Hc h2.1;have:=Gf h1;dsimp only;refine⟨by omega,by omega,?_,?_⟩
   ·unfold seg;rw[List.length_take];omega
   ·unfold seg;rw[List.length_take];omega
  ·exact absurd h (by decide)
 ·exact absurd h (by decide)
theorem Pg {w:List Int} (hl:w.length < 1000000):∀{n:Nat} {a top:Int} {l:List Ap},BM w n a top = some l→TB l
 | 0,a,top,l,h=>by
  unfold BM at h;split at h
  ·cases h
  ·cases h;intro t ht;cases ht
 | n + 1,a,top,l,h=>by
  unfold BM at h;split at h
  ·dsimp only at h;split at h
   ·rename_i hc;simp only[z_b] at hc;split at h
    ·rename_i l2 h2;cases h;intro t ht;rcases List.mem_cons.1 ht with rfl | ht
     ·exact VP hl hc.1
     ·exact Pg hl h2 t ht
    ·cases h
   ·cases h
  ·cases h;intro t ht;cases ht
theorem Se {w:List Int} (hl:w.length < 1000000):∀{t:List Rg} {r:Nat} {l:List Ap},CF w r t = some l→TB l∧l.length≤16 * t.length
 | [],r,l,h=>by
  cases h;exact⟨λt ht=>(by cases ht),by simp⟩
 | x :: t,r,l,h=>by
  unfold CF at h;split at h
  ·cases h
  ·rename_i a ha;split at h
   ·cases h
   ·rename_i b hb;cases h;obtain⟨h1,h2⟩:=Se hl hb;have h3:=SM ha;have h4:TB a:=by
     unfold Bw at ha;split at ha
     ·exact Pg hl ha
     ·cases ha
    refine⟨λt ht=>?_,by rw[List.length_append,List.length_cons];omega⟩;rcases List.mem_append.1 ht with ht | ht
    ·exact h4 t ht
    ·exact h1 t ht
theorem Ei {w w' : List Int} {a v:Int} (h:Sm.wr w a v = some w'):0≤a∧a < w.length∧w' = w.set a.toNat v:=by
 unfold Sm.wr at h;split at h
 ·rename_i hc;cases h;exact⟨hc.1,hc.2,rfl⟩
 ·cases h
theorem SQ {R:RM} {s:Sm.CP} {wv tv mv thv ov pv lv:Value} {l:List Ap} {w w' : List Int} {t t' : List Rg} {wsp tsp:List Value} {bw cw bt ct:Nat} (h:StC R s wv tv mv thv ov pv) (hlv:Tgs R lv l) (htb:TB l) (hll:l.length < 1000000)
  (hp:∀a∈s.AT,Aa a≤9223372036854775807) (hpl:s.AT.length < 1000000) (hS:stay s l w t = some (w',t')) :
  Fn P JS [.agg (eSt s wv tv mv thv ov pv).toArray,lv,.slice (some ⟨bw,0,none⟩) w.length cw,.slice (some ⟨bt,0,none⟩) t.length ct] R
   [(bw,C Ab (w.map I ++ wsp)),(bt,C AF (AY eRg t ++ tsp))] (λ_ R' A=>R' = R∧w'.length = w.length∧t'.length = t.length∧A = [(bw,C Ab (w'.map I ++ wsp)),(bt,C AF (AY eRg t' ++ tsp))]):=by
 refine OV λF=>?_
 unfold KJ;refine ja λb=>?_
 rw[show cl (.agg (eSt s wv tv mv thv ov pv).toArray) = eSt s wv tv mv thv ov pv from rfl];refine jlp (λm vs R' D'=>R' = R∧∃(i:Nat) (w1:List Int) (t1:List Rg),i≤l.length∧w1.length = w.length∧t1.length = t.length∧stay s (l.drop i) w1 t1 = some (w',t')∧D' = (b,C AO (eSt s wv tv mv thv ov pv)) :: (bw,C Ab (w1.map I ++ wsp)) :: (bt,C AF (AY eRg t1 ++ tsp)) :: F∧vs = [lv,.slice (some ⟨bw,0,none⟩) w.length cw,.slice (some ⟨bt,0,none⟩) t.length ct,.pointer (some ⟨b,0,none⟩),I i]∧m = l.length - i)
  (n:=l.length) ⟨rfl,0,w,t,by omega,rfl,rfl,hS,rfl,rfl,by omega⟩ ?_
 clear hS;rintro m e R1 D1 K ⟨hR,i,w1,t1,hi,hwl,htl,hS,hD,he,hm⟩ hK;subst hR;rw[hD];clear hD;simp only[List.map,lc,ln,lj,z_t] at he;simp only[he];refine Ci hlv.sl (jlt (jif (λhc=>?_) (λhc=>?_)));rotate_left
 ·have hc:=z_g hc;rw[List.drop_eq_nil_of_le (by omega)] at hS;cases hS;refine BV (A:=[(bw,C Ab (w'.map I ++ wsp)),(bt,C AF (AY eRg t' ++ tsp))]) (RM.le.refl R1) ⟨rfl,hwl,htl,rfl⟩
 have hc:i < l.length:=by have:=z_f hc;omega
 rw[List.drop_eq_getElem_cons hc] at hS;obtain⟨a0,a1,r1,n1⟩:=htb _ (List.getElem_mem hc);unfold stay at hS;dsimp only at hS;have hreg:Aa (l[i]).at_≤9223372036854775807:=by unfold Aa;split<;>omega
 refine AI (λvs R' D'=>R' = R1∧∃(w2:List Int) (t2:List Rg),w2.length = w.length∧t2.length = t.length∧stay s (l.drop (i + 1)) w2 t2 = some (w',t')∧D' = (b,C AO (eSt s wv tv mv thv ov pv)) :: (bw,C Ab (w2.map I ++ wsp)) :: (bt,C AF (AY eRg t2 ++ tsp)) :: F∧vs = [lv,.slice (some ⟨bw,0,none⟩) w.length cw,.slice (some ⟨bt,0,none⟩) t.length ct,.pointer (some ⟨b,0,none⟩),I i]) (λK4 hK4=>?_) ?_;rotate_left
 ·rintro e R2 D2 ⟨hR,w2,t2,hwl2,htl2,hS2,hD,he⟩;subst hR;rw[hD];clear hD;simp only[List.map,lc,ln,lj,z_t] at he;simp only[he];refine Ae ⟨by omega,by omega⟩ ?_;exact hK (l.length - (i + 1)) _ _ _ (by omega) ⟨rfl,i + 1,w2,t2,by omega,hwl2,htl2,hS2,rfl,rfl,rfl⟩
 refine AI (λvs R' D'=>R' = R1∧∃(w2:List Int) (t2:List Rg),w2.length = w.length∧t2.length = t.length∧stay s (l.drop (i + 1)) w2 t2 = some (w',t')∧D' = (b,C AO (eSt s wv tv mv thv ov pv)) :: (bw,C Ab (w2.map I ++ wsp)) :: (bt,C AF (AY eRg t2 ++ tsp)) :: F∧vs = [lv,.slice (some ⟨bw,0,none⟩) w.length cw,.slice (some ⟨bt,0,none⟩) t.length ct,.pointer (some ⟨b,0,none⟩),I i]) (λK5 hK5=>?_) ?_;rotate_left
 ·rintro e R2 D2 ⟨hR,w2,t2,hwl2,htl2,hS2,hD,he⟩;rw[hD];clear hD;simp only[List.map,lc,ln,lj,z_t] at he;simp only[he];exact hK4 _ _ _ ⟨hR,w2,t2,hwl2,htl2,hS2,rfl,rfl⟩
 obtain⟨rows,hrw,hfz⟩:=hlv;have hi' : i < rows.length:=by rw[hrw.1];exact hc
 obtain⟨bl,ol,capl,tyl,csl,hlve,hbl,hol,hcl⟩:=Lq hfz (hrw.all λ_ _=>ThC.len) hi';obtain⟨rv,nv,erow,hrv,hnv⟩:=hrw.2 i hi' hc;rw[erow] at hcl;have hlv:Tgs R1 lv l:=⟨rows,hrw,hfz⟩;have ia:∀{D:Chs} {k:Value→M},J R1 D (k (.pointer (some ⟨bl,ol + i * 6,none⟩)))→J R1 D (IA 6 lv (I (i:Int)) k):=λH=>by
  rw[hlve];refine jia (by omega) (by omega) ?_;rw[Int.toNat_natCast];exact H
 have g0:csl[ol + i * 6 + 0]? = some (I (l[i]).at_):=CN hcl (f:=0) rfl;have g4:csl[ol + i * 6 + 4]? = some rv:=CN hcl (f:=4) rfl;have g5:csl[ol + i * 6 + 5]? = some nv:=CN hcl (f:=5) rfl;have g2:(csl.drop (ol + i * 6 + 2)).take 2 = [I (l[i]).sh.refs,I (l[i]).sh.nums]:=by
  have:=congrArg (λx=>(x.drop 2).take 2) hcl;simp only[List.drop_take,List.drop_drop,List.take_take] at this;simpa [eTh] using this
 refine ia (jfo (jlr hbl g0 (jp (Co _ hreg) ?_)));refine jla (t:=AO) (cs:=eSt s wv tv mv thv ov pv) (l:=eSt s wv tv mv thv ov pv) (by exact z_n 13) rfl ?_;refine jro (Jr (Aa (l[i]).at_) h hp hpl) (jif (λhh=>?_) (λhh=>?_));rotate_left
 ·rw[if_neg (by rw[hh];decide)] at hS;exact hK5 _ _ _ ⟨rfl,w1,t1,hwl,htl,hS,rfl,rfl⟩
 rw[if_pos hh] at hS;obtain⟨w2,hw2,hS⟩:=AC hS;obtain⟨w3,hw3,hS⟩:=AC hS;obtain⟨w4,hw4,hS⟩:=AC hS;obtain⟨row,hrow,hS⟩:=AC hS;obtain⟨row2,hrow2,hS⟩:=AC hS;obtain⟨q1,q2,q3⟩:=Ei hw2;obtain⟨q4,q5,q6⟩:=Ei hw3;refine ia (jfo (jlr hbl g0 (ia (jfo (jlr hbl g0 ?_)))));refine jia q1 (by omega) ?_;refine jsi (l:=w1) (sp:=wsp) (by omega) ?_;rw[← q3];refine ia (jfo (jlr hbl g0 (Ae ⟨by omega,by omega⟩ (ia (jfo (PC hbl (by omega) g2 ?_))))));refine jp (Db (l[i]).sh) ?_;have hl2:w2.length = w1.length:=by rw[q3,List.length_set]
 refine jia q4 (by omega) ?_;refine Ah (jlr hbl g0 jev) ?_;refine jsi (l:=w2) (sp:=wsp) (by omega) ?_;rw[← q6];have hl3:w3.length = w2.length:=by rw[q6,List.length_set]
 obtain⟨z0,z1,z2,z3⟩:=Aj hrow;obtain⟨y0,y1,y2,y3⟩:=Aj hrow2;obtain⟨k0,hk0⟩:∃k:Nat,Aa (l[i]).at_ = k:=⟨(Aa (l[i]).at_).toNat,by omega⟩;refine AI (λvs R' D'=>R' = R1∧w4.length = w.length∧D' = (b,C AO (eSt s wv tv mv thv ov pv)) :: (bw,C Ab (w4.map I ++ wsp)) :: (bt,C AF (AY eRg t1 ++ tsp)) :: F∧vs = [lv,.slice (some ⟨bw,0,none⟩) w.length cw,.slice (some ⟨bt,0,none⟩) t.length ct,.pointer (some ⟨b,0,none⟩),I i,I (Aa (l[i]).at_)]) (λK6 hK6=>?_) ?_;rotate_left
 ·rintro e R2 D2 ⟨hR,hwl2,hD,he⟩;subst hR;rw[hD];clear hD;simp only[List.map,lc,ln,lj,z_t] at he;simp only[he];rw[hk0] at hS ⊢;have hk1:k0 < s.A0.length:=by omega
  have hk2:k0 < t1.length:=by omega
  have ez:s.A0[k0] = row:=by rw[← z3];exact getElem_congr_idx (by omega)
  refine jl (v:=tv) rfl (jrg h.t hk1 λb2 o2 ty cs hb ho hrw2=>?_);refine jfo (jlr (v:=I (s.A0[k0]).top) hb (CN hrw2 (f:=2) rfl) ?_);refine jl (v:=tv) rfl (jrg h.t hk1 λb3 o3 ty3 cs3 hb3 ho3 hrw3=>?_);refine jfo (jlr (v:=I (s.A0[k0]).top) hb3 (CN hrw3 (f:=2) rfl) ?_);rw[ez];refine jbd (cs:=eRg ⟨3,-1,row.top,row.top,0⟩) rfl rfl ?_;refine Bi (by omega) (EM (x:=⟨3,-1,row.top,row.top,0⟩) hk2 ?_);exact hK5 _ _ _ ⟨rfl,w4,t1.set k0 ⟨3,-1,row.top,row.top,0⟩,hwl2,by rw[List.length_set];exact htl,by simpa [AV] using hS,rfl,rfl⟩
 refine AI (λvs R' D'=>R' = R1∧w4.length = w.length∧D' = (b,C AO (eSt s wv tv mv thv ov pv)) :: (bw,C Ab (w4.map I ++ wsp)) :: (bt,C AF (AY eRg t1 ++ tsp)) :: F∧vs = [lv,.slice (some ⟨bw,0,none⟩) w.length cw,.slice (some ⟨bt,0,none⟩) t.length ct,.pointer (some ⟨b,0,none⟩),I i,I (Aa (l[i]).at_)]) (λK7 hK7=>?_) ?_;rotate_left
 ·rintro e R2 D2 ⟨hR,hwl2,hD,he⟩;rw[hD];clear hD;simp only[List.map,lc,ln,lj,z_t] at he;simp only[he];exact hK6 _ _ _ ⟨hR,hwl2,rfl,rfl⟩
 refine jlp (λm vs R' D'=>R' = R1∧∃(k:Nat) (w5:List Int),k≤(l[i]).nums.length∧w5.length = w.length∧wrs w5 ((l[i]).at_ + 2 + (l[i]).refs.length + k) ((l[i]).nums.drop k) = some w4∧D' = (b,C AO (eSt s wv tv mv thv ov pv)) :: (bw,C Ab (w5.map I ++ wsp)) :: (bt,C AF (AY eRg t1 ++ tsp)) :: F∧vs = [lv,.slice (some ⟨bw,0,none⟩) w.length cw,.slice (some ⟨bt,0,none⟩) t.length ct,.pointer (some ⟨b,0,none⟩),I i,I (Aa (l[i]).at_),I k]∧m = (l[i]).nums.length - k)
  (n:=(l[i]).nums.length) ⟨rfl,0,w3,by omega,by omega,by simpa using hw4,rfl,rfl,by omega⟩ ?_
 rintro m3 e R2 D2 K8 ⟨hR,k,w5,hk,hwl5,hws,hD,he,hm⟩ hK8;subst hR;rw[hD];clear hD;simp only[List.map,lc,ln,lj,z_t] at he;simp only[he];refine ia (jfo (jlr hbl g5 (Ci hnv.sl (jlt (jif (λhd=>?_) (λhd=>?_))))));rotate_left
 ·have hd:=z_g hd;rw[List.drop_eq_nil_of_le (by omega)] at hws;cases hws;exact hK7 _ _ _ ⟨rfl,hwl5,rfl,rfl⟩
 have hd:k < (l[i]).nums.length:=by have:=z_f hd;omega
 rw[List.drop_eq_getElem_cons hd] at hws;unfold wrs at hws;obtain⟨w6,hw6,hws⟩:=AC hws;obtain⟨p1,p2,p3⟩:=Ei hw6;refine ia (jfo (jlr hbl g0 (Ae ⟨by omega,by omega⟩ (ia (jfo (jlr hbl g4 (Ci hrv.sl (Ae ⟨by omega,by omega⟩ (Ae ⟨by omega,by omega⟩ ?_)))))))));refine ia (jfo (jlr hbl g5 (CR hnv (by omega) (by omega) ?_)));rw[getElem_congr_idx (Int.toNat_natCast k)];refine jia p1 (by omega) ?_;refine jsi (l:=w5) (sp:=wsp) (by omega) ?_;rw[← p3];refine Ae ⟨by omega,by omega⟩ ?_;exact hK8 ((l[i]).nums.length - (k + 1)) _ _ _ (by omega) ⟨rfl,k + 1,w6,by omega,by rw[p3,List.length_set];exact hwl5,by rw[← hws];congr 1;omega,rfl,rfl,rfl⟩
end Go.Lf
end
section
namespace Go.Lf
open Go Sm
theorem Iw (cf:Cfg):Pu GY [.agg #[I cf.AA,I cf.AD,I cf.AJ]] (.bool (BN cf)):=by
 intro R;refine MQ λF=>?_
 unfold H5;refine ja λb=>?_
 rw[show cl (.agg #[I cf.AA,I cf.AD,I cf.AJ]) = [I cf.AA,I cf.AD,I cf.AJ] from rfl];refine jan [.pointer (some ⟨b,0,none⟩)] ((decide (cf.AA≥3)) && (decide (cf.AA≤12))) (λK' hK'=>?_) (λe c u ho he=>?_)
 ·refine jl (v:=I cf.AA) rfl (jge (Bl (λh1=>?_) (λh1=>?_)))
  ·refine jl (v:=I cf.AA) rfl (jle (hK' _ _ _ (h1▸As) (by rw[h1,Bool.true_and])))
  ·exact hK' _ _ _ (h1▸Au) (by rw[h1,Bool.false_and])
 simp only[List.map,lc,ln,lj,z_t] at he;simp only[he];refine jan [.pointer (some ⟨b,0,none⟩)] ((decide (cf.AA≥3) && decide (cf.AA≤12)) && (decide (cf.AD≥1))) (λK' hK'=>?_) (λe c u ho he=>?_)
 ·rw[ho];refine Bl (λh1=>?_) (λh1=>?_)
  ·refine jl (v:=I cf.AD) rfl (jge (hK' _ _ _ (h1▸As) (by rw[h1,Bool.true_and])))
  ·exact hK' _ _ _ (h1▸Au) (by rw[h1,Bool.false_and])
 simp only[List.map,lc,ln,lj,z_t] at he;simp only[he];refine jan [.pointer (some ⟨b,0,none⟩)] ((decide (cf.AA≥3) && decide (cf.AA≤12) && decide (cf.AD≥1)) && (decide (cf.AD≤3))) (λK' hK'=>?_) (λe c u ho he=>?_)
 ·rw[ho];refine Bl (λh1=>?_) (λh1=>?_)
  ·refine jl (v:=I cf.AD) rfl (jle (hK' _ _ _ (h1▸As) (by rw[h1,Bool.true_and])))
  ·exact hK' _ _ _ (h1▸Au) (by rw[h1,Bool.false_and])
 simp only[List.map,lc,ln,lj,z_t] at he;simp only[he];refine jan [.pointer (some ⟨b,0,none⟩)] ((decide (cf.AA≥3) && decide (cf.AA≤12) && decide (cf.AD≥1) && decide (cf.AD≤3)) && (decide (cf.AJ≥0))) (λK' hK'=>?_) (λe c u ho he=>?_)
 ·rw[ho];refine Bl (λh1=>?_) (λh1=>?_)
  ·refine jl (v:=I cf.AJ) rfl (jge (hK' _ _ _ (h1▸As) (by rw[h1,Bool.true_and])))
  ·exact hK' _ _ _ (h1▸Au) (by rw[h1,Bool.false_and])
 simp only[List.map,lc,ln,lj,z_t] at he;simp only[he];refine jan [] ((decide (cf.AA≥3) && decide (cf.AA≤12) && decide (cf.AD≥1) && decide (cf.AD≤3) && decide (cf.AJ≥0)) && (decide (cf.AJ≤100))) (λK' hK'=>?_) (λe c u ho he=>?_)
 ·rw[ho];refine Bl (λh1=>?_) (λh1=>?_)
  ·refine jl (v:=I cf.AJ) rfl (jle (hK' _ _ _ (h1▸As) (by rw[h1,Bool.true_and])))
  ·exact hK' _ _ _ (h1▸Au) (by rw[h1,Bool.false_and])
 simp only[List.map,lc,ln,lj,z_t] at he;simp only[he];rw[ho];exact BV (A:=[]) (RM.le.refl R) rfl
def TF (t:List Rg) (v:Value) (N:Chs):Prop:=if t = [] then v = .tuple #[.slice none 0 0,.bool false]∧N = [] else ∃sv,Tf t sv N∧v = .tuple #[sv,.bool true]
theorem J3 {R:RM} {D:Chs} (n:Int):Mk H9 [I n] R D (TF (AQ n)):=by
 refine MT λF=>?_
 unfold Gx;refine jor [I n] ((decide (n < 2)) || (decide (n > 12))) (λK' hK'=>?_) (λe c u ho he=>?_)
 ·refine jlt (BY (λh1=>?_) (λh1=>?_))
  ·refine jgr (hK' _ _ _ (h1▸Ax) (by rw[h1,Bool.false_or]))
  ·exact hK' _ _ _ (h1▸BA) (by rw[h1,Bool.true_or])
 simp only[List.map,lc,ln,lj,z_t] at he;simp only[he];rw[ho];refine jif (λh0=>?_) (λh0=>?_)
 ·have:AQ n = []:=by
   unfold AQ;rw[if_pos];simpa using h0
  rw[this];exact CX [] ⟨rfl,rfl⟩
 simp only[Bool.or_eq_false_iff,decide_eq_false_iff_not] at h0;obtain⟨k,rfl⟩:∃k:Nat,n = k:=⟨n.toNat,by omega⟩;have ht:AQ k = Ct :: (List.range (k - 1)).map λ(i:Nat)=>DF ((i:Int) + 1):=by
  unfold AQ;rw[if_neg (by omega),Int.toNat_natCast]
 have ht2:AQ k = ((List.range k).map λj:Nat=>DF (j:Int)).set 0 Ct:=by
  rw[ht,show k = (k - 1) + 1 by omega,List.range_succ_eq_map];simp
 refine AI (λvs R' D'=>R' = R∧∃v A,SW AF 5 (((List.range k).map λj:Nat=>DF (j:Int)).map eRg) v A∧D' = A ++ (D ++ F)∧vs = [v]) (λK hK=>?_) ?_
 ·refine AI (λvs R' D'=>R' = R∧∃v A,SW AF 5 (((List.range k).map λj:Nat=>DF (j:Int)).map eRg) v A∧D' = A ++ (D ++ F)∧vs = [v]) (λK2 hK2=>?_) ?_;rotate_left
  ·rintro e R1 D1 ⟨hR,v,A,so,hD,he⟩;rw[hD];clear hD;simp only[List.map,lc,ln,lj,z_t] at he;simp only[he];exact hK _ _ _ ⟨hR,v,A,so,rfl,rfl⟩
  refine jlp (λm vs R' D'=>R' = R∧∃(i:Nat) (v:Value) (A:Chs),i≤k∧SW AF 5 (((List.range i).map λj:Nat=>DF (j:Int)).map eRg) v A∧D' = A ++ (D ++ F)∧vs = [I k,v,I i]∧m = k - i)
   (n:=k) ⟨rfl,0,.slice none 0 0,[],by omega,.inl ⟨rfl,rfl,rfl⟩,rfl,rfl,by omega⟩ ?_
  rintro m e R1 D1 K3 ⟨hR,i,v,A,hi,so,hD,he,hm⟩ hK3;subst hR;rw[hD];clear hD;simp only[List.map,lc,ln,lj,z_t] at he;simp only[he];refine jlt (jif (λhc=>?_) (λhc=>?_));rotate_left
  ·have hc:i = k:=by have:=z_g hc;omega
   subst hc;exact hK2 _ _ _ ⟨rfl,v,A,so,rfl,rfl⟩
  have hc:i < k:=by have:=z_f hc;omega
  refine jp (BB i) (jp (BB i) ?_);refine jbd (cs:=eRg (DF (i:Int))) rfl rfl ?_;refine jbs (cs:=eRg (DF (i:Int))) rfl rfl λb4=>?_
  refine Aw List.perm_middle.symm ?_;have hx:BI R1 (A ++ ((b4,C AF (eRg (DF (i:Int)))) :: (D ++ F))) (some ⟨b4,0,none⟩) (1 * 5) [eRg (DF (i:Int))].flatten:=BI.held (t:=AF) (cs:=eRg (DF (i:Int))) (o:=0) (n:=1 * 5) (z_n 5);refine jaw so (Rl _) (by intro r hr;rw[List.mem_singleton.1 hr];rfl) rfl rfl rfl (by decide) (by simp only[List.length_map,List.length_range,List.length_singleton];omega) hx λv' A' so'=>?_
  refine Ae ⟨by omega,by omega⟩ ?_;refine Av A' (G:=D ++ F) ?_;refine hK3 (k - (i + 1)) _ _ _ (by omega) ⟨rfl,i + 1,v',A',by omega,?_,rfl,rfl,rfl⟩;rw[List.range_succ,List.map_append,List.map_append];exact so'
 rintro e R1 D1 ⟨hR,v,A,so,hD,he⟩;subst hR;rw[hD];clear hD;simp only[List.map,lc,ln,lj,z_t] at he;simp only[he];rcases so with ⟨h1,_,_⟩ | ⟨b,c,sp,hc,hsp,rfl,rfl⟩
 ·have:=congrArg List.length h1;simp at this;omega
 rw[List.length_map] at hc ⊢;refine jbd (cs:=eRg Ct) rfl rfl ?_;have hlen:((List.range k).map λj:Nat=>DF (j:Int)).length = k:=by simp
 refine Aw (D':=(b,C AF (AY eRg ((List.range k).map λj:Nat=>DF (j:Int)) ++ sp)) :: (D ++ F)) (List.Perm.refl _) ?_;refine Bi (r:=0) (by omega) (EM (i:=0) (x:=Ct) (by omega) ?_);refine CX [(b,C AF (AY eRg (((List.range k).map λj:Nat=>DF (j:Int)).set 0 Ct) ++ sp))] ?_;rw[ht2];unfold TF;rw[if_neg (by intro hn;have:=congrArg List.length hn;simp at this;omega)];exact⟨_,⟨b,c,sp,by rw[List.length_set];exact hc,by rw[List.length_set],rfl⟩,rfl⟩
end Go.Lf
end
section
namespace Go.Lf
open Go Sm
theorem Rr {w:List Int} {n k:Nat} (h:n + k < w.length):(w.take n ++ List.replicate k 0 ++ w.drop (n + k)).set (n + k) 0 = w.take n ++ List.replicate (k + 1) 0 ++ w.drop (n + (k + 1)):=by
 have l1:(w.take n ++ List.replicate k (0:Int)).length = n + k:=by simp;omega
 rw[List.set_append_right _ _ (by omega),l1,Nat.sub_self,List.drop_eq_getElem_cons h,List.set_cons_zero,List.replicate_succ',List.append_assoc,List.append_assoc,List.append_assoc,List.singleton_append,Nat.add_assoc]
def QMk (r:List Int × Bool) (v:Value) (A:Chs):Prop:=if r.2 then ∃sv,TZ r.1 sv A∧v = .tuple #[sv,.bool true] else v = .tuple #[.slice none 0 0,.bool false]∧A = []
theorem Lp {w:List Int} {n z:Nat} {s:Shp} (h0:fits w.length n (AE s) = true) (hso:Ay s = true) (hz:AE s = z) :
  C5 w n s = ((((w.take n ++ List.replicate z 0 ++ w.drop (n + z)).set n (n:Int)).set (n + 1) (Ai s)),true):=by
 obtain⟨a0,a1,a2,a3⟩:=Gf h0;have hsz:AE s = 2 + s.refs + s.nums:=by unfold AE;rw[if_pos hso]
 have hrn:0≤s.refs∧0≤s.nums:=by
  unfold Ay at hso;simp only[z_b,z_d] at hso;omega
 unfold C5;rw[if_pos h0];congr 1;unfold Sm.put;obtain⟨z',rfl⟩:∃k,z = k + 2:=⟨z - 2,by omega⟩;have e1:s.refs.toNat + s.nums.toNat = z':=by omega
 have l1:(w.take n).length = n:=by simp;omega
 have e2:w.take n ++ List.replicate (z' + 2) 0 ++ w.drop (n + (z' + 2)) = w.take n ++ (0 :: 0 :: (List.replicate z' 0 ++ w.drop (n + (z' + 2)))):=by simp[List.replicate_succ]
 rw[e1,e2,Int.toNat_natCast,List.set_append_right _ _ (by omega),l1,Nat.sub_self,List.set_cons_zero,List.set_append_right _ _ (by omega),l1,Nat.add_sub_cancel_left];simp[Nat.add_comm,Nat.add_left_comm]
theorem Nt {R:RM} {wv:Value} {w:List Int} (a:Int) (s:Shp) (h:B8 R wv w) (hl:w.length < 1000000) :
  Fn P Fe [wv,I a,eSh s] R [] (λv R' A=>R' = R∧QMk (C5 w a s) v A):=by
 refine Kt λF=>?_
 unfold GA;obtain⟨wa,wc,hwv,hr⟩:=Fz.reads (D:=[]) h;refine ja λb1=>?_
 rw[show cl (eSh s) = [I s.refs,I s.nums] from rfl];refine jla (l:=[I s.refs,I s.nums]) (by simp) rfl (jp (Bu s) ?_);rw[hwv];refine jp (Jl wa w.length wc a (AE s) (by omega)) (jif (λh0=>?_) (λh0=>?_))
 ·have h0:fits w.length a (AE s) = false:=by simpa using h0
  refine BV (A:=[]) (RM.le.refl R) ⟨rfl,?_⟩;have:C5 w a s = ([],false):=by unfold C5;rw[h0];rfl
  rw[this];exact⟨rfl,rfl⟩
 have h0:fits w.length a (AE s) = true:=by simpa using h0
 obtain⟨a0,a1,a2,a3⟩:=Gf h0;have hso:Ay s = true:=by
  unfold AE at a2;split at a2
  ·assumption
  ·omega
 have hsz:AE s = 2 + s.refs + s.nums:=by unfold AE;rw[if_pos hso]
 have hrn:0≤s.refs∧0≤s.nums:=by
  unfold Ay at hso;simp only[z_b,z_d] at hso;omega
 obtain⟨n,rfl⟩:∃n:Nat,a = n:=⟨a.toNat,by omega⟩;obtain⟨z,hz⟩:∃z:Nat,AE s = z:=⟨(AE s).toNat,by omega⟩;have em:=Lp h0 hso hz;rw[hz] at a1 a2 a3 ⊢;have fin:∀(b c:Nat) (sp:List Value) (E:Chs) (K:Value→M),w.length≤c→sp.length = c - w.length→Sf E F→True:=λ_ _ _ _ _ _ _ _=>trivial
 clear fin;refine jbs (cs:=[]) rfl rfl λb2=>?_
 have hl0:w.length≠0:=by omega
 have rest:∀(b c:Nat) (sp:List Value) (E:Chs),w.length≤c→sp.length = c - w.length→At E b1 (C Eh [I s.refs,I s.nums])→Sf E F→
   J R ((b,C Ab (w.map I ++ sp)) :: E) (CUT [1,5,9] (λJe8=>CUT [1,5,9] (λJe14=>LP [1,5,8,9,10] (λKe15 e15=>BO .lss (e15 10) (e15 8) λx16=>IF x16 (BO .add (e15 1) (e15 10) λx17=>IA 1 (e15 9) x17 λx18=>ST 1 x18 (I 0)<|BO .add (e15 10) (I 1) λx19=>Ke15 [(e15 1),(e15 5),(e15 8),(e15 9),x19]) (Je14 [(e15 1),(e15 5),(e15 9)])) [I n,.pointer (some ⟨b1,0,none⟩),I z,.slice (some ⟨b,0,none⟩) w.length c,(I 0)]) λe14=>Je8 [(e14 1),(e14 5),(e14 9)]) λe8=>IA 1 (e8 9) (e8 1) λx9=>ST 1 x9 (e8 1)<|BO .add (e8 1) (I 1) λx10=>LA 2 (e8 5) λx11=>CA P 81 [x11] λx12=>IA 1 (e8 9) x10 λx13=>ST 1 x13 x12<|ED R F (λv R' A=>R' = R∧QMk (C5 w n s) v A) (.tuple #[(e8 9),(.bool true)])):=by
  intro b c sp E hc hsp ea ef;refine AI (λvs R' D'=>R' = R∧∃cur:List Int,cur = w.take n ++ List.replicate z 0 ++ w.drop (n + z)∧D' = (b,C Ab (cur.map I ++ sp)) :: E∧vs = [I n,.pointer (some ⟨b1,0,none⟩),.slice (some ⟨b,0,none⟩) w.length c]) (λK hK=>?_) ?_
  ·refine AI (λvs R' D'=>R' = R∧∃cur:List Int,cur = w.take n ++ List.replicate z 0 ++ w.drop (n + z)∧D' = (b,C Ab (cur.map I ++ sp)) :: E∧vs = [I n,.pointer (some ⟨b1,0,none⟩),.slice (some ⟨b,0,none⟩) w.length c]) (λK2 hK2=>?_) ?_;rotate_left
   ·rintro e R1 D1 ⟨hR,cur,hcur,hD,he⟩;rw[hD];clear hD;simp only[List.map,lc,ln,lj,z_t] at he;simp only[he];exact hK _ _ _ ⟨hR,cur,hcur,rfl,rfl⟩
   refine jlp (λm vs R' D'=>R' = R∧∃(k:Nat) (cur:List Int),k≤z∧cur = w.take n ++ List.replicate k 0 ++ w.drop (n + k)∧D' = (b,C Ab (cur.map I ++ sp)) :: E∧vs = [I n,.pointer (some ⟨b1,0,none⟩),I z,.slice (some ⟨b,0,none⟩) w.length c,I k]∧m = z - k)
    (n:=z) ⟨rfl,0,w,by omega,by simp,rfl,rfl,by omega⟩ ?_
   rintro m e R1 D1 K3 ⟨hR,k,cur,hk,hcur,hD,he,hm⟩ hK3;subst hR;rw[hD];clear hD;simp only[List.map,lc,ln,lj,z_t] at he;simp only[he];have hcl:cur.length = w.length:=by rw[hcur];simp;omega
   refine jlt (jif (λhc=>?_) (λhc=>?_));rotate_left
   ·have hc:k = z:=by have:=z_g hc;omega
    subst hc;exact hK2 _ _ _ ⟨rfl,cur,hcur,rfl,rfl⟩
   have hc:k < z:=by have:=z_f hc;omega
   refine Ae ⟨by omega,by omega⟩ ?_;rw[show (n:Int) + k = ((n + k:Nat):Int) by omega];refine Bi (by omega) (jsi (l:=cur) (sp:=sp) (by omega) (Ae ⟨by omega,by omega⟩ ?_));exact hK3 (z - (k + 1)) _ _ _ (by omega) ⟨rfl,k + 1,cur.set (n + k) 0,by omega,by rw[hcur];exact Rr (by omega),rfl,rfl,rfl⟩
  rintro e R1 D1 ⟨hR,cur,hcur,hD,he⟩;subst hR;rw[hD];clear hD;simp only[List.map,lc,ln,lj,z_t] at he;simp only[he];have hcl:cur.length = w.length:=by rw[hcur];simp;omega
  refine Bi (by omega) (jsi (l:=cur) (sp:=sp) (by omega) (Ae ⟨by omega,by omega⟩ ?_));refine jla (l:=[I s.refs,I s.nums]) (by simp) rfl (jp (Db s) ?_);rw[show (n:Int) + 1 = ((n + 1:Nat):Int) by omega];refine Bi (by omega) (jsi (l:=cur.set n n) (sp:=sp) (by rw[List.length_set];omega) ?_);refine BV (A:=[(b,C Ab (((cur.set n n).set (n + 1) (Ai s)).map I ++ sp))]) (RM.le.refl R1) ⟨rfl,?_⟩;rw[em,hcur];refine⟨_,⟨b,c,sp,?_,?_,?_,rfl⟩,rfl⟩
  all_goals simp only[List.length_set,← hcur,hcl]
  ·exact hc
  ·exact hsp
 refine US (new:=w.map I) ?_ (by decide) (by omega) (λ_=>rfl) (λh0=>?_) (λb' c hc=>?_)
 ·intro h' hs';exact hr h' (St.drop (A:=(b2,C 3 []) :: (b1,C Eh [I s.refs,I s.nums]) :: ([] ++ F)) (by simpa using hs'))
 ·omega
 ·exact rest b' c _ _ hc (by rw[CC (w:=1) (by intro x hx;rw[(List.mem_replicate.1 hx).2];rfl)];simp) inferInstance inferInstance
end Go.Lf
end
section
namespace Go.Lf
open Go Sm
theorem jnc {R:RM} {D:Chs} {b o:Nat} {k:Value→M} (H:J R D (k (.pointer (some ⟨b,o,none⟩)))):J R D (NC (.pointer (some ⟨b,o,none⟩)) k):=H
def wS (S:Sim) (g:Img):Value:=.slice (some ⟨g.wb,0,none⟩) S.A7.length g.wc
def tS (S:Sim) (g:Img):Value:=.slice (some ⟨g.tb,0,none⟩) S.A0.length g.tc
def mS (S:Sim) (g:Img):Value:=.slice (some ⟨g.mb,0,none⟩) S.AR.length g.mc
def eVw (S:Sim) (g:Img) (av wv thv:Value):List Value:=[wS S g,tS S g,mS S g,I S.Ac,.bool S.stop,.bool S.full,av,wv,thv,g.old,g.AT,I S.Ar,I S.BU]
theorem Jz {R:RM} {S:Sim} {g:Img} (ok:Ok R S g) {av wv thv:Value} (h1:flat av = true) (h2:flat wv = true) (h3:flat thv = true):C4 (eVw S g av wv thv) = true:=by
 have h4:=Fz.flat ok.old;have h5:=Fz.flat ok.AT;show (true && (true && (true && (true && (true && (true && (flat av && (flat wv && (flat thv && (flat g.old && (flat g.AT && (true && (true && true))))))))))))) = true;rw[h1,h2,h3,h4,h5];rfl
def QM (t:Thr):Th:=⟨t.AB,t.next,t.pc != 0,t.BE⟩
theorem PZ {p:Nat} {S:Sim} {g:Img} {R:RM} (hok:Ok R S g) (hsz:S.sz = true) :
  Fn P GI [.pointer (some ⟨p,0,none⟩)] R (AX p S g) (λv R' A=>∃rows thv A',Rw (Cb R') rows S.view.AD∧SW 78 4 rows thv A'∧A = A' ++ AX p S g∧v = .agg (eSt S.view (wS S g) (tS S g) (mS S g) thv g.old g.AT).toArray):=by
 refine Ou λF=>?_
 unfold Ka;have hsz:=Er hsz;have hhl:=hok.hl;obtain⟨f1,f2,f3⟩:=hok.fl;refine ja λb1=>?_
 refine jnc (jfo ?_);refine jla (o:=0 + 4) (t:=BP) (cs:=Bh S g) (l:=eVw S g g.Af g.want g.AD) (by show 4 + 13≤35;omega) rfl ?_;refine ja λb2=>?_
 refine js (cs':=eVw S g g.Af g.want g.AD) rfl (Jz hok f1 f2 f3) (by exact z_n 13) rfl ?_;refine js (cs':=eVw S g g.Af g.want (.slice none 0 0)) rfl rfl (by simp[eVw]) rfl ?_;refine Aw (D':=(b2,C AO (eVw S g g.Af g.want (.slice none 0 0))) :: (b1,C AO (cl z58)) :: (AX p S g ++ F)) (List.Perm.refl _) ?_;refine AI (λvs R' D'=>R.le R'∧∃rows v A,Rw (Cb R') rows (S.th.map QM)∧SW 78 4 rows v A∧D' = A ++ (b2,C AO (eVw S g g.Af g.want v)) :: (b1,C AO (cl z58)) :: (AX p S g ++ F)∧vs = [.pointer (some ⟨p,0,none⟩),.pointer (some ⟨b1,0,none⟩),.pointer (some ⟨b2,0,none⟩)]) (λK hK=>?_) ?_
 ·refine AI (λvs R' D'=>R.le R'∧∃rows v A,Rw (Cb R') rows (S.th.map QM)∧SW 78 4 rows v A∧D' = A ++ (b2,C AO (eVw S g g.Af g.want v)) :: (b1,C AO (cl z58)) :: (AX p S g ++ F)∧vs = [.pointer (some ⟨p,0,none⟩),.pointer (some ⟨b1,0,none⟩),.pointer (some ⟨b2,0,none⟩)]) (λK2 hK2=>?_) ?_;rotate_left
  ·rintro e R1 D1 ⟨hR,rows,v,A,hrw,so,hD,he⟩;rw[hD];clear hD;simp only[List.map,lc,ln,lj,z_t] at he;simp only[he];exact hK _ _ _ ⟨hR,rows,v,A,hrw,so,rfl,rfl⟩
  refine jlp (λm vs R' D'=>R.le R'∧∃(i:Nat) (rows:List (List Value)) (v:Value) (A:Chs),i≤S.th.length∧Rw (Cb R') rows ((S.th.take i).map QM)∧SW 78 4 rows v A∧D' = A ++ (b2,C AO (eVw S g g.Af g.want v)) :: (b1,C AO (cl z58)) :: (AX p S g ++ F)∧vs = [.pointer (some ⟨p,0,none⟩),.pointer (some ⟨b1,0,none⟩),.pointer (some ⟨b2,0,none⟩),I i]∧m = S.th.length - i)
   (n:=S.th.length) ⟨RM.le.refl R,0,[],.slice none 0 0,[],by omega,Rw.nil,.inl ⟨rfl,rfl,rfl⟩,rfl,rfl,by omega⟩ ?_
  rintro m e R1 D1 K3 ⟨hR,i,rows,v,A,hi,hrw,so,hD,he,hm⟩ hK3;rw[hD];clear hD;simp only[List.map,lc,ln,lj,z_t] at he;simp only[he];have ok1:=hok.le hR;refine jl (v:=.slice (some ⟨g.hb,0,none⟩) S.th.length g.hc) rfl (jln (jlt (jif (λhc=>?_) (λhc=>?_))));rotate_left
  ·have hc:=z_g hc;rw[List.take_of_length_le (by omega)] at hrw;exact hK2 _ _ _ ⟨hR,rows,v,A,hrw,so,rfl,rfl⟩
  have hc:i < S.th.length:=by have:=z_f hc;omega
  have hti:idx S.th i = some (S.th[i]):=by unfold idx;rw[if_pos (by omega),Int.toNat_natCast,List.getElem?_eq_getElem hc]
  have hri:=hsz.2.2.2.2 _ (List.getElem_mem hc);refine FE (p:=p) ok1 hti rfl λb a cap hv=>?_
  obtain⟨sa,sc,hsl⟩:=so.sl;subst hsl;have htk:(S.th.take (i + 1)).map QM = (S.th.take i).map QM ++ [QM S.th[i]]:=by
   rw[List.take_succ_eq_append_getElem hc,List.map_append];rfl
  generalize S.th[i] = t at hti hri hv htk ⊢;refine jfo (jl (v:=.slice sa rows.length sc) rfl ?_);refine jfo (jl (v:=.slice a t.AB.length cap) rfl (jfo (jl (v:=I t.next) rfl (jfo (jl (v:=I t.BE) rfl (jfo (jl (v:=I t.pc) rfl (jne ?_))))))));refine jc (A:=[]) (Bx hv hri) ?_;rintro _ R2 _ hR2 ⟨b4,c4,sp4,hc4,hsp4,rfl,rfl⟩;refine Be (b:=b4) λR3 hR3 hb4=>?_
  have hv2:=Bq (c:=c4) hb4 hc4;refine jbd (cs:=[.slice (some ⟨b4,0,none⟩) t.AB.length c4,I t.next,.bool (t.pc != 0),I t.BE]) rfl rfl ?_;refine Ah (jl (v:=.slice sa rows.length sc) rfl jev) (Ah (jl (v:=I t.next) rfl jev) (Ah (jl (v:=I t.BE) rfl jev) (Ah (jl (v:=I t.pc) rfl jev) ?_)));refine jbs (cs:=[.slice (some ⟨b4,0,none⟩) t.AB.length c4,I t.next,.bool (t.pc != 0),I t.BE]) rfl rfl λb6=>?_
  refine Ah (jl (v:=.slice sa rows.length sc) rfl jev) ?_;refine Aw (D':=(b6,C 78 [.slice (some ⟨b4,0,none⟩) t.AB.length c4,I t.next,.bool (t.pc != 0),I t.BE]) :: (b,C AU (Ad t (.slice a t.AB.length cap))) :: (A ++ ((b2,C AO (eVw S g g.Af g.want (.slice sa rows.length sc))) :: (b1,C AO (cl z58)) :: (AX p S g ++ F)))) (List.Perm.refl _) ?_;refine Av A (G:=(b6,C 78 [.slice (some ⟨b4,0,none⟩) t.AB.length c4,I t.next,.bool (t.pc != 0),I t.BE]) :: (b,C AU (Ad t (.slice a t.AB.length cap))) :: (b2,C AO (eVw S g g.Af g.want (.slice sa rows.length sc))) :: (b1,C AO (cl z58)) :: (AX p S g ++ F)) ?_;have hx:BI R3 (A ++ ((b6,C 78 [.slice (some ⟨b4,0,none⟩) t.AB.length c4,I t.next,.bool (t.pc != 0),I t.BE]) :: (b,C AU (Ad t (.slice a t.AB.length cap))) :: (b2,C AO (eVw S g g.Af g.want (.slice sa rows.length sc))) :: (b1,C AO (cl z58)) :: (AX p S g ++ F))) (some ⟨b6,0,none⟩) (1 * 4) [[.slice (some ⟨b4,0,none⟩) t.AB.length c4,I t.next,.bool (t.pc != 0),I t.BE]].flatten:=BI.held (t:=78) (cs:=[.slice (some ⟨b4,0,none⟩) t.AB.length c4,I t.next,.bool (t.pc != 0),I t.BE]) (o:=0) (n:=1 * 4) (z_n 4);have hrl:=hrw.1;rw[List.length_map,List.length_take] at hrl;refine jaw so (hrw.all λ_ _=>Cb.len) (by intro r hr;rw[List.mem_singleton.1 hr];rfl) rfl rfl rfl (by decide) (by rw[List.length_singleton];omega) hx λv' A' so'=>?_
  obtain⟨sa',sc',hsl'⟩:=so'.sl;subst hsl';refine js (cs':=eVw S g g.Af g.want (.slice sa' (rows ++ [[.slice (some ⟨b4,0,none⟩) t.AB.length c4,I t.next,.bool (t.pc != 0),I t.BE]]).length sc')) rfl rfl (by simp[eVw]) rfl ?_;refine Ae ⟨by omega,by omega⟩ ?_;refine Av A' (G:=(b2,C AO (eVw S g g.Af g.want (.slice sa' (rows ++ [[.slice (some ⟨b4,0,none⟩) t.AB.length c4,I t.next,.bool (t.pc != 0),I t.BE]]).length sc'))) :: (b1,C AO (cl z58)) :: (AX p S g ++ F)) ?_;refine hK3 (S.th.length - (i + 1)) _ _ _ (by omega) ⟨(hR.trans hR2).trans hR3,i + 1,_,_,A',by omega,?_,so',rfl,rfl,rfl⟩;rw[htk];exact (hrw.mono λ_ _=>Cb.le (hR2.trans hR3)).app (Rw.one ⟨_,rfl,hv2⟩)
 rintro e R1 D1 ⟨hR,rows,v,A,hrw,so,hD,he⟩;rw[hD];clear hD;simp only[List.map,lc,ln,lj,z_t] at he;simp only[he];obtain⟨sa,sc,hsl⟩:=so.sl;subst hsl;refine jl (v:=.bool S.col.Af) rfl ?_;refine js (cs':=eVw S g (.bool S.col.Af) g.want (.slice sa rows.length sc)) rfl rfl (by simp[eVw]) rfl ?_;refine jl (v:=I S.col.want) rfl ?_;refine js (cs':=eVw S g (.bool S.col.Af) (I S.col.want) (.slice sa rows.length sc)) rfl rfl (by simp[eVw]) rfl ?_;refine jla (l:=eVw S g (.bool S.col.Af) (I S.col.want) (.slice sa rows.length sc)) (by exact z_n 13) rfl ?_;refine js (cs':=eVw S g (.bool S.col.Af) (I S.col.want) (.slice sa rows.length sc)) rfl (Jz hok rfl rfl rfl) (by exact z_n 13) rfl ?_;refine jla (l:=eVw S g (.bool S.col.Af) (I S.col.want) (.slice sa rows.length sc)) (by exact z_n 13) rfl ?_;refine Aw (D':=(A ++ AX p S g) ++ ((b2,C AO (eVw S g (.bool S.col.Af) (I S.col.want) (.slice sa rows.length sc))) :: (b1,C AO (eVw S g (.bool S.col.Af) (I S.col.want) (.slice sa rows.length sc))) :: F)) ?_ ?_
 ·rw[List.append_assoc];exact (List.perm_append_comm_assoc [_,_] (AX p S g) F).append_left A
 exact BV (A:=A ++ AX p S g) hR ⟨rows,.slice sa rows.length sc,A,hrw,so,rfl,rfl⟩
theorem Uf {p:Nat} {S:Sim} {g:Img} {R:RM} (hok:Ok R S g) (hsz:S.sz = true) :
  Fn P GI [.pointer (some ⟨p,0,none⟩)] R (AX p S g) (λv R' A=>R.le R'∧A = AX p S g∧∃thv,Ths R' thv S.view.AD∧v = .agg (eSt S.view (wS S g) (tS S g) (mS S g) thv g.old g.AT).toArray):=by
 intro F h hs;refine E7 ?_ (PZ hok hsz F h hs);rintro v h' ⟨R',A,h1,h2,rows,thv,A',hrw,so,rfl,rfl⟩;rw[List.append_assoc] at h2;refine (jfw (E:=AX p S g ++ F) (m:=ED R F _ _) so (hrw.all λ_ _=>Cb.len) λR2 hR2 hfz=>?_) h' h2;exact BV (A:=AX p S g) (h1.trans hR2) ⟨h1.trans hR2,rfl,thv,⟨rows,hrw.mono λ_ _=>Cb.le hR2,hfz⟩,rfl⟩
end Go.Lf
end
section
namespace Go.Lf
open Go Sm
theorem DW {R:RM} {D:Chs} {a:M} (h:J R D a):J R D (ALL [a]):=h
theorem E5 {R:RM} {D:Chs} {a b:M} {r:List M} (h:J R D a) (h2:J R D (ALL (b :: r))):J R D (ALL (a :: b :: r)):=λh' hs=>⟨h h' hs,h2 h' hs⟩
def eNw (w:Value) (tv:Value) (m:Value) (thv:Value):List Value:=[w,tv,m,I 0,.bool false,.bool false,.bool false,I 0,thv,.slice none 0 0,.slice none 0 0,I 0,I 0]
def BJ (c:Cfg):List Int:=(C5 (List.replicate (c.AA.toNat * 16) 0) 16 Bk).1
theorem JV {c:Cfg} (h:BN c = true):(C5 (List.replicate (c.AA.toNat * 16) 0) 16 Bk).2 = true∧(BJ c).length = c.AA.toNat * 16:=by
 unfold BN at h;simp only[z_b,z_d] at h;have hf:fits (c.AA.toNat * 16) 16 (AE Bk) = true:=by
  have e:AE Bk = 8:=by decide
  rw[e];unfold fits C6 Aa;simp only[z_b,z_d,beq_iff_eq];refine⟨⟨⟨⟨⟨⟨⟨by omega,by omega⟩,by omega⟩,by omega⟩,by omega⟩,by omega⟩,by omega⟩,by decide⟩
 unfold BJ C5;rw[List.length_replicate,if_pos hf];refine⟨rfl,?_⟩;unfold Sm.put;have:Bk.refs.toNat + Bk.nums.toNat = 6:=by decide
 simp only[List.length_append,List.length_take,List.length_replicate,List.length_drop,List.length_cons,List.length_nil,this];omega
theorem Oc {R:RM} {c:Cfg} (hc:BN c = true) :
  Fn P HL [.agg #[I c.AA,I c.AD,I c.AJ]] R [] (λv R' A=>∃bw cw wsp bt ct tsp bm thv,(BJ c).length≤cw∧(AQ c.AA).length≤ct∧Ths R' thv (List.replicate c.AD.toNat ⟨[16],0,false,0⟩)∧
   A = [(bw,C Ab ((BJ c).map I ++ wsp)),(bt,C AF (AY eRg (AV (AQ c.AA) 1 ⟨3,-1,24,24,0⟩) ++ tsp)),(bm,C Az ((List.replicate (c.AA.toNat * 16) false).map Value.bool))]∧
   v = .tuple #[.agg (eNw (.slice (some ⟨bw,0,none⟩) (BJ c).length cw) (.slice (some ⟨bt,0,none⟩) (AQ c.AA).length ct) (.slice (some ⟨bm,0,none⟩) (c.AA.toNat * 16) (c.AA.toNat * 16)) thv).toArray,.bool true]):=by
 refine Lj λF=>?_
 unfold GR;have hcc:=hc;unfold BN at hc;simp only[z_b,z_d] at hc;refine ja λb1=>?_
 rw[show cl (.agg #[I c.AA,I c.AD,I c.AJ]) = [I c.AA,I c.AD,I c.AJ] from rfl];refine ja λb2=>?_
 refine jla (l:=[I c.AA,I c.AD,I c.AJ]) (by simp) rfl ?_;refine jp (Iw c) ?_;rw[hcc];refine Cy (jfo (jl (v:=I c.AA) rfl ?_));refine jmk (J3 c.AA) ?_;intro v N hq;unfold TF at hq;have htl:(AQ c.AA).length = c.AA.toNat:=by
  unfold AQ;rw[if_neg (by omega)];simp;omega
 rw[if_neg (by intro hn;rw[hn] at htl;simp at htl;omega)] at hq;obtain⟨sv,⟨bt,ct,tsp,hct,rfl,rfl⟩,rfl⟩:=hq;refine jex rfl (jex rfl ?_);have e16:(c.AA * 16).toNat = c.AA.toNat * 16:=by omega
 refine AI (λvs R' D'=>R' = R∧∃bw bm b6,D' = (b6,C AO (eNw (.slice (some ⟨bw,0,none⟩) (c.AA.toNat * 16) (c.AA.toNat * 16)) (.slice (some ⟨bt,0,none⟩) (AQ c.AA).length ct) (.slice (some ⟨bm,0,none⟩) (c.AA.toNat * 16) (c.AA.toNat * 16)) (.slice none 0 0))) ::
   (bw,C Ab ((List.replicate (c.AA.toNat * 16) [I 0]).flatten)) :: (bm,C Az ((List.replicate (c.AA.toNat * 16) [Value.bool false]).flatten)) ::
   (bt,C AF (AY eRg (AQ c.AA) ++ tsp)) :: (b2,C AO (cl z58)) :: (b1,C 67 [I c.AA,I c.AD,I c.AJ]) :: F∧vs = [.pointer (some ⟨b1,0,none⟩),.pointer (some ⟨b2,0,none⟩),.pointer (some ⟨b6,0,none⟩)]) (λK hK=>?_) ?_
 ·refine jfo (jl (v:=I c.AA) rfl (GE ⟨by omega,by omega⟩ (jfo (jl (v:=I c.AA) rfl (GE ⟨by omega,by omega⟩ ?_)))));refine E5 ?_ (E5 ?_ (DW ?_))
  ·refine jms (by omega) (by omega) (by omega) λbw=>?_
   rw[e16];refine Ah (jl (v:=I c.AA) rfl jev) ?_;refine E5 ?_ (DW ?_)
   ·refine jms (by omega) (by omega) (by omega) λbm=>?_
    rw[e16];refine jbd (cs:=(eNw (.slice (some ⟨bw,0,none⟩) (c.AA.toNat * 16) (c.AA.toNat * 16)) (.slice (some ⟨bt,0,none⟩) (AQ c.AA).length ct) (.slice (some ⟨bm,0,none⟩) (c.AA.toNat * 16) (c.AA.toNat * 16)) (.slice none 0 0))) rfl rfl ?_;refine ja λb6=>?_
    refine js (cs':=(eNw (.slice (some ⟨bw,0,none⟩) (c.AA.toNat * 16) (c.AA.toNat * 16)) (.slice (some ⟨bt,0,none⟩) (AQ c.AA).length ct) (.slice (some ⟨bm,0,none⟩) (c.AA.toNat * 16) (c.AA.toNat * 16)) (.slice none 0 0))) rfl rfl (by exact z_n 13) rfl ?_;refine Av [(b6,C AO (eNw (.slice (some ⟨bw,0,none⟩) (c.AA.toNat * 16) (c.AA.toNat * 16)) (.slice (some ⟨bt,0,none⟩) (AQ c.AA).length ct) (.slice (some ⟨bm,0,none⟩) (c.AA.toNat * 16) (c.AA.toNat * 16)) (.slice none 0 0))),(bw,C Ab ((List.replicate (c.AA.toNat * 16) [I 0]).flatten)),(bm,C Az ((List.replicate (c.AA.toNat * 16) [Value.bool false]).flatten))] (G:=[(bt,C AF (AY eRg (AQ c.AA) ++ tsp))] ++ (b2,C AO (cl z58)) :: (b1,C 67 [I c.AA,I c.AD,I c.AJ]) :: ([] ++ F)) ?_;exact hK _ _ _ ⟨rfl,bw,bm,b6,rfl,rfl⟩
   ·refine ja λb6=>?_
    refine Ah (jl (v:=I c.AA) rfl jev) ?_;refine jms (by omega) (by omega) (by omega) λbm=>?_
    rw[e16];refine jbd (cs:=(eNw (.slice (some ⟨bw,0,none⟩) (c.AA.toNat * 16) (c.AA.toNat * 16)) (.slice (some ⟨bt,0,none⟩) (AQ c.AA).length ct) (.slice (some ⟨bm,0,none⟩) (c.AA.toNat * 16) (c.AA.toNat * 16)) (.slice none 0 0))) rfl rfl ?_;refine js (cs':=(eNw (.slice (some ⟨bw,0,none⟩) (c.AA.toNat * 16) (c.AA.toNat * 16)) (.slice (some ⟨bt,0,none⟩) (AQ c.AA).length ct) (.slice (some ⟨bm,0,none⟩) (c.AA.toNat * 16) (c.AA.toNat * 16)) (.slice none 0 0))) rfl rfl (by exact z_n 13) rfl ?_;refine Av [(b6,C AO (eNw (.slice (some ⟨bw,0,none⟩) (c.AA.toNat * 16) (c.AA.toNat * 16)) (.slice (some ⟨bt,0,none⟩) (AQ c.AA).length ct) (.slice (some ⟨bm,0,none⟩) (c.AA.toNat * 16) (c.AA.toNat * 16)) (.slice none 0 0))),(bw,C Ab ((List.replicate (c.AA.toNat * 16) [I 0]).flatten)),(bm,C Az ((List.replicate (c.AA.toNat * 16) [Value.bool false]).flatten))] (G:=[(bt,C AF (AY eRg (AQ c.AA) ++ tsp))] ++ (b2,C AO (cl z58)) :: (b1,C 67 [I c.AA,I c.AD,I c.AJ]) :: ([] ++ F)) ?_;exact hK _ _ _ ⟨rfl,bw,bm,b6,rfl,rfl⟩
  ·refine jms (by omega) (by omega) (by omega) λbm=>?_
   rw[e16];refine Ah (jl (v:=I c.AA) rfl jev) ?_;refine E5 ?_ (DW ?_)
   ·refine jms (by omega) (by omega) (by omega) λbw=>?_
    rw[e16];refine jbd (cs:=(eNw (.slice (some ⟨bw,0,none⟩) (c.AA.toNat * 16) (c.AA.toNat * 16)) (.slice (some ⟨bt,0,none⟩) (AQ c.AA).length ct) (.slice (some ⟨bm,0,none⟩) (c.AA.toNat * 16) (c.AA.toNat * 16)) (.slice none 0 0))) rfl rfl ?_;refine ja λb6=>?_
    refine js (cs':=(eNw (.slice (some ⟨bw,0,none⟩) (c.AA.toNat * 16) (c.AA.toNat * 16)) (.slice (some ⟨bt,0,none⟩) (AQ c.AA).length ct) (.slice (some ⟨bm,0,none⟩) (c.AA.toNat * 16) (c.AA.toNat * 16)) (.slice none 0 0))) rfl rfl (by exact z_n 13) rfl ?_;refine Av [(b6,C AO (eNw (.slice (some ⟨bw,0,none⟩) (c.AA.toNat * 16) (c.AA.toNat * 16)) (.slice (some ⟨bt,0,none⟩) (AQ c.AA).length ct) (.slice (some ⟨bm,0,none⟩) (c.AA.toNat * 16) (c.AA.toNat * 16)) (.slice none 0 0))),(bw,C Ab ((List.replicate (c.AA.toNat * 16) [I 0]).flatten)),(bm,C Az ((List.replicate (c.AA.toNat * 16) [Value.bool false]).flatten))] (G:=[(bt,C AF (AY eRg (AQ c.AA) ++ tsp))] ++ (b2,C AO (cl z58)) :: (b1,C 67 [I c.AA,I c.AD,I c.AJ]) :: ([] ++ F)) ?_;exact hK _ _ _ ⟨rfl,bw,bm,b6,rfl,rfl⟩
   ·refine ja λb6=>?_
    refine Ah (jl (v:=I c.AA) rfl jev) ?_;refine jms (by omega) (by omega) (by omega) λbw=>?_
    rw[e16];refine jbd (cs:=(eNw (.slice (some ⟨bw,0,none⟩) (c.AA.toNat * 16) (c.AA.toNat * 16)) (.slice (some ⟨bt,0,none⟩) (AQ c.AA).length ct) (.slice (some ⟨bm,0,none⟩) (c.AA.toNat * 16) (c.AA.toNat * 16)) (.slice none 0 0))) rfl rfl ?_;refine js (cs':=(eNw (.slice (some ⟨bw,0,none⟩) (c.AA.toNat * 16) (c.AA.toNat * 16)) (.slice (some ⟨bt,0,none⟩) (AQ c.AA).length ct) (.slice (some ⟨bm,0,none⟩) (c.AA.toNat * 16) (c.AA.toNat * 16)) (.slice none 0 0))) rfl rfl (by exact z_n 13) rfl ?_;refine Av [(b6,C AO (eNw (.slice (some ⟨bw,0,none⟩) (c.AA.toNat * 16) (c.AA.toNat * 16)) (.slice (some ⟨bt,0,none⟩) (AQ c.AA).length ct) (.slice (some ⟨bm,0,none⟩) (c.AA.toNat * 16) (c.AA.toNat * 16)) (.slice none 0 0))),(bw,C Ab ((List.replicate (c.AA.toNat * 16) [I 0]).flatten)),(bm,C Az ((List.replicate (c.AA.toNat * 16) [Value.bool false]).flatten))] (G:=[(bt,C AF (AY eRg (AQ c.AA) ++ tsp))] ++ (b2,C AO (cl z58)) :: (b1,C 67 [I c.AA,I c.AD,I c.AJ]) :: ([] ++ F)) ?_;exact hK _ _ _ ⟨rfl,bw,bm,b6,rfl,rfl⟩
  ·refine ja λb6=>?_
   refine Ah (jl (v:=I c.AA) rfl jev) (Ah (jl (v:=I c.AA) rfl jev) ?_);refine E5 ?_ (DW ?_)
   ·refine jms (by omega) (by omega) (by omega) λbw=>?_
    rw[e16];refine Ah (jl (v:=I c.AA) rfl jev) ?_;refine jms (by omega) (by omega) (by omega) λbm=>?_
    rw[e16];refine jbd (cs:=(eNw (.slice (some ⟨bw,0,none⟩) (c.AA.toNat * 16) (c.AA.toNat * 16)) (.slice (some ⟨bt,0,none⟩) (AQ c.AA).length ct) (.slice (some ⟨bm,0,none⟩) (c.AA.toNat * 16) (c.AA.toNat * 16)) (.slice none 0 0))) rfl rfl ?_;refine js (cs':=(eNw (.slice (some ⟨bw,0,none⟩) (c.AA.toNat * 16) (c.AA.toNat * 16)) (.slice (some ⟨bt,0,none⟩) (AQ c.AA).length ct) (.slice (some ⟨bm,0,none⟩) (c.AA.toNat * 16) (c.AA.toNat * 16)) (.slice none 0 0))) rfl rfl (by exact z_n 13) rfl ?_;refine Av [(b6,C AO (eNw (.slice (some ⟨bw,0,none⟩) (c.AA.toNat * 16) (c.AA.toNat * 16)) (.slice (some ⟨bt,0,none⟩) (AQ c.AA).length ct) (.slice (some ⟨bm,0,none⟩) (c.AA.toNat * 16) (c.AA.toNat * 16)) (.slice none 0 0))),(bw,C Ab ((List.replicate (c.AA.toNat * 16) [I 0]).flatten)),(bm,C Az ((List.replicate (c.AA.toNat * 16) [Value.bool false]).flatten))] (G:=[(bt,C AF (AY eRg (AQ c.AA) ++ tsp))] ++ (b2,C AO (cl z58)) :: (b1,C 67 [I c.AA,I c.AD,I c.AJ]) :: ([] ++ F)) ?_;exact hK _ _ _ ⟨rfl,bw,bm,b6,rfl,rfl⟩
   ·refine jms (by omega) (by omega) (by omega) λbm=>?_
    rw[e16];refine Ah (jl (v:=I c.AA) rfl jev) ?_;refine jms (by omega) (by omega) (by omega) λbw=>?_
    rw[e16];refine jbd (cs:=(eNw (.slice (some ⟨bw,0,none⟩) (c.AA.toNat * 16) (c.AA.toNat * 16)) (.slice (some ⟨bt,0,none⟩) (AQ c.AA).length ct) (.slice (some ⟨bm,0,none⟩) (c.AA.toNat * 16) (c.AA.toNat * 16)) (.slice none 0 0))) rfl rfl ?_;refine js (cs':=(eNw (.slice (some ⟨bw,0,none⟩) (c.AA.toNat * 16) (c.AA.toNat * 16)) (.slice (some ⟨bt,0,none⟩) (AQ c.AA).length ct) (.slice (some ⟨bm,0,none⟩) (c.AA.toNat * 16) (c.AA.toNat * 16)) (.slice none 0 0))) rfl rfl (by exact z_n 13) rfl ?_;refine Av [(b6,C AO (eNw (.slice (some ⟨bw,0,none⟩) (c.AA.toNat * 16) (c.AA.toNat * 16)) (.slice (some ⟨bt,0,none⟩) (AQ c.AA).length ct) (.slice (some ⟨bm,0,none⟩) (c.AA.toNat * 16) (c.AA.toNat * 16)) (.slice none 0 0))),(bw,C Ab ((List.replicate (c.AA.toNat * 16) [I 0]).flatten)),(bm,C Az ((List.replicate (c.AA.toNat * 16) [Value.bool false]).flatten))] (G:=[(bt,C AF (AY eRg (AQ c.AA) ++ tsp))] ++ (b2,C AO (cl z58)) :: (b1,C 67 [I c.AA,I c.AD,I c.AJ]) :: ([] ++ F)) ?_;exact hK _ _ _ ⟨rfl,bw,bm,b6,rfl,rfl⟩
 rintro e Rz D1 ⟨hR,bw0,bm,b6,hD,he⟩;subst hR;rw[hD];clear hD;simp only[List.map,lc,ln,lj,z_t] at he;simp only[he];have htk:(List.replicate (c.AA.toNat * 16) [I 0]).flatten = (List.replicate (c.AA.toNat * 16) (0:Int)).map I ++ []:=by simp[List.flatten_replicate_singleton]
 have hmk:(List.replicate (c.AA.toNat * 16) [Value.bool false]).flatten = (List.replicate (c.AA.toNat * 16) false).map Value.bool:=by simp[List.flatten_replicate_singleton]
 rw[htk,hmk];refine Be (b:=bw0) λR2 hR2 hb0=>?_
 have hw0:B8 R2 (.slice (some ⟨bw0,0,none⟩) (c.AA.toNat * 16) (c.AA.toNat * 16)) (List.replicate (c.AA.toNat * 16) 0):=by
  have:=Bq (c:=c.AA.toNat * 16) hb0 (by simp);rw[List.length_replicate] at this;exact this
 refine jbd (cs:=[I 4,I 2]) rfl rfl (ja λb7=>?_);refine js (cs':=[I 4,I 2]) rfl rfl (by simp) rfl ?_;refine jfo (jl (v:=.slice (some ⟨bw0,0,none⟩) (c.AA.toNat * 16) (c.AA.toNat * 16)) rfl ?_);refine jla (l:=[I 4,I 2]) (by simp) rfl ?_;refine jc (A:=[]) (Nt 16 Bk hw0 (by rw[List.length_replicate];omega)) ?_;rintro v3 R3 A3 hR3 ⟨hRR,hq⟩;subst hRR;obtain⟨sf1,sf2⟩:=JV hcc;unfold QMk at hq;rw[if_pos sf1] at hq;obtain⟨sv,⟨bw,cw,wsp,hcw,hwsp,rfl,rfl⟩,rfl⟩:=hq;refine jex rfl (jex rfl ?_);refine jfo (js (cs':=eNw (.slice (some ⟨bw,0,none⟩) (BJ c).length cw) (.slice (some ⟨bt,0,none⟩) (AQ c.AA).length ct) (.slice (some ⟨bm,0,none⟩) (c.AA.toNat * 16) (c.AA.toNat * 16)) (.slice none 0 0)) rfl rfl (by simp[eNw]) rfl ?_);refine jla (l:=[I 4,I 2]) (by simp) rfl (jp (Bu Bk) (Ae ⟨by decide,by decide⟩ ?_));rw[show (16:Int) + AE Bk = 24 by decide];refine jfo (jl (v:=.slice (some ⟨bt,0,none⟩) (AQ c.AA).length ct) rfl ?_);refine jbd (cs:=eRg ⟨3,-1,24,24,0⟩) rfl rfl ?_;refine Bi (r:=1) (by omega) (EM (t:=AQ c.AA) (sp:=tsp) (x:=⟨3,-1,24,24,0⟩) (by omega) ?_);refine Aw (D':=(bw,C Ab ((BJ c).map I ++ wsp)) :: (b7,C 92 [I 4,I 2]) :: (b6,C AO (eNw (.slice (some ⟨bw,0,none⟩) (BJ c).length cw) (.slice (some ⟨bt,0,none⟩) (AQ c.AA).length ct) (.slice (some ⟨bm,0,none⟩) (c.AA.toNat * 16) (c.AA.toNat * 16)) (.slice none 0 0))) :: (bm,C Az ((List.replicate (c.AA.toNat * 16) false).map Value.bool)) :: (bt,C AF (AY eRg (AV (AQ c.AA) 1 ⟨3,-1,24,24,0⟩) ++ tsp)) :: (b2,C AO (cl z58)) :: (b1,C 67 [I c.AA,I c.AD,I c.AJ]) :: F) (List.Perm.refl _) ?_;refine Av [(b6,C AO (eNw (.slice (some ⟨bw,0,none⟩) (BJ c).length cw) (.slice (some ⟨bt,0,none⟩) (AQ c.AA).length ct) (.slice (some ⟨bm,0,none⟩) (c.AA.toNat * 16) (c.AA.toNat * 16)) (.slice none 0 0))),(b1,C 67 [I c.AA,I c.AD,I c.AJ]),(b2,C AO (cl z58)),(bw,C Ab ((BJ c).map I ++ wsp)),(bt,C AF (AY eRg (AV (AQ c.AA) 1 ⟨3,-1,24,24,0⟩) ++ tsp)),(bm,C Az ((List.replicate (c.AA.toNat * 16) false).map Value.bool))] (G:=F) ?_;generalize hE:(b1,C 67 [I c.AA,I c.AD,I c.AJ]) :: (b2,C AO (cl z58)) :: ([(bw,C Ab ((BJ c).map I ++ wsp)),(bt,C AF (AY eRg (AV (AQ c.AA) 1 ⟨3,-1,24,24,0⟩) ++ tsp)),(bm,C Az ((List.replicate (c.AA.toNat * 16) false).map Value.bool))] ++ F) = E;have ea1:At E b1 (C 67 [I c.AA,I c.AD,I c.AJ]):=by rw[← hE];exact inferInstance
 refine Aw (D':=(b6,C AO (eNw (.slice (some ⟨bw,0,none⟩) (BJ c).length cw) (.slice (some ⟨bt,0,none⟩) (AQ c.AA).length ct) (.slice (some ⟨bm,0,none⟩) (c.AA.toNat * 16) (c.AA.toNat * 16)) (.slice none 0 0))) :: E) (by rw[← hE];exact List.Perm.refl _) ?_;obtain⟨n,hn⟩:∃n:Nat,c.AD = n:=⟨c.AD.toNat,by omega⟩;refine AI (λvs R' D'=>Rz.le R'∧∃rows v A,Rw (Cb R') rows (List.replicate n ⟨[16],0,false,0⟩)∧SW 78 4 rows v A∧D' = A ++ (b6,C AO (eNw (.slice (some ⟨bw,0,none⟩) (BJ c).length cw) (.slice (some ⟨bt,0,none⟩) (AQ c.AA).length ct) (.slice (some ⟨bm,0,none⟩) (c.AA.toNat * 16) (c.AA.toNat * 16)) v)) :: E∧vs = [.pointer (some ⟨b2,0,none⟩),.pointer (some ⟨b6,0,none⟩)]) (λK hK=>?_) ?_
 ·refine AI (λvs R' D'=>Rz.le R'∧∃rows v A,Rw (Cb R') rows (List.replicate n ⟨[16],0,false,0⟩)∧SW 78 4 rows v A∧D' = A ++ (b6,C AO (eNw (.slice (some ⟨bw,0,none⟩) (BJ c).length cw) (.slice (some ⟨bt,0,none⟩) (AQ c.AA).length ct) (.slice (some ⟨bm,0,none⟩) (c.AA.toNat * 16) (c.AA.toNat * 16)) v)) :: E∧vs = [.pointer (some ⟨b2,0,none⟩),.pointer (some ⟨b6,0,none⟩)]) (λK2 hK2=>?_) ?_;rotate_left
  ·rintro e R1 D1 ⟨hR,rows,v,A,hrw,so,hD,he⟩;rw[hD];clear hD;simp only[List.map,lc,ln,lj,z_t] at he;simp only[he];exact hK _ _ _ ⟨hR,rows,v,A,hrw,so,rfl,rfl⟩
  refine jlp (λm vs R' D'=>Rz.le R'∧∃(i:Nat) (rows:List (List Value)) (v:Value) (A:Chs),i≤n∧Rw (Cb R') rows (List.replicate i ⟨[16],0,false,0⟩)∧SW 78 4 rows v A∧D' = A ++ (b6,C AO (eNw (.slice (some ⟨bw,0,none⟩) (BJ c).length cw) (.slice (some ⟨bt,0,none⟩) (AQ c.AA).length ct) (.slice (some ⟨bm,0,none⟩) (c.AA.toNat * 16) (c.AA.toNat * 16)) v)) :: E∧vs = [.pointer (some ⟨b1,0,none⟩),.pointer (some ⟨b2,0,none⟩),.pointer (some ⟨b6,0,none⟩),I i]∧m = n - i)
   (n:=n) ⟨hR2,0,[],.slice none 0 0,[],by omega,Rw.nil,.inl ⟨rfl,rfl,rfl⟩,rfl,rfl,by omega⟩ ?_
  rintro m e R1 D1 K3 ⟨hR,i,rows,v,A,hi,hrw,so,hD,he,hm⟩ hK3;rw[hD];clear hD;simp only[List.map,lc,ln,lj,z_t] at he;simp only[he];refine jfo (jl (v:=I c.AD) rfl (jlt (jif (λhd=>?_) (λhd=>?_))));rotate_left
  ·have hd:i = n:=by have:=z_g hd;omega
   subst hd;exact hK2 _ _ _ ⟨hR,rows,v,A,hrw,so,rfl,rfl⟩
  have hd:i < n:=by have:=z_f hd;omega
  obtain⟨sa,sc,hsl⟩:=so.sl;subst hsl;refine jfo (jl (v:=.slice sa rows.length sc) rfl ?_);refine jbs (cs:=[I 16]) rfl rfl λb8=>?_
  refine Be (b:=b8) λR3 hR3 hb8=>?_
  have hv2:B8 R3 (.slice (some ⟨b8,0,none⟩) 1 1) [16]:=Bq (l:=[16]) (sp:=[]) (c:=1) hb8 (by simp);refine jbd (cs:=[.slice (some ⟨b8,0,none⟩) 1 1,I 0,.bool false,I 0]) rfl rfl ?_;refine jbs (cs:=[.slice (some ⟨b8,0,none⟩) 1 1,I 0,.bool false,I 0]) rfl rfl λb9=>?_
  refine Av A (G:=(b9,C 78 [.slice (some ⟨b8,0,none⟩) 1 1,I 0,.bool false,I 0]) :: (b6,C AO (eNw (.slice (some ⟨bw,0,none⟩) (BJ c).length cw) (.slice (some ⟨bt,0,none⟩) (AQ c.AA).length ct) (.slice (some ⟨bm,0,none⟩) (c.AA.toNat * 16) (c.AA.toNat * 16)) (.slice sa rows.length sc))) :: E) ?_;have hx:BI R3 (A ++ ((b9,C 78 [.slice (some ⟨b8,0,none⟩) 1 1,I 0,.bool false,I 0]) :: (b6,C AO (eNw (.slice (some ⟨bw,0,none⟩) (BJ c).length cw) (.slice (some ⟨bt,0,none⟩) (AQ c.AA).length ct) (.slice (some ⟨bm,0,none⟩) (c.AA.toNat * 16) (c.AA.toNat * 16)) (.slice sa rows.length sc))) :: E)) (some ⟨b9,0,none⟩) (1 * 4) [[.slice (some ⟨b8,0,none⟩) 1 1,I 0,.bool false,I 0]].flatten:=BI.held (t:=78) (cs:=[.slice (some ⟨b8,0,none⟩) 1 1,I 0,.bool false,I 0]) (o:=0) (n:=1 * 4) (z_n 4);have hrl:=hrw.1;rw[List.length_replicate] at hrl;refine jaw so (hrw.all λ_ _=>Cb.len) (by intro r hr;rw[List.mem_singleton.1 hr];rfl) rfl rfl rfl (by decide) (by rw[List.length_singleton];omega) hx λv' A' so'=>?_
  obtain⟨sa',sc',hsl'⟩:=so'.sl;subst hsl';refine jfo (js (cs':=eNw (.slice (some ⟨bw,0,none⟩) (BJ c).length cw) (.slice (some ⟨bt,0,none⟩) (AQ c.AA).length ct) (.slice (some ⟨bm,0,none⟩) (c.AA.toNat * 16) (c.AA.toNat * 16)) (.slice sa' (rows ++ [[.slice (some ⟨b8,0,none⟩) 1 1,I 0,.bool false,I 0]]).length sc')) rfl rfl (by simp[eNw]) rfl ?_);refine Ae ⟨by omega,by omega⟩ ?_;refine Av A' (G:=(b6,C AO (eNw (.slice (some ⟨bw,0,none⟩) (BJ c).length cw) (.slice (some ⟨bt,0,none⟩) (AQ c.AA).length ct) (.slice (some ⟨bm,0,none⟩) (c.AA.toNat * 16) (c.AA.toNat * 16)) (.slice sa' (rows ++ [[.slice (some ⟨b8,0,none⟩) 1 1,I 0,.bool false,I 0]]).length sc'))) :: E) ?_;refine hK3 (n - (i + 1)) _ _ _ (by omega) ⟨hR.trans hR3,i + 1,_,_,A',by omega,?_,so',rfl,rfl,rfl⟩;rw[List.replicate_succ'];exact (hrw.mono λ_ _=>Cb.le hR3).app (Rw.one ⟨_,rfl,hv2⟩)
 rintro e R1 D1 ⟨hR,rows,v,A,hrw,so,hD,he⟩;rw[hD];clear hD;simp only[List.map,lc,ln,lj,z_t] at he;simp only[he];obtain⟨sa,sc,hsl⟩:=so.sl;subst hsl;refine jfw so (hrw.all λ_ _=>Cb.len) λR3 hR3 hfz=>?_
 subst hE;refine jla (l:=eNw (.slice (some ⟨bw,0,none⟩) (BJ c).length cw) (.slice (some ⟨bt,0,none⟩) (AQ c.AA).length ct) (.slice (some ⟨bm,0,none⟩) (c.AA.toNat * 16) (c.AA.toNat * 16)) (.slice sa rows.length sc)) (by exact z_n 13) rfl ?_;refine js (cs':=eNw (.slice (some ⟨bw,0,none⟩) (BJ c).length cw) (.slice (some ⟨bt,0,none⟩) (AQ c.AA).length ct) (.slice (some ⟨bm,0,none⟩) (c.AA.toNat * 16) (c.AA.toNat * 16)) (.slice sa rows.length sc)) rfl rfl (by exact z_n 13) rfl ?_;refine jla (l:=eNw (.slice (some ⟨bw,0,none⟩) (BJ c).length cw) (.slice (some ⟨bt,0,none⟩) (AQ c.AA).length ct) (.slice (some ⟨bm,0,none⟩) (c.AA.toNat * 16) (c.AA.toNat * 16)) (.slice sa rows.length sc)) (by exact z_n 13) rfl ?_;refine BV (A:=[(bw,C Ab ((BJ c).map I ++ wsp)),(bt,C AF (AY eRg (AV (AQ c.AA) 1 ⟨3,-1,24,24,0⟩) ++ tsp)),(bm,C Az ((List.replicate (c.AA.toNat * 16) false).map Value.bool))]) (hR.trans hR3) ⟨bw,cw,wsp,bt,ct,tsp,bm,.slice sa rows.length sc,hcw,hct,⟨rows,?_,hfz⟩,rfl,rfl⟩;rw[hn,Int.toNat_natCast];exact hrw.mono λ_ _=>Cb.le hR3
end Go.Lf
end
