/- A part of the proof of the given row: the walk of the law and of all that it calls. Conditions: none. -/
import Derived.Test.YtoajhnhjmhdfdaaGreatLI
set_option linter.unusedVariables false
set_option linter.unusedSimpArgs false
section
namespace Go.Lf
open Go Sm
def RdI (R:RM) (D:Chs) (v:Value) (l:List Int):Prop:=(∃a c,v = .slice a l.length c)∧∀(F:Chs) (i:Nat) (h:i < l.length) (k:Value→M),J R (D ++ F) (k (I l[i]))→J R (D ++ F) (IA 1 v (I (i:Int)) λx=>L1 x k)
theorem B9.rd {R:RM} {D:Chs} {v:Value} {l:List Int} (h:B9 R v l):RdI R D v l:=
 ⟨h.sl,λF i hi k H=>CN h (by omega) (by omega) (by rw[getElem_congr_idx (Int.toNat_natCast i)];exact H)⟩
theorem SO.rd {R:RM} {A E:Chs} {v:Value} {l:List Int} (h:SO l v A):RdI R (A ++ E) v l:=by
 rcases h with ⟨rfl,rfl,rfl⟩ | ⟨b,c,sp,hc,hsp,rfl,rfl⟩
 ·exact⟨⟨_,_,rfl⟩,λF i hi=>absurd hi (by simp)⟩
 ·refine⟨⟨_,_,rfl⟩,λF i hi k H=>Bc hi ?_⟩;exact jl (v:=I l[i]) (by rw[Nat.zero_add,Nat.mul_one];exact Gc hi) H
theorem Gk {R:RM} {D:Chs} {v:Value} {l:List Int} (n:Int) (h:RdI R D v l) (hl:l.length < 1000000000000):Ro IU [v,I n] (I (Bf l n)) R D:=by
 refine NB λF=>?_
 unfold IM;obtain⟨hsl,h⟩:=h;refine jlp (λm vs R' D'=>R' = R∧D' = D ++ F∧∃i:Nat,i≤l.length∧vs = [v,I n,I i]∧m = l.length - i∧∀k (hk:k < l.length),k < i→l[k]≠n)
  (n:=l.length) ⟨rfl,rfl,0,by omega,rfl,by omega,λk _ h=>by omega⟩ ?_
 rintro m e R1 D1 K ⟨hR1,hD,i,hi,he,hm,Bi⟩ hK;subst hR1;rw[hD];clear hD;simp only[List.map,lc,ln,lj,z_t] at he;simp only[he];refine Co hsl (jlt (jif (λhc=>?_) (λhc=>?_)))
 ·have hc:i < l.length:=by have:=z_f hc;omega
  refine h F i hc _ (jeq (jif (λhq=>?_) (λhq=>?_)))
  ·refine BV ?_;have hq:=eq_of_beq hq;have hm:n∈l:=by rw[← hq];exact List.getElem_mem hc
   unfold Bf;rw[if_pos hm,LX hc hq Bi]
  ·have hq:=ne_of_beq_false hq;refine Ac ⟨by omega,by omega⟩ ?_;refine hK (l.length - (i + 1)) _ _ _ (by omega) ⟨rfl,rfl,i + 1,by omega,rfl,rfl,λk hk hki=>?_⟩;by_cases c:k = i
   ·subst c;exact hq
   ·exact Bi k hk (by omega)
 ·have hc:¬ i < l.length:=by have:=z_g hc;omega
  refine BV ?_;have hm:n ∉ l:=by
   intro hm;obtain⟨k,hk,hkn⟩:=List.getElem_of_mem hm;exact Bi k hk (by omega) hkn
  unfold Bf;rw[if_neg hm]
theorem FU {R:RM} {A E G:Chs} {l:List Int} {v:Value} {x:Int} {b1 t cx:Nat} {k:Value→M} (so:SO l v A) (hl:l.length + 1 < 1000000000000)
  [s:Sp G A E] (H:∀v' A',SO (l ++ [x]) v' A'→J R (A' ++ E) (k v')):J R ((b1,C t [I x]) :: G) (AP AZ 1 8 [I 0] v (.slice (some ⟨b1,0,none⟩) 1 cx) k):=by
 have hp:((b1,C t [I x]) :: G).Perm (A ++ ((b1,C t [I x]) :: E)):=(s.p.cons _).trans List.perm_middle.symm;refine Au hp ?_;have hx:BG R (A ++ ((b1,C t [I x]) :: E)) (some ⟨b1,0,none⟩) (1 * 1) ([x].map I):=BG.held (t:=t) (cs:=[I x]) (o:=0) (n:=1 * 1) (z_n 1);refine jas so rfl (by simpa using hl) hx λv' A' so'=>?_
 exact Au List.perm_middle (CR (H v' A' so'))
theorem TV {R:RM} {A:Chs} {v:Value} {l:List Int} (a:Int) (so:SO l v A) (hl:l.length < 1000000):Fn P L7 [v,I a] R A (λv' R' A'=>R' = R∧SO (DS l a) v' A'):=by
 refine QH λF=>?_
 unfold LU;obtain⟨sa,sn,sc,hsl⟩:=so.sl;refine jor [v,I a] ((a == 0) || (decide (Bf l a≥0))) (λK' hK'=>?_) (λe c u ho he=>?_)
 ·refine jeq (BW (λh1=>?_) (λh1=>?_))
  ·refine jro (Gk a so.rd (by omega)) (jge (hK' _ _ _ (h1▸Ar) (by rw[h1,Bool.false_or])))
  ·exact hK' _ _ _ (h1▸B7) (by rw[h1,Bool.true_or])
 simp only[List.map,lc,ln,lj,z_t] at he;simp only[he];rw[ho];have hp:decide (Bf l a≥0) = decide (a∈l):=by
  unfold Bf;by_cases c:a∈l
  ·rw[if_pos c,decide_eq_true c,decide_eq_true (by omega)]
  ·rw[if_neg c,decide_eq_false c,decide_eq_false (by omega)]
 rw[hp];refine jif (λh0=>?_) (λh0=>?_)
 ·simp only[Bool.or_eq_true,beq_iff_eq,z_d] at h0;refine BR (A:=A) (RM.le.refl R) ?_;unfold DS;rw[if_pos h0];exact⟨rfl,so⟩
 ·have h0:¬ (a = 0∨a∈l):=by simpa using h0
  refine jbs (cs:=[I a]) rfl rfl λb1=>?_
  refine FU (A:=A) so (by omega) λv' A' so'=>?_
  refine BR (A:=A') (RM.le.refl R) ?_;unfold DS;rw[if_neg h0];exact⟨rfl,so'⟩
def Rm (l:List Am) (a:Int):Int:=match l.findIdx? λt=>t.at_ == a with | some i=>(i:Int) | none=>-1
theorem Ge {R:RM} {D:Chs} {v:Value} {l:List Am} (a:Int) (h:Tgs R v l) (hl:l.length < 1000000000000):Ro JR [v,I a] (I (Rm l a)) R D:=by
 refine Oc λF=>?_
 unfold It;refine jlp (λm vs R' D'=>R' = R∧D' = D ++ F∧∃i:Nat,i≤l.length∧vs = [v,I a,I i]∧m = l.length - i∧∀k (hk:k < l.length),k < i→(l[k]).at_≠a)
  (n:=l.length) ⟨rfl,rfl,0,by omega,rfl,by omega,λk _ h=>by omega⟩ ?_
 rintro m e R1 D1 K ⟨hR1,hD,i,hi,he,hm,Bi⟩ hK;subst hR1;rw[hD];clear hD;simp only[List.map,lc,ln,lj,z_t] at he;simp only[he];refine Co h.sl (jlt (jif (λhc=>?_) (λhc=>?_)))
 ·have hc:i < l.length:=by have:=z_f hc;omega
  refine jtg h hc λb o t cs rv nv _ _ hb ho hrow=>?_
  refine jfo (jlr (v:=I (l[i]).at_) hb (CJ hrow (f:=0) rfl) (jeq (jif (λhq=>?_) (λhq=>?_))))
  ·refine BV ?_;have hq:=eq_of_beq hq;unfold Rm;have:l.findIdx? (λt=>t.at_ == a) = some i:=by
    rw[List.findIdx?_eq_some_iff_getElem];exact⟨hc,by simpa using hq,λj hj=>by simpa using Bi j (by omega) hj⟩
   rw[this]
  ·have hq:=ne_of_beq_false hq;refine Ac ⟨by omega,by omega⟩ ?_;refine hK (l.length - (i + 1)) _ _ _ (by omega) ⟨rfl,rfl,i + 1,by omega,rfl,rfl,λk hk hki=>?_⟩;by_cases c:k = i
   ·subst c;exact hq
   ·exact Bi k hk (by omega)
 ·have hc:¬ i < l.length:=by have:=z_g hc;omega
  refine BV ?_;have:l.findIdx? (λt=>t.at_ == a) = none:=by
   rw[List.findIdx?_eq_none_iff];intro x hx;obtain⟨k,hk,rfl⟩:=List.getElem_of_mem hx;have:=Bi k hk (by omega);simpa using this
  unfold Rm;rw[this]
theorem Ip {l:List Am} {a:Int} {t:Am} (h:Fl l a = some t):∃(i:Nat) (hi:i < l.length),Rm l a = i∧l[i] = t:=by
 unfold Fl at h;have h2:(l.findIdx? λt=>t.at_ == a)≠none:=by
  intro hn;rw[List.findIdx?_eq_none_iff] at hn;have:=List.find?_some h;have hm:=List.mem_of_find?_eq_some h;rw[hn t hm] at this;cases this
 cases hi:l.findIdx? (λt=>t.at_ == a) with
 | none=>exact absurd hi h2
 | some i=>
  have hi2:=hi;rw[List.findIdx?_eq_some_iff_getElem] at hi2;obtain⟨hlt,hp,Bi⟩:=hi2;refine⟨i,hlt,by unfold Rm;rw[hi],?_⟩;have:l.find? (λt=>t.at_ == a) = some l[i]:=by
   rw[List.find?_eq_some_iff_getElem];exact⟨hp,i,hlt,rfl,λj hj=>by simpa using Bi j hj⟩
  rw[this] at h;exact (Option.some.injEq _ _).mp h
theorem Io {R:RM} {D:Chs} {v:Value} {l:List Am} {a x:Int} (h:Tgs R v l) (hl:l.length < 1000000000000) (hx:now l a = some x):Ro LG [v,I a] (I x) R D:=by
 refine Po λF=>?_
 unfold LR;unfold now at hx;refine jeq (jif (λh0=>?_) (λh0=>?_))
 ·rw[if_pos (eq_of_beq h0)] at hx;simp only[Option.some.injEq] at hx;exact BV (by rw[hx])
 ·rw[if_neg (ne_of_beq_false h0)] at hx;obtain⟨t,ht,rfl⟩:=Option.map_eq_some_iff.1 hx;obtain⟨i,hi,hp,rfl⟩:=Ip ht;refine jro (Ge a h hl) ?_;rw[hp];refine jtg h hi λb o t cs rv nv _ _ hb ho hrow=>?_
  refine jfo (jlr (v:=I (l[i]).moved) hb (CJ hrow (f:=1) rfl) ?_);exact BV rfl
end Go.Lf
end
section
namespace Go.Lf
open Go Sm
def eSt (s:Sm.CL) (wv tv mv thv ov pv:Value):List Value:=[wv,tv,mv,I s.Aa,.bool s.stop,.bool s.full,.bool s.Ad,I s.want,thv,ov,pv,I s.Ap,I s.BQ]
def Rgs (R:RM) (v:Value) (t:List Rg):Prop:=Fz R v 5 t.length (AW eRg t)
def Bls (R:RM) (v:Value) (l:List Bool):Prop:=Fz R v 1 l.length (l.map Value.bool)
def CY (R:RM) (row:List Value) (t:Th):Prop:=∃rv,row = [rv,I t.next,.bool t.busy,I t.BC]∧B9 R rv t.A7
def Ths (R:RM) (v:Value) (l:List Th):Prop:=∃rows,Rw (CY R) rows l∧Fz R v 4 rows.length rows.flatten
structure StC (R:RM) (s:Sm.CL) (wv tv mv thv ov pv:Value):Prop where
 w:B9 R wv s.A5
 t:Rgs R tv s.A0
 m:Bls R mv s.AO
 th:Ths R thv s.AB
 o:B9 R ov s.old
 p:B9 R pv s.AQ
theorem CY.le {R R' : RM} {row:List Value} {t:Th} (h:R.le R') (H:CY R row t):CY R' row t:=by
 obtain⟨rv,h1,h2⟩:=H;exact⟨rv,h1,h2.le h⟩
theorem CY.len {R:RM} {row:List Value} {t:Th} (H:CY R row t):row.length = 4:=by obtain⟨rv,rfl,h2⟩:=H;rfl
theorem CY.flat {R:RM} {row:List Value} {t:Th} (H:CY R row t):Bz row = true:=by
 obtain⟨rv,rfl,h2⟩:=H;obtain⟨_,_,rfl⟩:=h2.sl;rfl
theorem Ths.le {R R' : RM} {v:Value} {l:List Th} (h:R.le R') (H:Ths R v l):Ths R' v l:=by
 obtain⟨rows,h1,h2⟩:=H;exact⟨rows,h1.mono λ_ _=>CY.le h,h2.le h⟩
theorem Ths.sl {R:RM} {v:Value} {l:List Th} (H:Ths R v l):∃a c,v = .slice a l.length c:=by
 obtain⟨rows,h1,h2⟩:=H;obtain⟨a,cap,e,-⟩:=Fz.reads (D:=[]) h2;exact⟨a,cap,by rw[e,h1.1]⟩
theorem Fz.sl {R:RM} {v:Value} {w n:Nat} {cells:List Value} (H:Fz R v w n cells):∃a c,v = .slice a n c:=by
 obtain⟨a,cap,e,-⟩:=Fz.reads (D:=[]) H;exact⟨a,cap,e⟩
theorem StC.le {R R' : RM} {s:Sm.CL} {wv tv mv thv ov pv:Value} (h:R.le R') (H:StC R s wv tv mv thv ov pv):StC R' s wv tv mv thv ov pv:=
 ⟨H.w.le h,Fz.le h H.t,Fz.le h H.m,H.th.le h,H.o.le h,H.p.le h⟩
theorem S7 (t:List Rg):∀r∈t.map eRg,r.length = 5:=by
 intro r hr;obtain⟨x,_,rfl⟩:=List.mem_map.1 hr;rfl
theorem jrg {R:RM} {D:Chs} {v:Value} {t:List Rg} {i:Nat} {k:Value→M} (h:Rgs R v t) (hi:i < t.length)
  (H:∀b o ty cs,R b = some (C ty cs)→o + 5≤cs.length→(cs.drop o).take 5 = eRg t[i]→J R D (k (.pointer (some ⟨b,o,none⟩)))):J R D (IA 5 v (I (i:Int)) k):=by
 have h' : Fz R v 5 (t.map eRg).length (t.map eRg).flatten:=by rw[List.length_map];exact h
 obtain⟨b,o,cap,ty,cs,rfl,hb,hl,hc⟩:=Lj h' (S7 t) (by simpa using hi);refine jia (by omega) (by rw[List.length_map];omega) ?_;rw[Int.toNat_natCast];exact H b (o + i * 5) ty cs hb hl (by rw[hc,List.getElem_map])
theorem jtr {R:RM} {D:Chs} {v:Value} {l:List Th} {i:Nat} {k:Value→M} (h:Ths R v l) (hi:i < l.length)
  (H:∀b o ty cs rv,B9 R rv (l[i]).A7→R b = some (C ty cs)→o + 4≤cs.length→(cs.drop o).take 4 = [rv,I (l[i]).next,.bool (l[i]).busy,I (l[i]).BC]→J R D (k (.pointer (some ⟨b,o,none⟩)))):J R D (IA 4 v (I (i:Int)) k):=by
 obtain⟨rows,h1,h2⟩:=h;have hi' : i < rows.length:=by rw[h1.1];exact hi
 obtain⟨b,o,cap,ty,cs,rfl,hb,hl,hc⟩:=Lj h2 (h1.all λ_ _=>CY.len) hi';obtain⟨rv,e,r1⟩:=h1.2 i hi' hi;refine jia (by omega) (by omega) ?_;rw[Int.toNat_natCast];exact H b (o + i * 4) ty cs rv r1 hb hl (by rw[hc,e])
theorem N0 {rows:List (List Value)} (h:∀r∈rows,Bz r = true):Bz rows.flatten = true:=by
 unfold Bz at h ⊢;rw[List.all_eq_true];intro x hx;obtain⟨r,hr,hx⟩:=List.mem_flatten.1 hx;exact List.all_eq_true.1 (h r hr) x hx
theorem MV {w:List Int}:∀{n:Nat} {a top:Int} {l:List Am},BK w n a top = some l→l.length≤n
 | 0,a,top,l,h=>by
  unfold BK at h;split at h
  ·cases h
  ·cases h;simp
 | n + 1,a,top,l,h=>by
  unfold BK at h;split at h
  ·dsimp only at h;split at h
   ·split at h
    ·rename_i l2 h2;cases h;have:=MV h2;simp;omega
    ·cases h
   ·cases h
  ·cases h;simp
theorem RE {w:List Int} {r top:Int} {l:List Am} (h:Bv w r top = some l):l.length≤16:=by
 unfold Bv at h;split at h
 ·exact MV h
 ·cases h
theorem O8 {R:RM} {s:Sm.CL} {wv tv mv thv ov pv:Value} (h:StC R s wv tv mv thv ov pv) (hw:s.A5.length < 1000000) (ht:s.A0.length < 1000000) :
  Fn P Gj [.agg (eSt s wv tv mv thv ov pv).toArray] R [] (λv R' A=>A = []∧QTs (C5 s) v R'):=by
 refine MG λF=>?_
 unfold GL;refine ja λb=>?_
 rw[show cl (.agg (eSt s wv tv mv thv ov pv).toArray) = eSt s wv tv mv thv ov pv from rfl];refine AH (λvs R' D'=>R.le R'∧∃l v A,C5 s = some l∧(∃rows,Rw (ThC R') rows l∧SW B8 6 rows v A)∧D' = A ++ ((b,C AM (eSt s wv tv mv thv ov pv)) :: ([] ++ F))∧vs = [v]) (λK hK=>?_) ?_;rotate_left
 ·rintro e R1 D1 ⟨hR,l,v,A,hl,⟨rows,hrw,so⟩,hD,he⟩;rw[hD];clear hD;simp only[List.map,lc,ln,lj,z_t] at he;simp only[he];refine jfw so (hrw.all λ_ _=>ThC.len) λR2 hR2 hfz=>?_
  refine BR (A:=[]) (hR.trans hR2) ⟨rfl,?_⟩;rw[hl];exact⟨v,⟨rows,hrw.mono λ_ _=>ThC.le hR2,hfz⟩,rfl⟩
 refine AH (λvs R' D'=>R.le R'∧∃l v A,C5 s = some l∧(∃rows,Rw (ThC R') rows l∧SW B8 6 rows v A)∧D' = A ++ ((b,C AM (eSt s wv tv mv thv ov pv)) :: ([] ++ F))∧vs = [v]) (λK2 hK2=>?_) ?_;rotate_left
 ·rintro e R1 D1 ⟨hR,l,v,A,hl,so,hD,he⟩;rw[hD];clear hD;simp only[List.map,lc,ln,lj,z_t] at he;simp only[he];exact hK _ _ _ ⟨hR,l,v,A,hl,so,rfl,rfl⟩
 refine jlp (λm vs R' D'=>R.le R'∧∃(i:Nat) (l:List Am) (v:Value) (A:Chs) (rows:List (List Value)),1≤i∧i≤s.A0.length + 1∧l.length≤16 * i∧(match CC s.A5 i (s.A0.drop i) with | none=>none | some l2=>some (l ++ l2)) = C5 s∧Rw (ThC R') rows l∧SW B8 6 rows v A∧D' = A ++ ((b,C AM (eSt s wv tv mv thv ov pv)) :: ([] ++ F))∧vs = [.pointer (some ⟨b,0,none⟩),v,I i]∧m = s.A0.length + 1 - i)
  (n:=s.A0.length) ⟨RM.le.refl R,1,[],.slice none 0 0,[],[],by omega,by omega,by simp,by unfold C5;rw[List.drop_one];cases CC s.A5 1 s.A0.tail<;>rfl,Rw.nil,.inl ⟨rfl,rfl,rfl⟩,rfl,rfl,by omega⟩ ?_
 rintro m e R1 D1 K3 ⟨hR,i,l,v,A,rows,hi0,hi1,hll,hth,hrw,so,hD,he,hm⟩ hK3;rw[hD];clear hD;simp only[List.map,lc,ln,lj,z_t] at he;simp only[he];have h1:=h.le hR;refine jl (v:=tv) rfl (Co h1.t.sl (jlt (jif (λhc=>?_) (λhc=>?_))));rotate_left
 ·have hc:=z_g hc;refine hK2 _ _ _ ⟨hR,l,v,A,?_,⟨rows,hrw,so⟩,rfl,rfl⟩;rw[← hth,List.drop_eq_nil_of_le (by omega)];simp[CC]
 have hc:i < s.A0.length:=by have:=z_f hc;omega
 rw[List.drop_eq_getElem_cons hc] at hth;unfold CC at hth;refine jl (v:=wv) rfl (jl (v:=tv) rfl (jrg h1.t hc λb2 o2 ty cs hb ho hrow=>?_));refine jfo (jlr (v:=I (s.A0[i]).top) hb (CJ hrow (f:=2) rfl) ?_);refine jc (A:=[]) (Ox i (s.A0[i]).top h1.w (by omega)) ?_;rintro _ R2 _ hR2 ⟨rfl,hq⟩;cases hti:Bv s.A5 i (s.A0[i]).top with
 | none=>
  rw[hti] at hq hth;subst hq;refine jex rfl (jex rfl (F7 ?_));refine BR (A:=[]) (hR.trans hR2) ⟨rfl,?_⟩;rw[← hth];exact rfl
 | some l1=>
  rw[hti] at hq hth;obtain⟨tv1,⟨rows1,hrw1,hfz1⟩,rfl⟩:=hq;refine QA (jex rfl (jex rfl (Cv ?_)));obtain⟨xa,cx,hxv,hx⟩:=Fz.reads (D:=A ++ ((b,C AM (eSt s wv tv mv thv ov pv)) :: ([] ++ F))) hfz1;rw[hxv];have hrl:=hrw.1;have hrl1:=hrw1.1;have hl1:=RE hti;refine jaw so (hrw.all λ_ _=>ThC.len) (hrw1.all λ_ _=>ThC.len) rfl (N0 (hrw1.all λ_ _=>ThC.flat)) rfl (by decide) (by omega) hx λv' A' so'=>?_
  refine Ac ⟨by omega,by omega⟩ ?_;refine hK3 (s.A0.length + 1 - (i + 1)) _ _ _ (by omega) ⟨hR.trans hR2,i + 1,l ++ l1,v',A',rows ++ rows1,by omega,by omega,by rw[List.length_append];omega,?_,(hrw.mono λ_ _=>ThC.le hR2).app hrw1,so',rfl,rfl,rfl⟩;rw[← hth];cases CC s.A5 (i + 1) (s.A0.drop (i + 1)) with
  | none=>rfl
  | some l2=>simp
theorem Jn {R:RM} {D:Chs} {s:Sm.CL} {wv tv mv thv ov pv:Value} (r:Int) (h:StC R s wv tv mv thv ov pv) (hp:∀a∈s.AQ,AY a≤9223372036854775807) (hl:s.AQ.length < 1000000) :
  Ro Is [.agg (eSt s wv tv mv thv ov pv).toArray,I r] (.bool (Bt s.AQ r)) R D:=by
 refine Oz λF=>?_
 unfold JU;refine ja λb=>?_
 rw[show cl (.agg (eSt s wv tv mv thv ov pv).toArray) = eSt s wv tv mv thv ov pv from rfl];refine jlp (λm vs R' D'=>R' = R∧D' = (b,C AM (eSt s wv tv mv thv ov pv)) :: (D ++ F)∧∃i:Nat,i≤s.AQ.length∧vs = [I r,.pointer (some ⟨b,0,none⟩),I i]∧m = s.AQ.length - i∧Bt (s.AQ.drop i) r = Bt s.AQ r)
  (n:=s.AQ.length) ⟨rfl,rfl,0,by omega,rfl,by omega,by rw[List.drop_zero]⟩ ?_
 rintro m e R1 D1 K ⟨hR1,hD,i,hi,he,hm,Bi⟩ hK;subst hR1;rw[hD];clear hD;simp only[List.map,lc,ln,lj,z_t] at he;simp only[he];refine jl (v:=pv) rfl (Co h.p.sl (jlt (jif (λhc=>?_) (λhc=>?_))))
 ·have hc:i < s.AQ.length:=by have:=z_f hc;omega
  refine jl (v:=pv) rfl (CN h.p (by omega) (by omega) ?_);rw[getElem_congr_idx (Int.toNat_natCast i)];rw[List.drop_eq_getElem_cons hc] at Bi;refine jp (Ck _ (hp _ (List.getElem_mem hc))) (jeq (jif (λhq=>?_) (λhq=>?_)))
  ·refine BV ?_;rw[← Bi];unfold Bt;rw[List.any_cons,hq,Bool.true_or]
  ·refine Ac ⟨by omega,by omega⟩ ?_;refine hK (s.AQ.length - (i + 1)) _ _ _ (by omega) ⟨rfl,rfl,i + 1,by omega,rfl,rfl,?_⟩;rw[← Bi];unfold Bt;rw[List.any_cons,hq,Bool.false_or]
 ·have hc:¬ i < s.AQ.length:=by have:=z_g hc;omega
  refine BV ?_;rw[← Bi,List.drop_eq_nil_of_le (by omega)];rfl
end Go.Lf
end
section
namespace Go.Lf
open Go Sm
theorem KL (had:List Int) (a:Int):had.length≤(DS had a).length:=by
 unfold DS;split<;>simp
theorem Do {l:List Am}:∀{xs acc r:List Int},Dl l xs acc = some r→acc.length≤r.length
 | [],acc,r,h=>by cases h;exact z_n _
 | x :: xs,acc,r,h=>by
  unfold Dl at h;obtain⟨y,_,h⟩:=AA h;have:=Do h;have:=KL acc y;omega
theorem HJ {l:List Am}:∀{ts:List Th} {acc r:List Int},Db l ts acc = some r→acc.length≤r.length
 | [],acc,r,h=>by cases h;exact z_n _
 | x :: xs,acc,r,h=>by
  unfold Db at h;obtain⟨y,h1,h⟩:=AA h;have:=Do h1;have:=HJ h;omega
theorem Ix:∀(ps acc:List Int),acc.length≤(ps.foldl DS acc).length
 | [],acc=>z_n _
 | p :: ps,acc=>by
  have h1:=KL acc p;have h2:=Ix ps (DS acc p);rw[List.foldl_cons];omega
theorem FG {l:List Am}:∀{n i:Nat} {out r:List Int},DL l n i out = some r→out.length≤r.length∧r.length + 1≤i + n
 | 0,i,out,r,h=>by cases h
 | n + 1,i,out,r,h=>by
  unfold DL at h;split at h
  ·rename_i hn;cases h;have:=List.getElem?_eq_none_iff.1 hn;exact⟨z_n _,by omega⟩
  ·obtain⟨t,_,h⟩:=AA h;obtain⟨y,h1,h⟩:=AA h;have:=Do h1;obtain⟨h2,h3⟩:=FG h;exact⟨by omega,by omega⟩
theorem I7 {s:Sm.CL} {l:List Am} {r:List Int} (h:Ec s l = some r):r.length≤l.length + 1:=by
 unfold Ec at h;obtain⟨y,_,h⟩:=AA h;have:=(FG h).2;omega
theorem Pj {acc:List Int} {x:Int} {R:RM} {D:Chs} {v:Value} {A:Chs} (c:((x != 0) && decide (Bf acc x < 0)) = false) (so:SO acc v A):SO (DS acc x) v A:=by
 unfold DS;rw[if_pos]
 ·exact so
 ·unfold Bf at c;by_cases h:x = 0
  ·exact .inl h
  ·by_cases hm:x∈acc
   ·exact .inr hm
   ·rw[if_neg hm] at c;simp[h] at c
theorem LI {acc:List Int} {x:Int} (c:((x != 0) && decide (Bf acc x < 0)) = true):DS acc x = acc ++ [x]:=by
 unfold DS;rw[if_neg];simp only[z_b,bne_iff_ne,ne_eq,z_d] at c;rintro (h | h)
 ·exact c.1 h
 ·unfold Bf at c;rw[if_pos h] at c;omega
theorem NJ {R:RM} {s:Sm.CL} {wv tv mv thv ov pv lv:Value} {l:List Am} {AF:List Int} (h:StC R s wv tv mv thv ov pv) (hlv:Tgs R lv l) (hll:l.length < 900000) (hr:Ec s l = some AF) (hn:s.AB.length < 1000000) (hrl:∀t∈s.AB,t.A7.length < 1000000000) (hpl:s.AQ.length < 1000000) (hrf:∀t∈l,t.refs.length < 1000000000) :
  Fn P G4 [.agg (eSt s wv tv mv thv ov pv).toArray,lv] R [] (λv _ A=>SO AF v A):=by
 refine Ki λF=>?_
 unfold Fp;have hlen:=I7 hr;unfold Ec at hr;obtain⟨out0,hr0,hr1⟩:=AA hr;have hl1:=(FG hr1).1;have hl0:=Ix s.AQ out0;refine ja λb=>?_
 rw[show cl (.agg (eSt s wv tv mv thv ov pv).toArray) = eSt s wv tv mv thv ov pv from rfl];generalize hE:((b,C AM (eSt s wv tv mv thv ov pv)) :: ([] ++ F)) = E;have ea:At E b (C AM (eSt s wv tv mv thv ov pv)):=by rw[← hE];exact inferInstance
 have ef:Sf E F:=by rw[← hE];exact inferInstance
 refine AH (λvs R' D'=>R' = R∧∃v A,SO out0 v A∧D' = A ++ E∧vs = [lv,.pointer (some ⟨b,0,none⟩),v]) (λK hK=>?_) ?_
 ·refine AH (λvs R' D'=>R' = R∧∃v A,SO out0 v A∧D' = A ++ E∧vs = [lv,.pointer (some ⟨b,0,none⟩),v]) (λK2 hK2=>?_) ?_;rotate_left
  ·rintro e R1 D1 ⟨hR,v,A,so,hD,he⟩;rw[hD];clear hD;simp only[List.map,lc,ln,lj,z_t] at he;simp only[he];exact hK _ _ _ ⟨hR,v,A,so,rfl,rfl⟩
  refine jlp (λm vs R' D'=>R' = R∧∃(i:Nat) (acc:List Int) (v:Value) (A:Chs),i≤s.AB.length∧Db l (s.AB.drop i) acc = some out0∧SO acc v A∧D' = A ++ E∧vs = [lv,.pointer (some ⟨b,0,none⟩),v,I i]∧m = s.AB.length - i)
   (n:=s.AB.length) ⟨rfl,0,[],.slice none 0 0,[],by omega,hr0,.inl ⟨rfl,rfl,rfl⟩,rfl,rfl,by omega⟩ ?_
  rintro m e R1 D1 K3 ⟨hR,i,acc,v,A,hi,hra,so,hD,he,hm⟩ hK3;subst hR;rw[hD];clear hD;simp only[List.map,lc,ln,lj,z_t] at he;simp only[he];refine jl (v:=thv) rfl (Co h.th.sl (jlt (jif (λhc=>?_) (λhc=>?_))));rotate_left
  ·have hc:=z_g hc;rw[List.drop_eq_nil_of_le (by omega)] at hra;cases hra;exact hK2 _ _ _ ⟨rfl,v,A,so,rfl,rfl⟩
  have hc:i < s.AB.length:=by have:=z_f hc;omega
  rw[List.drop_eq_getElem_cons hc] at hra;unfold Db at hra;obtain⟨acc1,hna,hra⟩:=AA hra;have hl2:=HJ hra;have hri:=hrl _ (List.getElem_mem hc);refine AH (λvs R' D'=>R' = R1∧∃v A,SO acc1 v A∧D' = A ++ E∧vs = [lv,.pointer (some ⟨b,0,none⟩),v,I i]) (λK4 hK4=>?_) ?_;rotate_left
  ·rintro e R2 D2 ⟨hR,v,A,so,hD,he⟩;subst hR;rw[hD];clear hD;simp only[List.map,lc,ln,lj,z_t] at he;simp only[he];refine Ac ⟨by omega,by omega⟩ ?_;exact hK3 (s.AB.length - (i + 1)) _ _ _ (by omega) ⟨rfl,i + 1,acc1,v,A,by omega,hra,so,rfl,rfl,rfl⟩
  refine AH (λvs R' D'=>R' = R1∧∃v A,SO acc1 v A∧D' = A ++ E∧vs = [lv,.pointer (some ⟨b,0,none⟩),v,I i]) (λK5 hK5=>?_) ?_;rotate_left
  ·rintro e R2 D2 ⟨hR,v,A,so,hD,he⟩;rw[hD];clear hD;simp only[List.map,lc,ln,lj,z_t] at he;simp only[he];exact hK4 _ _ _ ⟨hR,v,A,so,rfl,rfl⟩
  refine AH (λvs R' D'=>R' = R1∧∃v A,SO acc1 v A∧D' = A ++ E∧vs = [lv,.pointer (some ⟨b,0,none⟩),v,I i]) (λK6 hK6=>?_) ?_;rotate_left
  ·rintro e R2 D2 ⟨hR,v,A,so,hD,he⟩;rw[hD];clear hD;simp only[List.map,lc,ln,lj,z_t] at he;simp only[he];exact hK5 _ _ _ ⟨hR,v,A,so,rfl,rfl⟩
  refine jlp (λm vs R' D'=>R' = R1∧∃(j:Nat) (acc:List Int) (v:Value) (A:Chs),j≤(s.AB[i]).A7.length∧Dl l ((s.AB[i]).A7.drop j) acc = some acc1∧SO acc v A∧D' = A ++ E∧vs = [lv,.pointer (some ⟨b,0,none⟩),v,I i,I j]∧m = (s.AB[i]).A7.length - j)
   (n:=(s.AB[i]).A7.length) ⟨rfl,0,acc,v,A,by omega,hna,so,rfl,rfl,by omega⟩ ?_
  clear hna so;rintro m e R2 D2 K7 ⟨hR,j,acc,v,A,hj,hna,so,hD,he,hm⟩ hK7;subst hR;rw[hD];clear hD;simp only[List.map,lc,ln,lj,z_t] at he;simp only[he];have hl3:=Do hna;refine jl (v:=thv) rfl (jtr h.th hc λb2 o2 ty cs rv hrv hb ho hrow=>?_);refine jfo (jlr (v:=rv) hb (CJ hrow (f:=0) rfl) (Co hrv.sl (jlt (jif (λhd=>?_) (λhd=>?_)))));rotate_left
  ·have hd:=z_g hd;rw[List.drop_eq_nil_of_le (by omega)] at hna;cases hna;exact hK6 _ _ _ ⟨rfl,v,A,so,rfl,rfl⟩
  have hd:j < (s.AB[i]).A7.length:=by have:=z_f hd;omega
  rw[List.drop_eq_getElem_cons hd] at hna;unfold Dl at hna;obtain⟨x,hx,hna⟩:=AA hna;refine AH (λvs R' D'=>R' = R2∧∃v A,SO (DS acc x) v A∧D' = A ++ E∧vs = [lv,.pointer (some ⟨b,0,none⟩),v,I i,I j]) (λK8 hK8=>?_) ?_;rotate_left
  ·rintro e R3 D3 ⟨hR,v,A,so,hD,he⟩;subst hR;rw[hD];clear hD;simp only[List.map,lc,ln,lj,z_t] at he;simp only[he];refine Ac ⟨by omega,by omega⟩ ?_;exact hK7 ((s.AB[i]).A7.length - (j + 1)) _ _ _ (by omega) ⟨rfl,j + 1,_,v,A,by omega,hna,so,rfl,rfl,rfl⟩
  refine AH (λvs R' D'=>R' = R2∧∃v A,SO (DS acc x) v A∧D' = A ++ E∧vs = [lv,.pointer (some ⟨b,0,none⟩),v,I i,I j]) (λK9 hK9=>?_) ?_;rotate_left
  ·rintro e R3 D3 ⟨hR,v,A,so,hD,he⟩;rw[hD];clear hD;simp only[List.map,lc,ln,lj,z_t] at he;simp only[he];exact hK8 _ _ _ ⟨hR,v,A,so,rfl,rfl⟩
  refine jl (v:=thv) rfl (jtr h.th hc λb2 o2 ty cs rv hrv hb ho hrow=>?_);refine jfo (jlr (v:=rv) hb (CJ hrow (f:=0) rfl) (CN hrv (by omega) (by omega) ?_));rw[getElem_congr_idx (Int.toNat_natCast j)];refine jro (Io hlv (by omega) hx) ?_;obtain⟨sa,sn,sc,hsl⟩:=so.sl;refine jan [lv,.pointer (some ⟨b,0,none⟩),v,I i,I j,I x] (((x != 0)) && (decide (Bf acc x < 0))) (λK' hK'=>?_) (λe c u ho he=>?_)
  ·refine jne (Bj (λh1=>?_) (λh1=>?_))
   ·refine jro (Gk x so.rd (by omega)) (jlt (hK' _ _ _ (h1▸Aq) (by rw[h1,Bool.true_and])))
   ·exact hK' _ _ _ (h1▸As) (by rw[h1,Bool.false_and])
  simp only[List.map,lc,ln,lj,z_t] at he;simp only[he];rw[ho];refine jif (λh0=>?_) (λh0=>?_)
  ·refine jbs (cs:=[I x]) rfl rfl λb1=>?_
   refine FU (A:=A) so (by omega) λv' A' so'=>?_
   exact hK9 _ _ _ ⟨rfl,v',A',by rw[LI h0];exact so',rfl,rfl⟩
  ·exact hK9 _ _ _ ⟨rfl,v,A,Pj (R:=R2) (D:=[]) h0 so,rfl,rfl⟩
 rintro e R1 D1 ⟨hR,v,A,so,hD,he⟩;subst hR;rw[hD];clear hD;simp only[List.map,lc,ln,lj,z_t] at he;simp only[he];generalize hou:s.AQ.foldl DS out0 = out1 at hr1 hl1 hl0;refine AH (λvs R' D'=>R' = R1∧∃v A,SO out1 v A∧D' = A ++ E∧vs = [lv,v]) (λK hK=>?_) ?_
 ·refine AH (λvs R' D'=>R' = R1∧∃v A,SO out1 v A∧D' = A ++ E∧vs = [lv,v]) (λK2 hK2=>?_) ?_;rotate_left
  ·rintro e R1 D1 ⟨hR,v,A,so,hD,he⟩;rw[hD];clear hD;simp only[List.map,lc,ln,lj,z_t] at he;simp only[he];exact hK _ _ _ ⟨hR,v,A,so,rfl,rfl⟩
  refine jlp (λm vs R' D'=>R' = R1∧∃(i:Nat) (acc:List Int) (v:Value) (A:Chs),i≤s.AQ.length∧(s.AQ.drop i).foldl DS acc = out1∧SO acc v A∧D' = A ++ E∧vs = [lv,.pointer (some ⟨b,0,none⟩),v,I i]∧m = s.AQ.length - i)
   (n:=s.AQ.length) ⟨rfl,0,out0,v,A,by omega,hou,so,rfl,rfl,by omega⟩ ?_
  rintro m e R1 D1 K3 ⟨hR,i,acc,v,A,hi,hra,so,hD,he,hm⟩ hK3;subst hR;rw[hD];clear hD;simp only[List.map,lc,ln,lj,z_t] at he;simp only[he];refine jl (v:=pv) rfl (Co h.p.sl (jlt (jif (λhc=>?_) (λhc=>?_))));rotate_left
  ·have hc:=z_g hc;rw[List.drop_eq_nil_of_le (by omega),List.foldl_nil] at hra;subst hra;exact hK2 _ _ _ ⟨rfl,v,A,so,rfl,rfl⟩
  have hc:i < s.AQ.length:=by have:=z_f hc;omega
  rw[List.drop_eq_getElem_cons hc,List.foldl_cons] at hra;have hl2:=Ix (s.AQ.drop (i + 1)) (DS acc s.AQ[i]);have hl3:=KL acc s.AQ[i];rw[hra] at hl2;refine jl (v:=pv) rfl (CN h.p (by omega) (by omega) ?_);rw[getElem_congr_idx (Int.toNat_natCast i)];refine jc (A:=A) (TV _ so (by omega)) ?_;rintro v' R2 A' hR2 ⟨hRR,so'⟩;subst hRR;refine Ac ⟨by omega,by omega⟩ ?_;exact hK3 (s.AQ.length - (i + 1)) _ _ _ (by omega) ⟨rfl,i + 1,_,v',A',by omega,hra,so',rfl,rfl,rfl⟩
 clear so hr0;rintro e R2 D2 ⟨hR,v,A,so,hD,he⟩;subst hR;rw[hD];clear hD;simp only[List.map,lc,ln,lj,z_t] at he;simp only[he];refine AH (λvs R' D'=>R' = R2∧∃v A,SO AF v A∧D' = A ++ E∧vs = [v]) (λK hK=>?_) ?_;rotate_left
 ·rintro e R3 D3 ⟨hR,v,A,so,hD,he⟩;subst hR;rw[hD];clear hD;simp only[List.map,lc,ln,lj,z_t] at he;simp only[he];exact BR (A:=A) (RM.le.refl R3) so
 refine AH (λvs R' D'=>R' = R2∧∃v A,SO AF v A∧D' = A ++ E∧vs = [v]) (λK2 hK2=>?_) ?_;rotate_left
 ·rintro e R3 D3 ⟨hR,v,A,so,hD,he⟩;rw[hD];clear hD;simp only[List.map,lc,ln,lj,z_t] at he;simp only[he];exact hK _ _ _ ⟨hR,v,A,so,rfl,rfl⟩
 refine jlp (λm vs R' D'=>R' = R2∧∃(k:Nat) (acc:List Int) (v:Value) (A:Chs),DL l m k acc = some AF∧SO acc v A∧D' = A ++ E∧vs = [lv,v,I k])
  (n:=l.length + 2) ⟨rfl,0,out1,v,A,hr1,so,rfl,rfl⟩ ?_
 clear so;rintro m e R3 D3 K3 ⟨hR,i,acc,v,A,hra,so,hD,he⟩ hK3;subst hR;rw[hD];clear hD;simp only[List.map,lc,ln,lj,z_t] at he;simp only[he];obtain⟨hl2,hl3⟩:=FG hra;obtain⟨m,rfl⟩:∃k,m = k + 1:=by
  cases m with
  | zero=>cases hra
  | succ m=>exact⟨m,rfl⟩
 unfold DL at hra;obtain⟨hsl,hrd⟩:=so.rd (R:=R3) (E:=E);refine Co hsl (jlt (jif (λhc=>?_) (λhc=>?_)));rotate_left
 ·have hc:=z_g hc;rw[List.getElem?_eq_none (by omega)] at hra;cases hra;exact hK2 _ _ _ ⟨rfl,v,A,so,rfl,rfl⟩
 have hc:i < acc.length:=by have:=z_f hc;omega
 rw[List.getElem?_eq_getElem hc] at hra;obtain⟨t,ht,hra⟩:=AA hra;obtain⟨acc1,hna,hra⟩:=AA hra;have hl4:=(FG hra).1;refine AH (λvs R' D'=>R' = R3∧∃v A,SO acc1 v A∧D' = A ++ E∧vs = [lv,v,I i]) (λK4 hK4=>?_) ?_;rotate_left
 ·rintro e R2 D2 ⟨hR,v,A,so,hD,he⟩;subst hR;rw[hD];clear hD;simp only[List.map,lc,ln,lj,z_t] at he;simp only[he];refine Ac ⟨by omega,by omega⟩ ?_;exact hK3 m _ _ _ (by omega) ⟨rfl,i + 1,acc1,v,A,hra,so,rfl,rfl⟩
 refine AH (λvs R' D'=>R' = R3∧∃v A,SO acc1 v A∧D' = A ++ E∧vs = [lv,v,I i]) (λK5 hK5=>?_) ?_;rotate_left
 ·rintro e R2 D2 ⟨hR,v,A,so,hD,he⟩;rw[hD];clear hD;simp only[List.map,lc,ln,lj,z_t] at he;simp only[he];exact hK4 _ _ _ ⟨hR,v,A,so,rfl,rfl⟩
 refine Au (D':=(A ++ E) ++ []) (by rw[List.append_nil]) (hrd [] i hc _ ?_);rw[List.append_nil];obtain⟨n,hn2,hp,rfl⟩:=Ip ht;refine jro (Ge _ hlv (by omega)) ?_;rw[hp];refine jtg hlv hn2 λb2 o2 ty cs rv nv hrv hnv hb ho hrow=>?_
 have hrfn:=hrf _ (List.getElem_mem hn2);obtain⟨ra,rc,rfl⟩:=hrv.sl;obtain⟨na,nc,rfl⟩:=hnv.sl;refine Of hb ho hrow ?_;refine ja λb3=>?_
 refine js (cs':=eTh l[n] (.slice ra l[n].refs.length rc) (.slice na l[n].nums.length nc)) rfl rfl (by exact z_n 6) rfl ?_;refine Au List.perm_middle.symm ?_;refine AH (λvs R' D'=>R' = R3∧∃v A,SO acc1 v A∧D' = A ++ E∧vs = [lv,v,I i]) (λK6 hK6=>?_) ?_;rotate_left
 ·rintro e R2 D2 ⟨hR,v,A,so,hD,he⟩;rw[hD];clear hD;simp only[List.map,lc,ln,lj,z_t] at he;simp only[he];exact hK5 _ _ _ ⟨hR,v,A,so,rfl,rfl⟩
 refine jlp (λm vs R' D'=>R' = R3∧∃(j:Nat) (acc:List Int) (v:Value) (A:Chs),j≤(l[n]).refs.length∧Dl l ((l[n]).refs.drop j) acc = some acc1∧SO acc v A∧D' = A ++ ((b3,C B8 (eTh l[n] (.slice ra l[n].refs.length rc) (.slice na l[n].nums.length nc))) :: E)∧vs = [lv,v,I i,.pointer (some ⟨b3,0,none⟩),I j]∧m = (l[n]).refs.length - j)
  (n:=(l[n]).refs.length) ⟨rfl,0,acc,v,A,by omega,hna,so,rfl,rfl,by omega⟩ ?_
 clear hna so hrd;rintro m2 e R2 D2 K7 ⟨hR,j,acc,v,A,hj,hna,so,hD,he,hm⟩ hK7;subst hR;rw[hD];clear hD;simp only[List.map,lc,ln,lj,z_t] at he;simp only[he];have hl5:=Do hna;refine jl (v:=.slice ra l[n].refs.length rc) rfl (jln (jlt (jif (λhd=>?_) (λhd=>?_))));rotate_left
 ·have hd:=z_g hd;rw[List.drop_eq_nil_of_le (by omega)] at hna;cases hna;refine Av A (G:=E) ?_;exact hK6 _ _ _ ⟨rfl,v,A,so,rfl,rfl⟩
 have hd:j < (l[n]).refs.length:=by have:=z_f hd;omega
 rw[List.drop_eq_getElem_cons hd] at hna;unfold Dl at hna;obtain⟨x,hx,hna⟩:=AA hna;refine AH (λvs R' D'=>R' = R2∧∃v A,SO (DS acc x) v A∧D' = A ++ ((b3,C B8 (eTh l[n] (.slice ra l[n].refs.length rc) (.slice na l[n].nums.length nc))) :: E)∧vs = [lv,v,I i,.pointer (some ⟨b3,0,none⟩),I j]) (λK8 hK8=>?_) ?_;rotate_left
 ·rintro e R3 D3 ⟨hR,v,A,so,hD,he⟩;subst hR;rw[hD];clear hD;simp only[List.map,lc,ln,lj,z_t] at he;simp only[he];refine Ac ⟨by omega,by omega⟩ ?_;exact hK7 ((l[n]).refs.length - (j + 1)) _ _ _ (by omega) ⟨rfl,j + 1,_,v,A,by omega,hna,so,rfl,rfl,rfl⟩
 refine AH (λvs R' D'=>R' = R2∧∃v A,SO (DS acc x) v A∧D' = A ++ ((b3,C B8 (eTh l[n] (.slice ra l[n].refs.length rc) (.slice na l[n].nums.length nc))) :: E)∧vs = [lv,v,I i,.pointer (some ⟨b3,0,none⟩),I j]) (λK9 hK9=>?_) ?_;rotate_left
 ·rintro e R3 D3 ⟨hR,v,A,so,hD,he⟩;rw[hD];clear hD;simp only[List.map,lc,ln,lj,z_t] at he;simp only[he];exact hK8 _ _ _ ⟨hR,v,A,so,rfl,rfl⟩
 refine jl (v:=.slice ra l[n].refs.length rc) rfl (CN hrv (by omega) (by omega) ?_);rw[getElem_congr_idx (Int.toNat_natCast j)];refine jro (Io hlv (by omega) hx) ?_;obtain⟨sa,sn,sc,hsl⟩:=so.sl;refine jan [lv,v,I i,.pointer (some ⟨b3,0,none⟩),I j,I x] (((x != 0)) && (decide (Bf acc x < 0))) (λK' hK'=>?_) (λe c u ho he=>?_)
 ·refine jne (Bj (λh1=>?_) (λh1=>?_))
  ·refine jro (Gk x so.rd (by omega)) (jlt (hK' _ _ _ (h1▸Aq) (by rw[h1,Bool.true_and])))
  ·exact hK' _ _ _ (h1▸As) (by rw[h1,Bool.false_and])
 simp only[List.map,lc,ln,lj,z_t] at he;simp only[he];rw[ho];refine jif (λh0=>?_) (λh0=>?_)
 ·refine jbs (cs:=[I x]) rfl rfl λb1=>?_
  refine FU (A:=A) so (by omega) λv' A' so'=>?_
  exact hK9 _ _ _ ⟨rfl,v',A',by rw[LI h0];exact so',rfl,rfl⟩
 ·exact hK9 _ _ _ ⟨rfl,v,A,Pj (R:=R2) (D:=[]) h0 so,rfl,rfl⟩
end Go.Lf
end
section
namespace Go.Lf
open Go Sm
theorem V6 {R:RM} {A E:Chs} {l:List Int} {v:Value} {x:Int} {i:Nat} {m:M} (so:SO l v A) (hi:i < l.length) (H:∀A',SO (l.set i x) v A'→J R (A' ++ E) m):J R (A ++ E) (IA 1 v (I (i:Int)) λq=>ST 1 q (I x) m):=by
 rcases so with ⟨rfl,_,_⟩ | ⟨b,c,sp,hc,hsp,rfl,rfl⟩
 ·exact absurd hi (by simp)
 ·refine Bc hi (jsi (l:=l) (sp:=sp) (D':=[(b,C AZ ((l.set i x).map I ++ sp))] ++ E) (by exact hi) ?_);exact H _ (.inr ⟨b,c,sp,by simpa using hc,by simpa using hsp,by rw[List.length_set],rfl⟩)
theorem NO (l:List Int) (x:Int):(Et l x).length = l.length + 1:=by
 unfold Et;have:∀k,DI l x k≤k:=by
  intro k;induction k with
  | zero=>exact z_n 0
  | succ k ih=>unfold DI;split<;>omega
 have:=this l.length;simp only[List.length_append,List.length_take,List.length_cons,List.length_drop];omega
theorem Js:∀(l acc:List Int),(l.foldl Et acc).length = acc.length + l.length
 | [],acc=>by simp
 | a :: r,acc=>by rw[List.foldl_cons,Js r,NO];simp;omega
theorem OQ {R:RM} {v:Value} {l:List Int} (h:B9 R v l) (hl:l.length < 1000000):Fn P GP [v] R [] (λv' R' A=>R' = R∧SO (Cr l) v' A):=by
 refine Lw λF=>?_
 unfold H8;refine AH (λvs R' D'=>R' = R∧∃v' A,SO (Cr l) v' A∧D' = A ++ F∧vs = [v']) (λK hK=>?_) ?_;rotate_left
 ·rintro e R3 D3 ⟨hR,v',A,so,hD,he⟩;subst hR;rw[hD];clear hD;simp only[List.map,lc,ln,lj,z_t] at he;simp only[he];exact BR (A:=A) (RM.le.refl R3) ⟨rfl,so⟩
 refine AH (λvs R' D'=>R' = R∧∃v' A,SO (Cr l) v' A∧D' = A ++ F∧vs = [v']) (λK2 hK2=>?_) ?_;rotate_left
 ·rintro e R3 D3 ⟨hR,v',A,so,hD,he⟩;rw[hD];clear hD;simp only[List.map,lc,ln,lj,z_t] at he;simp only[he];exact hK _ _ _ ⟨hR,v',A,so,rfl,rfl⟩
 refine jlp (λm vs R' D'=>R' = R∧∃(k:Nat) (acc:List Int) (v' : Value) (A:Chs),k≤l.length∧acc.length = k∧(l.drop k).foldl Et acc = Cr l∧SO acc v' A∧D' = A ++ F∧vs = [v,v',I k]∧m = l.length - k)
  (n:=l.length) ⟨rfl,0,[],.slice none 0 0,[],by omega,rfl,rfl,.inl ⟨rfl,rfl,rfl⟩,rfl,rfl,by omega⟩ ?_
 rintro m e R1 D1 K3 ⟨hR,k,acc,v',A,hk,hal,hra,so,hD,he,hm⟩ hK3;subst hR;rw[hD];clear hD;simp only[List.map,lc,ln,lj,z_t] at he;simp only[he];refine Co h.sl (jlt (jif (λhc=>?_) (λhc=>?_)));rotate_left
 ·have hc:=z_g hc;rw[List.drop_eq_nil_of_le (by omega),List.foldl_nil] at hra;subst hra;exact hK2 _ _ _ ⟨rfl,v',A,so,rfl,rfl⟩
 have hc:k < l.length:=by have:=z_f hc;omega
 rw[List.drop_eq_getElem_cons hc,List.foldl_cons] at hra;refine AH (λvs R' D'=>R' = R1∧∃v' A,SO (Et acc l[k]) v' A∧D' = A ++ F∧vs = [v,v',I k]) (λK4 hK4=>?_) ?_;rotate_left
 ·rintro e R2 D2 ⟨hR,v',A,so,hD,he⟩;subst hR;rw[hD];clear hD;simp only[List.map,lc,ln,lj,z_t] at he;simp only[he];refine Ac ⟨by omega,by omega⟩ ?_;exact hK3 (l.length - (k + 1)) _ _ _ (by omega) ⟨rfl,k + 1,_,v',A,by omega,by rw[NO,hal],hra,so,rfl,rfl,rfl⟩
 refine AH (λvs R' D'=>R' = R1∧∃v' A,SO (Et acc l[k]) v' A∧D' = A ++ F∧vs = [v,v',I k]) (λK5 hK5=>?_) ?_;rotate_left
 ·rintro e R2 D2 ⟨hR,v',A,so,hD,he⟩;rw[hD];clear hD;simp only[List.map,lc,ln,lj,z_t] at he;simp only[he];exact hK4 _ _ _ ⟨hR,v',A,so,rfl,rfl⟩
 obtain⟨hsl,-⟩:=so.rd (R:=R1) (E:=F);refine Co hsl (CN h (by omega) (by omega) ?_);rw[getElem_congr_idx (Int.toNat_natCast k)];generalize l[k] = x at hK5;refine jbs (cs:=[I x]) rfl rfl λb1=>?_
 refine FU (A:=A) so (by omega) λv2 A2 so2=>?_
 refine AH (λvs R' D'=>R' = R1∧∃v' A,SO (Et acc x) v' A∧D' = A ++ F∧vs = [v,v',I k]) (λK6 hK6=>?_) ?_;rotate_left
 ·rintro e R2 D2 ⟨hR,v',A,so,hD,he⟩;rw[hD];clear hD;simp only[List.map,lc,ln,lj,z_t] at he;simp only[he];exact hK5 _ _ _ ⟨hR,v',A,so,rfl,rfl⟩
 refine jlp (λm vs R' D'=>R' = R1∧∃(i:Nat) (cur:List Int) (A:Chs),i≤acc.length∧cur = acc.take i ++ x :: acc.drop i∧DI acc x i = DI acc x acc.length∧SO cur v2 A∧D' = A ++ F∧vs = [v,v2,I k,I i]∧m = i)
  (n:=acc.length) ⟨rfl,acc.length,acc ++ [x],A2,by omega,by simp,rfl,so2,rfl,rfl,rfl⟩ ?_
 clear so so2;rintro m2 e R2 D2 K7 ⟨hR,i,cur,A,hi,hcur,hip,so,hD,he,hm⟩ hK7;subst hR;rw[hD];clear hD;simp only[List.map,lc,ln,lj,z_t] at he;simp only[he];have hcl:cur.length = acc.length + 1:=by rw[hcur];simp;omega
 obtain⟨-,hrd⟩:=so.rd (R:=R2) (E:=F);have hrd' : ∀(i:Nat) (h:i < cur.length) (k:Value→M),J R2 (A ++ F) (k (I cur[i]))→J R2 (A ++ F) (IA 1 v2 (I (i:Int)) λx=>L1 x k):=λi h k H=>by
  have:=hrd [] i h k (by rw[List.append_nil];exact H);rw[List.append_nil] at this;exact this
 have gi:cur[i]'(by omega) = x:=by
  subst hcur;rw[List.getElem_append_right (by simp;omega)];simp[Nat.min_eq_left hi]
 cases i with
 | zero=>
  refine Cb (jgr ?_);rw[decide_eq_false (by decide)];refine jft (C4 λe he=>?_);simp only[List.map,lc,ln,lj,z_t] at he;simp only[he];refine DU (Cv ?_);refine hK6 _ _ _ ⟨rfl,v2,A,?_,rfl,rfl⟩;have:Et acc x = cur:=by
   unfold Et;rw[← hip,hcur];rfl
  rw[this];exact so
 | succ i=>
  have gp:cur[i]'(by omega) = acc[i]'(by omega):=by
   subst hcur;rw[List.getElem_append_left (by simp;omega),List.getElem_take]
  obtain⟨y,hy⟩:∃y,acc[i]'(by omega) = y:=⟨_,rfl⟩;rw[hy] at gp;have es:((i + 1:Nat):Int) - 1 = (i:Nat):=by omega
  have hip2:(if x < acc.getD i 0 then DI acc x i else i + 1) = DI acc x acc.length:=hip;rw[List.getD_eq_getElem?_getD,List.getElem?_eq_getElem (by omega),Option.getD_some,hy] at hip2;refine Cb (jgr ?_);rw[decide_eq_true (by omega)];refine jtt (DE ⟨by omega,by omega⟩ ?_);rw[es];refine hrd' i (by omega) _ (hrd' (i + 1) (by omega) _ (jgr (C4 λe he=>?_)));simp only[List.map,lc,ln,lj,z_t] at he;simp only[he];rw[gp,gi];refine Da (jif (λh1=>?_) (λh1=>?_))
  ·have h1:x < y:=z_f h1;rw[if_pos h1] at hip2;refine DE ⟨by omega,by omega⟩ ?_;rw[es];refine hrd' i (by omega) _ (DE ⟨by omega,by omega⟩ ?_);rw[es];refine hrd' (i + 1) (by omega) _ ?_;refine V6 so (by omega) λA3 so3=>?_
   refine V6 so3 (by rw[List.length_set];omega) λA4 so4=>?_
   refine DE ⟨by omega,by omega⟩ ?_;rw[es];rw[gp,gi] at so4;refine hK7 i _ _ _ (by omega) ⟨rfl,i,_,A4,by omega,?_,hip2,so4,rfl,rfl,rfl⟩;have e1:acc.take (i + 1) = acc.take i ++ [y]:=by rw[List.take_succ_eq_append_getElem (by omega),hy]
   have e2:acc.drop i = y :: acc.drop (i + 1):=by rw[List.drop_eq_getElem_cons (by omega),hy]
   have l1:(acc.take i).length = i:=by simp;omega
   rw[hcur,e1,e2,List.append_assoc,List.set_append_right _ _ (by omega),List.set_append_right _ _ (by omega),l1];simp
  ·have h1:¬ x < y:=z_g h1;rw[if_neg h1] at hip2;refine hK6 _ _ _ ⟨rfl,v2,A,?_,rfl,rfl⟩;have:Et acc x = cur:=by
    unfold Et;rw[← hip2,hcur]
   rw[this];exact so
end Go.Lf
end
section
namespace Go.Lf
open Go Sm
def TB (l:List Am):Prop:=∀t∈l,0≤t.at_∧t.at_ < 1000000∧t.refs.length≤4∧t.nums.length≤4
theorem V9 {w:List Int} {a:Int} (hl:w.length < 1000000) (h:(BY w a).2 = true):0≤(BY w a).1.at_∧(BY w a).1.at_ < 1000000∧(BY w a).1.refs.length≤4∧(BY w a).1.nums.length≤4:=by
 unfold BY at h ⊢;split at h
 ·rename_i h1;rw[if_pos h1];dsimp only at h ⊢;split at h
  ·rename_i h2;rw[if_pos h2];simp only[z_b] at h2;have:=HQ h2.1;have:=H3 h1;dsimp only;refine⟨by omega,by omega,?_,?_⟩
   ·unfold seg;rw[List.length_take];omega
   ·unfold seg;rw[List.length_take];omega
  ·exact absurd h (by decide)
 ·exact absurd h (by decide)
theorem PS {w:List Int} (hl:w.length < 1000000):∀{n:Nat} {a top:Int} {l:List Am},BK w n a top = some l→TB l
 | 0,a,top,l,h=>by
  unfold BK at h;split at h
  ·cases h
  ·cases h;intro t ht;cases ht
 | n + 1,a,top,l,h=>by
  unfold BK at h;split at h
  ·dsimp only at h;split at h
   ·rename_i hc;simp only[z_b] at hc;split at h
    ·rename_i l2 h2;cases h;intro t ht;rcases List.mem_cons.1 ht with rfl | ht
     ·exact V9 hl hc.1
     ·exact PS hl h2 t ht
    ·cases h
   ·cases h
  ·cases h;intro t ht;cases ht
theorem Qx {w:List Int} (hl:w.length < 1000000):∀{t:List Rg} {r:Nat} {l:List Am},CC w r t = some l→TB l∧l.length≤16 * t.length
 | [],r,l,h=>by
  cases h;exact⟨λt ht=>(by cases ht),by simp⟩
 | x :: t,r,l,h=>by
  unfold CC at h;split at h
  ·cases h
  ·rename_i a ha;split at h
   ·cases h
   ·rename_i b hb;cases h;obtain⟨h1,h2⟩:=Qx hl hb;have h3:=RE ha;have h4:TB a:=by
     unfold Bv at ha;split at ha
     ·exact PS hl ha
     ·cases ha
    refine⟨λt ht=>?_,by rw[List.length_append,List.length_cons];omega⟩;rcases List.mem_append.1 ht with ht | ht
    ·exact h4 t ht
    ·exact h1 t ht
theorem EY {w w' : List Int} {a v:Int} (h:Sm.wr w a v = some w'):0≤a∧a < w.length∧w' = w.set a.toNat v:=by
 unfold Sm.wr at h;split at h
 ·rename_i hc;cases h;exact⟨hc.1,hc.2,rfl⟩
 ·cases h
theorem Rr {R:RM} {s:Sm.CL} {wv tv mv thv ov pv lv:Value} {l:List Am} {w w' : List Int} {t t' : List Rg} {wsp tsp:List Value} {bw cw bt ct:Nat} (h:StC R s wv tv mv thv ov pv) (hlv:Tgs R lv l) (htb:TB l) (hll:l.length < 1000000)
  (hp:∀a∈s.AQ,AY a≤9223372036854775807) (hpl:s.AQ.length < 1000000) (hS:stay s l w t = some (w',t')) :
  Fn P Jw [.agg (eSt s wv tv mv thv ov pv).toArray,lv,.slice (some ⟨bw,0,none⟩) w.length cw,.slice (some ⟨bt,0,none⟩) t.length ct] R
   [(bw,C AZ (w.map I ++ wsp)),(bt,C AD (AW eRg t ++ tsp))] (λ_ R' A=>R' = R∧w'.length = w.length∧t'.length = t.length∧A = [(bw,C AZ (w'.map I ++ wsp)),(bt,C AD (AW eRg t' ++ tsp))]):=by
 refine O5 λF=>?_
 unfold KG;refine ja λb=>?_
 rw[show cl (.agg (eSt s wv tv mv thv ov pv).toArray) = eSt s wv tv mv thv ov pv from rfl];refine jlp (λm vs R' D'=>R' = R∧∃(i:Nat) (w1:List Int) (t1:List Rg),i≤l.length∧w1.length = w.length∧t1.length = t.length∧stay s (l.drop i) w1 t1 = some (w',t')∧D' = (b,C AM (eSt s wv tv mv thv ov pv)) :: (bw,C AZ (w1.map I ++ wsp)) :: (bt,C AD (AW eRg t1 ++ tsp)) :: F∧vs = [lv,.slice (some ⟨bw,0,none⟩) w.length cw,.slice (some ⟨bt,0,none⟩) t.length ct,.pointer (some ⟨b,0,none⟩),I i]∧m = l.length - i)
  (n:=l.length) ⟨rfl,0,w,t,by omega,rfl,rfl,hS,rfl,rfl,by omega⟩ ?_
 clear hS;rintro m e R1 D1 K ⟨hR,i,w1,t1,hi,hwl,htl,hS,hD,he,hm⟩ hK;subst hR;rw[hD];clear hD;simp only[List.map,lc,ln,lj,z_t] at he;simp only[he];refine Co hlv.sl (jlt (jif (λhc=>?_) (λhc=>?_)));rotate_left
 ·have hc:=z_g hc;rw[List.drop_eq_nil_of_le (by omega)] at hS;cases hS;refine BR (A:=[(bw,C AZ (w'.map I ++ wsp)),(bt,C AD (AW eRg t' ++ tsp))]) (RM.le.refl R1) ⟨rfl,hwl,htl,rfl⟩
 have hc:i < l.length:=by have:=z_f hc;omega
 rw[List.drop_eq_getElem_cons hc] at hS;obtain⟨a0,a1,r1,n1⟩:=htb _ (List.getElem_mem hc);unfold stay at hS;dsimp only at hS;have hreg:AY (l[i]).at_≤9223372036854775807:=by unfold AY;split<;>omega
 refine AH (λvs R' D'=>R' = R1∧∃(w2:List Int) (t2:List Rg),w2.length = w.length∧t2.length = t.length∧stay s (l.drop (i + 1)) w2 t2 = some (w',t')∧D' = (b,C AM (eSt s wv tv mv thv ov pv)) :: (bw,C AZ (w2.map I ++ wsp)) :: (bt,C AD (AW eRg t2 ++ tsp)) :: F∧vs = [lv,.slice (some ⟨bw,0,none⟩) w.length cw,.slice (some ⟨bt,0,none⟩) t.length ct,.pointer (some ⟨b,0,none⟩),I i]) (λK4 hK4=>?_) ?_;rotate_left
 ·rintro e R2 D2 ⟨hR,w2,t2,hwl2,htl2,hS2,hD,he⟩;subst hR;rw[hD];clear hD;simp only[List.map,lc,ln,lj,z_t] at he;simp only[he];refine Ac ⟨by omega,by omega⟩ ?_;exact hK (l.length - (i + 1)) _ _ _ (by omega) ⟨rfl,i + 1,w2,t2,by omega,hwl2,htl2,hS2,rfl,rfl,rfl⟩
 refine AH (λvs R' D'=>R' = R1∧∃(w2:List Int) (t2:List Rg),w2.length = w.length∧t2.length = t.length∧stay s (l.drop (i + 1)) w2 t2 = some (w',t')∧D' = (b,C AM (eSt s wv tv mv thv ov pv)) :: (bw,C AZ (w2.map I ++ wsp)) :: (bt,C AD (AW eRg t2 ++ tsp)) :: F∧vs = [lv,.slice (some ⟨bw,0,none⟩) w.length cw,.slice (some ⟨bt,0,none⟩) t.length ct,.pointer (some ⟨b,0,none⟩),I i]) (λK5 hK5=>?_) ?_;rotate_left
 ·rintro e R2 D2 ⟨hR,w2,t2,hwl2,htl2,hS2,hD,he⟩;rw[hD];clear hD;simp only[List.map,lc,ln,lj,z_t] at he;simp only[he];exact hK4 _ _ _ ⟨hR,w2,t2,hwl2,htl2,hS2,rfl,rfl⟩
 obtain⟨rows,hrw,hfz⟩:=hlv;have hi' : i < rows.length:=by rw[hrw.1];exact hc
 obtain⟨bl,ol,capl,tyl,csl,hlve,hbl,hol,hcl⟩:=Lj hfz (hrw.all λ_ _=>ThC.len) hi';obtain⟨rv,nv,erow,hrv,hnv⟩:=hrw.2 i hi' hc;rw[erow] at hcl;have hlv:Tgs R1 lv l:=⟨rows,hrw,hfz⟩;have ia:∀{D:Chs} {k:Value→M},J R1 D (k (.pointer (some ⟨bl,ol + i * 6,none⟩)))→J R1 D (IA 6 lv (I (i:Int)) k):=λH=>by
  rw[hlve];refine jia (by omega) (by omega) ?_;rw[Int.toNat_natCast];exact H
 have g0:csl[ol + i * 6 + 0]? = some (I (l[i]).at_):=CJ hcl (f:=0) rfl;have g4:csl[ol + i * 6 + 4]? = some rv:=CJ hcl (f:=4) rfl;have g5:csl[ol + i * 6 + 5]? = some nv:=CJ hcl (f:=5) rfl;have g2:(csl.drop (ol + i * 6 + 2)).take 2 = [I (l[i]).sh.refs,I (l[i]).sh.nums]:=by
  have:=congrArg (λx=>(x.drop 2).take 2) hcl;simp only[List.drop_take,List.drop_drop,List.take_take] at this;simpa [eTh] using this
 refine ia (jfo (jlr hbl g0 (jp (Ck _ hreg) ?_)));refine jla (t:=AM) (cs:=eSt s wv tv mv thv ov pv) (l:=eSt s wv tv mv thv ov pv) (by exact z_n 13) rfl ?_;refine jro (Jn (AY (l[i]).at_) h hp hpl) (jif (λhh=>?_) (λhh=>?_));rotate_left
 ·rw[if_neg (by rw[hh];decide)] at hS;exact hK5 _ _ _ ⟨rfl,w1,t1,hwl,htl,hS,rfl,rfl⟩
 rw[if_pos hh] at hS;obtain⟨w2,hw2,hS⟩:=AA hS;obtain⟨w3,hw3,hS⟩:=AA hS;obtain⟨w4,hw4,hS⟩:=AA hS;obtain⟨row,hrow,hS⟩:=AA hS;obtain⟨row2,hrow2,hS⟩:=AA hS;obtain⟨q1,q2,q3⟩:=EY hw2;obtain⟨q4,q5,q6⟩:=EY hw3;refine ia (jfo (jlr hbl g0 (ia (jfo (jlr hbl g0 ?_)))));refine jia q1 (by omega) ?_;refine jsi (l:=w1) (sp:=wsp) (by omega) ?_;rw[← q3];refine ia (jfo (jlr hbl g0 (Ac ⟨by omega,by omega⟩ (ia (jfo (Of hbl (by omega) g2 ?_))))));refine jp (DZ (l[i]).sh) ?_;have hl2:w2.length = w1.length:=by rw[q3,List.length_set]
 refine jia q4 (by omega) ?_;refine Ae (jlr hbl g0 jev) ?_;refine jsi (l:=w2) (sp:=wsp) (by omega) ?_;rw[← q6];have hl3:w3.length = w2.length:=by rw[q6,List.length_set]
 obtain⟨z0,z1,z2,z3⟩:=Ai hrow;obtain⟨y0,y1,y2,y3⟩:=Ai hrow2;obtain⟨k0,hk0⟩:∃k:Nat,AY (l[i]).at_ = k:=⟨(AY (l[i]).at_).toNat,by omega⟩;refine AH (λvs R' D'=>R' = R1∧w4.length = w.length∧D' = (b,C AM (eSt s wv tv mv thv ov pv)) :: (bw,C AZ (w4.map I ++ wsp)) :: (bt,C AD (AW eRg t1 ++ tsp)) :: F∧vs = [lv,.slice (some ⟨bw,0,none⟩) w.length cw,.slice (some ⟨bt,0,none⟩) t.length ct,.pointer (some ⟨b,0,none⟩),I i,I (AY (l[i]).at_)]) (λK6 hK6=>?_) ?_;rotate_left
 ·rintro e R2 D2 ⟨hR,hwl2,hD,he⟩;subst hR;rw[hD];clear hD;simp only[List.map,lc,ln,lj,z_t] at he;simp only[he];rw[hk0] at hS ⊢;have hk1:k0 < s.A0.length:=by omega
  have hk2:k0 < t1.length:=by omega
  have ez:s.A0[k0] = row:=by rw[← z3];exact getElem_congr_idx (by omega)
  refine jl (v:=tv) rfl (jrg h.t hk1 λb2 o2 ty cs hb ho hrw2=>?_);refine jfo (jlr (v:=I (s.A0[k0]).top) hb (CJ hrw2 (f:=2) rfl) ?_);refine jl (v:=tv) rfl (jrg h.t hk1 λb3 o3 ty3 cs3 hb3 ho3 hrw3=>?_);refine jfo (jlr (v:=I (s.A0[k0]).top) hb3 (CJ hrw3 (f:=2) rfl) ?_);rw[ez];refine jbd (cs:=eRg ⟨3,-1,row.top,row.top,0⟩) rfl rfl ?_;refine Bc (by omega) (EJ (x:=⟨3,-1,row.top,row.top,0⟩) hk2 ?_);exact hK5 _ _ _ ⟨rfl,w4,t1.set k0 ⟨3,-1,row.top,row.top,0⟩,hwl2,by rw[List.length_set];exact htl,by simpa [AT] using hS,rfl,rfl⟩
 refine AH (λvs R' D'=>R' = R1∧w4.length = w.length∧D' = (b,C AM (eSt s wv tv mv thv ov pv)) :: (bw,C AZ (w4.map I ++ wsp)) :: (bt,C AD (AW eRg t1 ++ tsp)) :: F∧vs = [lv,.slice (some ⟨bw,0,none⟩) w.length cw,.slice (some ⟨bt,0,none⟩) t.length ct,.pointer (some ⟨b,0,none⟩),I i,I (AY (l[i]).at_)]) (λK7 hK7=>?_) ?_;rotate_left
 ·rintro e R2 D2 ⟨hR,hwl2,hD,he⟩;rw[hD];clear hD;simp only[List.map,lc,ln,lj,z_t] at he;simp only[he];exact hK6 _ _ _ ⟨hR,hwl2,rfl,rfl⟩
 refine jlp (λm vs R' D'=>R' = R1∧∃(k:Nat) (w5:List Int),k≤(l[i]).nums.length∧w5.length = w.length∧wrs w5 ((l[i]).at_ + 2 + (l[i]).refs.length + k) ((l[i]).nums.drop k) = some w4∧D' = (b,C AM (eSt s wv tv mv thv ov pv)) :: (bw,C AZ (w5.map I ++ wsp)) :: (bt,C AD (AW eRg t1 ++ tsp)) :: F∧vs = [lv,.slice (some ⟨bw,0,none⟩) w.length cw,.slice (some ⟨bt,0,none⟩) t.length ct,.pointer (some ⟨b,0,none⟩),I i,I (AY (l[i]).at_),I k]∧m = (l[i]).nums.length - k)
  (n:=(l[i]).nums.length) ⟨rfl,0,w3,by omega,by omega,by simpa using hw4,rfl,rfl,by omega⟩ ?_
 rintro m3 e R2 D2 K8 ⟨hR,k,w5,hk,hwl5,hws,hD,he,hm⟩ hK8;subst hR;rw[hD];clear hD;simp only[List.map,lc,ln,lj,z_t] at he;simp only[he];refine ia (jfo (jlr hbl g5 (Co hnv.sl (jlt (jif (λhd=>?_) (λhd=>?_))))));rotate_left
 ·have hd:=z_g hd;rw[List.drop_eq_nil_of_le (by omega)] at hws;cases hws;exact hK7 _ _ _ ⟨rfl,hwl5,rfl,rfl⟩
 have hd:k < (l[i]).nums.length:=by have:=z_f hd;omega
 rw[List.drop_eq_getElem_cons hd] at hws;unfold wrs at hws;obtain⟨w6,hw6,hws⟩:=AA hws;obtain⟨p1,p2,p3⟩:=EY hw6;refine ia (jfo (jlr hbl g0 (Ac ⟨by omega,by omega⟩ (ia (jfo (jlr hbl g4 (Co hrv.sl (Ac ⟨by omega,by omega⟩ (Ac ⟨by omega,by omega⟩ ?_)))))))));refine ia (jfo (jlr hbl g5 (CN hnv (by omega) (by omega) ?_)));rw[getElem_congr_idx (Int.toNat_natCast k)];refine jia p1 (by omega) ?_;refine jsi (l:=w5) (sp:=wsp) (by omega) ?_;rw[← p3];refine Ac ⟨by omega,by omega⟩ ?_;exact hK8 ((l[i]).nums.length - (k + 1)) _ _ _ (by omega) ⟨rfl,k + 1,w6,by omega,by rw[p3,List.length_set];exact hwl5,by rw[← hws];congr 1;omega,rfl,rfl,rfl⟩
end Go.Lf
end
section
namespace Go.Lf
open Go Sm
theorem JY (cf:Cfg):Pu Gm [.agg #[I cf.A6,I cf.AB,I cf.AI]] (.bool (BJ cf)):=by
 intro R;refine M5 λF=>?_
 unfold Gq;refine ja λb=>?_
 rw[show cl (.agg #[I cf.A6,I cf.AB,I cf.AI]) = [I cf.A6,I cf.AB,I cf.AI] from rfl];refine jan [.pointer (some ⟨b,0,none⟩)] ((decide (cf.A6≥3)) && (decide (cf.A6≤12))) (λK' hK'=>?_) (λe c u ho he=>?_)
 ·refine jl (v:=I cf.A6) rfl (jge (Bj (λh1=>?_) (λh1=>?_)))
  ·refine jl (v:=I cf.A6) rfl (jle (hK' _ _ _ (h1▸Aq) (by rw[h1,Bool.true_and])))
  ·exact hK' _ _ _ (h1▸As) (by rw[h1,Bool.false_and])
 simp only[List.map,lc,ln,lj,z_t] at he;simp only[he];refine jan [.pointer (some ⟨b,0,none⟩)] ((decide (cf.A6≥3) && decide (cf.A6≤12)) && (decide (cf.AB≥1))) (λK' hK'=>?_) (λe c u ho he=>?_)
 ·rw[ho];refine Bj (λh1=>?_) (λh1=>?_)
  ·refine jl (v:=I cf.AB) rfl (jge (hK' _ _ _ (h1▸Aq) (by rw[h1,Bool.true_and])))
  ·exact hK' _ _ _ (h1▸As) (by rw[h1,Bool.false_and])
 simp only[List.map,lc,ln,lj,z_t] at he;simp only[he];refine jan [.pointer (some ⟨b,0,none⟩)] ((decide (cf.A6≥3) && decide (cf.A6≤12) && decide (cf.AB≥1)) && (decide (cf.AB≤3))) (λK' hK'=>?_) (λe c u ho he=>?_)
 ·rw[ho];refine Bj (λh1=>?_) (λh1=>?_)
  ·refine jl (v:=I cf.AB) rfl (jle (hK' _ _ _ (h1▸Aq) (by rw[h1,Bool.true_and])))
  ·exact hK' _ _ _ (h1▸As) (by rw[h1,Bool.false_and])
 simp only[List.map,lc,ln,lj,z_t] at he;simp only[he];refine jan [.pointer (some ⟨b,0,none⟩)] ((decide (cf.A6≥3) && decide (cf.A6≤12) && decide (cf.AB≥1) && decide (cf.AB≤3)) && (decide (cf.AI≥0))) (λK' hK'=>?_) (λe c u ho he=>?_)
 ·rw[ho];refine Bj (λh1=>?_) (λh1=>?_)
  ·refine jl (v:=I cf.AI) rfl (jge (hK' _ _ _ (h1▸Aq) (by rw[h1,Bool.true_and])))
  ·exact hK' _ _ _ (h1▸As) (by rw[h1,Bool.false_and])
 simp only[List.map,lc,ln,lj,z_t] at he;simp only[he];refine jan [] ((decide (cf.A6≥3) && decide (cf.A6≤12) && decide (cf.AB≥1) && decide (cf.AB≤3) && decide (cf.AI≥0)) && (decide (cf.AI≤100))) (λK' hK'=>?_) (λe c u ho he=>?_)
 ·rw[ho];refine Bj (λh1=>?_) (λh1=>?_)
  ·refine jl (v:=I cf.AI) rfl (jle (hK' _ _ _ (h1▸Aq) (by rw[h1,Bool.true_and])))
  ·exact hK' _ _ _ (h1▸As) (by rw[h1,Bool.false_and])
 simp only[List.map,lc,ln,lj,z_t] at he;simp only[he];rw[ho];exact BR (A:=[]) (RM.le.refl R) rfl
def Tn (t:List Rg) (v:Value) (N:Chs):Prop:=if t = [] then v = .tuple #[.slice none 0 0,.bool false]∧N = [] else ∃sv,T7 t sv N∧v = .tuple #[sv,.bool true]
theorem JL {R:RM} {D:Chs} (n:Int):Mk Gd [I n] R D (Tn (AN n)):=by
 refine M7 λF=>?_
 unfold Gg;refine jor [I n] ((decide (n < 2)) || (decide (n > 12))) (λK' hK'=>?_) (λe c u ho he=>?_)
 ·refine jlt (BW (λh1=>?_) (λh1=>?_))
  ·refine jgr (hK' _ _ _ (h1▸Ar) (by rw[h1,Bool.false_or]))
  ·exact hK' _ _ _ (h1▸B7) (by rw[h1,Bool.true_or])
 simp only[List.map,lc,ln,lj,z_t] at he;simp only[he];rw[ho];refine jif (λh0=>?_) (λh0=>?_)
 ·have:AN n = []:=by
   unfold AN;rw[if_pos];simpa using h0
  rw[this];exact CW [] ⟨rfl,rfl⟩
 simp only[Bool.or_eq_false_iff,decide_eq_false_iff_not] at h0;obtain⟨k,rfl⟩:∃k:Nat,n = k:=⟨n.toNat,by omega⟩;have ht:AN k = Cs :: (List.range (k - 1)).map λ(i:Nat)=>DC ((i:Int) + 1):=by
  unfold AN;rw[if_neg (by omega),Int.toNat_natCast]
 have ht2:AN k = ((List.range k).map λj:Nat=>DC (j:Int)).set 0 Cs:=by
  rw[ht,show k = (k - 1) + 1 by omega,List.range_succ_eq_map];simp
 refine AH (λvs R' D'=>R' = R∧∃v A,SW AD 5 (((List.range k).map λj:Nat=>DC (j:Int)).map eRg) v A∧D' = A ++ (D ++ F)∧vs = [v]) (λK hK=>?_) ?_
 ·refine AH (λvs R' D'=>R' = R∧∃v A,SW AD 5 (((List.range k).map λj:Nat=>DC (j:Int)).map eRg) v A∧D' = A ++ (D ++ F)∧vs = [v]) (λK2 hK2=>?_) ?_;rotate_left
  ·rintro e R1 D1 ⟨hR,v,A,so,hD,he⟩;rw[hD];clear hD;simp only[List.map,lc,ln,lj,z_t] at he;simp only[he];exact hK _ _ _ ⟨hR,v,A,so,rfl,rfl⟩
  refine jlp (λm vs R' D'=>R' = R∧∃(i:Nat) (v:Value) (A:Chs),i≤k∧SW AD 5 (((List.range i).map λj:Nat=>DC (j:Int)).map eRg) v A∧D' = A ++ (D ++ F)∧vs = [I k,v,I i]∧m = k - i)
   (n:=k) ⟨rfl,0,.slice none 0 0,[],by omega,.inl ⟨rfl,rfl,rfl⟩,rfl,rfl,by omega⟩ ?_
  rintro m e R1 D1 K3 ⟨hR,i,v,A,hi,so,hD,he,hm⟩ hK3;subst hR;rw[hD];clear hD;simp only[List.map,lc,ln,lj,z_t] at he;simp only[he];refine jlt (jif (λhc=>?_) (λhc=>?_));rotate_left
  ·have hc:i = k:=by have:=z_g hc;omega
   subst hc;exact hK2 _ _ _ ⟨rfl,v,A,so,rfl,rfl⟩
  have hc:i < k:=by have:=z_f hc;omega
  refine jp (BA i) (jp (BA i) ?_);refine jbd (cs:=eRg (DC (i:Int))) rfl rfl ?_;refine jbs (cs:=eRg (DC (i:Int))) rfl rfl λb4=>?_
  refine Au List.perm_middle.symm ?_;have hx:BG R1 (A ++ ((b4,C AD (eRg (DC (i:Int)))) :: (D ++ F))) (some ⟨b4,0,none⟩) (1 * 5) [eRg (DC (i:Int))].flatten:=BG.held (t:=AD) (cs:=eRg (DC (i:Int))) (o:=0) (n:=1 * 5) (z_n 5);refine jaw so (S7 _) (by intro r hr;rw[List.mem_singleton.1 hr];rfl) rfl rfl rfl (by decide) (by simp only[List.length_map,List.length_range,List.length_singleton];omega) hx λv' A' so'=>?_
  refine Ac ⟨by omega,by omega⟩ ?_;refine Av A' (G:=D ++ F) ?_;refine hK3 (k - (i + 1)) _ _ _ (by omega) ⟨rfl,i + 1,v',A',by omega,?_,rfl,rfl,rfl⟩;rw[List.range_succ,List.map_append,List.map_append];exact so'
 rintro e R1 D1 ⟨hR,v,A,so,hD,he⟩;subst hR;rw[hD];clear hD;simp only[List.map,lc,ln,lj,z_t] at he;simp only[he];rcases so with ⟨h1,_,_⟩ | ⟨b,c,sp,hc,hsp,rfl,rfl⟩
 ·have:=congrArg List.length h1;simp at this;omega
 rw[List.length_map] at hc ⊢;refine jbd (cs:=eRg Cs) rfl rfl ?_;have hlen:((List.range k).map λj:Nat=>DC (j:Int)).length = k:=by simp
 refine Au (D':=(b,C AD (AW eRg ((List.range k).map λj:Nat=>DC (j:Int)) ++ sp)) :: (D ++ F)) (List.Perm.refl _) ?_;refine Bc (r:=0) (by omega) (EJ (i:=0) (x:=Cs) (by omega) ?_);refine CW [(b,C AD (AW eRg (((List.range k).map λj:Nat=>DC (j:Int)).set 0 Cs) ++ sp))] ?_;rw[ht2];unfold Tn;rw[if_neg (by intro hn;have:=congrArg List.length hn;simp at this;omega)];exact⟨_,⟨b,c,sp,by rw[List.length_set];exact hc,by rw[List.length_set],rfl⟩,rfl⟩
end Go.Lf
end
section
namespace Go.Lf
open Go Sm
theorem RX {w:List Int} {n k:Nat} (h:n + k < w.length):(w.take n ++ List.replicate k 0 ++ w.drop (n + k)).set (n + k) 0 = w.take n ++ List.replicate (k + 1) 0 ++ w.drop (n + (k + 1)):=by
 have l1:(w.take n ++ List.replicate k (0:Int)).length = n + k:=by simp;omega
 rw[List.set_append_right _ _ (by omega),l1,Nat.sub_self,List.drop_eq_getElem_cons h,List.set_cons_zero,List.replicate_succ',List.append_assoc,List.append_assoc,List.append_assoc,List.singleton_append,Nat.add_assoc]
def QMk (r:List Int × Bool) (v:Value) (A:Chs):Prop:=if r.2 then ∃sv,TH r.1 sv A∧v = .tuple #[sv,.bool true] else v = .tuple #[.slice none 0 0,.bool false]∧A = []
theorem M9 {w:List Int} {n z:Nat} {s:Shp} (h0:fits w.length n (AC s) = true) (hso:Aw s = true) (hz:AC s = z) :
  Bx w n s = ((((w.take n ++ List.replicate z 0 ++ w.drop (n + z)).set n (n:Int)).set (n + 1) (Ag s)),true):=by
 obtain⟨a0,a1,a2,a3⟩:=H3 h0;have hsz:AC s = 2 + s.refs + s.nums:=by unfold AC;rw[if_pos hso]
 have hrn:0≤s.refs∧0≤s.nums:=by
  unfold Aw at hso;simp only[z_b,z_d] at hso;omega
 unfold Bx;rw[if_pos h0];congr 1;unfold Sm.put;obtain⟨z',rfl⟩:∃k,z = k + 2:=⟨z - 2,by omega⟩;have e1:s.refs.toNat + s.nums.toNat = z':=by omega
 have l1:(w.take n).length = n:=by simp;omega
 have e2:w.take n ++ List.replicate (z' + 2) 0 ++ w.drop (n + (z' + 2)) = w.take n ++ (0 :: 0 :: (List.replicate z' 0 ++ w.drop (n + (z' + 2)))):=by simp[List.replicate_succ]
 rw[e1,e2,Int.toNat_natCast,List.set_append_right _ _ (by omega),l1,Nat.sub_self,List.set_cons_zero,List.set_append_right _ _ (by omega),l1,Nat.add_sub_cancel_left];simp[Nat.add_comm,Nat.add_left_comm]
theorem N2 {R:RM} {wv:Value} {w:List Int} (a:Int) (s:Shp) (h:B9 R wv w) (hl:w.length < 1000000) :
  Fn P FY [wv,I a,eSh s] R [] (λv R' A=>R' = R∧QMk (Bx w a s) v A):=by
 refine Kg λF=>?_
 unfold FX;obtain⟨wa,wc,hwv,hr⟩:=Fz.reads (D:=[]) h;refine ja λb1=>?_
 rw[show cl (eSh s) = [I s.refs,I s.nums] from rfl];refine jla (l:=[I s.refs,I s.nums]) (by simp) rfl (jp (Bp s) ?_);rw[hwv];refine jp (Jg wa w.length wc a (AC s) (by omega)) (jif (λh0=>?_) (λh0=>?_))
 ·have h0:fits w.length a (AC s) = false:=by simpa using h0
  refine BR (A:=[]) (RM.le.refl R) ⟨rfl,?_⟩;have:Bx w a s = ([],false):=by unfold Bx;rw[h0];rfl
  rw[this];exact⟨rfl,rfl⟩
 have h0:fits w.length a (AC s) = true:=by simpa using h0
 obtain⟨a0,a1,a2,a3⟩:=H3 h0;have hso:Aw s = true:=by
  unfold AC at a2;split at a2
  ·assumption
  ·omega
 have hsz:AC s = 2 + s.refs + s.nums:=by unfold AC;rw[if_pos hso]
 have hrn:0≤s.refs∧0≤s.nums:=by
  unfold Aw at hso;simp only[z_b,z_d] at hso;omega
 obtain⟨n,rfl⟩:∃n:Nat,a = n:=⟨a.toNat,by omega⟩;obtain⟨z,hz⟩:∃z:Nat,AC s = z:=⟨(AC s).toNat,by omega⟩;have em:=M9 h0 hso hz;rw[hz] at a1 a2 a3 ⊢;have fin:∀(b c:Nat) (sp:List Value) (E:Chs) (K:Value→M),w.length≤c→sp.length = c - w.length→Sf E F→True:=λ_ _ _ _ _ _ _ _=>trivial
 clear fin;refine jbs (cs:=[]) rfl rfl λb2=>?_
 have hl0:w.length≠0:=by omega
 have rest:∀(b c:Nat) (sp:List Value) (E:Chs),w.length≤c→sp.length = c - w.length→At E b1 (C Eb [I s.refs,I s.nums])→Sf E F→
   J R ((b,C AZ (w.map I ++ sp)) :: E) (CUT [1,5,9] (λJe8=>CUT [1,5,9] (λJe14=>LP [1,5,8,9,10] (λKe15 e15=>BO .lss (e15 10) (e15 8) λx16=>IF x16 (BO .add (e15 1) (e15 10) λx17=>IA 1 (e15 9) x17 λx18=>ST 1 x18 (I 0)<|BO .add (e15 10) (I 1) λx19=>Ke15 [(e15 1),(e15 5),(e15 8),(e15 9),x19]) (Je14 [(e15 1),(e15 5),(e15 9)])) [I n,.pointer (some ⟨b1,0,none⟩),I z,.slice (some ⟨b,0,none⟩) w.length c,(I 0)]) λe14=>Je8 [(e14 1),(e14 5),(e14 9)]) λe8=>IA 1 (e8 9) (e8 1) λx9=>ST 1 x9 (e8 1)<|BO .add (e8 1) (I 1) λx10=>LA 2 (e8 5) λx11=>CA P 81 [x11] λx12=>IA 1 (e8 9) x10 λx13=>ST 1 x13 x12<|ED R F (λv R' A=>R' = R∧QMk (Bx w n s) v A) (.tuple #[(e8 9),(.bool true)])):=by
  intro b c sp E hc hsp ea ef;refine AH (λvs R' D'=>R' = R∧∃cur:List Int,cur = w.take n ++ List.replicate z 0 ++ w.drop (n + z)∧D' = (b,C AZ (cur.map I ++ sp)) :: E∧vs = [I n,.pointer (some ⟨b1,0,none⟩),.slice (some ⟨b,0,none⟩) w.length c]) (λK hK=>?_) ?_
  ·refine AH (λvs R' D'=>R' = R∧∃cur:List Int,cur = w.take n ++ List.replicate z 0 ++ w.drop (n + z)∧D' = (b,C AZ (cur.map I ++ sp)) :: E∧vs = [I n,.pointer (some ⟨b1,0,none⟩),.slice (some ⟨b,0,none⟩) w.length c]) (λK2 hK2=>?_) ?_;rotate_left
   ·rintro e R1 D1 ⟨hR,cur,hcur,hD,he⟩;rw[hD];clear hD;simp only[List.map,lc,ln,lj,z_t] at he;simp only[he];exact hK _ _ _ ⟨hR,cur,hcur,rfl,rfl⟩
   refine jlp (λm vs R' D'=>R' = R∧∃(k:Nat) (cur:List Int),k≤z∧cur = w.take n ++ List.replicate k 0 ++ w.drop (n + k)∧D' = (b,C AZ (cur.map I ++ sp)) :: E∧vs = [I n,.pointer (some ⟨b1,0,none⟩),I z,.slice (some ⟨b,0,none⟩) w.length c,I k]∧m = z - k)
    (n:=z) ⟨rfl,0,w,by omega,by simp,rfl,rfl,by omega⟩ ?_
   rintro m e R1 D1 K3 ⟨hR,k,cur,hk,hcur,hD,he,hm⟩ hK3;subst hR;rw[hD];clear hD;simp only[List.map,lc,ln,lj,z_t] at he;simp only[he];have hcl:cur.length = w.length:=by rw[hcur];simp;omega
   refine jlt (jif (λhc=>?_) (λhc=>?_));rotate_left
   ·have hc:k = z:=by have:=z_g hc;omega
    subst hc;exact hK2 _ _ _ ⟨rfl,cur,hcur,rfl,rfl⟩
   have hc:k < z:=by have:=z_f hc;omega
   refine Ac ⟨by omega,by omega⟩ ?_;rw[show (n:Int) + k = ((n + k:Nat):Int) by omega];refine Bc (by omega) (jsi (l:=cur) (sp:=sp) (by omega) (Ac ⟨by omega,by omega⟩ ?_));exact hK3 (z - (k + 1)) _ _ _ (by omega) ⟨rfl,k + 1,cur.set (n + k) 0,by omega,by rw[hcur];exact RX (by omega),rfl,rfl,rfl⟩
  rintro e R1 D1 ⟨hR,cur,hcur,hD,he⟩;subst hR;rw[hD];clear hD;simp only[List.map,lc,ln,lj,z_t] at he;simp only[he];have hcl:cur.length = w.length:=by rw[hcur];simp;omega
  refine Bc (by omega) (jsi (l:=cur) (sp:=sp) (by omega) (Ac ⟨by omega,by omega⟩ ?_));refine jla (l:=[I s.refs,I s.nums]) (by simp) rfl (jp (DZ s) ?_);rw[show (n:Int) + 1 = ((n + 1:Nat):Int) by omega];refine Bc (by omega) (jsi (l:=cur.set n n) (sp:=sp) (by rw[List.length_set];omega) ?_);refine BR (A:=[(b,C AZ (((cur.set n n).set (n + 1) (Ag s)).map I ++ sp))]) (RM.le.refl R1) ⟨rfl,?_⟩;rw[em,hcur];refine⟨_,⟨b,c,sp,?_,?_,?_,rfl⟩,rfl⟩
  all_goals simp only[List.length_set,← hcur,hcl]
  ·exact hc
  ·exact hsp
 refine Ub (new:=w.map I) ?_ (by decide) (by omega) (λ_=>rfl) (λh0=>?_) (λb' c hc=>?_)
 ·intro h' hs';exact hr h' (St.drop (A:=(b2,C 3 []) :: (b1,C Eb [I s.refs,I s.nums]) :: ([] ++ F)) (by simpa using hs'))
 ·omega
 ·exact rest b' c _ _ hc (by rw[C7 (w:=1) (by intro x hx;rw[(List.mem_replicate.1 hx).2];rfl)];simp) inferInstance inferInstance
end Go.Lf
end
section
namespace Go.Lf
open Go Sm
theorem jnc {R:RM} {D:Chs} {b o:Nat} {k:Value→M} (H:J R D (k (.pointer (some ⟨b,o,none⟩)))):J R D (NC (.pointer (some ⟨b,o,none⟩)) k):=H
def wS (S:Sim) (g:Img):Value:=.slice (some ⟨g.wb,0,none⟩) S.A5.length g.wc
def tS (S:Sim) (g:Img):Value:=.slice (some ⟨g.tb,0,none⟩) S.A0.length g.tc
def mS (S:Sim) (g:Img):Value:=.slice (some ⟨g.mb,0,none⟩) S.AO.length g.mc
def eVw (S:Sim) (g:Img) (av wv thv:Value):List Value:=[wS S g,tS S g,mS S g,I S.Aa,.bool S.stop,.bool S.full,av,wv,thv,g.old,g.AQ,I S.Ap,I S.BQ]
theorem KK {R:RM} {S:Sim} {g:Img} (ok:Ok R S g) {av wv thv:Value} (h1:flat av = true) (h2:flat wv = true) (h3:flat thv = true):Bz (eVw S g av wv thv) = true:=by
 have h4:=Fz.flat ok.old;have h5:=Fz.flat ok.AQ;show (true && (true && (true && (true && (true && (true && (flat av && (flat wv && (flat thv && (flat g.old && (flat g.AQ && (true && (true && true))))))))))))) = true;rw[h1,h2,h3,h4,h5];rfl
def QU (t:Thr):Th:=⟨t.A7,t.next,t.pc != 0,t.BC⟩
theorem PP {p:Nat} {S:Sim} {g:Img} {R:RM} (hok:Ok R S g) (hsz:S.sz = true) :
  Fn P GK [.pointer (some ⟨p,0,none⟩)] R (AV p S g) (λv R' A=>∃rows thv A',Rw (CY R') rows S.view.AB∧SW 78 4 rows thv A'∧A = A' ++ AV p S g∧v = .agg (eSt S.view (wS S g) (tS S g) (mS S g) thv g.old g.AQ).toArray):=by
 refine OE λF=>?_
 unfold J6;have hsz:=En hsz;have hhl:=hok.hl;obtain⟨f1,f2,f3⟩:=hok.fl;refine ja λb1=>?_
 refine jnc (jfo ?_);refine jla (o:=0 + 4) (t:=BL) (cs:=Bg S g) (l:=eVw S g g.Ad g.want g.AB) (by show 4 + 13≤35;omega) rfl ?_;refine ja λb2=>?_
 refine js (cs':=eVw S g g.Ad g.want g.AB) rfl (KK hok f1 f2 f3) (by exact z_n 13) rfl ?_;refine js (cs':=eVw S g g.Ad g.want (.slice none 0 0)) rfl rfl (by simp[eVw]) rfl ?_;refine Au (D':=(b2,C AM (eVw S g g.Ad g.want (.slice none 0 0))) :: (b1,C AM (cl z58)) :: (AV p S g ++ F)) (List.Perm.refl _) ?_;refine AH (λvs R' D'=>R.le R'∧∃rows v A,Rw (CY R') rows (S.th.map QU)∧SW 78 4 rows v A∧D' = A ++ (b2,C AM (eVw S g g.Ad g.want v)) :: (b1,C AM (cl z58)) :: (AV p S g ++ F)∧vs = [.pointer (some ⟨p,0,none⟩),.pointer (some ⟨b1,0,none⟩),.pointer (some ⟨b2,0,none⟩)]) (λK hK=>?_) ?_
 ·refine AH (λvs R' D'=>R.le R'∧∃rows v A,Rw (CY R') rows (S.th.map QU)∧SW 78 4 rows v A∧D' = A ++ (b2,C AM (eVw S g g.Ad g.want v)) :: (b1,C AM (cl z58)) :: (AV p S g ++ F)∧vs = [.pointer (some ⟨p,0,none⟩),.pointer (some ⟨b1,0,none⟩),.pointer (some ⟨b2,0,none⟩)]) (λK2 hK2=>?_) ?_;rotate_left
  ·rintro e R1 D1 ⟨hR,rows,v,A,hrw,so,hD,he⟩;rw[hD];clear hD;simp only[List.map,lc,ln,lj,z_t] at he;simp only[he];exact hK _ _ _ ⟨hR,rows,v,A,hrw,so,rfl,rfl⟩
  refine jlp (λm vs R' D'=>R.le R'∧∃(i:Nat) (rows:List (List Value)) (v:Value) (A:Chs),i≤S.th.length∧Rw (CY R') rows ((S.th.take i).map QU)∧SW 78 4 rows v A∧D' = A ++ (b2,C AM (eVw S g g.Ad g.want v)) :: (b1,C AM (cl z58)) :: (AV p S g ++ F)∧vs = [.pointer (some ⟨p,0,none⟩),.pointer (some ⟨b1,0,none⟩),.pointer (some ⟨b2,0,none⟩),I i]∧m = S.th.length - i)
   (n:=S.th.length) ⟨RM.le.refl R,0,[],.slice none 0 0,[],by omega,Rw.nil,.inl ⟨rfl,rfl,rfl⟩,rfl,rfl,by omega⟩ ?_
  rintro m e R1 D1 K3 ⟨hR,i,rows,v,A,hi,hrw,so,hD,he,hm⟩ hK3;rw[hD];clear hD;simp only[List.map,lc,ln,lj,z_t] at he;simp only[he];have ok1:=hok.le hR;refine jl (v:=.slice (some ⟨g.hb,0,none⟩) S.th.length g.hc) rfl (jln (jlt (jif (λhc=>?_) (λhc=>?_))));rotate_left
  ·have hc:=z_g hc;rw[List.take_of_length_le (by omega)] at hrw;exact hK2 _ _ _ ⟨hR,rows,v,A,hrw,so,rfl,rfl⟩
  have hc:i < S.th.length:=by have:=z_f hc;omega
  have hti:idx S.th i = some (S.th[i]):=by unfold idx;rw[if_pos (by omega),Int.toNat_natCast,List.getElem?_eq_getElem hc]
  have hri:=hsz.2.2.2.2 _ (List.getElem_mem hc);refine Ey (p:=p) ok1 hti rfl λb a cap hv=>?_
  obtain⟨sa,sc,hsl⟩:=so.sl;subst hsl;have htk:(S.th.take (i + 1)).map QU = (S.th.take i).map QU ++ [QU S.th[i]]:=by
   rw[List.take_succ_eq_append_getElem hc,List.map_append];rfl
  generalize S.th[i] = t at hti hri hv htk ⊢;refine jfo (jl (v:=.slice sa rows.length sc) rfl ?_);refine jfo (jl (v:=.slice a t.A7.length cap) rfl (jfo (jl (v:=I t.next) rfl (jfo (jl (v:=I t.BC) rfl (jfo (jl (v:=I t.pc) rfl (jne ?_))))))));refine jc (A:=[]) (Br hv hri) ?_;rintro _ R2 _ hR2 ⟨b4,c4,sp4,hc4,hsp4,rfl,rfl⟩;refine Ba (b:=b4) λR3 hR3 hb4=>?_
  have hv2:=Bn (c:=c4) hb4 hc4;refine jbd (cs:=[.slice (some ⟨b4,0,none⟩) t.A7.length c4,I t.next,.bool (t.pc != 0),I t.BC]) rfl rfl ?_;refine Ae (jl (v:=.slice sa rows.length sc) rfl jev) (Ae (jl (v:=I t.next) rfl jev) (Ae (jl (v:=I t.BC) rfl jev) (Ae (jl (v:=I t.pc) rfl jev) ?_)));refine jbs (cs:=[.slice (some ⟨b4,0,none⟩) t.A7.length c4,I t.next,.bool (t.pc != 0),I t.BC]) rfl rfl λb6=>?_
  refine Ae (jl (v:=.slice sa rows.length sc) rfl jev) ?_;refine Au (D':=(b6,C 78 [.slice (some ⟨b4,0,none⟩) t.A7.length c4,I t.next,.bool (t.pc != 0),I t.BC]) :: (b,C AR (Ab t (.slice a t.A7.length cap))) :: (A ++ ((b2,C AM (eVw S g g.Ad g.want (.slice sa rows.length sc))) :: (b1,C AM (cl z58)) :: (AV p S g ++ F)))) (List.Perm.refl _) ?_;refine Av A (G:=(b6,C 78 [.slice (some ⟨b4,0,none⟩) t.A7.length c4,I t.next,.bool (t.pc != 0),I t.BC]) :: (b,C AR (Ab t (.slice a t.A7.length cap))) :: (b2,C AM (eVw S g g.Ad g.want (.slice sa rows.length sc))) :: (b1,C AM (cl z58)) :: (AV p S g ++ F)) ?_;have hx:BG R3 (A ++ ((b6,C 78 [.slice (some ⟨b4,0,none⟩) t.A7.length c4,I t.next,.bool (t.pc != 0),I t.BC]) :: (b,C AR (Ab t (.slice a t.A7.length cap))) :: (b2,C AM (eVw S g g.Ad g.want (.slice sa rows.length sc))) :: (b1,C AM (cl z58)) :: (AV p S g ++ F))) (some ⟨b6,0,none⟩) (1 * 4) [[.slice (some ⟨b4,0,none⟩) t.A7.length c4,I t.next,.bool (t.pc != 0),I t.BC]].flatten:=BG.held (t:=78) (cs:=[.slice (some ⟨b4,0,none⟩) t.A7.length c4,I t.next,.bool (t.pc != 0),I t.BC]) (o:=0) (n:=1 * 4) (z_n 4);have hrl:=hrw.1;rw[List.length_map,List.length_take] at hrl;refine jaw so (hrw.all λ_ _=>CY.len) (by intro r hr;rw[List.mem_singleton.1 hr];rfl) rfl rfl rfl (by decide) (by rw[List.length_singleton];omega) hx λv' A' so'=>?_
  obtain⟨sa',sc',hsl'⟩:=so'.sl;subst hsl';refine js (cs':=eVw S g g.Ad g.want (.slice sa' (rows ++ [[.slice (some ⟨b4,0,none⟩) t.A7.length c4,I t.next,.bool (t.pc != 0),I t.BC]]).length sc')) rfl rfl (by simp[eVw]) rfl ?_;refine Ac ⟨by omega,by omega⟩ ?_;refine Av A' (G:=(b2,C AM (eVw S g g.Ad g.want (.slice sa' (rows ++ [[.slice (some ⟨b4,0,none⟩) t.A7.length c4,I t.next,.bool (t.pc != 0),I t.BC]]).length sc'))) :: (b1,C AM (cl z58)) :: (AV p S g ++ F)) ?_;refine hK3 (S.th.length - (i + 1)) _ _ _ (by omega) ⟨(hR.trans hR2).trans hR3,i + 1,_,_,A',by omega,?_,so',rfl,rfl,rfl⟩;rw[htk];exact (hrw.mono λ_ _=>CY.le (hR2.trans hR3)).app (Rw.one ⟨_,rfl,hv2⟩)
 rintro e R1 D1 ⟨hR,rows,v,A,hrw,so,hD,he⟩;rw[hD];clear hD;simp only[List.map,lc,ln,lj,z_t] at he;simp only[he];obtain⟨sa,sc,hsl⟩:=so.sl;subst hsl;refine jl (v:=.bool S.col.Ad) rfl ?_;refine js (cs':=eVw S g (.bool S.col.Ad) g.want (.slice sa rows.length sc)) rfl rfl (by simp[eVw]) rfl ?_;refine jl (v:=I S.col.want) rfl ?_;refine js (cs':=eVw S g (.bool S.col.Ad) (I S.col.want) (.slice sa rows.length sc)) rfl rfl (by simp[eVw]) rfl ?_;refine jla (l:=eVw S g (.bool S.col.Ad) (I S.col.want) (.slice sa rows.length sc)) (by exact z_n 13) rfl ?_;refine js (cs':=eVw S g (.bool S.col.Ad) (I S.col.want) (.slice sa rows.length sc)) rfl (KK hok rfl rfl rfl) (by exact z_n 13) rfl ?_;refine jla (l:=eVw S g (.bool S.col.Ad) (I S.col.want) (.slice sa rows.length sc)) (by exact z_n 13) rfl ?_;refine Au (D':=(A ++ AV p S g) ++ ((b2,C AM (eVw S g (.bool S.col.Ad) (I S.col.want) (.slice sa rows.length sc))) :: (b1,C AM (eVw S g (.bool S.col.Ad) (I S.col.want) (.slice sa rows.length sc))) :: F)) ?_ ?_
 ·rw[List.append_assoc];exact (List.perm_append_comm_assoc [_,_] (AV p S g) F).append_left A
 exact BR (A:=A ++ AV p S g) hR ⟨rows,.slice sa rows.length sc,A,hrw,so,rfl,rfl⟩
theorem Ui {p:Nat} {S:Sim} {g:Img} {R:RM} (hok:Ok R S g) (hsz:S.sz = true) :
  Fn P GK [.pointer (some ⟨p,0,none⟩)] R (AV p S g) (λv R' A=>R.le R'∧A = AV p S g∧∃thv,Ths R' thv S.view.AB∧v = .agg (eSt S.view (wS S g) (tS S g) (mS S g) thv g.old g.AQ).toArray):=by
 intro F h hs;refine E7 ?_ (PP hok hsz F h hs);rintro v h' ⟨R',A,h1,h2,rows,thv,A',hrw,so,rfl,rfl⟩;rw[List.append_assoc] at h2;refine (jfw (E:=AV p S g ++ F) (m:=ED R F _ _) so (hrw.all λ_ _=>CY.len) λR2 hR2 hfz=>?_) h' h2;exact BR (A:=AV p S g) (h1.trans hR2) ⟨h1.trans hR2,rfl,thv,⟨rows,hrw.mono λ_ _=>CY.le hR2,hfz⟩,rfl⟩
end Go.Lf
end
section
namespace Go.Lf
open Go Sm
theorem DT {R:RM} {D:Chs} {a:M} (h:J R D a):J R D (ALL [a]):=h
theorem E2 {R:RM} {D:Chs} {a b:M} {r:List M} (h:J R D a) (h2:J R D (ALL (b :: r))):J R D (ALL (a :: b :: r)):=λh' hs=>⟨h h' hs,h2 h' hs⟩
def eNw (w:Value) (tv:Value) (m:Value) (thv:Value):List Value:=[w,tv,m,I 0,.bool false,.bool false,.bool false,I 0,thv,.slice none 0 0,.slice none 0 0,I 0,I 0]
def BH (c:Cfg):List Int:=(Bx (List.replicate (c.A6.toNat * 16) 0) 16 Bi).1
theorem J3 {c:Cfg} (h:BJ c = true):(Bx (List.replicate (c.A6.toNat * 16) 0) 16 Bi).2 = true∧(BH c).length = c.A6.toNat * 16:=by
 unfold BJ at h;simp only[z_b,z_d] at h;have hf:fits (c.A6.toNat * 16) 16 (AC Bi) = true:=by
  have e:AC Bi = 8:=by decide
  rw[e];unfold fits By AY;simp only[z_b,z_d,beq_iff_eq];refine⟨⟨⟨⟨⟨⟨⟨by omega,by omega⟩,by omega⟩,by omega⟩,by omega⟩,by omega⟩,by omega⟩,by decide⟩
 unfold BH Bx;rw[List.length_replicate,if_pos hf];refine⟨rfl,?_⟩;unfold Sm.put;have:Bi.refs.toNat + Bi.nums.toNat = 6:=by decide
 simp only[List.length_append,List.length_take,List.length_replicate,List.length_drop,List.length_cons,List.length_nil,this];omega
theorem Ob {R:RM} {c:Cfg} (hc:BJ c = true) :
  Fn P HI [.agg #[I c.A6,I c.AB,I c.AI]] R [] (λv R' A=>∃bw cw wsp bt ct tsp bm thv,(BH c).length≤cw∧(AN c.A6).length≤ct∧Ths R' thv (List.replicate c.AB.toNat ⟨[16],0,false,0⟩)∧
   A = [(bw,C AZ ((BH c).map I ++ wsp)),(bt,C AD (AW eRg (AT (AN c.A6) 1 ⟨3,-1,24,24,0⟩) ++ tsp)),(bm,C Az ((List.replicate (c.A6.toNat * 16) false).map Value.bool))]∧
   v = .tuple #[.agg (eNw (.slice (some ⟨bw,0,none⟩) (BH c).length cw) (.slice (some ⟨bt,0,none⟩) (AN c.A6).length ct) (.slice (some ⟨bm,0,none⟩) (c.A6.toNat * 16) (c.A6.toNat * 16)) thv).toArray,.bool true]):=by
 refine Le λF=>?_
 unfold H0;have hcc:=hc;unfold BJ at hc;simp only[z_b,z_d] at hc;refine ja λb1=>?_
 rw[show cl (.agg #[I c.A6,I c.AB,I c.AI]) = [I c.A6,I c.AB,I c.AI] from rfl];refine ja λb2=>?_
 refine jla (l:=[I c.A6,I c.AB,I c.AI]) (by simp) rfl ?_;refine jp (JY c) ?_;rw[hcc];refine Cv (jfo (jl (v:=I c.A6) rfl ?_));refine jmk (JL c.A6) ?_;intro v N hq;unfold Tn at hq;have htl:(AN c.A6).length = c.A6.toNat:=by
  unfold AN;rw[if_neg (by omega)];simp;omega
 rw[if_neg (by intro hn;rw[hn] at htl;simp at htl;omega)] at hq;obtain⟨sv,⟨bt,ct,tsp,hct,rfl,rfl⟩,rfl⟩:=hq;refine jex rfl (jex rfl ?_);have e16:(c.A6 * 16).toNat = c.A6.toNat * 16:=by omega
 refine AH (λvs R' D'=>R' = R∧∃bw bm b6,D' = (b6,C AM (eNw (.slice (some ⟨bw,0,none⟩) (c.A6.toNat * 16) (c.A6.toNat * 16)) (.slice (some ⟨bt,0,none⟩) (AN c.A6).length ct) (.slice (some ⟨bm,0,none⟩) (c.A6.toNat * 16) (c.A6.toNat * 16)) (.slice none 0 0))) ::
   (bw,C AZ ((List.replicate (c.A6.toNat * 16) [I 0]).flatten)) :: (bm,C Az ((List.replicate (c.A6.toNat * 16) [Value.bool false]).flatten)) ::
   (bt,C AD (AW eRg (AN c.A6) ++ tsp)) :: (b2,C AM (cl z58)) :: (b1,C 67 [I c.A6,I c.AB,I c.AI]) :: F∧vs = [.pointer (some ⟨b1,0,none⟩),.pointer (some ⟨b2,0,none⟩),.pointer (some ⟨b6,0,none⟩)]) (λK hK=>?_) ?_
 ·refine jfo (jl (v:=I c.A6) rfl (GC ⟨by omega,by omega⟩ (jfo (jl (v:=I c.A6) rfl (GC ⟨by omega,by omega⟩ ?_)))));refine E2 ?_ (E2 ?_ (DT ?_))
  ·refine jms (by omega) (by omega) (by omega) λbw=>?_
   rw[e16];refine Ae (jl (v:=I c.A6) rfl jev) ?_;refine E2 ?_ (DT ?_)
   ·refine jms (by omega) (by omega) (by omega) λbm=>?_
    rw[e16];refine jbd (cs:=(eNw (.slice (some ⟨bw,0,none⟩) (c.A6.toNat * 16) (c.A6.toNat * 16)) (.slice (some ⟨bt,0,none⟩) (AN c.A6).length ct) (.slice (some ⟨bm,0,none⟩) (c.A6.toNat * 16) (c.A6.toNat * 16)) (.slice none 0 0))) rfl rfl ?_;refine ja λb6=>?_
    refine js (cs':=(eNw (.slice (some ⟨bw,0,none⟩) (c.A6.toNat * 16) (c.A6.toNat * 16)) (.slice (some ⟨bt,0,none⟩) (AN c.A6).length ct) (.slice (some ⟨bm,0,none⟩) (c.A6.toNat * 16) (c.A6.toNat * 16)) (.slice none 0 0))) rfl rfl (by exact z_n 13) rfl ?_;refine Av [(b6,C AM (eNw (.slice (some ⟨bw,0,none⟩) (c.A6.toNat * 16) (c.A6.toNat * 16)) (.slice (some ⟨bt,0,none⟩) (AN c.A6).length ct) (.slice (some ⟨bm,0,none⟩) (c.A6.toNat * 16) (c.A6.toNat * 16)) (.slice none 0 0))),(bw,C AZ ((List.replicate (c.A6.toNat * 16) [I 0]).flatten)),(bm,C Az ((List.replicate (c.A6.toNat * 16) [Value.bool false]).flatten))] (G:=[(bt,C AD (AW eRg (AN c.A6) ++ tsp))] ++ (b2,C AM (cl z58)) :: (b1,C 67 [I c.A6,I c.AB,I c.AI]) :: ([] ++ F)) ?_;exact hK _ _ _ ⟨rfl,bw,bm,b6,rfl,rfl⟩
   ·refine ja λb6=>?_
    refine Ae (jl (v:=I c.A6) rfl jev) ?_;refine jms (by omega) (by omega) (by omega) λbm=>?_
    rw[e16];refine jbd (cs:=(eNw (.slice (some ⟨bw,0,none⟩) (c.A6.toNat * 16) (c.A6.toNat * 16)) (.slice (some ⟨bt,0,none⟩) (AN c.A6).length ct) (.slice (some ⟨bm,0,none⟩) (c.A6.toNat * 16) (c.A6.toNat * 16)) (.slice none 0 0))) rfl rfl ?_;refine js (cs':=(eNw (.slice (some ⟨bw,0,none⟩) (c.A6.toNat * 16) (c.A6.toNat * 16)) (.slice (some ⟨bt,0,none⟩) (AN c.A6).length ct) (.slice (some ⟨bm,0,none⟩) (c.A6.toNat * 16) (c.A6.toNat * 16)) (.slice none 0 0))) rfl rfl (by exact z_n 13) rfl ?_;refine Av [(b6,C AM (eNw (.slice (some ⟨bw,0,none⟩) (c.A6.toNat * 16) (c.A6.toNat * 16)) (.slice (some ⟨bt,0,none⟩) (AN c.A6).length ct) (.slice (some ⟨bm,0,none⟩) (c.A6.toNat * 16) (c.A6.toNat * 16)) (.slice none 0 0))),(bw,C AZ ((List.replicate (c.A6.toNat * 16) [I 0]).flatten)),(bm,C Az ((List.replicate (c.A6.toNat * 16) [Value.bool false]).flatten))] (G:=[(bt,C AD (AW eRg (AN c.A6) ++ tsp))] ++ (b2,C AM (cl z58)) :: (b1,C 67 [I c.A6,I c.AB,I c.AI]) :: ([] ++ F)) ?_;exact hK _ _ _ ⟨rfl,bw,bm,b6,rfl,rfl⟩
  ·refine jms (by omega) (by omega) (by omega) λbm=>?_
   rw[e16];refine Ae (jl (v:=I c.A6) rfl jev) ?_;refine E2 ?_ (DT ?_)
   ·refine jms (by omega) (by omega) (by omega) λbw=>?_
    rw[e16];refine jbd (cs:=(eNw (.slice (some ⟨bw,0,none⟩) (c.A6.toNat * 16) (c.A6.toNat * 16)) (.slice (some ⟨bt,0,none⟩) (AN c.A6).length ct) (.slice (some ⟨bm,0,none⟩) (c.A6.toNat * 16) (c.A6.toNat * 16)) (.slice none 0 0))) rfl rfl ?_;refine ja λb6=>?_
    refine js (cs':=(eNw (.slice (some ⟨bw,0,none⟩) (c.A6.toNat * 16) (c.A6.toNat * 16)) (.slice (some ⟨bt,0,none⟩) (AN c.A6).length ct) (.slice (some ⟨bm,0,none⟩) (c.A6.toNat * 16) (c.A6.toNat * 16)) (.slice none 0 0))) rfl rfl (by exact z_n 13) rfl ?_;refine Av [(b6,C AM (eNw (.slice (some ⟨bw,0,none⟩) (c.A6.toNat * 16) (c.A6.toNat * 16)) (.slice (some ⟨bt,0,none⟩) (AN c.A6).length ct) (.slice (some ⟨bm,0,none⟩) (c.A6.toNat * 16) (c.A6.toNat * 16)) (.slice none 0 0))),(bw,C AZ ((List.replicate (c.A6.toNat * 16) [I 0]).flatten)),(bm,C Az ((List.replicate (c.A6.toNat * 16) [Value.bool false]).flatten))] (G:=[(bt,C AD (AW eRg (AN c.A6) ++ tsp))] ++ (b2,C AM (cl z58)) :: (b1,C 67 [I c.A6,I c.AB,I c.AI]) :: ([] ++ F)) ?_;exact hK _ _ _ ⟨rfl,bw,bm,b6,rfl,rfl⟩
   ·refine ja λb6=>?_
    refine Ae (jl (v:=I c.A6) rfl jev) ?_;refine jms (by omega) (by omega) (by omega) λbw=>?_
    rw[e16];refine jbd (cs:=(eNw (.slice (some ⟨bw,0,none⟩) (c.A6.toNat * 16) (c.A6.toNat * 16)) (.slice (some ⟨bt,0,none⟩) (AN c.A6).length ct) (.slice (some ⟨bm,0,none⟩) (c.A6.toNat * 16) (c.A6.toNat * 16)) (.slice none 0 0))) rfl rfl ?_;refine js (cs':=(eNw (.slice (some ⟨bw,0,none⟩) (c.A6.toNat * 16) (c.A6.toNat * 16)) (.slice (some ⟨bt,0,none⟩) (AN c.A6).length ct) (.slice (some ⟨bm,0,none⟩) (c.A6.toNat * 16) (c.A6.toNat * 16)) (.slice none 0 0))) rfl rfl (by exact z_n 13) rfl ?_;refine Av [(b6,C AM (eNw (.slice (some ⟨bw,0,none⟩) (c.A6.toNat * 16) (c.A6.toNat * 16)) (.slice (some ⟨bt,0,none⟩) (AN c.A6).length ct) (.slice (some ⟨bm,0,none⟩) (c.A6.toNat * 16) (c.A6.toNat * 16)) (.slice none 0 0))),(bw,C AZ ((List.replicate (c.A6.toNat * 16) [I 0]).flatten)),(bm,C Az ((List.replicate (c.A6.toNat * 16) [Value.bool false]).flatten))] (G:=[(bt,C AD (AW eRg (AN c.A6) ++ tsp))] ++ (b2,C AM (cl z58)) :: (b1,C 67 [I c.A6,I c.AB,I c.AI]) :: ([] ++ F)) ?_;exact hK _ _ _ ⟨rfl,bw,bm,b6,rfl,rfl⟩
  ·refine ja λb6=>?_
   refine Ae (jl (v:=I c.A6) rfl jev) (Ae (jl (v:=I c.A6) rfl jev) ?_);refine E2 ?_ (DT ?_)
   ·refine jms (by omega) (by omega) (by omega) λbw=>?_
    rw[e16];refine Ae (jl (v:=I c.A6) rfl jev) ?_;refine jms (by omega) (by omega) (by omega) λbm=>?_
    rw[e16];refine jbd (cs:=(eNw (.slice (some ⟨bw,0,none⟩) (c.A6.toNat * 16) (c.A6.toNat * 16)) (.slice (some ⟨bt,0,none⟩) (AN c.A6).length ct) (.slice (some ⟨bm,0,none⟩) (c.A6.toNat * 16) (c.A6.toNat * 16)) (.slice none 0 0))) rfl rfl ?_;refine js (cs':=(eNw (.slice (some ⟨bw,0,none⟩) (c.A6.toNat * 16) (c.A6.toNat * 16)) (.slice (some ⟨bt,0,none⟩) (AN c.A6).length ct) (.slice (some ⟨bm,0,none⟩) (c.A6.toNat * 16) (c.A6.toNat * 16)) (.slice none 0 0))) rfl rfl (by exact z_n 13) rfl ?_;refine Av [(b6,C AM (eNw (.slice (some ⟨bw,0,none⟩) (c.A6.toNat * 16) (c.A6.toNat * 16)) (.slice (some ⟨bt,0,none⟩) (AN c.A6).length ct) (.slice (some ⟨bm,0,none⟩) (c.A6.toNat * 16) (c.A6.toNat * 16)) (.slice none 0 0))),(bw,C AZ ((List.replicate (c.A6.toNat * 16) [I 0]).flatten)),(bm,C Az ((List.replicate (c.A6.toNat * 16) [Value.bool false]).flatten))] (G:=[(bt,C AD (AW eRg (AN c.A6) ++ tsp))] ++ (b2,C AM (cl z58)) :: (b1,C 67 [I c.A6,I c.AB,I c.AI]) :: ([] ++ F)) ?_;exact hK _ _ _ ⟨rfl,bw,bm,b6,rfl,rfl⟩
   ·refine jms (by omega) (by omega) (by omega) λbm=>?_
    rw[e16];refine Ae (jl (v:=I c.A6) rfl jev) ?_;refine jms (by omega) (by omega) (by omega) λbw=>?_
    rw[e16];refine jbd (cs:=(eNw (.slice (some ⟨bw,0,none⟩) (c.A6.toNat * 16) (c.A6.toNat * 16)) (.slice (some ⟨bt,0,none⟩) (AN c.A6).length ct) (.slice (some ⟨bm,0,none⟩) (c.A6.toNat * 16) (c.A6.toNat * 16)) (.slice none 0 0))) rfl rfl ?_;refine js (cs':=(eNw (.slice (some ⟨bw,0,none⟩) (c.A6.toNat * 16) (c.A6.toNat * 16)) (.slice (some ⟨bt,0,none⟩) (AN c.A6).length ct) (.slice (some ⟨bm,0,none⟩) (c.A6.toNat * 16) (c.A6.toNat * 16)) (.slice none 0 0))) rfl rfl (by exact z_n 13) rfl ?_;refine Av [(b6,C AM (eNw (.slice (some ⟨bw,0,none⟩) (c.A6.toNat * 16) (c.A6.toNat * 16)) (.slice (some ⟨bt,0,none⟩) (AN c.A6).length ct) (.slice (some ⟨bm,0,none⟩) (c.A6.toNat * 16) (c.A6.toNat * 16)) (.slice none 0 0))),(bw,C AZ ((List.replicate (c.A6.toNat * 16) [I 0]).flatten)),(bm,C Az ((List.replicate (c.A6.toNat * 16) [Value.bool false]).flatten))] (G:=[(bt,C AD (AW eRg (AN c.A6) ++ tsp))] ++ (b2,C AM (cl z58)) :: (b1,C 67 [I c.A6,I c.AB,I c.AI]) :: ([] ++ F)) ?_;exact hK _ _ _ ⟨rfl,bw,bm,b6,rfl,rfl⟩
 rintro e Rz D1 ⟨hR,bw0,bm,b6,hD,he⟩;subst hR;rw[hD];clear hD;simp only[List.map,lc,ln,lj,z_t] at he;simp only[he];have htk:(List.replicate (c.A6.toNat * 16) [I 0]).flatten = (List.replicate (c.A6.toNat * 16) (0:Int)).map I ++ []:=by simp[List.flatten_replicate_singleton]
 have hmk:(List.replicate (c.A6.toNat * 16) [Value.bool false]).flatten = (List.replicate (c.A6.toNat * 16) false).map Value.bool:=by simp[List.flatten_replicate_singleton]
 rw[htk,hmk];refine Ba (b:=bw0) λR2 hR2 hb0=>?_
 have hw0:B9 R2 (.slice (some ⟨bw0,0,none⟩) (c.A6.toNat * 16) (c.A6.toNat * 16)) (List.replicate (c.A6.toNat * 16) 0):=by
  have:=Bn (c:=c.A6.toNat * 16) hb0 (by simp);rw[List.length_replicate] at this;exact this
 refine jbd (cs:=[I 4,I 2]) rfl rfl (ja λb7=>?_);refine js (cs':=[I 4,I 2]) rfl rfl (by simp) rfl ?_;refine jfo (jl (v:=.slice (some ⟨bw0,0,none⟩) (c.A6.toNat * 16) (c.A6.toNat * 16)) rfl ?_);refine jla (l:=[I 4,I 2]) (by simp) rfl ?_;refine jc (A:=[]) (N2 16 Bi hw0 (by rw[List.length_replicate];omega)) ?_;rintro v3 R3 A3 hR3 ⟨hRR,hq⟩;subst hRR;obtain⟨sf1,sf2⟩:=J3 hcc;unfold QMk at hq;rw[if_pos sf1] at hq;obtain⟨sv,⟨bw,cw,wsp,hcw,hwsp,rfl,rfl⟩,rfl⟩:=hq;refine jex rfl (jex rfl ?_);refine jfo (js (cs':=eNw (.slice (some ⟨bw,0,none⟩) (BH c).length cw) (.slice (some ⟨bt,0,none⟩) (AN c.A6).length ct) (.slice (some ⟨bm,0,none⟩) (c.A6.toNat * 16) (c.A6.toNat * 16)) (.slice none 0 0)) rfl rfl (by simp[eNw]) rfl ?_);refine jla (l:=[I 4,I 2]) (by simp) rfl (jp (Bp Bi) (Ac ⟨by decide,by decide⟩ ?_));rw[show (16:Int) + AC Bi = 24 by decide];refine jfo (jl (v:=.slice (some ⟨bt,0,none⟩) (AN c.A6).length ct) rfl ?_);refine jbd (cs:=eRg ⟨3,-1,24,24,0⟩) rfl rfl ?_;refine Bc (r:=1) (by omega) (EJ (t:=AN c.A6) (sp:=tsp) (x:=⟨3,-1,24,24,0⟩) (by omega) ?_);refine Au (D':=(bw,C AZ ((BH c).map I ++ wsp)) :: (b7,C 92 [I 4,I 2]) :: (b6,C AM (eNw (.slice (some ⟨bw,0,none⟩) (BH c).length cw) (.slice (some ⟨bt,0,none⟩) (AN c.A6).length ct) (.slice (some ⟨bm,0,none⟩) (c.A6.toNat * 16) (c.A6.toNat * 16)) (.slice none 0 0))) :: (bm,C Az ((List.replicate (c.A6.toNat * 16) false).map Value.bool)) :: (bt,C AD (AW eRg (AT (AN c.A6) 1 ⟨3,-1,24,24,0⟩) ++ tsp)) :: (b2,C AM (cl z58)) :: (b1,C 67 [I c.A6,I c.AB,I c.AI]) :: F) (List.Perm.refl _) ?_;refine Av [(b6,C AM (eNw (.slice (some ⟨bw,0,none⟩) (BH c).length cw) (.slice (some ⟨bt,0,none⟩) (AN c.A6).length ct) (.slice (some ⟨bm,0,none⟩) (c.A6.toNat * 16) (c.A6.toNat * 16)) (.slice none 0 0))),(b1,C 67 [I c.A6,I c.AB,I c.AI]),(b2,C AM (cl z58)),(bw,C AZ ((BH c).map I ++ wsp)),(bt,C AD (AW eRg (AT (AN c.A6) 1 ⟨3,-1,24,24,0⟩) ++ tsp)),(bm,C Az ((List.replicate (c.A6.toNat * 16) false).map Value.bool))] (G:=F) ?_;generalize hE:(b1,C 67 [I c.A6,I c.AB,I c.AI]) :: (b2,C AM (cl z58)) :: ([(bw,C AZ ((BH c).map I ++ wsp)),(bt,C AD (AW eRg (AT (AN c.A6) 1 ⟨3,-1,24,24,0⟩) ++ tsp)),(bm,C Az ((List.replicate (c.A6.toNat * 16) false).map Value.bool))] ++ F) = E;have ea1:At E b1 (C 67 [I c.A6,I c.AB,I c.AI]):=by rw[← hE];exact inferInstance
 refine Au (D':=(b6,C AM (eNw (.slice (some ⟨bw,0,none⟩) (BH c).length cw) (.slice (some ⟨bt,0,none⟩) (AN c.A6).length ct) (.slice (some ⟨bm,0,none⟩) (c.A6.toNat * 16) (c.A6.toNat * 16)) (.slice none 0 0))) :: E) (by rw[← hE];exact List.Perm.refl _) ?_;obtain⟨n,hn⟩:∃n:Nat,c.AB = n:=⟨c.AB.toNat,by omega⟩;refine AH (λvs R' D'=>Rz.le R'∧∃rows v A,Rw (CY R') rows (List.replicate n ⟨[16],0,false,0⟩)∧SW 78 4 rows v A∧D' = A ++ (b6,C AM (eNw (.slice (some ⟨bw,0,none⟩) (BH c).length cw) (.slice (some ⟨bt,0,none⟩) (AN c.A6).length ct) (.slice (some ⟨bm,0,none⟩) (c.A6.toNat * 16) (c.A6.toNat * 16)) v)) :: E∧vs = [.pointer (some ⟨b2,0,none⟩),.pointer (some ⟨b6,0,none⟩)]) (λK hK=>?_) ?_
 ·refine AH (λvs R' D'=>Rz.le R'∧∃rows v A,Rw (CY R') rows (List.replicate n ⟨[16],0,false,0⟩)∧SW 78 4 rows v A∧D' = A ++ (b6,C AM (eNw (.slice (some ⟨bw,0,none⟩) (BH c).length cw) (.slice (some ⟨bt,0,none⟩) (AN c.A6).length ct) (.slice (some ⟨bm,0,none⟩) (c.A6.toNat * 16) (c.A6.toNat * 16)) v)) :: E∧vs = [.pointer (some ⟨b2,0,none⟩),.pointer (some ⟨b6,0,none⟩)]) (λK2 hK2=>?_) ?_;rotate_left
  ·rintro e R1 D1 ⟨hR,rows,v,A,hrw,so,hD,he⟩;rw[hD];clear hD;simp only[List.map,lc,ln,lj,z_t] at he;simp only[he];exact hK _ _ _ ⟨hR,rows,v,A,hrw,so,rfl,rfl⟩
  refine jlp (λm vs R' D'=>Rz.le R'∧∃(i:Nat) (rows:List (List Value)) (v:Value) (A:Chs),i≤n∧Rw (CY R') rows (List.replicate i ⟨[16],0,false,0⟩)∧SW 78 4 rows v A∧D' = A ++ (b6,C AM (eNw (.slice (some ⟨bw,0,none⟩) (BH c).length cw) (.slice (some ⟨bt,0,none⟩) (AN c.A6).length ct) (.slice (some ⟨bm,0,none⟩) (c.A6.toNat * 16) (c.A6.toNat * 16)) v)) :: E∧vs = [.pointer (some ⟨b1,0,none⟩),.pointer (some ⟨b2,0,none⟩),.pointer (some ⟨b6,0,none⟩),I i]∧m = n - i)
   (n:=n) ⟨hR2,0,[],.slice none 0 0,[],by omega,Rw.nil,.inl ⟨rfl,rfl,rfl⟩,rfl,rfl,by omega⟩ ?_
  rintro m e R1 D1 K3 ⟨hR,i,rows,v,A,hi,hrw,so,hD,he,hm⟩ hK3;rw[hD];clear hD;simp only[List.map,lc,ln,lj,z_t] at he;simp only[he];refine jfo (jl (v:=I c.AB) rfl (jlt (jif (λhd=>?_) (λhd=>?_))));rotate_left
  ·have hd:i = n:=by have:=z_g hd;omega
   subst hd;exact hK2 _ _ _ ⟨hR,rows,v,A,hrw,so,rfl,rfl⟩
  have hd:i < n:=by have:=z_f hd;omega
  obtain⟨sa,sc,hsl⟩:=so.sl;subst hsl;refine jfo (jl (v:=.slice sa rows.length sc) rfl ?_);refine jbs (cs:=[I 16]) rfl rfl λb8=>?_
  refine Ba (b:=b8) λR3 hR3 hb8=>?_
  have hv2:B9 R3 (.slice (some ⟨b8,0,none⟩) 1 1) [16]:=Bn (l:=[16]) (sp:=[]) (c:=1) hb8 (by simp);refine jbd (cs:=[.slice (some ⟨b8,0,none⟩) 1 1,I 0,.bool false,I 0]) rfl rfl ?_;refine jbs (cs:=[.slice (some ⟨b8,0,none⟩) 1 1,I 0,.bool false,I 0]) rfl rfl λb9=>?_
  refine Av A (G:=(b9,C 78 [.slice (some ⟨b8,0,none⟩) 1 1,I 0,.bool false,I 0]) :: (b6,C AM (eNw (.slice (some ⟨bw,0,none⟩) (BH c).length cw) (.slice (some ⟨bt,0,none⟩) (AN c.A6).length ct) (.slice (some ⟨bm,0,none⟩) (c.A6.toNat * 16) (c.A6.toNat * 16)) (.slice sa rows.length sc))) :: E) ?_;have hx:BG R3 (A ++ ((b9,C 78 [.slice (some ⟨b8,0,none⟩) 1 1,I 0,.bool false,I 0]) :: (b6,C AM (eNw (.slice (some ⟨bw,0,none⟩) (BH c).length cw) (.slice (some ⟨bt,0,none⟩) (AN c.A6).length ct) (.slice (some ⟨bm,0,none⟩) (c.A6.toNat * 16) (c.A6.toNat * 16)) (.slice sa rows.length sc))) :: E)) (some ⟨b9,0,none⟩) (1 * 4) [[.slice (some ⟨b8,0,none⟩) 1 1,I 0,.bool false,I 0]].flatten:=BG.held (t:=78) (cs:=[.slice (some ⟨b8,0,none⟩) 1 1,I 0,.bool false,I 0]) (o:=0) (n:=1 * 4) (z_n 4);have hrl:=hrw.1;rw[List.length_replicate] at hrl;refine jaw so (hrw.all λ_ _=>CY.len) (by intro r hr;rw[List.mem_singleton.1 hr];rfl) rfl rfl rfl (by decide) (by rw[List.length_singleton];omega) hx λv' A' so'=>?_
  obtain⟨sa',sc',hsl'⟩:=so'.sl;subst hsl';refine jfo (js (cs':=eNw (.slice (some ⟨bw,0,none⟩) (BH c).length cw) (.slice (some ⟨bt,0,none⟩) (AN c.A6).length ct) (.slice (some ⟨bm,0,none⟩) (c.A6.toNat * 16) (c.A6.toNat * 16)) (.slice sa' (rows ++ [[.slice (some ⟨b8,0,none⟩) 1 1,I 0,.bool false,I 0]]).length sc')) rfl rfl (by simp[eNw]) rfl ?_);refine Ac ⟨by omega,by omega⟩ ?_;refine Av A' (G:=(b6,C AM (eNw (.slice (some ⟨bw,0,none⟩) (BH c).length cw) (.slice (some ⟨bt,0,none⟩) (AN c.A6).length ct) (.slice (some ⟨bm,0,none⟩) (c.A6.toNat * 16) (c.A6.toNat * 16)) (.slice sa' (rows ++ [[.slice (some ⟨b8,0,none⟩) 1 1,I 0,.bool false,I 0]]).length sc'))) :: E) ?_;refine hK3 (n - (i + 1)) _ _ _ (by omega) ⟨hR.trans hR3,i + 1,_,_,A',by omega,?_,so',rfl,rfl,rfl⟩;rw[List.replicate_succ'];exact (hrw.mono λ_ _=>CY.le hR3).app (Rw.one ⟨_,rfl,hv2⟩)
 rintro e R1 D1 ⟨hR,rows,v,A,hrw,so,hD,he⟩;rw[hD];clear hD;simp only[List.map,lc,ln,lj,z_t] at he;simp only[he];obtain⟨sa,sc,hsl⟩:=so.sl;subst hsl;refine jfw so (hrw.all λ_ _=>CY.len) λR3 hR3 hfz=>?_
 subst hE;refine jla (l:=eNw (.slice (some ⟨bw,0,none⟩) (BH c).length cw) (.slice (some ⟨bt,0,none⟩) (AN c.A6).length ct) (.slice (some ⟨bm,0,none⟩) (c.A6.toNat * 16) (c.A6.toNat * 16)) (.slice sa rows.length sc)) (by exact z_n 13) rfl ?_;refine js (cs':=eNw (.slice (some ⟨bw,0,none⟩) (BH c).length cw) (.slice (some ⟨bt,0,none⟩) (AN c.A6).length ct) (.slice (some ⟨bm,0,none⟩) (c.A6.toNat * 16) (c.A6.toNat * 16)) (.slice sa rows.length sc)) rfl rfl (by exact z_n 13) rfl ?_;refine jla (l:=eNw (.slice (some ⟨bw,0,none⟩) (BH c).length cw) (.slice (some ⟨bt,0,none⟩) (AN c.A6).length ct) (.slice (some ⟨bm,0,none⟩) (c.A6.toNat * 16) (c.A6.toNat * 16)) (.slice sa rows.length sc)) (by exact z_n 13) rfl ?_;refine BR (A:=[(bw,C AZ ((BH c).map I ++ wsp)),(bt,C AD (AW eRg (AT (AN c.A6) 1 ⟨3,-1,24,24,0⟩) ++ tsp)),(bm,C Az ((List.replicate (c.A6.toNat * 16) false).map Value.bool))]) (hR.trans hR3) ⟨bw,cw,wsp,bt,ct,tsp,bm,.slice sa rows.length sc,hcw,hct,⟨rows,?_,hfz⟩,rfl,rfl⟩;rw[hn,Int.toNat_natCast];exact hrw.mono λ_ _=>CY.le hR3
end Go.Lf
end
