/- A part of the proof of the given row: the walk of the law and of all that it calls. Conditions: none. -/
import Derived.Laws.StructEq
import Derived.ChangeKeysEq
import Derived.Test.YtoajhnhjmhdfdaaGreatLD
set_option linter.unusedVariables false
set_option linter.unusedSimpArgs false
section
namespace Go.Lf
open Go Sm
theorem TC {R:RM} {D E:Chs} {l:List Int} {v:Int} {b c cx:Nat} {sp:List Value} {xa:Option Addr} {k:Value→M} [tk:Tk D b (C AZ (l.map I ++ sp)) E] (hc:l.length≤c) (hsp:sp.length = c - l.length) (hl:l.length < 1000000) (hx:BG R D xa (1 * 1) [I v])
  (H:∀b' c' sp',l.length + 1≤c'→sp'.length = c' - (l.length + 1)→J R ((b',C AZ ((l ++ [v]).map I ++ sp')) :: E) (k (.slice (some ⟨b',0,none⟩) (l.length + 1) c'))) :
  J R D (AP AZ 1 8 [I 0] (.slice (some ⟨b,0,none⟩) l.length c) (.slice xa 1 cx) k):=by
 refine RH (tk:=tk) hx (by simp;omega) hc rfl rfl (by decide) (by omega) (λh=>?_) (λb' c' h=>?_)
 ·have el:lay (l.map I ++ sp) (l.length * 1) [I v] = (l ++ [v]).map I ++ sp.drop 1:=by
   rw[FQ (by simp)];simp[lay]
  rw[el];exact H b c _ h (by simp;omega)
 ·refine Au (tk.p.cons _) (Au (List.Perm.swap _ _ _) (CR ?_));have:=H b' c' (List.replicate (c' - (l.length + 1)) [I 0]).flatten h (by rw[C7 (w:=1) (by intro x hx;rw[(List.mem_replicate.1 hx).2];rfl)];simp);rw[List.take_append_of_le_length (by simp),List.take_of_length_le (by simp)];simpa using this
theorem Bn {R:RM} {b c:Nat} {l:List Int} {sp:List Value} (h:R b = some (C AZ (l.map I ++ sp))) (hc:l.length≤c):B9 R (.slice (some ⟨b,0,none⟩) l.length c) l:=
 .inr ⟨b,0,c,_,_,rfl,h,by simp,by simp,hc⟩
theorem Tw {p:Nat} {S S' : Sim} {g:Img} {v:Int} {R:RM} (hok:Ok R S g) (hS:S.oldV v = some S') :
  Fn P LQ [.pointer (some ⟨p,0,none⟩),I v] R (AV p S g) (CT p S' λ_=>True):=by
 refine Pv λF=>?_
 unfold LE;simp only[Sim.oldV] at hS;split at hS
 ·cases hS
 rename_i hsz;simp only[Bool.not_eq_true,Bool.not_eq_false'] at hsz;have hsz:=En hsz;refine Cb (jl rfl (jeq (Bj (λh=>?_) (λh=>?_))))
 ·have hph:S.Aa = 1:=by simpa using h
  refine jne (C4 λe he=>?_);simp only[List.map,lj,z_t,h] at he;simp only[he];refine Da (jif (λh2=>?_) (λh2=>?_))
  ·have hv0:v≠0:=by simpa using h2
   rw[if_pos ⟨hph,hv0⟩] at hS;cases hS;refine jl rfl ?_;refine jc (A:=[]) (Br hok.old hsz.2.1) ?_;rintro _ R' _ hR ⟨b,c,sp,hc,hsp,rfl,rfl⟩;have hok':=hok.le hR;refine jbs (cs:=[I v]) rfl rfl λb1=>?_
   refine TC (v:=v) hc hsp hsz.2.1 (BG.held (t:=AZ) (cs:=[I v]) (o:=0) (n:=1 * 1) (z_n 1)) λb' c' sp' hc' hsp'=>?_
   refine Ba (b:=b') λR2 hR2 hb'=>?_
   refine jss { S with old:=S.old ++ [v] } { g with old:=.slice (some ⟨b',0,none⟩) (S.old.length + 1) c' } rfl rfl (by decide) (by rfl) (by rfl) ?_;have hi:=Bn (c:=c') hb' (by simpa using hc');rw[List.length_append,List.length_singleton] at hi;exact Aj (hR.trans hR2) trivial rfl (by exact { hok'.le hR2 with old:=hi })
  ·have hv0:¬ v≠0:=by simpa using h2
   rw[if_neg (λhh=>hv0 hh.2)] at hS;cases hS;exact Aj (RM.le.refl R) trivial rfl hok
 ·have hph:S.Aa≠1:=by simpa using h
  rw[if_neg (λhh=>hph hh.1)] at hS;cases hS;refine C4 λe he=>?_
  simp only[List.map,lj,z_t,h] at he;simp only[he];refine DU (Cv ?_);exact Aj (RM.le.refl R) trivial rfl hok
theorem jcS {R:RM} {D G:Chs} {p f:Nat} {S S' : Sim} {g:Img} {args:List Value} {r:Value→Prop} {k:Value→M} [w:Fd D p S g G] (hF:Fn P f args R (AV p S g) (CT p S' r))
  (H:∀v R' g',R.le R'→r v→Ok R' S' g'→J R' (AV p S' g' ++ G) (k v)):J R D (CA P f args k):=by
 refine Au w.ex (jc hF ?_);rintro v R' _ hR ⟨hr,g',rfl,ho⟩;exact H v R' g' hR hr ho
theorem Ln {p:Nat} {S S' : Sim} {g:Img} {i a:Int} {R:RM} (hok:Ok R S g) (hS:S.push i a = some S') :
  Fn P KZ [.pointer (some ⟨p,0,none⟩),I i,I a] R (AV p S g) (CT p S' λ_=>True):=by
 refine Ol λF=>?_
 unfold KC;simp only[Sim.push] at hS;split at hS
 ·cases hS
 rename_i hsz;simp only[Bool.not_eq_true,Bool.not_eq_false'] at hsz;have hsz:=En hsz;split at hS
 ·rename_i t ht;obtain⟨h0,h1,h2,h3⟩:=Ai ht;have hr:=hok.rvl;have h2' : i.toNat < g.rv.length:=by omega
  have hv:=hok.rv i.toNat h2 h2';rw[h3] at hv;have hl:t.A7.length < 1000000:=hsz.2.2.2.2 t (by rw[← h3];exact List.getElem_mem h2);obtain⟨xa,cap,hve,-⟩:=Fz.reads (D:=[]) hv;rw[hve] at hv;refine jl rfl ?_;refine jia h0 h1 ?_;refine T8 (p:=p) h2 hr ?_;rw[h3,hve];refine ja λb=>?_
  refine js (cs':=Ab t (.slice xa t.A7.length cap)) rfl rfl (by simp) rfl ?_;refine jl rfl ?_;refine jc (A:=[]) (Br hv hl) ?_;rintro _ R' _ hR ⟨b2,c,sp,hc,hsp,rfl,rfl⟩;have hok':=hok.le hR;refine jbs (cs:=[I a]) rfl rfl λb1=>?_
  refine TC (v:=a) hc hsp hl (BG.held (t:=AZ) (cs:=[I a]) (o:=0) (n:=1 * 1) (z_n 1)) λb' c' sp' hc' hsp'=>?_
  refine Ba (b:=b') λR2 hR2 hb'=>?_
  have hi:=Bn (c:=c') hb' (by simpa using hc');rw[List.length_append,List.length_singleton] at hi;refine js (cs':=Ab { t with A7:=t.A7 ++ [a] } (.slice (some ⟨b',0,none⟩) (t.A7.length + 1) c')) rfl rfl (by simp[Ab]) rfl ?_;refine jl rfl ?_;refine jla (l:=Ab { t with A7:=t.A7 ++ [a] } (.slice (some ⟨b',0,none⟩) (t.A7.length + 1) c')) (by simp[Ab]) rfl ?_;refine jia h0 h1 ?_;refine jst (p:=p) { S with th:=AT S.th i { t with A7:=t.A7 ++ [a] } } { g with rv:=g.rv.set i.toNat (.slice (some ⟨b',0,none⟩) (t.A7.length + 1) c') } (by exact h2) (by exact hr) rfl (by rfl) (by rfl) ?_;refine jcS (p:=p) (by exact Cj ((hok'.le hR2).setT (i:=i.toNat) (t:={ t with A7:=t.A7 ++ [a] }) hi) hS) λ_ R3 g3 hR3 _ hok3=>?_
  exact Aj ((hR.trans hR2).trans hR3) trivial rfl hok3
 ·cases hS
end Go.Lf
end
section
namespace Go.Lf
open Go Sm
theorem Ey {R:RM} {D G:Chs} {p:Nat} {S:Sim} {g:Img} {i:Int} {t:Thr} {z:Value} {k:Value→M} [w:Fd D p S g G] (hok:Ok R S g) (ht:idx S.th i = some t) (hz:(cl z).length = 17)
  (H:∀b a cap,B9 R (.slice a t.A7.length cap) t.A7→J R ((b,C AR (Ab t (.slice a t.A7.length cap))) :: D) (k (.pointer (some ⟨b,0,none⟩)))) :
  J R D (L1 (.pointer (some ⟨p,17,none⟩)) λx3=>IA 17 x3 (I i) λx4=>LA 17 x4 λx5=>AL AR z λx6=>ST 17 x6 x5 (k x6)):=by
 obtain⟨h0,h1,h2,h3⟩:=Ai ht;have hr:=hok.rvl;have h2' : i.toNat < g.rv.length:=by omega
 have hv:=hok.rv i.toNat h2 h2';rw[h3] at hv;obtain⟨xa,cap,hve,-⟩:=Fz.reads (D:=[]) hv;rw[hve] at hv;refine Au w.ex ?_;refine jl rfl ?_;refine jia h0 h1 ?_;refine T8 (p:=p) h2 hr ?_;rw[h3,hve];refine ja λb=>?_
 refine js (cs':=Ab t (.slice xa t.A7.length cap)) rfl rfl (by rw[hz];exact z_n 17) ?_ ?_
 ·show lay (cl z) 0 (Ab t _) = _;have:=PL (a:=cl z) (b:=[]) (l:=Ab t (.slice xa t.A7.length cap)) (by rw[hz];rfl);simpa using this
 ·exact Au (w.ex.symm.cons _) (H b xa cap hv)
theorem Ex {R:RM} {D G:Chs} {p b:Nat} {S:Sim} {g:Img} {i:Int} {t:Thr} {v:Value} {m:M} (S' : Sim) [w:Fd D p S g G] [at_:At D b (C AR (Ab t v))] (hok:Ok R S g) (h0:0≤i) (h1:i < S.th.length) (hv:B9 R v t.A7) (hS:S' = { S with th:=AT S.th i t })
  (H:∀g',Ok R S' g'→J R (AV p S' g' ++ G) m) :
  J R D (L1 (.pointer (some ⟨p,17,none⟩)) λx24=>LA 17 (.pointer (some ⟨b,0,none⟩)) λx25=>IA 17 x24 (I i) λx26=>ST 17 x26 x25 m):=by
 subst hS;obtain⟨xa,cap,hve,-⟩:=Fz.reads (D:=[]) hv;subst hve;have hr:=hok.rvl;have h2:i.toNat < S.th.length:=by omega
 intro h hs;have hst:=hs.perm w.ex;have hl:J R D (LA 17 (.pointer (some ⟨b,0,none⟩)) λx25=>IA 17 (.slice (some ⟨g.hb,0,none⟩) S.th.length g.hc) (I i) λx26=>ST 17 x26 x25 m):=by
  refine jla (cs:=Ab t (.slice xa t.A7.length cap)) (t:=AR) (l:=Ab t (.slice xa t.A7.length cap)) (z_n 17) rfl ?_;refine jia h0 h1 ?_;refine jst (p:=p) { S with th:=AT S.th i t } { g with rv:=g.rv.set i.toNat (.slice xa t.A7.length cap) } (by exact h2) (by exact hr) rfl (by rfl) (by rfl) ?_;exact H _ (hok.setT hv)
 have:J R (AV p S g ++ G) (L1 (.pointer (some ⟨p,17,none⟩)) λx24=>LA 17 (.pointer (some ⟨b,0,none⟩)) λx25=>IA 17 x24 (I i) λx26=>ST 17 x26 x25 m):=jl rfl (Au w.ex.symm hl);exact this h hst
theorem NH (pc:Int) (h:inR (pc + 1)):Pu Jj [I pc] (I (DO pc)):=by
 intro R;refine Ny λF=>?_
 unfold KF;refine jeq (jif (λh1=>?_) (λh1=>?_))
 ·refine BR (A:=[]) (RM.le.refl R) ?_;rw[DO,if_pos (by simpa using h1)]
 ·refine jeq (jif (λh2=>?_) (λh2=>Ac h ?_))
  ·refine BR (A:=[]) (RM.le.refl R) ?_;rw[DO,if_neg (by simpa using h1),if_pos (by simpa using h2)]
  ·refine BR (A:=[]) (RM.le.refl R) ?_;rw[DO,if_neg (by simpa using h1),if_neg (by simpa using h2)]
theorem Qo (t:Thr) (a:Option Addr) (n c:Nat) (pc:Int):Pu Iz [.agg (Ab t (.slice a n c)).toArray,I pc] (I (BX t pc)):=by
 intro R;refine O0 λF=>?_
 unfold Kb;refine ja λb=>?_
 have e:cl (.agg (Ab t (.slice a n c)).toArray) = Ab t (.slice a n c):=rfl;rw[e];refine jeq (jif (λh1=>?_) (λh1=>?_))
 ·refine jl rfl (BR (A:=[]) (RM.le.refl R) ?_);rw[BX,if_pos (by simpa using h1)]
 ·refine jeq (jif (λh2=>?_) (λh2=>?_))
  ·refine jl rfl (BR (A:=[]) (RM.le.refl R) ?_);rw[BX,if_neg (by simpa using h1),if_pos (by simpa using h2)]
  ·refine jeq (jif (λh3=>?_) (λh3=>?_))
   ·refine jl rfl (BR (A:=[]) (RM.le.refl R) ?_);rw[BX,if_neg (by simpa using h1),if_neg (by simpa using h2),if_pos (by simpa using h3)]
   ·refine jl rfl (BR (A:=[]) (RM.le.refl R) ?_);rw[BX,if_neg (by simpa using h1),if_neg (by simpa using h2),if_neg (by simpa using h3)]
end Go.Lf
end
section
namespace Go.Lf
open Go Sm
theorem AA {α β:Type} {x:Option α} {f:α→Option β} {b:β} (h:(x >>= f) = some b):∃a,x = some a∧f a = some b:=by
 cases x with
 | none=>cases h
 | some a=>exact⟨a,rfl,h⟩
theorem UD {p:Nat} {S S' : Sim} {g:Img} {i v:Int} {R:RM} (hok:Ok R S g) (hS:S.load i v = some S') :
  Fn P KN [.pointer (some ⟨p,0,none⟩),I i,I v] R (AV p S g) (CT p S' λ_=>True):=by
 refine Ot λF=>?_
 unfold Jv;obtain⟨t,ht,hS⟩:=AA hS;obtain⟨h0,h1,h2,h3⟩:=Ai ht;refine Ey (p:=p) hok ht rfl λb a cap hv=>?_
 have rest:∀e:Env,e 0 = .pointer (some ⟨p,0,none⟩)→e 1 = I i→e 2 = I v→e 6 = .pointer (some ⟨b,0,none⟩)→¬ (t.pc = 12∧v = t.u)→J R ((b,C AR (Ab t (.slice a t.A7.length cap))) :: (AV p S g ++ F)) (CA P GH [(e 0),(e 2)] λx18=>NT x18 λx19=>IF x19 (CA P 86 [(e 0),(e 1),(e 2)] λx20=>ED R F (CT p S' λ_=>True) (.tuple #[])) (FO 7 (e 6) λx21=>ST 1 x21 (e 2)<|FO 8 (e 6) λx22=>ST 1 x22 (e 2)<|FO 3 (e 6) λx23=>ST 1 x23 (I 11)<|NC (e 0) λx24=>FO 17 x24 λx25=>L1 x25 λx26=>LA 17 (e 6) λx27=>IA 17 x26 (e 1) λx28=>ST 17 x28 x27<|ED R F (CT p S' λ_=>True) (.tuple #[]))):=by
  intro e e0 e1 e2 e6 hc;simp only[e0,e1,e2,e6];rw[if_neg hc] at hS;obtain⟨c,hf,hS⟩:=AA hS;refine jcS (p:=p) (by exact Jx hok hf) λ_ R1 g1 hR1 hr ok1=>?_
  subst hr;cases c with
  | false=>
   refine F7 ?_;refine jcS (p:=p) (by exact Ln ok1 hS) λ_ R2 g2 hR2 hr ok2=>?_
   exact Aj (hR1.trans hR2) trivial rfl ok2
  | true=>
   refine Cv ?_;cases hS;refine js (cs':=Ab { t with u:=v } (.slice a t.A7.length cap)) rfl rfl (by simp[Ab]) rfl ?_;refine js (cs':=Ab { t with u:=v,v:=v } (.slice a t.A7.length cap)) rfl rfl (by simp[Ab]) rfl ?_;refine js (cs':=Ab { t with u:=v,v:=v,pc:=11 } (.slice a t.A7.length cap)) rfl rfl (by simp[Ab]) rfl ?_;refine Ex (p:=p) (S.setT i { t with u:=v,v:=v,pc:=11 }) (by exact ok1) h0 (by exact h1) (by exact hv.le hR1) (by rfl) λg2 ok2=>?_
   exact Aj hR1 trivial rfl ok2
 refine Cb (jl rfl (jeq (Bj (λhp=>jl rfl (jeq (C4 λe he=>?_))) (λhp=>C4 λe he=>?_))))
 ·simp only[List.map,lj,z_t,hp] at he;obtain⟨e0,e1,e2,e6,e17,e21⟩:=he;simp only[e17,e21];refine Da (jif (λhq=>?_) (λhq=>rest e e0 e1 e2 e6 λhh=>?_))
  ·have hc:t.pc = 12∧v = t.u:=⟨by simpa using hp,by simpa using hq⟩;rw[if_pos hc] at hS;simp only[e0,e1,e6];refine jl rfl ?_;refine jcS (p:=p) (by exact Ln hok hS) λ_ R2 g2 hR2 hr ok2=>?_
   exact Aj hR2 trivial rfl ok2
  ·simp[hh.2] at hq
 ·simp only[List.map,lj,z_t,hp] at he;obtain⟨e0,e1,e2,e6,e17,e21⟩:=he;simp only[e17,e21];refine DU (Cv (rest e e0 e1 e2 e6 λhh=>?_));simp[hh.1] at hp
theorem Qn {p:Nat} {S S' : Sim} {g:Img} {i v:Int} {R:RM} (hok:Ok R S g) (hS:S.swap i v = some S') :
  Fn P KX [.pointer (some ⟨p,0,none⟩),I i,I v] R (AV p S g) (CT p S' λ_=>True):=by
 refine PB λF=>?_
 unfold Jp;obtain⟨t,ht,hS⟩:=AA hS;obtain⟨h0,h1,h2,h3⟩:=Ai ht;refine Ey (p:=p) hok ht rfl λb a cap hv=>?_
 refine AH (λvs R' D'=>R' = R∧D' = (b,C AR (Ab t (.slice a t.A7.length cap))) :: (AV p S g ++ F)∧∃c u,vs = [.pointer (some ⟨p,0,none⟩),I i,I v,.pointer (some ⟨b,0,none⟩),c,u]∧∀k,PA c u k = k (.bool (t.pc == 16 && v == t.u))) (λK hK=>?_) ?_
 ·refine jl rfl (jeq (Bj (λhp=>jl rfl (jeq (hK _ _ _ ⟨rfl,rfl,_,_,rfl,λk=>?_⟩))) (λhp=>hK _ _ _ ⟨rfl,rfl,_,_,rfl,λk=>?_⟩)))
  ·simp only[hp,PA,PO,PK,cond_true,Bool.true_and]
  ·simp only[hp,PA,PO,PK,cond_false,Bool.false_and]
 ·rintro e _ _ ⟨rfl,rfl,c,u,he,hpk⟩;simp only[List.map,lj,z_t] at he;obtain⟨e0,e1,e2,e6,e17,e21⟩:=he;simp only[e0,e1,e2,e6,e17,e21];rw[hpk];refine jif (λhq=>?_) (λhc=>?_)
  ·simp only[z_b,beq_iff_eq] at hq;rw[if_pos hq] at hS;refine jcS (p:=p) (by exact Cj hok hS) λ_ R2 g2 hR2 hr ok2=>?_
   exact Aj hR2 trivial rfl ok2
  have hc:¬ (t.pc = 16∧v = t.u):=by simpa using hc
  rw[if_neg hc] at hS;obtain⟨d,hf,hS⟩:=AA hS;refine js (cs':=Ab { t with u:=v } (.slice a t.A7.length cap)) rfl rfl (by simp[Ab]) rfl ?_;refine jcS (p:=p) (by exact Jx hok hf) λ_ R1 g1 hR1 hr ok1=>?_
  subst hr;refine jif (λhd=>?_) (λhd=>?_)
  ·subst hd;cases hS;refine js (cs':=Ab { t with u:=v,v:=v } (.slice a t.A7.length cap)) rfl rfl (by simp[Ab]) rfl ?_;refine js (cs':=Ab { t with u:=v,v:=v,pc:=15 } (.slice a t.A7.length cap)) rfl rfl (by simp[Ab]) rfl ?_;refine Ex (p:=p) (S.setT i { t with u:=v,v:=v,pc:=15 }) (by exact ok1) h0 (by exact h1) (by exact hv.le hR1) (by rfl) λg2 ok2=>?_
   exact Aj hR1 trivial rfl ok2
  ·subst hd;refine jl rfl (jne (jif (λhg=>?_) (λhg=>?_)))
   ·have hg:v≠t.g:=by simpa using hg
    rw[if_neg (by decide),if_pos hg] at hS;refine jcS (p:=p) (by exact Cj ok1 hS) λ_ R2 g2 hR2 hr ok2=>?_
    exact Aj (hR1.trans hR2) trivial rfl ok2
   ·have hg:¬ v≠t.g:=by simpa using hg
    rw[if_neg (by decide),if_neg hg] at hS;obtain⟨S2,ho,hS⟩:=AA hS;cases hS;refine jcS (p:=p) (by exact Tw ok1 ho) λ_ R2 g2 hR2 hr ok2=>?_
    refine js (cs':=Ab { t with u:=v,pc:=14 } (.slice a t.A7.length cap)) rfl rfl (by simp[Ab]) rfl ?_;have hth:S2.th = S.th:=by
     simp only[Sim.oldV] at ho;split at ho
     ·cases ho
     ·cases ho;split<;>rfl
    refine Ex (p:=p) (S2.setT i { t with u:=v,pc:=14 }) (by exact ok2) h0 (by rw[hth];exact h1) (by exact hv.le (hR1.trans hR2)) (by rfl) λg3 ok3=>?_
    exact Aj (hR1.trans hR2) trivial rfl ok3
end Go.Lf
end
section
namespace Go.Lf
open Go Sm
theorem Mj (t:Thr) (xa:Option Addr) (n c:Nat) (pc a:Int) (h:inR (pc + 1)):Pu Jf [.agg (Ab t (.slice xa n c)).toArray,I pc,I a] (.agg (Ab (BN t pc a) (.slice xa n c)).toArray):=by
 intro R;refine Oa λF=>?_
 unfold J0;refine ja λb=>ja λb2=>?_
 have e:cl (.agg (Ab t (.slice xa n c)).toArray) = Ab t (.slice xa n c):=rfl;rw[e];refine AH (λvs R' D'=>R' = R∧D' = (b2,C AR (cl Ds)) :: (b,C AR (Ab { BN t pc a with pc:=t.pc } (.slice xa n c))) :: ([] ++ F)∧vs = [I pc,.pointer (some ⟨b,0,none⟩),.pointer (some ⟨b2,0,none⟩)]) (λK hK=>?_) ?_
 ·refine Cb ?_;have fin:∀t1,t1 = { BN t pc a with pc:=t.pc }→J R ((b2,C AR (cl Ds)) :: (b,C AR (Ab t1 (.slice xa n c))) :: ([] ++ F)) (λh=>∀e:Env,List.map e [1,3,6] = [I pc,.pointer (some ⟨b,0,none⟩),.pointer (some ⟨b2,0,none⟩)]→K [(e 1),(e 3),(e 6)] h):=by
   rintro t1 rfl;refine C4 λe he=>?_
   simp only[List.map,lj,z_t] at he;simp only[he];exact hK _ _ _ ⟨rfl,rfl,rfl⟩
  refine jeq (jif (λh1=>?_) (λh1=>?_))
  ·refine js (cs':=Ab { t with h:=a } (.slice xa n c)) rfl rfl (by simp[Ab]) rfl (fin _ ?_);rw[BN,if_pos (by simpa using h1)]
  ·refine jeq (jif (λh2=>?_) (λh2=>?_))
   ·refine js (cs':=Ab { t with g:=a } (.slice xa n c)) rfl rfl (by simp[Ab]) rfl (fin _ ?_);rw[BN,if_neg (by simpa using h1),if_pos (by simpa using h2)]
   ·refine jeq (jif (λh3=>?_) (λh3=>?_))
    ·refine js (cs':=Ab { t with k:=a } (.slice xa n c)) rfl rfl (by simp[Ab]) rfl (fin _ ?_);rw[BN,if_neg (by simpa using h1),if_neg (by simpa using h2),if_pos (by simpa using h3)]
    ·refine js (cs':=Ab { t with v:=a } (.slice xa n c)) rfl rfl (by simp[Ab]) rfl (fin _ ?_);rw[BN,if_neg (by simpa using h1),if_neg (by simpa using h2),if_neg (by simpa using h3)]
 ·rintro e _ _ ⟨rfl,rfl,he⟩;simp only[List.map,lj,z_t] at he;simp only[he];refine jp (NH pc h) ?_;have hp:(BN t pc a).pc = DO pc:=rfl;refine js (cs':=Ab (BN t pc a) (.slice xa n c)) rfl rfl (by simp[Ab]) rfl ?_;refine jla (cs:=Ab (BN t pc a) (.slice xa n c)) (t:=AR) (l:=Ab (BN t pc a) (.slice xa n c)) (z_n 17) rfl ?_;refine js (cs':=Ab (BN t pc a) (.slice xa n c)) rfl rfl (by exact z_n 17) rfl ?_;refine jla (cs:=Ab (BN t pc a) (.slice xa n c)) (t:=AR) (l:=Ab (BN t pc a) (.slice xa n c)) (z_n 17) rfl ?_;exact BR (A:=[]) (RM.le.refl _) rfl
theorem QW {p:Nat} {S S' : Sim} {g:Img} {i:Int} {R:RM} (hok:Ok R S g) (hS:S.resolve i = some S') :
  Fn P Fc [.pointer (some ⟨p,0,none⟩),I i] R (AV p S g) (CT p S' λ_=>True):=by
 refine Ks λF=>?_
 unfold Fe;obtain⟨t,ht,hS⟩:=AA hS;obtain⟨h0,h1,h2,h3⟩:=Ai ht;split at hS
 ·cases hS
 rename_i hpc;have hpc:0≤t.pc∧t.pc≤100:=Classical.not_not.1 hpc;have hin:inR (t.pc + 1):=⟨by omega,by omega⟩;obtain⟨c,hf,hS⟩:=AA hS;refine Ey (p:=p) hok ht rfl λb a cap hv=>?_
 refine jl rfl ?_;refine jla (cs:=Ab t (.slice a t.A7.length cap)) (t:=AR) (l:=Ab t (.slice a t.A7.length cap)) (z_n 17) rfl ?_;refine jp (Qo t a t.A7.length cap t.pc) ?_;refine jcS (p:=p) (by exact Jx hok hf) λ_ R1 g1 hR1 hr ok1=>?_
 subst hr;refine jif (λhc=>?_) (λhc=>?_)
 ·have hc:c = false:=by simpa using hc
  subst hc;cases hS;refine jp (NH t.pc hin) ?_;refine js (cs':=Ab { t with pc:=DO t.pc } (.slice a t.A7.length cap)) rfl rfl (by simp[Ab]) rfl ?_;refine Ex (p:=p) (S.setT i { t with pc:=DO t.pc }) (by exact ok1) h0 (by exact h1) (by exact hv.le hR1) (by rfl) λg2 ok2=>?_
  exact Aj hR1 trivial rfl ok2
 ·have hc:c = true:=by simpa using hc
  subst hc;obtain⟨⟨f,S1⟩,hrd,hS⟩:=AA hS;dsimp only at hS;have hS1:S1.th = S.th∧S1.Aa = S.Aa:=by
   simp only[Sim.read] at hrd;split at hrd
   ·cases hrd;exact⟨rfl,rfl⟩
   ·cases hrd
  refine jcS (p:=p) (by exact CX ok1 hrd) λ_ R2 g2 hR2 hr ok2=>?_
  subst hr;refine AH (λvs R' D'=>R' = R2∧∃t',t'.A7 = t.A7∧S' = S1.setT i t'∧D' = AV p S1 g2 ++ (b,C AR (Ab t' (.slice a t.A7.length cap))) :: F∧vs = [.pointer (some ⟨p,0,none⟩),I i,.pointer (some ⟨b,0,none⟩)]) (λK hK=>?_) ?_
  ·refine AH (λvs R' D'=>R' = R2∧D' = AV p S1 g2 ++ (b,C AR (Ab t (.slice a t.A7.length cap))) :: F∧∃c u,vs = [.pointer (some ⟨p,0,none⟩),I i,.pointer (some ⟨b,0,none⟩),I t.pc,I (BX t t.pc),I f,c,u]∧∀k,PA c u k = k (.bool (f == BX t t.pc && S.Aa == 2))) (λK2 hK2=>?_) ?_
   ·refine jeq (Bj (λhp=>jl rfl (jeq (hK2 _ _ _ ⟨rfl,rfl,_,_,rfl,λk=>?_⟩))) (λhp=>hK2 _ _ _ ⟨rfl,rfl,_,_,rfl,λk=>?_⟩))
    ·simp only[hp,PA,PO,PK,cond_true,Bool.true_and,hS1.2]
    ·simp only[hp,PA,PO,PK,cond_false,Bool.false_and]
   ·rintro e _ _ ⟨rfl,rfl,c,u,he,hpk⟩;simp only[List.map,lj,z_t] at he;obtain⟨e0,e1,e4,e5,e6,e7,e40,e46⟩:=he;simp only[e0,e1,e4,e5,e6,e7,e40,e46];rw[hpk];refine jif (λhq=>?_) (λhq=>?_)
    ·simp only[z_b,beq_iff_eq] at hq;rw[if_pos ⟨hq.1,by rw[hS1.2];exact hq.2⟩] at hS;cases hS;refine js (cs':=Ab { t with src:=BX t t.pc } (.slice a t.A7.length cap)) rfl rfl (by simp[Ab]) rfl ?_;refine js (cs':=Ab { t with src:=BX t t.pc,ret:=t.pc } (.slice a t.A7.length cap)) rfl rfl (by simp[Ab]) rfl ?_;refine js (cs':=Ab { t with src:=BX t t.pc,ret:=t.pc,pc:=20 } (.slice a t.A7.length cap)) rfl rfl (by simp[Ab]) rfl ?_;exact hK _ _ _ ⟨rfl,{ t with src:=BX t t.pc,ret:=t.pc,pc:=20 },rfl,rfl,rfl,rfl⟩
    ·have hq:¬ (f = BX t t.pc∧S1.Aa = 2):=by rw[hS1.2];simpa using hq
     rw[if_neg hq] at hS;cases hS;refine jla (cs:=Ab t (.slice a t.A7.length cap)) (t:=AR) (l:=Ab t (.slice a t.A7.length cap)) (z_n 17) rfl ?_;refine jp (Mj t a t.A7.length cap t.pc f hin) ?_;refine js (cs':=Ab (BN t t.pc f) (.slice a t.A7.length cap)) rfl rfl (by exact z_n 17) rfl ?_;refine hK _ _ _ ⟨rfl,BN t t.pc f,?_,rfl,rfl,rfl⟩;simp only[BN];split<;>(try split)<;>(try split)<;>rfl
  ·rintro e _ _ ⟨rfl,t',hr,rfl,rfl,he⟩;simp only[List.map,lj,z_t] at he;simp only[he];have hv' : B9 _ _ _:=hv.le (hR1.trans hR2);refine Ex (p:=p) (S1.setT i t') (by exact ok2) h0 (by rw[hS1.1];exact h1) (by rw[hr];exact hv') (by rfl) λg3 ok3=>?_
   exact Aj (hR1.trans hR2) trivial rfl ok3
end Go.Lf
end
section
namespace Go.Lf
open Go Sm
theorem OR (a b:Bool) (x y:Operand) (w:World):(do eqGuard .neq 4 x y (.bool a) (.bool b);binOp .neq 4 (.bool a) (.bool b):Sem Value).run P w = .ok (.bool (a != b)) w:=by
 cases a<;>cases b<;>kernel_rfl
theorem jxb {a b:Bool} {x y:Operand} {R:RM} {D:Chs} {k:Value→M} (H:J R D (k (.bool (a != b)))):J R D (X P (do eqGuard .neq Az x y (.bool a) (.bool b);binOp .neq Az (.bool a) (.bool b)) k):=by
 intro h hs w hw;have:=OR a b x y w;rw[this];subst hw;exact⟨Ax.refl _,H _ hs⟩
end Go.Lf
end
section
namespace Go.Lf
open Go Sm
theorem Uu:(P.fieldsOf AD).toList.map (λf=>(f.name != "_",f.type,f.offset)) = [(true,AZ,0),(true,AZ,1),(true,AZ,2),(true,AZ,3),(true,AZ,4)]:=by kernel_rfl
theorem RN (f:Nat) (o:Nat) (xs:List Value) (v:Value) (w:World) (h:xs[o]? = some v):(part AZ xs.toArray o).run P w = .ok v w:=
 run_part_plain w (by kernel_rfl) (by simpa using h)
theorem SN (d:Nat) (w:World) (xs ys:List Value):∀(fs:List Field) (os:List Nat) (ps bs:List Int),fs.map (λf=>(f.name != "_",f.type,f.offset)) = os.map (λo=>(true,AZ,o))→os.map (xs[·]?) = ps.map (λa=>some (I a))→os.map (ys[·]?) = bs.map (λb=>some (I b))→
  (Op.eqFields (d + 1) xs.toArray ys.toArray fs).run P w = .ok (ps == bs) w:=by
 intro fs;induction fs with
 | nil=>intro os ps bs h1 h2 h3;cases os<;>simp at h1;cases ps<;>simp at h2;cases bs<;>simp at h3;simp[Op.eqFields]
 | cons f fs ih=>
  intro os ps bs h1 h2 h3;cases os with
  | nil=>simp at h1
  | cons o os=>
   cases ps with
   | nil=>simp at h2
   | cons a ps=>
    cases bs with
    | nil=>simp at h3
    | cons b bs=>
     simp only[List.map_cons,lj,Prod.mk.injEq] at h1 h2 h3;obtain⟨⟨n1,n2,n3⟩,h1⟩:=h1;have n1' : f.name≠ "_":=by simpa using n1
     simp only[Op.eqFields,if_pos n1',Sem.run_bind];rw[n2,n3,RN 0 o xs (I a) w h2.1];simp only[Result.andThen_ok];rw[RN 0 o ys (I b) w h3.1];simp only[Result.andThen_ok];rw[run_equalIn_int w d AZ .i64 .i64 a b (by kernel_rfl)];simp only[Result.andThen_ok];cases hb:(a == b)
     ·simp[hb]
     ·simp[hb,ih os ps bs h1 h2.2 h3.2]
theorem V0 {a b:Rg} {x y:Operand} {R:RM} {D:Chs} {k:Value→M} (H:J R D (k (.bool (!(a == b))))):J R D (X P (do eqGuard .neq AD x y (.agg (eRg a).toArray) (.agg (eRg b).toArray);binOp .neq AD (.agg (eRg a).toArray) (.agg (eRg b).toArray)) k):=by
 intro h hs w hw;have hfs:=Uu;rw[Sem.run_bind,run_eqGuard_agg _ _ _ _ _ _ _ (by kernel_rfl)];simp only[Result.andThen_ok];rw[run_neq_struct,run_equalIn_struct w 9999 AD _ _ (by kernel_rfl) (by kernel_rfl)];rw[SN 9998 w (eRg a) (eRg b) _ [0,1,2,3,4] [a.kind,a.AK,a.top,a.Ah,a.AF] [b.kind,b.AK,b.top,b.Ah,b.AF] hfs rfl rfl];simp only[Result.andThen_ok];have:([a.kind,a.AK,a.top,a.Ah,a.AF] == [b.kind,b.AK,b.top,b.Ah,b.AF]) = (a == b):=by
  rw[Bool.eq_iff_iff];obtain⟨a1,a2,a3,a4,a5⟩:=a;obtain⟨b1,b2,b3,b4,b5⟩:=b;simp
 rw[this];subst hw;exact⟨Ax.refl _,H _ hs⟩
end Go.Lf
end
section
namespace Sm
def gv {α:Type} (d:α) (l:List α) (a:Int):α:=l.getD a.toNat d
theorem Nz {α:Type} {d:α} {l:List α} {a x:Int} {v:α} (h0:0≤a) (h1:a < l.length) (hx:0≤x):gv d (AT l a v) x = if x = a then v else gv d l x:=by
 unfold gv AT;rw[List.getD_eq_getElem?_getD,List.getD_eq_getElem?_getD,List.getElem?_set];by_cases h:x = a
 ·subst h;rw[if_pos rfl,if_pos rfl,if_pos (by omega)];rfl
 ·rw[if_neg (by omega),if_neg h]
theorem Ly {α:Type} {d:α} {l:List α} {a:Int} (h0:0≤a) (h1:a < l.length):idx l a = some (gv d l a):=by
 unfold idx gv;rw[if_pos h0,List.getD_eq_getElem?_getD,List.getElem?_eq_getElem (by omega)];rfl
theorem HY {α:Type} {l:List α} {a:Int} {v:α} (d:α) (h:idx l a = some v):0≤a∧a < l.length∧gv d l a = v:=by
 unfold idx at h;split at h
 ·obtain⟨hi,he⟩:=List.getElem?_eq_some_iff.1 h;refine⟨‹_›,by omega,?_⟩;unfold gv;rw[List.getD_eq_getElem?_getD,h];rfl
 ·cases h
theorem ES {α:Type} {d:α} {l:List α} {k:Nat} (h:k < l.length):gv d l (k:Int) = l[k]:=by
 unfold gv;rw[Int.toNat_natCast,List.getD_eq_getElem?_getD,List.getElem?_eq_getElem h];rfl
theorem UF {α:Type} {d:α} {l:List α} {a:Int} (h0:0≤a) (h:l.length≤a):gv d l a = d:=by
 unfold gv;rw[List.getD_eq_getElem?_getD,List.getElem?_eq_none (by omega)];rfl
@[simp] theorem Cf {α:Type} {l:List α} {a:Int} {v:α}:(AT l a v).length = l.length:=by simp[AT]
@[reducible] def wv (l:List Int) (a:Int):Int:=gv 0 l a
@[reducible] def mv (l:List Bool) (a:Int):Bool:=gv false l a
@[reducible] def rv (t:List Rg) (r:Int):Rg:=gv Cs t r
theorem SU {l:List Int} {a:Int} (h0:0≤a) (h1:a < l.length):idx l a = some (wv l a):=Ly h0 h1
theorem Oy {l:List Bool} {a:Int} (h0:0≤a) (h1:a < l.length):idx l a = some (mv l a):=Ly h0 h1
theorem CU {l:List Rg} {a:Int} (h0:0≤a) (h1:a < l.length):idx l a = some (rv l a):=Ly h0 h1
theorem Cz {l:List Int} {a x v:Int} (h0:0≤a) (h1:a < l.length) (hx:0≤x):wv (AT l a v) x = if x = a then v else wv l x:=Nz h0 h1 hx
theorem Oj {l:List Bool} {a x:Int} {v:Bool} (h0:0≤a) (h1:a < l.length) (hx:0≤x):mv (AT l a v) x = if x = a then v else mv l x:=Nz h0 h1 hx
theorem DD {l:List Rg} {a x:Int} {v:Rg} (h0:0≤a) (h1:a < l.length) (hx:0≤x):rv (AT l a v) x = if x = a then v else rv l x:=Nz h0 h1 hx
theorem Cw {t:List Rg} {r:Int} (h0:0≤r) (h:t.length≤r):rv t r = Cs:=UF h0 h
structure GI (r:Int) (x:Rg):Prop where
 k0:1≤x.kind
 k1:x.kind≤4
 t0:16 * r≤x.top
 t1:x.top≤16 * r + 16
 s0:16 * r≤x.Ah
 s1:x.Ah≤x.top
 l0:0≤x.AF
 l1:x.AF≤x.top - 16 * r
 fr:x.kind = 1→x.top = 16 * r
 ow:x.kind = 2↔0≤x.AK
 o0:-1≤x.AK
 o1:x.AK≤3
structure TOk (t:List Rg):Prop where
 n0:2≤t.length
 n1:t.length≤12
 e:rv t 0 = Cs
 row:∀r:Int,1≤r→r < t.length→GI r (rv t r)
 own:∀r s:Int,1≤r→r < t.length→1≤s→s < t.length→0≤(rv t r).AK→(rv t r).AK = (rv t s).AK→r = s
theorem CZ {r:Int} (h0:0≤r) (h1:r < 12):AG r = 16 * r:=by
 unfold AG;rw[if_neg (by omega)];omega
theorem HN {r:Int} {x:Rg} (h0:0≤r) (h1:r < 12):Gs r x = true↔GI r x:=by
 unfold Gs;rw[CZ h0 h1];simp only[z_b,z_d,Bool.or_eq_true,Bool.not_eq_true',beq_eq_false_iff_ne,beq_iff_eq];constructor
 ·rintro⟨⟨⟨⟨⟨⟨⟨⟨⟨⟨⟨a,b⟩,c⟩,d⟩,e⟩,f⟩,g⟩,h⟩,i⟩,j⟩,k⟩,l⟩;refine⟨a,b,c,d,e,f,g,h,λhk=>?_,?_,k,l⟩
  ·rcases i with i | i
   ·exact absurd hk i
   ·exact i
  ·rw[Bool.eq_iff_iff] at j;simpa using j
 ·rintro⟨a,b,c,d,e,f,g,h,i,j,k,l⟩;refine⟨⟨⟨⟨⟨⟨⟨⟨⟨⟨⟨a,b⟩,c⟩,d⟩,e⟩,f⟩,g⟩,h⟩,?_⟩,?_⟩,k⟩,l⟩
  ·by_cases hk:x.kind = 1
   ·exact .inr (i hk)
   ·exact .inl hk
  ·rw[Bool.eq_iff_iff];simpa using j
theorem Jm:∀(l:List Rg) (i:Nat),i + l.length≤12→(JI i l = true↔(∀k (h:k < l.length),GI (i + k:Nat) l[k])∧∀k m (h:k < m) (hm:m < l.length),0≤(l[k]).AK→(l[m]).AK≠(l[k]).AK):=by
 intro l;induction l with
 | nil=>intro i _;simp[JI]
 | cons x r ih=>
  intro i hi;simp only[List.length_cons] at hi;simp only[JI,z_b,ih (i + 1) (by omega),HN (r:=(i:Int)) (by omega) (by omega),Bool.or_eq_true,z_d,List.all_eq_true,Bool.not_eq_true',beq_eq_false_iff_ne];constructor
  ·rintro⟨⟨h1,h2⟩,h3,h4⟩;refine⟨λk h=>?_,λk m h hm ho=>?_⟩
   ·cases k with
    | zero=>exact h1
    | succ k=>
     have:=h3 k (by simpa using h);rw[show i + (k + 1) = i + 1 + k from by omega];exact this
   ·cases m with
    | zero=>omega
    | succ m=>
     cases k with
     | zero=>
      simp only[List.getElem_cons_zero] at ho;rcases h2 with h2 | h2
      ·omega
      ·exact h2 _ (List.getElem_mem (by simpa using hm))
     | succ k=>exact h4 k m (by omega) (by simpa using hm) (by simpa using ho)
  ·rintro⟨h1,h2⟩;refine⟨⟨h1 0 (by simp),?_⟩,λk h=>?_,λk m h hm ho=>?_⟩
   ·by_cases hx:x.AK < 0
    ·exact .inl hx
    ·refine .inr λy hy=>?_
     obtain⟨n,hn,rfl⟩:=List.getElem_of_mem hy;exact h2 0 (n + 1) (by omega) (by simpa using hn) (by simpa using hx)
   ·have:=h1 (k + 1) (by simpa using h);rw[show i + 1 + k = i + (k + 1) from by omega];exact this
   ·exact h2 (k + 1) (m + 1) (by omega) (by simpa using hm) (by simpa using ho)
theorem BI {t:List Rg}:Ay t = true↔TOk t:=by
 cases t with
 | nil=>simp[Ay];intro h;have:=h.n0;simp at this
 | cons e r=>
  simp only[Ay,z_b,z_d,beq_iff_eq];have gz:rv (e :: r) 0 = e:=rfl;have gs:∀k (h:k < r.length),rv (e :: r) ((1 + k:Nat):Int) = r[k]:=λk h=>by
   rw[rv,ES (by simp;omega)];simp only[Nat.add_comm 1 k,List.getElem_cons_succ]
  constructor
  ·rintro⟨⟨⟨h1,h2⟩,h3⟩,h4⟩;rw[Jm r 1 (by omega)] at h4;have sp:∀x:Int,1≤x→x < (e :: r).length→∃k,∃h:k < r.length,x = ((1 + k:Nat):Int)∧rv (e :: r) x = r[k]:=λx hx hx2=>by
    simp only[List.length_cons] at hx2;refine⟨x.toNat - 1,by omega,by omega,?_⟩;have:=gs (x.toNat - 1) (by omega);rw[show ((1 + (x.toNat - 1):Nat):Int) = x from by omega] at this;exact this
   refine⟨by simp;omega,by simp;omega,by rw[gz];exact h3,λx hx hx2=>?_,λx y hx hx2 hy hy2 ho he=>?_⟩
   ·obtain⟨k,h,hk,hv⟩:=sp x hx hx2;rw[hv,hk];exact h4.1 k h
   ·obtain⟨k,h,hk,hv⟩:=sp x hx hx2;obtain⟨m,h',hm,hv'⟩:=sp y hy hy2;rw[hv,hv'] at he;rw[hv] at ho;rcases Nat.lt_trichotomy k m with c | c | c
    ·exact absurd he.symm (h4.2 k m c h' ho)
    ·omega
    ·exact absurd he (h4.2 m k c h (he▸ho))
  ·intro T;have n0:=T.n0;have n1:=T.n1;simp only[List.length_cons] at n0 n1;refine⟨⟨⟨by omega,by omega⟩,by rw[← gz];exact T.e⟩,?_⟩;rw[Jm r 1 (by omega)];refine⟨λk h=>?_,λk m h hm ho he=>?_⟩
   ·rw[← gs k h];exact T.row _ (by omega) (by simp;omega)
   ·rw[← gs m hm,← gs k (by omega)] at he;rw[← gs k (by omega)] at ho;have:=T.own _ _ (by omega) (by simp;omega) (by omega) (by simp;omega) ho he.symm;omega
theorem TOk.set {t:List Rg} {r:Int} {x:Rg} (T:TOk t) (h0:1≤r) (h1:r < t.length) (hx:GI r x) (ho:∀s:Int,1≤s→s < t.length→s≠r→0≤x.AK→(rv t s).AK≠x.AK):TOk (AT t r x):=by
 have gs:∀s,0≤s→rv (AT t r x) s = if s = r then x else rv t s:=λs hs=>DD (by omega) h1 hs
 refine⟨by simpa using T.n0,by simpa using T.n1,?_,λs hs hs2=>?_,λs u hs hs2 hu hu2 h he=>?_⟩
 ·rw[gs 0 (by omega),if_neg (by omega)];exact T.e
 ·rw[gs s (by omega)];by_cases c:s = r
  ·rw[if_pos c,c];exact hx
  ·rw[if_neg c];exact T.row s hs (by simpa using hs2)
 ·simp only[Cf] at hs2 hu2;rw[gs s (by omega)] at h he;rw[gs u (by omega)] at he;by_cases c:s = r<;>by_cases d:u = r
  ·omega
  ·rw[if_pos c] at h he;rw[if_neg d] at he;exact absurd he.symm (ho u hu hu2 d h)
  ·rw[if_neg c] at h he;rw[if_pos d] at he;exact absurd he (ho s hs hs2 c (he▸h))
  ·rw[if_neg c] at h he;rw[if_neg d] at he;exact T.own s u hs hs2 hu hu2 h he
theorem Q8 (p:Rg→Bool):∀(l:List Rg) (n:Nat),(Bh p n l = -1∧∀k (h:k < l.length),p l[k] = false)∨∃k,∃h:k < l.length,Bh p n l = (n + k:Nat)∧p l[k] = true:=by
 intro l;induction l with
 | nil=>intro n;left;exact⟨rfl,λk h=>by simp at h⟩
 | cons x r ih=>
  intro n;simp only[Bh];cases hx:p x with
  | true=>right;exact⟨0,by simp,by simp,by simpa using hx⟩
  | false=>
   rcases ih (n + 1) with ⟨h1,h2⟩ | ⟨k,h,h1,h2⟩
   ·left;refine⟨by simpa using h1,λk h=>?_⟩;cases k with
    | zero=>exact hx
    | succ k=>exact h2 k (by simpa using h)
   ·right;exact⟨k + 1,by simpa using h,by simp[h1];omega,by simpa using h2⟩
theorem HA {t:List Rg} {k:Nat} (h:k < t.tail.length):t.tail[k] = rv t ((1 + k:Nat):Int):=by
 rw[rv,ES (by simp at h;omega)];simp[List.getElem_tail,Nat.add_comm]
theorem EP (p:Rg→Bool) (t:List Rg):(Bh p 1 t.tail = -1∧∀r:Int,1≤r→r < t.length→p (rv t r) = false)∨(1≤Bh p 1 t.tail∧Bh p 1 t.tail < t.length∧p (rv t (Bh p 1 t.tail)) = true):=by
 rcases Q8 p t.tail 1 with ⟨h1,h2⟩ | ⟨k,h,h1,h2⟩
 ·left;refine⟨h1,λr h0 hr=>?_⟩;have:=h2 (r.toNat - 1) (by simp;omega);rw[HA,show ((1 + (r.toNat - 1):Nat):Int) = r from by omega] at this;exact this
 ·right;rw[HA h] at h2;rw[h1];simp at h;exact⟨by omega,by omega,h2⟩
structure PM (t:List Rg) (o size:Int) (t' : List Rg) (d:Int):Prop where
 ok:TOk t'
 len:t'.length = t.length
 d0:16≤d
 dk:(rv t' (d / 16)).kind = 2
 do_:(rv t' (d / 16)).AK = o
 dt:(rv t' (d / 16)).top = d
 fit:d + size≤16 * (d / 16) + 16
 top:∀r,0≤r→(rv t' r).top = (rv t r).top
 Ah:∀r,0≤r→(rv t' r).Ah = (rv t r).Ah
 AF:∀r,0≤r→(rv t' r).AF = (rv t r).AF
 frm:∀r,0≤r→((rv t' r).kind = 4↔(rv t r).kind = 4)
 oth:∀r,0≤r→(rv t r).kind = 2→(rv t r).AK≠o→rv t' r = rv t r
theorem L4 {t:List Rg} {o size:Int} (T:TOk t) (o0:0≤o) (o1:o≤3) (hn:own t o < 0) (s1:size≤16):Bl t o = none∨∃t' r,Bl t o = some (t',r)∧PM t o size t' (AG r):=by
 unfold Bl;rw[if_pos (by simp[BI.2 T,o0,o1,hn])];rcases EP (λx=>x.kind == 1) t with ⟨h1,_⟩ | ⟨h1,h2,h3⟩
 ·left;simp only[h1];rfl
 ·right;generalize Bh (λx=>x.kind == 1) 1 t.tail = r at h1 h2 h3;have hk:(rv t r).kind = 1:=by simpa using h3
  have n1:=T.n1;have hb:=CZ (r:=r) (by omega) (by omega);have R:=T.row r h1 h2;have hno:∀s:Int,1≤s→s < t.length→¬ ((rv t s).kind = 2∧(rv t s).AK = o):=by
   intro s hs hs2 hh;rcases EP (λx=>x.kind == 2 && x.AK == o) t with ⟨_,g⟩ | ⟨g,_,_⟩
   ·have:=g s hs hs2;simp[hh.1,hh.2] at this
   ·unfold own at hn;omega
  have hto:=R.fr hk;refine⟨_,_,by dsimp only;rw[if_neg (by omega),hb],?_⟩;have gs:∀s,0≤s→rv (AT t r ⟨2,o,16 * r,16 * r,0⟩) s = if s = r then ⟨2,o,16 * r,16 * r,0⟩ else rv t s:=λs hs=>DD (by omega) h2 hs
  have ed:16 * r / 16 = r:=by omega
  have s0':=R.s0;have s1':=R.s1;have l0':=R.l0;have l1':=R.l1;refine⟨?_,by simp,by rw[hb];omega,?_,?_,?_,by rw[hb];omega,?_,?_,?_,?_,?_⟩
  ·refine T.set h1 h2 ⟨by simp,by simp,by exact Int.le_refl _,?_,by exact Int.le_refl _,by exact Int.le_refl _,by simp,?_,?_,?_,?_,o1⟩ λs hs hs2 hne ho he=>?_
   ·show 16 * r≤16 * r + 16;omega
   ·show 0≤16 * r - 16 * r;omega
   ·intro h;cases h
   ·exact⟨λ_=>o0,λ_=>rfl⟩
   ·show -1≤o;omega
   ·have:=(T.row s hs hs2).ow.2 (by rw[he];exact o0);exact hno s hs hs2 ⟨this,he⟩
  ·rw[hb,ed,gs r (by omega),if_pos rfl]
  ·rw[hb,ed,gs r (by omega),if_pos rfl]
  ·rw[hb,ed,gs r (by omega),if_pos rfl]
  ·intro s hs;rw[gs s hs];split
   ·subst s;exact hto.symm
   ·rfl
  ·intro s hs;rw[gs s hs];split
   ·subst s;simp only[];omega
   ·rfl
  ·intro s hs;rw[gs s hs];split
   ·subst s;simp only[];omega
   ·rfl
  ·intro s hs;rw[gs s hs];split
   ·subst s;simp only[];omega
   ·exact Iff.rfl
  ·intro s hs hk2 ho;rw[gs s hs];split
   ·subst s;omega
   ·rfl
theorem EQ {t:List Rg} {o size:Int} (T:TOk t) (o0:0≤o) (o1:o≤3) (s0:1≤size) (s1:size≤16):BB t o size = none∨∃t' d,BB t o size = some (t',d)∧PM t o size t' d:=by
 unfold BB;rw[if_pos (by simp[BI.2 T,o0,o1,s0,s1])];have n1:=T.n1;dsimp only;rcases EP (λx=>x.kind == 2 && x.AK == o) t with ⟨h1,h2⟩ | ⟨h1,h2,h3⟩
 ·have ho:own t o = -1:=h1;rw[ho];rw[if_neg (by omega)];rcases L4 (size:=size) T o0 o1 (by rw[ho];omega) s1 with h | ⟨t',r,h,hr⟩
  ·left;simp only[h]
  ·right;simp only[h];exact⟨_,_,rfl,hr⟩
 ·have ho:own t o = Bh (λx=>x.kind == 2 && x.AK == o) 1 t.tail:=rfl;rw[← ho] at h1 h2 h3;generalize own t o = r at h1 h2 h3;simp only[z_b,beq_iff_eq] at h3;have R:=T.row r h1 h2;have hb:=CZ (r:=r) (by omega) (by omega);rw[if_pos (by omega),CU (by omega) h2];dsimp only;rw[hb];by_cases hf:(rv t r).top + size≤16 * r + 16
  ·right;have t0:=R.t0;have ed:(rv t r).top / 16 = r:=by omega
   refine⟨_,_,by rw[if_pos hf],T,rfl,by omega,by rw[ed];exact h3.1,by rw[ed];exact h3.2,by rw[ed],by rw[ed];exact hf,λ_ _=>rfl,λ_ _=>rfl,λ_ _=>rfl,λ_ _=>Iff.rfl,λ_ _ _ _=>rfl⟩
  ·rw[if_neg hf];have hcl:CG t r = some (AT t r { rv t r with kind:=3,AK:=-1 }):=by
    unfold CG;rw[if_pos (by simp[BI.2 T,h1]),CU (by omega) h2];dsimp only;rw[if_pos (by simpa using h3.1)]
   rw[hcl];simp only[Option.getD_some];have gs:∀s,0≤s→rv (AT t r { rv t r with kind:=3,AK:=-1 }) s = if s = r then { rv t r with kind:=3,AK:=-1 } else rv t s:=λs hs=>DD (by omega) h2 hs
   have T2:TOk (AT t r { rv t r with kind:=3,AK:=-1 }):=by
    refine T.set h1 h2 ⟨by simp,by simp,R.t0,R.t1,R.s0,R.s1,R.l0,R.l1,?_,?_,by simp,by simp⟩ λs hs hs2 hne ho he=>?_
    ·intro h;cases h
    ·simp
    ·simp at ho
   have hno:own (AT t r { rv t r with kind:=3,AK:=-1 }) o < 0:=by
    rcases EP (λx=>x.kind == 2 && x.AK == o) (AT t r { rv t r with kind:=3,AK:=-1 }) with ⟨g,_⟩ | ⟨g1,g2,g3⟩
    ·unfold own;rw[g];decide
    ·exfalso;generalize Bh (λx=>x.kind == 2 && x.AK == o) 1 (AT t r { rv t r with kind:=3,AK:=-1 }).tail = s at g1 g2 g3;rw[gs s (by omega)] at g3;simp only[Cf] at g2;by_cases c:s = r
     ·rw[if_pos c] at g3;simp at g3
     ·rw[if_neg c] at g3;simp only[z_b,beq_iff_eq] at g3;exact c (T.own s r g1 g2 h1 h2 (by rw[g3.2];exact o0) (by rw[g3.2,h3.2]))
   rcases L4 (size:=size) T2 o0 o1 hno s1 with h | ⟨t',u,h,hr⟩
   ·left;simp only[h]
   ·right;simp only[h];refine⟨_,_,rfl,hr.ok,by rw[hr.len];simp,hr.d0,hr.dk,hr.do_,hr.dt,hr.fit,λs hs=>?_,λs hs=>?_,λs hs=>?_,λs hs=>?_,λs hs hk hoo=>?_⟩
    ·rw[hr.top s hs,gs s hs];split
     ·subst s;rfl
     ·rfl
    ·rw[hr.Ah s hs,gs s hs];split
     ·subst s;rfl
     ·rfl
    ·rw[hr.AF s hs,gs s hs];split
     ·subst s;rfl
     ·rfl
    ·rw[hr.frm s hs,gs s hs];split
     ·subst s;simp only[];omega
     ·exact Iff.rfl
    ·have hne:s≠r:=by intro c;subst c;exact hoo h3.2
     have:=hr.oth s hs (by rw[gs s hs,if_neg hne];exact hk) (by rw[gs s hs,if_neg hne];exact hoo);rw[this,gs s hs,if_neg hne]
end Sm
end
section
namespace Go.Lf
open Go Sm
def Ro (f:Nat) (args:List Value) (v:Value) (R:RM) (D:Chs):Prop:=Fn P f args R D λv' _ A=>v' = v∧A = D
theorem jro {f:Nat} {args:List Value} {v:Value} {R:RM} {D:Chs} {k:Value→M} (hF:Ro f args v R D) (H:J R D (k v)):J R D (CA P f args k):=by
 intro h hs;refine E7 ?_ (hF [] h (by simpa using hs));rintro v' h' ⟨R',A',h1,h2,rfl,rfl⟩;exact H h' (by simpa using h2.le h1)
theorem BV {v v' : Value} {R:RM} {D E G F:Chs} (hv:v' = v) [s:Sp G (D ++ F) E]:J R G (ED R F (λv' _ A=>v' = v∧A = D) v'):=by
 intro h hs;refine⟨R,D,RM.le.refl R,?_,hv,rfl⟩;exact (hs.perm s.p).keep
theorem jln {R:RM} {D:Chs} {a:Option Addr} {n c:Nat} {k:Value→M} (H:J R D (k (I n))):J R D (LN (.slice a n c) k):=H
def Or2 (c u:Value) (v:Bool):Prop:=∀k:Value→M,PO c u k = k (.bool v)
def Eu (c u:Value) (v:Bool):Prop:=∀k:Value→M,PA c u k = k (.bool v)
theorem B7 {u:Value}:Or2 (.bool true) u true:=λ_=>rfl
theorem Ar {b:Bool}:Or2 (.bool false) (.bool b) b:=λ_=>rfl
theorem Aq {b:Bool}:Eu (.bool true) (.bool b) b:=λ_=>rfl
theorem As {u:Value}:Eu (.bool false) u false:=λ_=>rfl
section cuts
variable {R:RM} {D:Chs} {lv:List Nat} {B:(List Value→M)→M} {K:Env→M}
theorem jor (pre:List Value) (v:Bool) (H1:∀K' : List Value→M,(∀c u w,Or2 c u w→w = v→J R D (K' (pre ++ [c,u])))→J R D (B K')) (H2:∀e c u,Or2 c u v→lv.map e = pre ++ [c,u]→J R D (K e)):J R D (CUT lv B K):=
 AH (λvs R' D'=>R' = R∧D' = D∧∃c u,vs = pre ++ [c,u]∧Or2 c u v) (λK' h=>H1 K' λc u w hc hw=>h _ _ _ ⟨rfl,rfl,c,u,rfl,hw▸hc⟩) λe R' D' ⟨h1,h2,c,u,h3,h4⟩=>by
  subst h1 h2;exact H2 e c u h4 h3
theorem jan (pre:List Value) (v:Bool) (H1:∀K' : List Value→M,(∀c u w,Eu c u w→w = v→J R D (K' (pre ++ [c,u])))→J R D (B K')) (H2:∀e c u,Eu c u v→lv.map e = pre ++ [c,u]→J R D (K e)):J R D (CUT lv B K):=
 AH (λvs R' D'=>R' = R∧D' = D∧∃c u,vs = pre ++ [c,u]∧Eu c u v) (λK' h=>H1 K' λc u w hc hw=>h _ _ _ ⟨rfl,rfl,c,u,rfl,hw▸hc⟩) λe R' D' ⟨h1,h2,c,u,h3,h4⟩=>by
  subst h1 h2;exact H2 e c u h4 h3
theorem IT (pre:List Value) (H1:∀K' : List Value→M,J R D (K' pre)→J R D (B K')) (H2:∀e,lv.map e = pre→J R D (K e)):J R D (CUT lv B K):=
 AH (λvs R' D'=>R' = R∧D' = D∧vs = pre) (λK' h=>H1 K' (h _ _ _ ⟨rfl,rfl,rfl⟩)) λe R' D' ⟨h1,h2,h3⟩=>by
  subst h1 h2;exact H2 e h3
end cuts
theorem BT {t:List Rg} {sp:List Value} {i:Nat} (h:i < t.length) {f:Nat} {v:Value} (hv:(eRg (t[i]))[f]? = some v):(AW eRg t ++ sp)[i * 5 + f]? = some v:=by
 have:=Cq (f:=eRg) (w:=5) (λ_=>rfl) (sp:=sp) h;have e2:=congrArg (λl=>l[f]?) this;simp only[List.getElem?_take,List.getElem?_drop] at e2;have hf:f < 5:=by
  by_cases c:f < 5
  ·exact c
  ·have:(eRg (t[i]))[f]? = none:=List.getElem?_eq_none (by show 5≤f;omega);rw[this] at hv;cases hv
 rw[if_pos hf] at e2;rw[e2,hv]
theorem E6 {t:List Rg} {sp:List Value} {i:Nat} (h:i < t.length):i * 5 + 5≤(AW eRg t ++ sp).length:=by
 rw[List.length_append,DW (w:=5) (λ_=>rfl)];omega
section A0
variable {t:List Rg} {sp:List Value} {b cap:Nat} {R:RM} {D:Chs}
theorem PE (AK:Int) (hl:t.length < 1000000) [a:At D b (C AD (AW eRg t ++ sp))]:Ro LL [.slice (some ⟨b,0,none⟩) t.length cap,I AK] (I (own t AK)) R D:=by
 refine Q6 λF=>?_
 unfold L5;have ex:=EP (λx=>x.kind == 2 && x.AK == AK) t;refine jlp (λn vs R' D'=>R' = R∧D' = D ++ F∧∃r:Nat,1≤r∧r≤t.length + 1∧vs = [.slice (some ⟨b,0,none⟩) t.length cap,I AK,I r]∧n = t.length + 1 - r∧own t AK = Bh (λx=>x.kind == 2 && x.AK == AK) r (t.drop r))
  (n:=t.length) ⟨rfl,rfl,1,by omega,by omega,rfl,by omega,by rw[own,List.drop_one]⟩ ?_
 rintro n e R' D' K ⟨rfl,rfl,r,r0,hr,he,hn,hown⟩ hK;simp only[List.map,lc,ln,lj,z_t] at he;simp only[he];refine jln (jlt (jif (λhc=>?_) (λhc=>?_)))
 ·have hc:r < t.length:=by have:=z_f hc;omega
  have hd:t.drop r = t[r] :: t.drop (r + 1):=List.drop_eq_getElem_cons hc;rw[hd] at hown;simp only[Bh] at hown;refine jan [.slice (some ⟨b,0,none⟩) t.length cap,I AK,I r] (t[r].kind == 2 && t[r].AK == AK) (λK' hK'=>?_) (λe c u h2 he=>?_)
  ·refine jia (by omega) (by omega) ?_;refine jl (v:=I t[r].kind) ?_ (jeq (Bj (λh1=>?_) (λh1=>?_)))
   ·rw[Nat.zero_add];exact BT (f:=0) hc rfl
   ·refine jia (by omega) (by omega) ?_;refine jl (v:=I t[r].AK) ?_ (jeq (hK' _ _ _ (h1▸Aq) (by rw[h1,Bool.true_and])));rw[Nat.zero_add];exact BT (f:=1) hc rfl
   ·exact hK' _ _ _ (h1▸As) (by rw[h1,Bool.false_and])
  ·simp only[List.map,lc,ln,lj,z_t] at he;simp only[he];rw[h2];refine jif (λh=>?_) (λh=>?_)
   ·rw[if_pos h] at hown;exact BV (by rw[hown])
   ·rw[if_neg (by rw[h];decide)] at hown;refine Ac ⟨by omega,by omega⟩ ?_;exact hK (t.length + 1 - (r + 1)) _ _ _ (by omega) ⟨rfl,rfl,r + 1,by omega,by omega,rfl,rfl,hown⟩
 ·have hc:¬ r < t.length:=by have:=z_g hc;omega
  rw[List.drop_eq_nil_of_le (by omega)] at hown;exact BV (by rw[hown];rfl)
end A0
end Go.Lf
end
section
namespace Go.Lf
open Go Sm
section A0
variable {t:List Rg} {sp:List Value} {b cap:Nat} {R:RM} {D:Chs}
theorem Ch {t:List Rg} {r:Nat} (h:r < t.length):rv t r = t[r]:=ES h
theorem ER (hl:t.length < 1000000) [a:At D b (C AD (AW eRg t ++ sp))]:Ro Hx [.slice (some ⟨b,0,none⟩) t.length cap] (.bool (Ay t)) R D:=by
 refine Mu λF=>?_
 unfold Hh;have nok:(TOk t→False)→Value.bool false = Value.bool (Ay t):=λh=>by
  cases hh:Ay t
  ·rfl
  ·exact (h (BI.1 hh)).elim
 refine jor [.slice (some ⟨b,0,none⟩) t.length cap] (decide ((t.length:Int) < 2) || decide ((t.length:Int) > 12)) (λK' hK'=>?_) (λe c u ho he=>?_)
 ·refine jln (jlt (BW (λh1=>?_) (λh1=>?_)))
  ·exact jln (jgr (hK' _ _ _ (h1▸Ar) (by rw[h1,Bool.false_or])))
  ·exact hK' _ _ _ (h1▸B7) (by rw[h1,Bool.true_or])
 simp only[List.map,lc,ln,lj,z_t] at he;simp only[he];refine jor [.slice (some ⟨b,0,none⟩) t.length cap] ((decide ((t.length:Int) < 2) || decide ((t.length:Int) > 12)) || !(rv t 0 == Cs)) (λK' hK'=>?_) (λe c u ho he=>?_)
 ·rw[ho];refine BW (λh1=>?_) (λh1=>?_)
  ·have h1':=h1;simp only[Bool.or_eq_false_iff,decide_eq_false_iff_not] at h1';have h0:0 < t.length:=by omega
   refine jia (by omega) (by omega) ?_;refine jla (l:=eRg (t[0])) (E6 h0) (Cq (f:=eRg) (w:=5) (λ_=>rfl) h0) ?_;refine jbd (cs:=[I 0,I (-1),I 0,I 0,I 0]) rfl rfl ?_;have ee:[I 0,I (-1),I 0,I 0,I 0] = eRg Cs:=rfl;rw[ee];refine @V0 (t[0]) Cs _ _ _ _ _ ?_;refine hK' _ _ _ (h1▸Ar) ?_;rw[h1,Bool.false_or,show rv t 0 = t[0] from Ch h0]
  ·exact hK' _ _ _ (h1▸B7) (by rw[h1,Bool.true_or])
 simp only[List.map,lc,ln,lj,z_t] at he;simp only[he];rw[ho];refine jif (λh0=>?_) (λh0=>?_)
 ·refine BV (nok λT=>?_);have n0:=T.n0;have n1:=T.n1;have e:=T.e;simp only[Bool.or_eq_true,z_d,Bool.not_eq_true',beq_eq_false_iff_ne] at h0;rcases h0 with (h | h) | h
  ·omega
  ·omega
  ·exact h e
 simp only[Bool.or_eq_false_iff,decide_eq_false_iff_not,Bool.not_eq_false',beq_iff_eq] at h0;obtain⟨⟨n0,n1⟩,hedge⟩:=h0;refine jlp (λn vs R' D'=>R' = R∧D' = D ++ F∧∃r:Nat,1≤r∧r≤t.length∧vs = [.slice (some ⟨b,0,none⟩) t.length cap,I r]∧n = t.length - r∧(∀k:Nat,1≤k→k < r→GI k (rv t k)∧∀m:Nat,1≤m→m < k→0≤(rv t k).AK→(rv t m).AK≠(rv t k).AK))
  (n:=t.length - 1) ⟨rfl,rfl,1,by omega,by omega,rfl,rfl,λk h1 h2=>by omega⟩ ?_
 rintro n e R' D' K ⟨rfl,rfl,r,r0,hr,he,hn,hinv⟩ hK;simp only[List.map,lc,ln,lj,z_t] at he;simp only[he];refine jln (jlt (jif (λhc=>?_) (λhc=>?_)));rotate_left
 ·have hc:=z_g hc;refine BV ?_;rw[BI.2 ⟨by omega,by omega,hedge,λq q0 q1=>?_,λq s q0 q1 s0 s1 hoo heq=>?_⟩]
  ·have:=(hinv q.toNat (by omega) (by omega)).1;rwa [show ((q.toNat:Nat):Int) = q from by omega] at this
  ·have h1:=(hinv q.toNat (by omega) (by omega)).2 s.toNat (by omega);have h2:=(hinv s.toNat (by omega) (by omega)).2 q.toNat (by omega);rw[show ((q.toNat:Nat):Int) = q from by omega,show ((s.toNat:Nat):Int) = s from by omega] at h1 h2;rcases Int.lt_trichotomy q s with c | c | c
   ·exact absurd heq (h2 (by omega) (by rw[← heq];exact hoo))
   ·exact c
   ·exact absurd heq.symm (h1 (by omega) hoo)
 have hc:=z_f hc;have hrl:r < t.length:=by omega
 have hrv:=Ch hrl;have hb:=CZ (r:=(r:Int)) (by omega) (by omega);refine AH (λvs R2 D2=>R2 = R'∧D2 = D ++ F∧vs = [.slice (some ⟨b,0,none⟩) t.length cap,I r]∧GI r (rv t r)∧∀m:Nat,1≤m→m < r→0≤(rv t r).AK→(rv t m).AK≠(rv t r).AK) (λK2 hK2=>?_) ?_;rotate_left
 ·rintro e _ _ ⟨rfl,rfl,he,hrow,hun⟩;simp only[List.map,lc,ln,lj,z_t] at he;simp only[he];refine Ac ⟨by omega,by omega⟩ ?_;refine hK (t.length - (r + 1)) _ _ _ (by omega) ⟨rfl,rfl,r + 1,by omega,by omega,rfl,rfl,λk k1 k2=>?_⟩;by_cases c:k = r
  ·subst c;exact⟨hrow,hun⟩
  ·exact hinv k k1 (by omega)
 refine AH (λvs R2 D2=>R2 = R'∧D2 = D ++ F∧vs = [.slice (some ⟨b,0,none⟩) t.length cap,I r]∧GI r (rv t r)∧∀m:Nat,1≤m→m < r→0≤(rv t r).AK→(rv t m).AK≠(rv t r).AK) (λK3 hK3=>?_) ?_;rotate_left
 ·rintro e _ _ ⟨rfl,rfl,he,hrow,hun⟩;simp only[List.map,lc,ln,lj,z_t] at he;simp only[he];exact hK2 _ _ _ ⟨rfl,rfl,rfl,hrow,hun⟩
 refine jia (by omega) (by omega) ?_;refine jla (l:=eRg (t[r])) (by rw[Nat.zero_add];exact E6 hrl) (by rw[Nat.zero_add];exact Cq (f:=eRg) (w:=5) (λ_=>rfl) hrl) ?_;refine ja λbx=>?_
 refine js (cs':=eRg (t[r])) rfl rfl (by simp) rfl ?_;refine jp (BA r) ?_;rw[hb];refine jor [.slice (some ⟨b,0,none⟩) t.length cap,I r,.pointer (some ⟨bx,0,none⟩),I (16 * (r:Int))] (decide (t[r].kind < 1) || decide (t[r].kind > 4)) (λK' hK'=>?_) (λe c u ho he=>?_)
 ·refine jl (v:=I t[r].kind) rfl (jlt (BW (λh1=>?_) (λh1=>?_)))
  ·have h1':=h1;simp only[Bool.or_eq_false_iff,decide_eq_false_iff_not] at h1';refine jl (v:=I t[r].kind) rfl (jgr (hK' _ _ _ (h1▸Ar) (by rw[h1,Bool.false_or])))
  ·exact hK' _ _ _ (h1▸B7) (by rw[h1,Bool.true_or])
 simp only[List.map,lc,ln,lj,z_t] at he;simp only[he];refine jor [.slice (some ⟨b,0,none⟩) t.length cap,I r,.pointer (some ⟨bx,0,none⟩),I (16 * (r:Int))] ((decide (t[r].kind < 1) || decide (t[r].kind > 4)) || decide (t[r].top < 16 * r)) (λK' hK'=>?_) (λe c u ho he=>?_)
 ·rw[ho];refine BW (λh1=>?_) (λh1=>?_)
  ·have h1':=h1;simp only[Bool.or_eq_false_iff,decide_eq_false_iff_not] at h1';refine jl (v:=I t[r].top) rfl (jlt (hK' _ _ _ (h1▸Ar) (by rw[h1,Bool.false_or])))
  ·exact hK' _ _ _ (h1▸B7) (by rw[h1,Bool.true_or])
 simp only[List.map,lc,ln,lj,z_t] at he;simp only[he];refine jor [.slice (some ⟨b,0,none⟩) t.length cap,I r,.pointer (some ⟨bx,0,none⟩),I (16 * (r:Int))] (((decide (t[r].kind < 1) || decide (t[r].kind > 4)) || decide (t[r].top < 16 * r)) || decide (t[r].top > 16 * r + 16)) (λK' hK'=>?_) (λe c u ho he=>?_)
 ·rw[ho];refine BW (λh1=>?_) (λh1=>?_)
  ·have h1':=h1;simp only[Bool.or_eq_false_iff,decide_eq_false_iff_not] at h1';refine jl (v:=I t[r].top) rfl (Ac ⟨by omega,by omega⟩ (jgr (hK' _ _ _ (h1▸Ar) (by rw[h1,Bool.false_or]))))
  ·exact hK' _ _ _ (h1▸B7) (by rw[h1,Bool.true_or])
 simp only[List.map,lc,ln,lj,z_t] at he;simp only[he];refine jor [.slice (some ⟨b,0,none⟩) t.length cap,I r,.pointer (some ⟨bx,0,none⟩),I (16 * (r:Int))] ((((decide (t[r].kind < 1) || decide (t[r].kind > 4)) || decide (t[r].top < 16 * r)) || decide (t[r].top > 16 * r + 16)) || decide (t[r].Ah < 16 * r)) (λK' hK'=>?_) (λe c u ho he=>?_)
 ·rw[ho];refine BW (λh1=>?_) (λh1=>?_)
  ·have h1':=h1;simp only[Bool.or_eq_false_iff,decide_eq_false_iff_not] at h1';refine jl (v:=I t[r].Ah) rfl (jlt (hK' _ _ _ (h1▸Ar) (by rw[h1,Bool.false_or])))
  ·exact hK' _ _ _ (h1▸B7) (by rw[h1,Bool.true_or])
 simp only[List.map,lc,ln,lj,z_t] at he;simp only[he];refine jor [.slice (some ⟨b,0,none⟩) t.length cap,I r,.pointer (some ⟨bx,0,none⟩),I (16 * (r:Int))] (((((decide (t[r].kind < 1) || decide (t[r].kind > 4)) || decide (t[r].top < 16 * r)) || decide (t[r].top > 16 * r + 16)) || decide (t[r].Ah < 16 * r)) || decide (t[r].Ah > t[r].top)) (λK' hK'=>?_) (λe c u ho he=>?_)
 ·rw[ho];refine BW (λh1=>?_) (λh1=>?_)
  ·have h1':=h1;simp only[Bool.or_eq_false_iff,decide_eq_false_iff_not] at h1';refine jl (v:=I t[r].Ah) rfl (jl (v:=I t[r].top) rfl (jgr (hK' _ _ _ (h1▸Ar) (by rw[h1,Bool.false_or]))))
  ·exact hK' _ _ _ (h1▸B7) (by rw[h1,Bool.true_or])
 simp only[List.map,lc,ln,lj,z_t] at he;simp only[he];refine jor [.slice (some ⟨b,0,none⟩) t.length cap,I r,.pointer (some ⟨bx,0,none⟩),I (16 * (r:Int))] ((((((decide (t[r].kind < 1) || decide (t[r].kind > 4)) || decide (t[r].top < 16 * r)) || decide (t[r].top > 16 * r + 16)) || decide (t[r].Ah < 16 * r)) || decide (t[r].Ah > t[r].top)) || decide (t[r].AF < 0)) (λK' hK'=>?_) (λe c u ho he=>?_)
 ·rw[ho];refine BW (λh1=>?_) (λh1=>?_)
  ·have h1':=h1;simp only[Bool.or_eq_false_iff,decide_eq_false_iff_not] at h1';refine jl (v:=I t[r].AF) rfl (jlt (hK' _ _ _ (h1▸Ar) (by rw[h1,Bool.false_or])))
  ·exact hK' _ _ _ (h1▸B7) (by rw[h1,Bool.true_or])
 simp only[List.map,lc,ln,lj,z_t] at he;simp only[he];refine jor [.slice (some ⟨b,0,none⟩) t.length cap,I r,.pointer (some ⟨bx,0,none⟩),I (16 * (r:Int))] (((((((decide (t[r].kind < 1) || decide (t[r].kind > 4)) || decide (t[r].top < 16 * r)) || decide (t[r].top > 16 * r + 16)) || decide (t[r].Ah < 16 * r)) || decide (t[r].Ah > t[r].top)) || decide (t[r].AF < 0)) || decide (t[r].AF > t[r].top - 16 * r)) (λK' hK'=>?_) (λe c u ho he=>?_)
 ·rw[ho];refine BW (λh1=>?_) (λh1=>?_)
  ·have h1':=h1;simp only[Bool.or_eq_false_iff,decide_eq_false_iff_not] at h1';refine jl (v:=I t[r].AF) rfl (jl (v:=I t[r].top) rfl (DE ⟨by omega,by omega⟩ (jgr (hK' _ _ _ (h1▸Ar) (by rw[h1,Bool.false_or])))))
  ·exact hK' _ _ _ (h1▸B7) (by rw[h1,Bool.true_or])
 simp only[List.map,lc,ln,lj,z_t] at he;simp only[he];rw[ho];refine jif (λh0=>?_) (λh0=>?_)
 ·refine CR (BV (nok λT=>?_));have P:=T.row r (by omega) (by omega);rw[hrv] at P;obtain⟨p1,p2,p3,p4,p5,p6,p7,p8,_⟩:=P;simp only[Bool.or_eq_true,z_d] at h0;omega
 simp only[Bool.or_eq_false_iff,decide_eq_false_iff_not] at h0;obtain⟨⟨⟨⟨⟨⟨⟨q1,q2⟩,q3⟩,q4⟩,q5⟩,q6⟩,q7⟩,q8⟩:=h0;refine jan [.slice (some ⟨b,0,none⟩) t.length cap,I r,.pointer (some ⟨bx,0,none⟩)] (t[r].kind == 1 && t[r].top != 16 * (r:Int)) (λK' hK'=>?_) (λe c u ho he=>?_)
 ·refine jl (v:=I t[r].kind) rfl (jeq (Bj (λh1=>?_) (λh1=>?_)))
  ·exact jl (v:=I t[r].top) rfl (jne (hK' _ _ _ (h1▸Aq) (by rw[h1,Bool.true_and])))
  ·exact hK' _ _ _ (h1▸As) (by rw[h1,Bool.false_and])
 simp only[List.map,lc,ln,lj,z_t] at he;simp only[he];rw[ho];refine jif (λh0=>?_) (λh0=>?_)
 ·refine CR (BV (nok λT=>?_));have P:=T.row r (by omega) (by omega);rw[hrv] at P;have p9:=P.fr;simp only[z_b,beq_iff_eq,bne_iff_ne,ne_eq] at h0;exact h0.2 (p9 h0.1)
 have hfr:t[r].kind = 1→t[r].top = 16 * r:=λhk=>by
  simp only[hk,beq_self_eq_true,Bool.true_and,bne_eq_false_iff_eq] at h0;exact h0
 clear h0;refine jor [.slice (some ⟨b,0,none⟩) t.length cap,I r,.pointer (some ⟨bx,0,none⟩)] (((t[r].kind == 2) != decide (t[r].AK≥0)) || decide (t[r].AK < -1)) (λK' hK'=>?_) (λe c u ho he=>?_)
 ·refine jl (v:=I t[r].kind) rfl (jeq (jl (v:=I t[r].AK) rfl (jge ?_)));refine @jxb (t[r].kind == 2) (decide (t[r].AK≥0)) _ _ _ _ _ ?_;refine BW (λh1=>?_) (λh1=>?_)
  ·exact jl (v:=I t[r].AK) rfl (jlt (hK' _ _ _ (h1▸Ar) (by rw[h1,Bool.false_or])))
  ·exact hK' _ _ _ (h1▸B7) (by rw[h1,Bool.true_or])
 simp only[List.map,lc,ln,lj,z_t] at he;simp only[he];refine jor [.slice (some ⟨b,0,none⟩) t.length cap,I r,.pointer (some ⟨bx,0,none⟩)] ((((t[r].kind == 2) != decide (t[r].AK≥0)) || decide (t[r].AK < -1)) || decide (t[r].AK > 3)) (λK' hK'=>?_) (λe c u ho he=>?_)
 ·rw[ho];refine BW (λh1=>?_) (λh1=>?_)
  ·exact jl (v:=I t[r].AK) rfl (jgr (hK' _ _ _ (h1▸Ar) (by rw[h1,Bool.false_or])))
  ·exact hK' _ _ _ (h1▸B7) (by rw[h1,Bool.true_or])
 simp only[List.map,lc,ln,lj,z_t] at he;simp only[he];rw[ho];have how:((t[r].kind == 2) != decide (t[r].AK≥0)) = false↔(t[r].kind = 2↔0≤t[r].AK):=by
  rw[bne_eq_false_iff_eq,Bool.eq_iff_iff];simp
 refine jif (λh0=>?_) (λh0=>?_)
 ·refine CR (BV (nok λT=>?_));have P:=T.row r (by omega) (by omega);rw[hrv] at P;rw[how.2 P.ow] at h0;have o0:=P.o0;have o1:=P.o1;simp only[Bool.false_or,Bool.or_eq_true,z_d] at h0;omega
 simp only[Bool.or_eq_false_iff,decide_eq_false_iff_not] at h0;obtain⟨⟨w1,w2⟩,w3⟩:=h0;have hrow:GI r (rv t r):=by
  rw[hrv];exact⟨by omega,by omega,by omega,by omega,by omega,by omega,by omega,by omega,hfr,how.1 w1,by omega,by omega⟩
 refine AH (λvs R2 D2=>R2 = R'∧D2 = (bx,C AD (eRg (t[r]))) :: (D ++ F)∧vs = [.slice (some ⟨b,0,none⟩) t.length cap,I r]∧∀m:Nat,1≤m→m < r→0≤(rv t r).AK→(rv t m).AK≠(rv t r).AK) (λK4 hK4=>?_) ?_;rotate_left
 ·rintro e _ _ ⟨rfl,rfl,he,hun⟩;simp only[List.map,lc,ln,lj,z_t] at he;simp only[he];exact CR (hK3 _ _ _ ⟨rfl,rfl,rfl,hrow,hun⟩)
 refine jlp (λn vs R2 D2=>R2 = R'∧D2 = (bx,C AD (eRg (t[r]))) :: (D ++ F)∧∃k:Nat,1≤k∧k≤r∧vs = [.slice (some ⟨b,0,none⟩) t.length cap,I r,.pointer (some ⟨bx,0,none⟩),I k]∧n = r - k∧∀m:Nat,1≤m→m < k→0≤(rv t r).AK→(rv t m).AK≠(rv t r).AK)
  (n:=r - 1) ⟨rfl,rfl,1,by omega,by omega,rfl,rfl,λm h1 h2=>by omega⟩ ?_
 rintro n e _ _ K' ⟨rfl,rfl,k,k0,k1,he,hn,hun⟩ hK';simp only[List.map,lc,ln,lj,z_t] at he;simp only[he];refine jlt (jif (λhd=>?_) (λhd=>?_));rotate_left
 ·have hd:=z_g hd;exact hK4 _ _ _ ⟨rfl,rfl,rfl,λm h1 h2=>hun m h1 (by omega)⟩
 have hd:=z_f hd;have hkl:k < t.length:=by omega
 refine jan [.slice (some ⟨b,0,none⟩) t.length cap,I r,.pointer (some ⟨bx,0,none⟩),I k] (decide (t[r].AK≥0) && t[k].AK == t[r].AK) (λK5 hK5=>?_) (λe c u ho he=>?_)
 ·refine jl (v:=I t[r].AK) rfl (jge (Bj (λh1=>?_) (λh1=>?_)))
  ·refine jia (by omega) (by omega) ?_;refine jl (v:=I t[k].AK) (by rw[Nat.zero_add];exact BT (f:=1) hkl rfl) ?_;exact jl (v:=I t[r].AK) rfl (jeq (hK5 _ _ _ (h1▸Aq) (by rw[h1,Bool.true_and])))
  ·exact hK5 _ _ _ (h1▸As) (by rw[h1,Bool.false_and])
 simp only[List.map,lc,ln,lj,z_t] at he;simp only[he];rw[ho];refine jif (λh0=>?_) (λh0=>?_)
 ·refine CR (BV (nok λT=>?_));simp only[z_b,z_d,beq_iff_eq] at h0;have:=T.own r k (by omega) (by omega) (by omega) (by omega) (by rw[hrv];exact h0.1) (by rw[hrv,Ch hkl];exact h0.2.symm);omega
 refine Ac ⟨by omega,by omega⟩ ?_;refine hK' (r - (k + 1)) _ _ _ (by omega) ⟨rfl,rfl,k + 1,by omega,by omega,rfl,rfl,λm h1 h2 hoo=>?_⟩;by_cases c:m = k
 ·subst c;rw[hrv] at hoo ⊢;rw[Ch hkl];intro heq;simp[heq,hoo] at h0
 ·exact hun m h1 (by omega) hoo
end A0
end Go.Lf
end
section
namespace Go.Lf
open Go Sm
def Mk (f:Nat) (args:List Value) (R:RM) (D:Chs) (q:Value→Chs→Prop):Prop:=Fn P f args R D λv _ A=>∃N,A = N ++ D∧q v N
theorem jmk {f:Nat} {args:List Value} {R:RM} {D:Chs} {q:Value→Chs→Prop} {k:Value→M} (hF:Mk f args R D q) (H:∀v N,q v N→J R (N ++ D) (k v)):J R D (CA P f args k):=by
 intro h hs;refine E7 ?_ (hF [] h (by simpa using hs));rintro v' h' ⟨R',A',h1,h2,N,rfl,hq⟩;exact H v' N hq h' (by simpa using h2.le h1)
theorem CW {v:Value} {R:RM} {D E G F:Chs} {q:Value→Chs→Prop} (N:Chs) (hv:q v N) [s:Sp G N E] [x:Sf E (D ++ F)]:J R G (ED R F (λv _ A=>∃N,A = N ++ D∧q v N) v):=by
 intro h hs;obtain⟨X,hX⟩:=x.p;refine⟨R,N ++ D,RM.le.refl R,?_,N,rfl,hv⟩;have h1:=hs.perm s.p;subst hX;have:St h R (X ++ (N ++ D ++ F)):=h1.perm (by
  rw[List.append_assoc N D F,← List.append_assoc N X,← List.append_assoc X N]
  exact List.Perm.append_right _ List.perm_append_comm)
 exact this.drop
theorem jex {R:RM} {D:Chs} {i:Nat} {vs:Array Value} {v:Value} {k:Value→M} (h:vs.toList[i]? = some v) (H:J R D (k v)):J R D (EX i (.tuple vs) k):=by
 have e:EX i (.tuple vs) k = k v:=by simp only[EX,h]
 rw[e];exact H
theorem Bc {R:RM} {D:Chs} {k:Value→M} {n b off len cap r:Nat} (h:r < len) (H:J R D (k (.pointer (some ⟨b,off + r * n,none⟩)))):J R D (IA n (.slice (some ⟨b,off,none⟩) len cap) (I (r:Int)) k):=
 jia (by omega) (by omega) (by rw[Int.toNat_natCast];exact H)
def T7 (t:List Rg) (v:Value) (N:Chs):Prop:=∃b c sp,t.length≤c∧v = .slice (some ⟨b,0,none⟩) t.length c∧N = [(b,C AD (AW eRg t ++ sp))]
def Tz (r:Option (List Rg × Int)) (v:Value) (N:Chs):Prop:=match r with
 | none=>v = .tuple #[.slice none 0 0,I 0,.bool false]∧N = []
 | some (t',i)=>∃sv,T7 t' sv N∧v = .tuple #[sv,I i,.bool true]
def U1 (r:Option (List Rg)) (v:Value) (N:Chs):Prop:=match r with
 | none=>v = .tuple #[.slice none 0 0,.bool false]∧N = []
 | some t'=>∃sv,T7 t' sv N∧v = .tuple #[sv,.bool true]
theorem EJ {t:List Rg} {sp:List Value} {b i:Nat} {x:Rg} {R:RM} {D D' : Chs} {m:M} (hi:i < t.length) [a:At D b (C AD (AW eRg t ++ sp))] [u:Up D b (C AD (AW eRg t ++ sp)) (C AD (AW eRg (t.set i x) ++ sp)) D'] (H:J R D' m):J R D (ST 5 (.pointer (some ⟨b,0 + i * 5,none⟩)) (.agg (eRg x).toArray) m):=by
 rw[Nat.zero_add];exact js (cs:=AW eRg t ++ sp) (cs':=AW eRg (t.set i x) ++ sp) rfl rfl (E6 hi) (LD (f:=eRg) (w:=5) (λ_=>rfl) hi) H
theorem Ej {t:List Rg} {sp:List Value} {b i:Nat} {R:RM} {D:Chs} {k:Value→M} (hi:i < t.length) [a:At D b (C AD (AW eRg t ++ sp))] (H:J R D (k (.agg (eRg (t[i])).toArray))):J R D (LA 5 (.pointer (some ⟨b,0 + i * 5,none⟩)) k):=by
 rw[Nat.zero_add];exact jla (cs:=AW eRg t ++ sp) (E6 hi) (Cq (f:=eRg) (w:=5) (λ_=>rfl) hi) H
section A0
variable {t:List Rg} {sp:List Value} {b cap:Nat} {R:RM} {D:Chs}
theorem EM (hl:t.length < 1000000) [a:At D b (C AD (AW eRg t ++ sp))]:Mk Iv [.slice (some ⟨b,0,none⟩) t.length cap] R D (T7 t):=by
 refine P8 λF=>?_
 unfold JV;have hsz:=DW (f:=eRg) (w:=5) (λ_=>rfl) t;refine jbs (cs:=[]) rfl rfl λb0=>?_
 have hr:BG R ((b0,C 29 []) :: (D ++ F)) (some ⟨b,0,none⟩) (t.length * 5) (AW eRg t):=by
  have:=BG.held (R:=R) (D:=(b0,C 29 []) :: (D ++ F)) (b:=b) (o:=0) (n:=t.length * 5) (t:=AD) (cs:=AW eRg t ++ sp) (by simp[hsz]);rw[List.drop_zero,List.take_append_of_le_length (by omega),← hsz,List.take_length] at this;rw[← hsz];exact this
 refine Ub (new:=AW eRg t) hr (by decide) (by omega) (λ_=>rfl) (λh0=>?_) (λb' c hc=>?_)
 ·have ht:t = []:=List.length_eq_zero_iff.1 h0;subst ht;exact CW [(b0,C 29 [])] ⟨b0,0,[],z_n _,rfl,rfl⟩
 ·exact CW [(b',C 29 (AW eRg t ++ (List.replicate (c - t.length) (cl z29)).flatten))] ⟨b',c,_,hc,rfl,rfl⟩
theorem Hw (AK:Int) (hl:t.length < 1000000) [a:At D b (C AD (AW eRg t ++ sp))]:Mk Fb [.slice (some ⟨b,0,none⟩) t.length cap,I AK] R D (Tz (Bl t AK)):=by
 refine Kj λF=>?_
 unfold Fh;refine jor [.slice (some ⟨b,0,none⟩) t.length cap,I AK] (!Ay t || decide (AK < 0)) (λK' hK'=>?_) (λe c u ho he=>?_)
 ·refine jro (ER hl) (BW (λh1=>?_) (λh1=>?_))
  ·exact jlt (hK' _ _ _ (h1▸Ar) (by rw[h1,Bool.false_or]))
  ·exact hK' _ _ _ (h1▸B7) (by rw[h1,Bool.true_or])
 simp only[List.map,lc,ln,lj,z_t] at he;simp only[he];refine jor [.slice (some ⟨b,0,none⟩) t.length cap,I AK] ((!Ay t || decide (AK < 0)) || decide (AK > 3)) (λK' hK'=>?_) (λe c u ho he=>?_)
 ·rw[ho];refine BW (λh1=>?_) (λh1=>?_)
  ·exact jgr (hK' _ _ _ (h1▸Ar) (by rw[h1,Bool.false_or]))
  ·exact hK' _ _ _ (h1▸B7) (by rw[h1,Bool.true_or])
 simp only[List.map,lc,ln,lj,z_t] at he;simp only[he];refine jor [.slice (some ⟨b,0,none⟩) t.length cap,I AK] (((!Ay t || decide (AK < 0)) || decide (AK > 3)) || decide (own t AK≥0)) (λK' hK'=>?_) (λe c u ho he=>?_)
 ·rw[ho];refine BW (λh1=>?_) (λh1=>?_)
  ·exact jro (PE AK hl) (jge (hK' _ _ _ (h1▸Ar) (by rw[h1,Bool.false_or])))
  ·exact hK' _ _ _ (h1▸B7) (by rw[h1,Bool.true_or])
 simp only[List.map,lc,ln,lj,z_t] at he;simp only[he];rw[ho];refine jif (λh0=>?_) (λh0=>?_)
 ·refine CW [] ?_;have:Bl t AK = none:=by
   unfold Bl;rw[if_neg];intro hh;simp only[Bool.or_eq_true,Bool.not_eq_true',z_d,z_b] at h0 hh;rcases h0 with ((h | h) | h) | h
   ·rw[hh.1.1.1] at h;cases h
   ·omega
   ·omega
   ·omega
  rw[this];exact⟨rfl,rfl⟩
 simp only[Bool.or_eq_false_iff,Bool.not_eq_false',decide_eq_false_iff_not] at h0;obtain⟨⟨⟨hok,h2⟩,h3⟩,h4⟩:=h0;have n1:=(BI.1 hok).n1;have eq:Bl t AK = (let i:=Bh (λx=>x.kind == 1) 1 t.tail;if i < 0 then none else some (AT t i ⟨2,AK,AG i,AG i,0⟩,i)):=by
  unfold Bl;rw[if_pos (by simp[hok];omega)]
 refine AH (λvs R' D'=>R' = R∧D' = D ++ F∧vs = []∧Bl t AK = none) (λK2 hK2=>?_) ?_;rotate_left
 ·rintro e _ _ ⟨rfl,rfl,-,hn⟩;exact CW [] (by rw[hn];exact⟨rfl,rfl⟩)
 refine jlp (λn vs R' D'=>R' = R∧D' = D ++ F∧∃r:Nat,1≤r∧r≤t.length + 1∧vs = [.slice (some ⟨b,0,none⟩) t.length cap,I AK,I r]∧n = t.length + 1 - r∧Bh (λx=>x.kind == 1) 1 t.tail = Bh (λx=>x.kind == 1) r (t.drop r))
  (n:=t.length) ⟨rfl,rfl,1,by omega,by omega,rfl,by omega,by rw[List.drop_one]⟩ ?_
 rintro n e R' D' K ⟨rfl,rfl,r,r0,hr,he,hn,hown⟩ hK;simp only[List.map,lc,ln,lj,z_t] at he;simp only[he];refine jln (jlt (jif (λhc=>?_) (λhc=>?_)));rotate_left
 ·have hc:=z_g hc;refine hK2 _ _ _ ⟨rfl,rfl,rfl,?_⟩;rw[eq,hown,List.drop_eq_nil_of_le (by omega)];rfl
 have hc:r < t.length:=by have:=z_f hc;omega
 have hd:t.drop r = t[r] :: t.drop (r + 1):=List.drop_eq_getElem_cons hc;rw[hd] at hown;simp only[Bh] at hown;refine jia (by omega) (by omega) ?_;refine jl (v:=I t[r].kind) (by rw[Nat.zero_add];exact BT (f:=0) hc rfl) ?_;refine jeq (jif (λh=>?_) (λh=>?_))
 ·rw[if_pos h] at hown;refine jmk (EM hl) ?_;rintro _ _ ⟨b',c',sp',hc',rfl,rfl⟩;refine jp (BA r) (jp (BA r) ?_);refine jbd (cs:=eRg ⟨2,AK,AG r,AG r,0⟩) rfl rfl ?_;refine Bc hc ?_;refine EJ (x:=⟨2,AK,AG r,AG r,0⟩) hc ?_;refine CW [(b',C AD (AW eRg (t.set r ⟨2,AK,AG r,AG r,0⟩) ++ sp'))] ?_;rw[eq,hown];simp only;rw[if_neg (by omega)];refine⟨_,⟨b',c',sp',?_,rfl,?_⟩,?_⟩
  ·simpa [AT] using hc'
  ·simp[AT]
  ·simp
 ·rw[if_neg (by rw[h];decide)] at hown;refine Ac ⟨by omega,by omega⟩ ?_;exact hK (t.length + 1 - (r + 1)) _ _ _ (by omega) ⟨rfl,rfl,r + 1,by omega,by omega,rfl,rfl,hown⟩
end A0
end Go.Lf
end
section
namespace Go.Lf
open Go Sm
section A0
variable {t:List Rg} {sp:List Value} {b cap:Nat} {R:RM} {D:Chs}
theorem MC (r:Int) (hl:t.length < 1000000) [a:At D b (C AD (AW eRg t ++ sp))]:Mk FE [.slice (some ⟨b,0,none⟩) t.length cap,I r] R D (U1 (CG t r)):=by
 refine JA λF=>?_
 unfold F0;refine jor [.slice (some ⟨b,0,none⟩) t.length cap,I r] (!Ay t || decide (r < 1)) (λK' hK'=>?_) (λe c u ho he=>?_)
 ·refine jro (ER hl) (BW (λh1=>?_) (λh1=>?_))
  ·exact jlt (hK' _ _ _ (h1▸Ar) (by rw[h1,Bool.false_or]))
  ·exact hK' _ _ _ (h1▸B7) (by rw[h1,Bool.true_or])
 simp only[List.map,lc,ln,lj,z_t] at he;simp only[he];refine jor [.slice (some ⟨b,0,none⟩) t.length cap,I r] ((!Ay t || decide (r < 1)) || decide (r≥t.length)) (λK' hK'=>?_) (λe c u ho he=>?_)
 ·rw[ho];refine BW (λh1=>?_) (λh1=>?_)
  ·exact jln (jge (hK' _ _ _ (h1▸Ar) (by rw[h1,Bool.false_or])))
  ·exact hK' _ _ _ (h1▸B7) (by rw[h1,Bool.true_or])
 simp only[List.map,lc,ln,lj,z_t] at he;simp only[he];refine jor [.slice (some ⟨b,0,none⟩) t.length cap,I r] (((!Ay t || decide (r < 1)) || decide (r≥t.length)) || (rv t r).kind != 2) (λK' hK'=>?_) (λe c u ho he=>?_)
 ·rw[ho];refine BW (λh1=>?_) (λh1=>?_)
  ·have h1':=h1;simp only[Bool.or_eq_false_iff,decide_eq_false_iff_not] at h1';obtain⟨k,rfl⟩:∃k:Nat,r = k:=⟨r.toNat,by omega⟩;have hk:k < t.length:=by omega
   refine Bc hk ?_;refine jl (v:=I t[k].kind) (by rw[Nat.zero_add];exact BT (f:=0) hk rfl) ?_;exact jne (hK' _ _ _ (h1▸Ar) (by rw[h1,Bool.false_or,Ch hk]))
  ·exact hK' _ _ _ (h1▸B7) (by rw[h1,Bool.true_or])
 simp only[List.map,lc,ln,lj,z_t] at he;simp only[he];rw[ho];refine jif (λh0=>?_) (λh0=>?_)
 ·refine CW [] ?_;have:CG t r = none:=by
   unfold CG;split
   ·rename_i hh;simp only[Bool.or_eq_true,Bool.not_eq_true',z_d,z_b,bne_iff_ne,ne_eq] at h0 hh;by_cases c:r < t.length
    ·rw[CU (by omega) c];simp only;rw[if_neg];intro h2;rcases h0 with ((h | h) | h) | h
     ·rw[hh.1] at h;cases h
     ·omega
     ·omega
     ·exact h (by simpa using h2)
    ·unfold idx;rw[if_pos (by omega),List.getElem?_eq_none (by omega)]
   ·rfl
  rw[this];exact⟨rfl,rfl⟩
 simp only[Bool.or_eq_false_iff,Bool.not_eq_false',decide_eq_false_iff_not,bne_eq_false_iff_eq] at h0;obtain⟨⟨⟨hok,h2⟩,h3⟩,h4⟩:=h0;obtain⟨k,rfl⟩:∃k:Nat,r = k:=⟨r.toNat,by omega⟩;have hk:k < t.length:=by omega
 refine jmk (EM hl) ?_;rintro _ _ ⟨b',c',sp',hc',rfl,rfl⟩;refine Bc hk (Ej hk ?_);refine ja λb2=>?_
 refine js (cs':=eRg (t[k])) rfl rfl (by simp) rfl ?_;refine js (cs':=eRg { t[k] with kind:=3 }) rfl rfl (by simp) rfl ?_;refine js (cs':=eRg { t[k] with kind:=3,AK:=-1 }) rfl rfl (by simp) rfl ?_;refine jla (l:=eRg { t[k] with kind:=3,AK:=-1 }) (by simp) rfl ?_;refine Bc hk ?_;refine EJ (x:={ t[k] with kind:=3,AK:=-1 }) hk ?_;refine CW [(b',C AD (AW eRg (t.set k { t[k] with kind:=3,AK:=-1 }) ++ sp'))] ?_;have:CG t k = some (AT t k { t[k] with kind:=3,AK:=-1 }):=by
  unfold CG;rw[if_pos (by simp[hok];omega),CU (by omega) (by omega),Ch hk];simp only;rw[Ch hk] at h4;rw[if_pos (by simpa using h4)]
 rw[this];exact⟨_,⟨b',c',sp',by simpa [AT] using hc',rfl,by simp[AT]⟩,by simp⟩
theorem II (r:Int) (hl:t.length < 1000000) [a:At D b (C AD (AW eRg t ++ sp))]:Mk Fy [.slice (some ⟨b,0,none⟩) t.length cap,I r] R D (U1 (Be t r)):=by
 refine Ko λF=>?_
 unfold FZ;refine jor [.slice (some ⟨b,0,none⟩) t.length cap,I r] (!Ay t || decide (r < 1)) (λK' hK'=>?_) (λe c u ho he=>?_)
 ·refine jro (ER hl) (BW (λh1=>?_) (λh1=>?_))
  ·exact jlt (hK' _ _ _ (h1▸Ar) (by rw[h1,Bool.false_or]))
  ·exact hK' _ _ _ (h1▸B7) (by rw[h1,Bool.true_or])
 simp only[List.map,lc,ln,lj,z_t] at he;simp only[he];refine jor [.slice (some ⟨b,0,none⟩) t.length cap,I r] ((!Ay t || decide (r < 1)) || decide (r≥t.length)) (λK' hK'=>?_) (λe c u ho he=>?_)
 ·rw[ho];refine BW (λh1=>?_) (λh1=>?_)
  ·exact jln (jge (hK' _ _ _ (h1▸Ar) (by rw[h1,Bool.false_or])))
  ·exact hK' _ _ _ (h1▸B7) (by rw[h1,Bool.true_or])
 simp only[List.map,lc,ln,lj,z_t] at he;simp only[he];refine jor [.slice (some ⟨b,0,none⟩) t.length cap,I r] (((!Ay t || decide (r < 1)) || decide (r≥t.length)) || (rv t r).kind == 1) (λK' hK'=>?_) (λe c u ho he=>?_)
 ·rw[ho];refine BW (λh1=>?_) (λh1=>?_)
  ·have h1':=h1;simp only[Bool.or_eq_false_iff,decide_eq_false_iff_not] at h1';obtain⟨k,rfl⟩:∃k:Nat,r = k:=⟨r.toNat,by omega⟩;have hk:k < t.length:=by omega
   refine Bc hk ?_;refine jl (v:=I t[k].kind) (by rw[Nat.zero_add];exact BT (f:=0) hk rfl) ?_;exact jeq (hK' _ _ _ (h1▸Ar) (by rw[h1,Bool.false_or,Ch hk]))
  ·exact hK' _ _ _ (h1▸B7) (by rw[h1,Bool.true_or])
 simp only[List.map,lc,ln,lj,z_t] at he;simp only[he];rw[ho];refine jif (λh0=>?_) (λh0=>?_)
 ·refine CW [] ?_;have:Be t r = none:=by
   unfold Be;split
   ·rename_i hh;simp only[Bool.or_eq_true,Bool.not_eq_true',z_d,z_b,beq_iff_eq] at h0 hh;by_cases c:r < t.length
    ·rw[CU (by omega) c];simp only;rcases h0 with ((h | h) | h) | h
     ·rw[hh.1] at h;cases h
     ·omega
     ·omega
     ·rw[if_pos (by simpa using h)]
    ·unfold idx;rw[if_pos (by omega),List.getElem?_eq_none (by omega)]
   ·rfl
  rw[this];exact⟨rfl,rfl⟩
 simp only[Bool.or_eq_false_iff,Bool.not_eq_false',decide_eq_false_iff_not,beq_eq_false_iff_ne] at h0;obtain⟨⟨⟨hok,h2⟩,h3⟩,h4⟩:=h0;obtain⟨k,rfl⟩:∃k:Nat,r = k:=⟨r.toNat,by omega⟩;have hk:k < t.length:=by omega
 refine jmk (EM hl) ?_;rintro _ _ ⟨b',c',sp',hc',rfl,rfl⟩;refine jp (BA k) (jp (BA k) ?_);refine jbd (cs:=eRg (DC k)) rfl rfl ?_;refine Bc hk ?_;refine EJ (x:=DC k) hk ?_;refine CW [(b',C AD (AW eRg (t.set k (DC k)) ++ sp'))] ?_;have:Be t k = some (AT t k (DC k)):=by
  unfold Be;rw[if_pos (by simp[hok];omega),CU (by omega) (by omega)];simp only;rw[if_neg (by simpa using h4)]
 rw[this];exact⟨_,⟨b',c',sp',by simpa [AT] using hc',rfl,by simp[AT]⟩,by simp⟩
theorem F3 (AK size:Int) (hl:t.length < 1000000) [a:At D b (C AD (AW eRg t ++ sp))]:Mk FW [.slice (some ⟨b,0,none⟩) t.length cap,I AK,I size] R D (Tz (BB t AK size)):=by
 refine Kf λF=>?_
 unfold Fu;refine jor [.slice (some ⟨b,0,none⟩) t.length cap,I AK,I size] (!Ay t || decide (AK < 0)) (λK' hK'=>?_) (λe c u ho he=>?_)
 ·refine jro (ER hl) (BW (λh1=>?_) (λh1=>?_))
  ·exact jlt (hK' _ _ _ (h1▸Ar) (by rw[h1,Bool.false_or]))
  ·exact hK' _ _ _ (h1▸B7) (by rw[h1,Bool.true_or])
 simp only[List.map,lc,ln,lj,z_t] at he;simp only[he];refine jor [.slice (some ⟨b,0,none⟩) t.length cap,I AK,I size] ((!Ay t || decide (AK < 0)) || decide (AK > 3)) (λK' hK'=>?_) (λe c u ho he=>?_)
 ·rw[ho];refine BW (λh1=>?_) (λh1=>?_)
  ·exact jgr (hK' _ _ _ (h1▸Ar) (by rw[h1,Bool.false_or]))
  ·exact hK' _ _ _ (h1▸B7) (by rw[h1,Bool.true_or])
 simp only[List.map,lc,ln,lj,z_t] at he;simp only[he];refine jor [.slice (some ⟨b,0,none⟩) t.length cap,I AK,I size] (((!Ay t || decide (AK < 0)) || decide (AK > 3)) || decide (size < 1)) (λK' hK'=>?_) (λe c u ho he=>?_)
 ·rw[ho];refine BW (λh1=>?_) (λh1=>?_)
  ·exact jlt (hK' _ _ _ (h1▸Ar) (by rw[h1,Bool.false_or]))
  ·exact hK' _ _ _ (h1▸B7) (by rw[h1,Bool.true_or])
 simp only[List.map,lc,ln,lj,z_t] at he;simp only[he];refine jor [.slice (some ⟨b,0,none⟩) t.length cap,I AK,I size] ((((!Ay t || decide (AK < 0)) || decide (AK > 3)) || decide (size < 1)) || decide (size > 16)) (λK' hK'=>?_) (λe c u ho he=>?_)
 ·rw[ho];refine BW (λh1=>?_) (λh1=>?_)
  ·exact jgr (hK' _ _ _ (h1▸Ar) (by rw[h1,Bool.false_or]))
  ·exact hK' _ _ _ (h1▸B7) (by rw[h1,Bool.true_or])
 simp only[List.map,lc,ln,lj,z_t] at he;simp only[he];rw[ho];refine jif (λh0=>?_) (λh0=>?_)
 ·refine CW [] ?_;have:BB t AK size = none:=by
   unfold BB;rw[if_neg];intro hh;simp only[Bool.or_eq_true,Bool.not_eq_true',z_d,z_b] at h0 hh;rcases h0 with (((h | h) | h) | h) | h
   ·rw[hh.1.1.1.1] at h;cases h
   ·omega
   ·omega
   ·omega
   ·omega
  rw[this];exact⟨rfl,rfl⟩
 simp only[Bool.or_eq_false_iff,Bool.not_eq_false',decide_eq_false_iff_not] at h0;obtain⟨⟨⟨⟨hok,h2⟩,h3⟩,h4⟩,h5⟩:=h0;have T:=BI.1 hok;have n1:=T.n1;have eq:BB t AK size = (match (if 0≤own t AK then idx t (own t AK) else none) with
  | some x=>if x.top + size≤AG (own t AK) + 16 then some (t,x.top) else
    (match Bl ((CG t (own t AK)).getD []) AK with | some (u,n)=>some (u,AG n) | none=>none)
  | none=>(match Bl t AK with | some (u,n)=>some (u,AG n) | none=>none)):=by
  unfold BB;rw[if_pos (by simp[hok];omega)];rfl
 refine jro (PE AK hl) ?_;have hown:own t AK < 0∨(1≤own t AK∧own t AK < t.length∧(rv t (own t AK)).kind = 2):=by
  rcases EP (λx=>x.kind == 2 && x.AK == AK) t with ⟨h,_⟩ | ⟨h,h',h''⟩
  ·left;unfold own;rw[h];decide
  ·right;simp only[z_b] at h'';exact⟨h,h',by have:=h''.1;exact eq_of_beq this⟩
 rcases hown with hneg | ⟨hp,hlt,hk2⟩
 ·have hb:decide (own t AK≥0) = false:=decide_eq_false (by omega);rw[if_neg (by omega)] at eq;refine Cb (Cb (jge ?_));rw[hb];refine jft (C4 λe he=>?_);simp only[List.map,lc,ln,lj,z_t] at he;simp only[he];refine jft (DU (Ae jev (C4 λe he=>?_)));simp only[List.map,lc,ln,lj,z_t] at he;simp only[he];refine Cv (jmk (EM hl) ?_);rintro _ _ ⟨b',c',sp',hc',rfl,rfl⟩;refine Cb (jge ?_);rw[hb];refine Cv (C4 λe he=>?_);simp only[List.map,lc,ln,lj,z_t] at he;simp only[he];refine jmk (Hw AK hl) ?_;intro v N hq;cases htk:Bl t AK with
  | none=>
   rw[htk] at hq eq;obtain⟨rfl,rfl⟩:=hq;refine jex rfl (jex rfl (jex rfl (F7 ?_)));exact CW [] (by rw[eq];exact⟨rfl,rfl⟩)
  | some un=>
   obtain⟨u,n⟩:=un;rw[htk] at hq eq;obtain⟨sv,⟨b2,c2,sp2,hc2,rfl,rfl⟩,rfl⟩:=hq;refine jex rfl (jex rfl (jex rfl (Cv (jp (BA n) ?_))));exact CW [(b2,C AD (AW eRg u ++ sp2))] (by rw[eq];exact⟨_,⟨b2,c2,sp2,hc2,rfl,rfl⟩,rfl⟩)
 ·have hb:decide (own t AK≥0) = true:=decide_eq_true (by omega);have RR:=T.row _ hp hlt;have t0:=RR.t0;have t1:=RR.t1;obtain⟨k,hkk⟩:∃k:Nat,own t AK = k:=⟨(own t AK).toNat,by omega⟩;rw[hkk] at eq hb t0 t1 hk2 ⊢;have hk:k < t.length:=by omega
  rw[Ch hk] at t0 t1;have hbase:=CZ (r:=(k:Int)) (by omega) (by omega);rw[if_pos (by omega),CU (by omega) (by omega),Ch hk] at eq;simp only at eq;refine Cb (Cb (jge ?_));rw[hb];refine jtt (Bc hk (jl (v:=I t[k].top) (by rw[Nat.zero_add];exact BT (f:=2) hk rfl) (Ac ⟨by omega,by omega⟩ (C4 λe he=>?_))));simp only[List.map,lc,ln,lj,z_t] at he;simp only[he];refine jtt (jp (BA k) (Ac ⟨by omega,by omega⟩ (jle (Da (Ae (jl (v:=I t[k].top) (by rw[Nat.zero_add];exact BT (f:=2) hk rfl) jev) (C4 λe he=>?_))))));simp only[List.map,lc,ln,lj,z_t] at he;simp only[he];refine jif (λhfit=>?_) (λhfit=>?_)
  ·rw[if_pos (z_f hfit)] at eq;refine Bc hk (jl (v:=I t[k].top) (by rw[Nat.zero_add];exact BT (f:=2) hk rfl) (jmk (EM hl) ?_));rintro _ _ ⟨b',c',sp',hc',rfl,rfl⟩;refine Ae (jl (v:=I t[k].top) (by rw[Nat.zero_add];exact BT (f:=2) hk rfl) jev) (Ae (jl (v:=I t[k].top) (by rw[Nat.zero_add];exact BT (f:=2) hk rfl) jev) ?_);exact CW [(b',C AD (AW eRg t ++ sp'))] (by rw[eq];exact⟨_,⟨b',c',sp',hc',rfl,rfl⟩,rfl⟩)
  ·rw[if_neg (z_g hfit)] at eq;refine jmk (EM hl) ?_;rintro _ _ ⟨b',c',sp',hc',rfl,rfl⟩;refine Cb (jge ?_);rw[hb];refine F7 (jmk (MC k hl) ?_);intro v N hq;have hcl:CG t k = some (AT t k { rv t k with kind:=3,AK:=-1 }):=by
    unfold CG;rw[if_pos (by simp[hok];omega),CU (by omega) (by omega)];simp only;rw[if_pos (by simpa using hk2)]
   rw[hcl] at hq eq;simp only[Option.getD_some] at eq;obtain⟨sv,⟨b3,c3,sp3,hc3,rfl,rfl⟩,rfl⟩:=hq;refine jex rfl (jex rfl (C4 λe he=>?_));simp only[List.map,lc,ln,lj,z_t] at he;simp only[he];refine jmk (Hw AK (by simpa using hl)) ?_;intro v N hq;cases htk:Bl (AT t k { rv t k with kind:=3,AK:=-1 }) AK with
   | none=>
    rw[htk] at hq eq;obtain⟨rfl,rfl⟩:=hq;refine jex rfl (jex rfl (jex rfl (F7 ?_)));exact CW [] (by rw[eq];exact⟨rfl,rfl⟩)
   | some un=>
    obtain⟨u,n⟩:=un;rw[htk] at hq eq;obtain⟨sv,⟨b2,c2,sp2,hc2,rfl,rfl⟩,rfl⟩:=hq;refine jex rfl (jex rfl (jex rfl (Cv (jp (BA n) ?_))));exact CW [(b2,C AD (AW eRg u ++ sp2))] (by rw[eq];exact⟨_,⟨b2,c2,sp2,hc2,rfl,rfl⟩,rfl⟩)
end A0
end Go.Lf
end
section
namespace Go.Lf
open Go Sm
theorem jrp {f:Nat} {args:List Value} {v:Value} {R:RM} {D:Chs} {k:Value→M} (hF:Ro f args v R []) (H:J R D (k v)):J R D (CA P f args k):=by
 intro h hs;refine E7 ?_ (hF D h hs);rintro v' h' ⟨R',A',h1,h2,rfl,rfl⟩;exact H h' (h2.le h1)
theorem jfo {R:RM} {D:Chs} {o b off:Nat} {k:Value→M} (H:J R D (k (.pointer (some ⟨b,off + o,none⟩)))):J R D (FO o (.pointer (some ⟨b,off,none⟩)) k):=H
theorem UX (o:Sm.Op):Pu My [.agg (eOp o).toArray] (.bool (OX o)):=by
 intro R;refine SA λF=>?_
 unfold N3;refine ja λb=>?_
 have e0:cl (.agg (eOp o).toArray) = eOp o:=rfl;rw[e0];refine jan [.pointer (some ⟨b,0,none⟩)] ((decide (o.kind≥1)) && (decide (o.kind≤11))) (λK' hK'=>?_) (λe c u ho he=>?_)
 ·refine jl rfl (jge (Bj (λh1=>?_) (λh1=>?_)))
  ·refine jl rfl (jle (hK' _ _ _ (h1▸Aq) (by rw[h1,Bool.true_and])))
  ·exact hK' _ _ _ (h1▸As) (by rw[h1,Bool.false_and])
 simp only[List.map,lc,ln,lj,z_t] at he;simp only[he];refine jan [] ((decide (o.kind≥1) && decide (o.kind≤11)) && (o.kind != 1 || Aw o.sh)) (λK' hK'=>?_) (λe c u ho he=>?_)
 ·rw[ho];refine Bj (λh1=>?_) (λh1=>?_)
  ·refine jl rfl (jne (BW (λh2=>?_) (λh2=>?_)))
   ·refine jfo (jla (l:=[I o.sh.refs,I o.sh.nums]) (by exact z_n 8) (by rfl) ?_);refine jp (HW o.sh) ?_;rw[h2];exact DU (hK' _ _ _ (h1▸Aq) (by rw[h1,h2,Bool.true_and,Bool.false_or]))
   ·rw[h2];exact Da (hK' _ _ _ (h1▸Aq) (by rw[h1,h2,Bool.true_and,Bool.true_or]))
  ·exact hK' _ _ _ (h1▸As) (by rw[h1,Bool.false_and])
 simp only[List.map,lc,ln,lj,z_t] at he;simp only[he];rw[ho];refine BR (A:=[]) (RM.le.refl _) ?_;congr 1
theorem OS (k:Int):Pu H6 [I k] (.bool (DP k)):=by
 intro R;refine Lx λF=>?_
 unfold GS;refine jor [I k] ((k == 2) || (k == 3)) (λK' hK'=>?_) (λe c u ho he=>?_)
 ·refine jeq (BW (λh1=>?_) (λh1=>?_))
  ·refine jeq (hK' _ _ _ (h1▸Ar) (by rw[h1,Bool.false_or]))
  ·exact hK' _ _ _ (h1▸B7) (by rw[h1,Bool.true_or])
 simp only[List.map,lc,ln,lj,z_t] at he;simp only[he];refine jor [I k] (((k == 2) || (k == 3)) || (k == 4)) (λK' hK'=>?_) (λe c u ho he=>?_)
 ·rw[ho];refine BW (λh1=>?_) (λh1=>?_)
  ·refine jeq (hK' _ _ _ (h1▸Ar) (by rw[h1,Bool.false_or]))
  ·exact hK' _ _ _ (h1▸B7) (by rw[h1,Bool.true_or])
 simp only[List.map,lc,ln,lj,z_t] at he;simp only[he];refine jor [I k] ((((k == 2) || (k == 3)) || (k == 4)) || (k == 5)) (λK' hK'=>?_) (λe c u ho he=>?_)
 ·rw[ho];refine BW (λh1=>?_) (λh1=>?_)
  ·refine jeq (hK' _ _ _ (h1▸Ar) (by rw[h1,Bool.false_or]))
  ·exact hK' _ _ _ (h1▸B7) (by rw[h1,Bool.true_or])
 simp only[List.map,lc,ln,lj,z_t] at he;simp only[he];refine jor [] (((((k == 2) || (k == 3)) || (k == 4)) || (k == 5)) || (k == 7)) (λK' hK'=>?_) (λe c u ho he=>?_)
 ·rw[ho];refine BW (λh1=>?_) (λh1=>?_)
  ·refine jeq (hK' _ _ _ (h1▸Ar) (by rw[h1,Bool.false_or]))
  ·exact hK' _ _ _ (h1▸B7) (by rw[h1,Bool.true_or])
 simp only[List.map,lc,ln,lj,z_t] at he;simp only[he];rw[ho];exact BR (A:=[]) (RM.le.refl _) rfl
theorem Ts (b:Bool):Pu LZ [.bool b] (I (Sm.one b)):=by
 intro R;refine QP λF=>?_
 unfold LC;cases b
 ·exact Cv (BR (A:=[]) (RM.le.refl _) rfl)
 ·exact F7 (BR (A:=[]) (RM.le.refl _) rfl)
theorem Pn (o:Sm.Op) (refs nums:Int):Pu Hz [.agg (eOp o).toArray,I refs,I nums] (.bool (FM o refs nums)):=by
 intro R;refine NG λF=>?_
 unfold IE;refine ja λb=>?_
 have e0:cl (.agg (eOp o).toArray) = eOp o:=rfl;rw[e0];refine jor [I refs,I nums,.pointer (some ⟨b,0,none⟩)] ((o.kind == 4) || (o.kind == 5)) (λK' hK'=>?_) (λe c u ho he=>?_)
 ·refine jl rfl (jeq (BW (λh1=>?_) (λh1=>?_)))
  ·refine jl rfl (jeq (hK' _ _ _ (h1▸Ar) (by rw[h1,Bool.false_or])))
  ·exact hK' _ _ _ (h1▸B7) (by rw[h1,Bool.true_or])
 simp only[List.map,lc,ln,lj,z_t] at he;simp only[he];rw[ho];refine jif (λh0=>?_) (λh0=>?_)
 ·refine jan [] ((decide (o.f≥0)) && (decide (o.f < nums))) (λK' hK'=>?_) (λe c u ho he=>?_)
  ·refine jl rfl (jge (Bj (λh1=>?_) (λh1=>?_)))
   ·refine jl rfl (jlt (hK' _ _ _ (h1▸Aq) (by rw[h1,Bool.true_and])))
   ·exact hK' _ _ _ (h1▸As) (by rw[h1,Bool.false_and])
  simp only[List.map,lc,ln,lj,z_t] at he;simp only[he];rw[ho];refine BR (A:=[]) (RM.le.refl _) ?_;unfold FM;rw[if_pos h0]
 ·refine jan [] ((decide (o.f≥0)) && (decide (o.f < refs))) (λK' hK'=>?_) (λe c u ho he=>?_)
  ·refine jl rfl (jge (Bj (λh1=>?_) (λh1=>?_)))
   ·refine jl rfl (jlt (hK' _ _ _ (h1▸Aq) (by rw[h1,Bool.true_and])))
   ·exact hK' _ _ _ (h1▸As) (by rw[h1,Bool.false_and])
  simp only[List.map,lc,ln,lj,z_t] at he;simp only[he];rw[ho];refine BR (A:=[]) (RM.le.refl _) ?_;unfold FM;rw[if_neg (by rw[h0];decide)]
end Go.Lf
end
section
namespace Go.Lf
open Go Sm
theorem CN {R:RM} {D:Chs} {v:Value} {l:List Int} {i:Int} {k:Value→M} (h:B9 R v l) (h0:0≤i) (h1:i < l.length) (H:J R D (k (I (l[i.toNat]'(by omega))))):J R D (IA 1 v (I i) λx=>L1 x k):=by
 rcases h with ⟨_,h2,_⟩ | ⟨b,o,cap,t,cs,rfl,h2,h3,h4,h5⟩
 ·omega
 ·refine jia h0 h1 (jlr h2 ?_ H);have:=congrArg (λl=>l[i.toNat]?) h4;simp only[List.getElem?_take,List.getElem?_drop,List.getElem?_map] at this;rw[if_pos (by omega),List.getElem?_eq_getElem (by omega:i.toNat < l.length)] at this;rw[Nat.mul_one,this];rfl
theorem HV {R:RM} {D:Chs} {v:Value} {w n:Nat} {cells:List Value} {k:Value→M} (h:Fz R v w n cells) (H:J R D (k (I n))):J R D (LN v k):=by
 rcases h with ⟨rfl,rfl,_⟩ | ⟨b,o,cap,t,cs,rfl,_⟩<;>exact H
theorem Pp {R:RM} {rv:Value} {A7:List Int} (o:Sm.Op) (nn:Int) (h:B9 R rv A7):Ro Ia [.agg (eOp o).toArray,rv,I nn] (I (Ct o A7 nn)) R []:=by
 refine MX λF=>?_
 unfold Hi;refine ja λb=>?_
 have e0:cl (.agg (eOp o).toArray) = eOp o:=rfl;rw[e0];refine HV h ?_;refine jan [rv,I nn,.pointer (some ⟨b,0,none⟩),I A7.length] ((decide (o.a≥0)) && (decide (o.a < A7.length))) (λK' hK'=>?_) (λe c u ho he=>?_)
 ·refine jl rfl (jge (Bj (λh1=>?_) (λh1=>?_)))
  ·refine jl rfl (jlt (hK' _ _ _ (h1▸Aq) (by rw[h1,Bool.true_and])))
  ·exact hK' _ _ _ (h1▸As) (by rw[h1,Bool.false_and])
 simp only[List.map,lc,ln,lj,z_t] at he;simp only[he];rw[ho];refine jan [rv,I nn,.pointer (some ⟨b,0,none⟩),I A7.length,.bool (hnd A7.length o.a)] ((decide (o.b≥0)) && (decide (o.b < A7.length))) (λK' hK'=>?_) (λe c u ho he=>?_)
 ·refine jl rfl (jge (Bj (λh1=>?_) (λh1=>?_)))
  ·refine jl rfl (jlt (hK' _ _ _ (h1▸Aq) (by rw[h1,Bool.true_and])))
  ·exact hK' _ _ _ (h1▸As) (by rw[h1,Bool.false_and])
 simp only[List.map,lc,ln,lj,z_t] at he;simp only[he];rw[ho];refine jan [rv,I nn,.pointer (some ⟨b,0,none⟩),I A7.length,.bool (hnd A7.length o.a),.bool (hnd A7.length o.b)] ((decide (o.c≥0)) && (decide (o.c < A7.length))) (λK' hK'=>?_) (λe c u ho he=>?_)
 ·refine jl rfl (jge (Bj (λh1=>?_) (λh1=>?_)))
  ·refine jl rfl (jlt (hK' _ _ _ (h1▸Aq) (by rw[h1,Bool.true_and])))
  ·exact hK' _ _ _ (h1▸As) (by rw[h1,Bool.false_and])
 simp only[List.map,lc,ln,lj,z_t] at he;simp only[he];rw[ho];have fin:∀v,v = Ct o A7 nn→J R ((b,C 99 (eOp o)) :: ([] ++ F)) (ED R F (λv' x A=>v' = I (Ct o A7 nn)∧A = []) (I v)):=λv hv=>BV (by rw[hv])
 have hA:∃A B Cc:Bool,A = (o.kind == 1 || (if o.kind == 8 then decide (0 < A7.length) else hnd A7.length o.a))∧B = (o.kind == 1 || o.kind == 8 || o.kind == 2 || o.kind == 4 || o.kind == 5 || o.kind == 9 || o.kind == 10 || o.kind == 11 || hnd A7.length o.b)∧Cc = (!(o.kind == 7) && (decide (1≤o.kind) && decide (o.kind≤11)) || hnd A7.length o.c):=⟨_,_,_,rfl,rfl,rfl⟩;obtain⟨A,B,Cc,eA,eB,eC⟩:=hA;refine IT [rv,I nn,.pointer (some ⟨b,0,none⟩),I A7.length,.bool A,.bool B,.bool Cc] (λK1 hK1=>?_) (λe he=>?_)
 ·refine jl rfl ?_;refine IT [rv,I nn,.pointer (some ⟨b,0,none⟩),I A7.length,.bool A,.bool B,.bool Cc] (λK2 hK2=>?_) (λe he=>?_);rotate_left
  ·simp only[List.map,lc,ln,lj,z_t] at he;simp only[he];exact hK1
  have leaf:∀x y z:Bool,x = A→y = B→z = Cc→J R ((b,C 99 (eOp o)) :: ([] ++ F)) (K2 [rv,I nn,.pointer (some ⟨b,0,none⟩),I A7.length,.bool x,.bool y,.bool z]):=by
   rintro x y z rfl rfl rfl;exact hK2
  refine jeq (jif (λk1=>?_) (λk1=>?_))
  ·have k1:=eq_of_beq k1;refine leaf _ _ _ ?_ ?_ ?_<;>simp[eA,eB,eC,k1]
  have k1:o.kind≠1:=by simpa using k1
  refine jeq (jif (λk8=>?_) (λk8=>?_))
  ·have k8:=eq_of_beq k8;refine jgr (leaf _ _ _ ?_ ?_ ?_)<;>simp[eA,eB,eC,k8]
  have k8:o.kind≠8:=by simpa using k8
  refine AH (λvs R' D'=>R' = R∧D' = (b,C 99 (eOp o)) :: ([] ++ F)∧∃v:Bool,vs = [rv,I nn,.pointer (some ⟨b,0,none⟩),I A7.length,.bool (hnd A7.length o.a),.bool (hnd A7.length o.b),.bool (hnd A7.length o.c),I o.kind,.bool v]∧(v = true↔o.kind = 2∨o.kind = 4∨o.kind = 5∨o.kind = 9∨o.kind = 10∨o.kind = 11)) (λK3 hK3=>?_) ?_
  ·refine jeq (jif (λh=>hK3 _ _ _ ⟨rfl,rfl,_,rfl,?_⟩) (λn2=>?_))
   ·rw[h];simp[eq_of_beq h]
   refine jeq (jif (λh=>hK3 _ _ _ ⟨rfl,rfl,_,rfl,?_⟩) (λn4=>?_))
   ·rw[h];simp[eq_of_beq h]
   refine jeq (jif (λh=>hK3 _ _ _ ⟨rfl,rfl,_,rfl,?_⟩) (λn5=>?_))
   ·rw[h];simp[eq_of_beq h]
   refine jeq (jif (λh=>hK3 _ _ _ ⟨rfl,rfl,_,rfl,?_⟩) (λn9=>?_))
   ·rw[h];simp[eq_of_beq h]
   refine jeq (jif (λh=>hK3 _ _ _ ⟨rfl,rfl,_,rfl,?_⟩) (λn10=>?_))
   ·rw[h];simp[eq_of_beq h]
   refine jeq (hK3 _ _ _ ⟨rfl,rfl,_,rfl,?_⟩);simp only[beq_eq_false_iff_ne,ne_eq] at n2 n4 n5 n9 n10;simp[n2,n4,n5,n9,n10]
  ·rintro e R3 _ ⟨rfl,rfl,v,he,hv⟩;simp only[List.map,lc,ln,lj,z_t] at he;simp only[he];refine jif (λhvt=>?_) (λhvf=>?_)
   ·have hk:=hv.1 hvt;refine leaf _ _ _ ?_ ?_ ?_
    ·simp[eA,k1,k8]
    ·rw[eB];rcases hk with h | h | h | h | h | h<;>simp[h]
    ·rw[eC];rcases hk with h | h | h | h | h | h<;>simp[h]
   ·have hk:¬ (o.kind = 2∨o.kind = 4∨o.kind = 5∨o.kind = 9∨o.kind = 10∨o.kind = 11):=λh=>by rw[hv.2 h] at hvf;cases hvf
    simp only[not_or] at hk;obtain⟨q2,q4,q5,q9,q10,q11⟩:=hk;refine AH (λvs R2 D2=>R2 = R3∧D2 = (b,C 99 (eOp o)) :: ([] ++ F)∧∃v:Bool,vs = [rv,I nn,.pointer (some ⟨b,0,none⟩),I A7.length,.bool (hnd A7.length o.a),.bool (hnd A7.length o.b),.bool (hnd A7.length o.c),.bool v]∧(v = true↔o.kind = 3∨o.kind = 6)) (λK3 hK3=>?_) ?_
    ·refine jeq (jif (λh=>hK3 _ _ _ ⟨rfl,rfl,_,rfl,?_⟩) (λn3=>?_))
     ·rw[h];simp[eq_of_beq h]
     refine jeq (hK3 _ _ _ ⟨rfl,rfl,_,rfl,?_⟩);simp only[beq_eq_false_iff_ne,ne_eq] at n3;simp[n3]
    ·rintro e _ _ ⟨rfl,rfl,v,he,hv⟩;simp only[List.map,lc,ln,lj,z_t] at he;simp only[he];refine jif (λhvt=>?_) (λhvf=>?_)
     ·refine leaf _ _ _ ?_ ?_ ?_
      ·simp[eA,k1,k8]
      ·rw[eB];rcases hv.1 hvt with h | h<;>simp[h]
      ·rw[eC];rcases hv.1 hvt with h | h<;>simp[h]
     ·have hk:¬ (o.kind = 3∨o.kind = 6):=λh=>by rw[hv.2 h] at hvf;cases hvf
      rw[not_or] at hk;refine leaf _ _ _ ?_ ?_ ?_
      ·simp[eA,k1,k8]
      ·simp[eB,k1,k8,q2,q4,q5,q9,q10,q11]
      ·rw[eC];by_cases q7:o.kind = 7
       ·simp[q7]
       ·have:(decide (1≤o.kind) && decide (o.kind≤11)) = false:=by
         rw[Bool.and_eq_false_iff,decide_eq_false_iff_not,decide_eq_false_iff_not];omega
        simp[this]
 simp only[List.map,lc,ln,lj,z_t] at he;simp only[he];refine jor [rv,I nn,.pointer (some ⟨b,0,none⟩),I A7.length,.bool Cc] ((!A) || (!B)) (λK' hK'=>?_) (λe c u ho he=>?_)
 ·refine id (BW (λh1=>?_) (λh1=>?_))
  ·refine id (hK' _ _ _ (h1▸Ar) (by rw[h1,Bool.false_or]))
  ·exact hK' _ _ _ (h1▸B7) (by rw[h1,Bool.true_or])
 simp only[List.map,lc,ln,lj,z_t] at he;simp only[he];refine jor [rv,I nn,.pointer (some ⟨b,0,none⟩),I A7.length] ((!A || !B) || (!Cc)) (λK' hK'=>?_) (λe c u ho he=>?_)
 ·rw[ho];refine BW (λh1=>?_) (λh1=>?_)
  ·refine id (hK' _ _ _ (h1▸Ar) (by rw[h1,Bool.false_or]))
  ·exact hK' _ _ _ (h1▸B7) (by rw[h1,Bool.true_or])
 simp only[List.map,lc,ln,lj,z_t] at he;simp only[he];rw[ho];have fa:¬ ((!A || !B) || !Cc) = true→o.kind≠1→o.kind≠8→0≤o.a∧o.a < A7.length:=λhh k1 k8=>by
  have:A = true:=by
   cases A
   ·simp at hh
   ·rfl
  rw[this] at eA;simp[k1,k8,hnd] at eA;exact eA
 have base:Ct o A7 nn = if (!A || !B || !Cc) = true then 2 else if ((DP o.kind || o.kind == 10 || o.kind == 11) && (idx A7 o.a).getD 0 == nn) = true then 3 else if ((o.kind == 1 || o.kind == 2 || o.kind == 9) && A7.length == 8) = true then 5 else 0:=by
  unfold Ct;rw[eA,eB,eC]
 refine jif (λh0=>fin _ (by rw[base,if_pos h0])) (λh0=>?_);have h0' : ¬ ((!A || !B) || !Cc) = true:=by rw[h0];decide
 rw[if_neg h0'] at base;have k18:∀x:Bool,x = (DP o.kind || o.kind == 10 || o.kind == 11)→x = true→o.kind≠1∧o.kind≠8:=λx hx hx2=>by
  rw[hx2] at hx;constructor<;>intro hk<;>rw[hk] at hx<;>simp[DP] at hx
 refine jor [rv,I nn,.pointer (some ⟨b,0,none⟩),I A7.length] (DP o.kind || o.kind == 10) (λK' hK'=>?_) (λe c u ho he=>?_)
 ·refine jl rfl (jp (OS o.kind) (BW (λh1=>?_) (λh1=>?_)))
  ·exact jl rfl (jeq (hK' _ _ _ (h1▸Ar) (by rw[h1,Bool.false_or])))
  ·exact hK' _ _ _ (h1▸B7) (by rw[h1,Bool.true_or])
 simp only[List.map,lc,ln,lj,z_t] at he;simp only[he];refine jor [rv,I nn,.pointer (some ⟨b,0,none⟩),I A7.length] ((DP o.kind || o.kind == 10) || (o.kind == 11)) (λK' hK'=>?_) (λe c u ho he=>?_)
 ·rw[ho];refine BW (λh1=>?_) (λh1=>?_)
  ·refine jl rfl (jeq (hK' _ _ _ (h1▸Ar) (by rw[h1,Bool.false_or])))
  ·exact hK' _ _ _ (h1▸B7) (by rw[h1,Bool.true_or])
 simp only[List.map,lc,ln,lj,z_t] at he;simp only[he];refine jan [.pointer (some ⟨b,0,none⟩),I A7.length] ((DP o.kind || o.kind == 10 || o.kind == 11) && (idx A7 o.a).getD 0 == nn) (λK' hK'=>?_) (λe c u ho he=>?_)
 ·rw[ho];refine Bj (λh1=>?_) (λh1=>?_)
  ·obtain⟨n1,n8⟩:=k18 _ rfl h1;obtain⟨a0,a1⟩:=fa h0' n1 n8;refine jl rfl (CN h a0 a1 (jeq (hK' _ _ _ (h1▸Aq) ?_)));rw[h1,Bool.true_and];have:idx A7 o.a = some (A7[o.a.toNat]'(by omega)):=by unfold idx;rw[if_pos a0,List.getElem?_eq_getElem]
   rw[this];rfl
  ·exact hK' _ _ _ (h1▸As) (by rw[h1,Bool.false_and])
 simp only[List.map,lc,ln,lj,z_t] at he;simp only[he];rw[ho];refine jif (λh3=>fin _ (by rw[base,if_pos h3])) (λh3=>?_);rw[if_neg (by rw[h3];decide)] at base;refine jor [.pointer (some ⟨b,0,none⟩),I A7.length] ((o.kind == 1) || (o.kind == 2)) (λK' hK'=>?_) (λe c u ho he=>?_)
 ·refine jl rfl (jeq (BW (λh1=>?_) (λh1=>?_)))
  ·refine jl rfl (jeq (hK' _ _ _ (h1▸Ar) (by rw[h1,Bool.false_or])))
  ·exact hK' _ _ _ (h1▸B7) (by rw[h1,Bool.true_or])
 simp only[List.map,lc,ln,lj,z_t] at he;simp only[he];refine jor [I A7.length] ((o.kind == 1 || o.kind == 2) || (o.kind == 9)) (λK' hK'=>?_) (λe c u ho he=>?_)
 ·rw[ho];refine BW (λh1=>?_) (λh1=>?_)
  ·refine jl rfl (jeq (hK' _ _ _ (h1▸Ar) (by rw[h1,Bool.false_or])))
  ·exact hK' _ _ _ (h1▸B7) (by rw[h1,Bool.true_or])
 simp only[List.map,lc,ln,lj,z_t] at he;simp only[he];refine jan [] (((o.kind == 1 || o.kind == 2) || o.kind == 9) && (A7.length:Int) == 8) (λK' hK'=>?_) (λe c u ho he=>?_)
 ·rw[ho];refine Bj (λh1=>?_) (λh1=>?_)
  ·exact jeq (hK' _ _ _ (h1▸Aq) (by rw[h1,Bool.true_and]))
  ·exact hK' _ _ _ (h1▸As) (by rw[h1,Bool.false_and])
 simp only[List.map,lc,ln,lj,z_t] at he;simp only[he];rw[ho];have e8:((A7.length:Int) == 8) = (A7.length == 8):=by rw[Bool.eq_iff_iff];simp;omega
 rw[e8];refine jif (λh5=>fin _ (by rw[base,if_pos h5])) (λh5=>fin _ (by rw[base,if_neg (by rw[h5];decide)]))
end Go.Lf
end
section
namespace Go.Lf
open Go Sm
theorem Ri {R:RM} {D:Chs} {v:Value} {l:List Int} {u:Int} {k:Value→M} (h:B9 R v l) (h0:0≤u) (h1:u≤l.length) (H:∀v',B9 R v' (l.take u.toNat)→J R D (k v')):J R D (SL 1 v none (some (I u)) k):=by
 rcases h with ⟨rfl,h2,_⟩ | ⟨b,o,cap,t,cs,rfl,h2,h3,h4,h5⟩
 ·intro h' hs;refine⟨⟨h0,by omega⟩,H _ ?_ h' hs⟩;have:l = []:=List.length_eq_zero_iff.1 h2;subst this;have:u = 0:=by simp at h1;omega
  subst this;exact .inl ⟨rfl,by simp,by simp⟩
 ·intro h' hs;refine⟨⟨h0,by omega⟩,H _ ?_ h' hs⟩;refine .inr ⟨b,o,cap,t,cs,?_,h2,?_,?_,?_⟩
  ·simp only[List.length_take];congr 1;omega
  ·simp only[List.length_take];omega
  ·simp only[List.length_take];rw[List.map_take,← h4,List.take_take];congr 1;omega
  ·simp only[List.length_take];omega
theorem Uv {R:RM} {D:Chs} {v:Value} {l:List Int} {u:Int} {k:Value→M} (h:B9 R v l) (h0:0≤u) (h1:u≤l.length) (H:∀v',B9 R v' (l.drop u.toNat)→J R D (k v')):J R D (SL 1 v (some (I u)) none k):=by
 rcases h with ⟨rfl,h2,_⟩ | ⟨b,o,cap,t,cs,rfl,h2,h3,h4,h5⟩
 ·intro h' hs;refine⟨⟨h0,by omega,by omega⟩,H _ ?_ h' hs⟩;have:l = []:=List.length_eq_zero_iff.1 h2;subst this;have:u = 0:=by simp at h1;omega
  subst this;exact .inl ⟨rfl,by simp,by simp⟩
 ·intro h' hs;refine⟨⟨h0,h1,by omega⟩,H _ ?_ h' hs⟩;by_cases c:cap = u.toNat
  ·have hl:l.length = u.toNat:=by omega
   refine .inr ⟨b,o,cap - u.toNat,t,cs,?_,h2,?_,?_,?_⟩
   ·rw[if_pos c];simp
   ·simp[hl];omega
   ·simp[hl]
   ·simp[hl]
  ·refine .inr ⟨b,o + u.toNat * 1,cap - u.toNat,t,cs,?_,h2,?_,?_,?_⟩
   ·rw[if_neg c];simp
   ·simp only[List.length_drop];omega
   ·simp only[List.length_drop];rw[List.map_drop,← h4,List.drop_take,List.drop_drop];congr 1
    ·omega
    ·congr 1;omega
   ·simp only[List.length_drop];omega
theorem Va {R:RM} {D E:Chs} {l l2:List Int} {b c cx m:Nat} {sp:List Value} {xa:Option Addr} {k:Value→M} [tk:Tk D b (C AZ (l.map I ++ sp)) E] (hm:m = l2.length) (hc:l.length≤c) (hsp:sp.length = c - l.length) (hl:l.length + l2.length < 2000000) (hx:BG R D xa (m * 1) (l2.map I))
  (H:∀b' c' sp',(l ++ l2).length≤c'→sp'.length = c' - (l ++ l2).length→J R ((b',C AZ ((l ++ l2).map I ++ sp')) :: E) (k (.slice (some ⟨b',0,none⟩) (l ++ l2).length c'))) :
  J R D (AP AZ 1 8 [I 0] (.slice (some ⟨b,0,none⟩) l.length c) (.slice xa m cx) k):=by
 subst hm;have hfl:Bz (l2.map I) = true:=by
  unfold Bz;rw[List.all_eq_true];intro x hx;obtain⟨y,_,rfl⟩:=List.mem_map.1 hx;rfl
 refine RH (tk:=tk) hx (by simp;omega) hc (by simp) hfl (by decide) (by omega) (λh=>?_) (λb' c' h=>?_)
 ·have el:lay (l.map I ++ sp) (l.length * 1) (l2.map I) = (l ++ l2).map I ++ sp.drop l2.length:=by
   rw[FQ (by simp)];simp[lay]
  rw[el];have:=H b c (sp.drop l2.length) (by simpa using h) (by simp;omega);simpa using this
 ·refine Au (tk.p.cons _) (Au (List.Perm.swap _ _ _) (CR ?_));have:=H b' c' (List.replicate (c' - (l.length + l2.length)) [I 0]).flatten (by simpa using h) (by rw[C7 (w:=1) (by intro x hx;rw[(List.mem_replicate.1 hx).2];rfl)];simp);rw[List.take_append_of_le_length (by simp),List.take_of_length_le (by simp)];simpa using this
theorem B9.reads {R:RM} {D:Chs} {v:Value} {l:List Int} (h:B9 R v l):∃a cap,v = .slice a l.length cap∧BG R D a (l.length * 1) (l.map I):=Fz.reads h
def VC (r:Option (List Int)) (v:Value) (A:Chs):Prop:=match r with
 | none=>v = .tuple #[.slice none 0 0,.bool false]∧A = []
 | some l=>∃sv,TH l sv A∧v = .tuple #[sv,.bool true]
theorem MB {l:List Int} {a:Int}:∀{n k:Nat},DF l a n = some k→l[k]? = some a∧k < n∧∀j,k < j→j < n→l[j]?≠some a:=by
 intro n;induction n with
 | zero=>intro k h;cases h
 | succ n ih=>
  intro k h;simp only[DF] at h;split at h
  ·cases h;exact⟨by assumption,by omega,λj h1 h2=>by omega⟩
  ·rename_i hn;obtain⟨h1,h2,h3⟩:=ih h;refine⟨h1,by omega,λj h4 h5=>?_⟩;by_cases c:j = n
   ·subst c;exact hn
   ·exact h3 j h4 (by omega)
theorem Si {R:RM} {v:Value} {AQ:List Int} (kind a:Int) (h:B9 R v AQ) (hl:AQ.length < 1000000):Fn P Iw [v,I kind,I a] R [] (λv' _ A=>VC (Ed AQ kind a) v' A):=by
 refine On λF=>?_
 unfold KA;refine jeq (jif (λhk=>?_) (λhk=>?_))
 ·refine HV h (jeq (jif (λh8=>?_) (λh8=>?_)))
  ·refine BR (A:=[]) (RM.le.refl _) ?_;have h8:AQ.length = 8:=by have:=eq_of_beq h8;omega
   unfold Ed;rw[if_pos hk,if_pos h8];exact⟨rfl,rfl⟩
  ·have h8:AQ.length≠8:=by have:=ne_of_beq_false h8;omega
   refine jc (A:=[]) (Br h (by omega)) ?_;rintro _ R' _ hR ⟨b,c,sp,hc,hsp,rfl,rfl⟩;refine jbs (cs:=[I a]) rfl rfl λb1=>?_
   refine TC (v:=a) hc hsp (by omega) (BG.held (t:=AZ) (cs:=[I a]) (o:=0) (n:=1 * 1) (z_n 1)) λb' c' sp' hc' hsp'=>?_
   refine BR (A:=[(b',C AZ ((AQ ++ [a]).map I ++ sp'))]) hR ?_;unfold Ed;rw[if_pos hk,if_neg h8];exact⟨.slice (some ⟨b',0,none⟩) (AQ.length + 1) c',⟨b',c',sp',by simpa using hc',by simpa using hsp',by simp,rfl⟩,rfl⟩
 ·refine AH (λvs R' D'=>R' = R∧D' = [] ++ F∧vs = [v,I (match DF AQ a AQ.length with | some i=>(i:Int) | none=>-1)]) (λK' hK'=>?_) ?_
  ·refine AH (λvs R' D'=>R' = R∧D' = [] ++ F∧vs = [v,I (match DF AQ a AQ.length with | some i=>(i:Int) | none=>-1)]) (λK2 hK2=>?_) ?_
   ·refine jlp (λn vs R' D'=>R' = R∧D' = [] ++ F∧∃i:Nat,i≤AQ.length∧vs = [v,I a,I (match DF AQ a i with | some i=>(i:Int) | none=>-1),I i]∧n = AQ.length - i)
     (n:=AQ.length) ⟨rfl,rfl,0,by omega,rfl,by omega⟩ ?_
    rintro n e R3 D3 K ⟨rfl,hD,i,hi,he,hn⟩ hK;rw[hD];clear hD;simp only[List.map,lc,ln,lj,z_t] at he;simp only[he];refine HV h (jlt (jif (λhc=>?_) (λhc=>?_)))
    ·have hc:=z_f hc;have hil:i < AQ.length:=by omega
     refine AH (λvs R' D'=>R' = R3∧D' = [] ++ F∧vs = [v,I a,I (match DF AQ a (i + 1) with | some i=>(i:Int) | none=>-1),I i]) (λK4 hK4=>?_) ?_;rotate_left
     ·rintro e R4 D4 ⟨rfl,hD,he⟩;rw[hD];clear hD;simp only[List.map,lc,ln,lj,z_t] at he;simp only[he];refine Ac ⟨by omega,by omega⟩ ?_;exact hK (AQ.length - (i + 1)) _ _ _ (by omega) ⟨rfl,rfl,i + 1,by omega,rfl,rfl⟩
     refine AH (λvs R' D'=>R' = R3∧D' = [] ++ F∧vs = [v,I a,I (match DF AQ a (i + 1) with | some i=>(i:Int) | none=>-1),I i]) (λK5 hK5=>?_) ?_;rotate_left
     ·rintro e R4 D4 ⟨rfl,hD,he⟩;rw[hD];clear hD;simp only[List.map,lc,ln,lj,z_t] at he;simp only[he];exact hK4 _ _ _ ⟨rfl,rfl,rfl⟩
     refine CN h (by omega) (by omega) (jeq (jif (λhq=>?_) (λhq=>?_)))
     ·have hq:=eq_of_beq hq;simp only[Int.toNat_natCast] at hq;refine hK5 _ _ _ ⟨rfl,rfl,?_⟩;simp only[DF];rw[if_pos (by rw[List.getElem?_eq_getElem hil,hq])]
     ·have hq:=ne_of_beq_false hq;simp only[Int.toNat_natCast] at hq;refine hK5 _ _ _ ⟨rfl,rfl,?_⟩;simp only[DF];rw[if_neg (by rw[List.getElem?_eq_getElem hil];simpa using hq)]
    ·have hc:=z_g hc;have:i = AQ.length:=by omega
     subst this;exact hK2 _ _ _ ⟨rfl,rfl,rfl⟩
   ·rintro e R4 D4 ⟨rfl,hD,he⟩;rw[hD];clear hD;simp only[List.map,lc,ln,lj,z_t] at he;simp only[he];exact hK' _ _ _ ⟨rfl,rfl,rfl⟩
  ·rintro e R4 D4 ⟨rfl,hD,he⟩;rw[hD];clear hD;simp only[List.map,lc,ln,lj,z_t] at he;simp only[he];cases hli:DF AQ a AQ.length with
   | none=>
    refine jlt (jif (λ_=>?_) (λhh=>?_))
    ·refine BR (A:=[]) (RM.le.refl _) ?_;unfold Ed;rw[if_neg (by rw[hk];decide),hli];exact⟨rfl,rfl⟩
    ·exact absurd hh (by decide)
   | some i=>
    obtain⟨q1,q2,_⟩:=MB hli;refine jlt (jif (λhh=>?_) (λhh=>?_))
    ·exact absurd (z_f hh) (by simp only;omega)
    ·refine Ri h (by simp only;omega) (by simp only;omega) λv1 h1=>?_
     refine Ac ⟨by simp only;omega,by simp only;omega⟩ ?_;refine Uv h (by simp only;omega) (by simp only;omega) λv2 h2=>?_
     simp only[Int.toNat_natCast] at h1;rw[show ((i:Int) + 1).toNat = i + 1 from by omega] at h2;refine jc (A:=[]) (Br h1 (by simp;omega)) ?_;rintro _ R' _ hR ⟨b,c,sp,hc,hsp,rfl,rfl⟩;obtain⟨xa,cx,rfl,hx⟩:=B9.reads (D:=[(b,C AZ ((AQ.take i).map I ++ sp))] ++ ([] ++ F)) (h2.le hR);refine Va (l2:=AQ.drop (i + 1)) rfl hc hsp (by simp;omega) hx λb' c' sp' hc' hsp'=>?_
     refine BR (A:=[(b',C AZ ((AQ.take i ++ AQ.drop (i + 1)).map I ++ sp'))]) hR ?_;unfold Ed;rw[if_neg (by rw[hk];decide),hli];exact⟨_,⟨b',c',sp',hc',hsp',rfl,rfl⟩,rfl⟩
end Go.Lf
end
