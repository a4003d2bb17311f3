/- A part of the proof of the given row: the walk of the law and of all that it calls. Conditions: none. -/
import Derived.Laws.StructEq
import Derived.ChangeKeysEq
import Derived.Test.YteefnapldidgcaaGreatTH
set_option linter.unusedVariables false
set_option linter.unusedSimpArgs false
section
namespace Go.Lf
open Go Sm
theorem jap1 {R:RM} {D E:Chs} {l:List Int} {v:Int} {b c cx:Nat} {sp:List Value} {xa:Option Addr} {k:Value→M} [tk:Tk D b (C T_int (l.map I ++ sp)) E] (hc:l.length≤c) (hsp:sp.length = c - l.length) (hl:l.length < 1000000) (hx:Reads R D xa (1 * 1) [I v])
  (H:∀b' c' sp',l.length + 1≤c'→sp'.length = c' - (l.length + 1)→J R ((b',C T_int ((l ++ [v]).map I ++ sp')) :: E) (k (.slice (some ⟨b',0,none⟩) (l.length + 1) c'))) :
  J R D (AP T_int 1 8 [I 0] (.slice (some ⟨b,0,none⟩) l.length c) (.slice xa 1 cx) k):=by
 refine japh (tk:=tk) hx (by simp;omega) hc rfl rfl (by decide) (by omega) (λh=>?_) (λb' c' h=>?_)
 ·have el:lay (l.map I ++ sp) (l.length * 1) [I v] = (l ++ [v]).map I ++ sp.drop 1:=by
   rw[lay_app (by simp)];simp[lay]
  rw[el]
  exact H b c _ h (by simp;omega)
 ·refine jperm (tk.p.cons _) (jperm (List.Perm.swap _ _ _) (jdrop ?_))
  have:=H b' c' (List.replicate (c' - (l.length + 1)) [I 0]).flatten h (by rw[flat_len (w:=1) (by intro x hx;rw[(List.mem_replicate.1 hx).2];rfl)];simp)
  rw[List.take_append_of_le_length (by simp),List.take_of_length_le (by simp)]
  simpa using this
theorem ints_of {R:RM} {b c:Nat} {l:List Int} {sp:List Value} (h:R b = some (C T_int (l.map I ++ sp))) (hc:l.length≤c):Ints R (.slice (some ⟨b,0,none⟩) l.length c) l:=
 .inr ⟨b,0,c,_,_,rfl,h,by simp,by simp,hc⟩
theorem t_old {p:Nat} {S S' : Sim} {g:Img} {v:Int} {R:RM} (hok:Ok R S g) (hS:S.oldV v = some S') :
  Fn P F_Sim_old [.pointer (some ⟨p,0,none⟩),I v] R (simD p S g) (SimQ p S' λ_=>True):=by
 refine s_Sim_old λF=>?_
 unfold c_Sim_old
 simp only[Sim.oldV] at hS
 split at hS
 ·cases hS
 rename_i hsz
 simp only[Bool.not_eq_true,Bool.not_eq_false'] at hsz
 have hsz:=sz_ev hsz
 refine jcut (jl rfl (jeq (jgtt (λh=>?_) (λh=>?_))))
 ·have hph:S.phase = 1:=by simpa using h
  refine jne (jend λe he=>?_)
  simp only[List.map,lj,and_true,h] at he
  simp only[he]
  refine jpkt (jif (λh2=>?_) (λh2=>?_))
  ·have hv0:v≠0:=by simpa using h2
   rw[if_pos ⟨hph,hv0⟩] at hS
   cases hS
   refine jl rfl ?_
   refine jc (A:=[]) (t_l5Ints hok.old hsz.2.1) ?_
   rintro _ R' _ hR ⟨b,c,sp,hc,hsp,rfl,rfl⟩
   have hok':=hok.le hR
   refine jbs (cs:=[I v]) rfl rfl λb1=>?_
   refine jap1 (v:=v) hc hsp hsz.2.1 (Reads.held (t:=T_int) (cs:=[I v]) (o:=0) (n:=1 * 1) (Nat.le_refl 1)) λb' c' sp' hc' hsp'=>?_
   refine jfreeze (b:=b') λR2 hR2 hb'=>?_
   refine jss { S with old:=S.old ++ [v] } { g with old:=.slice (some ⟨b',0,none⟩) (S.old.length + 1) c' } rfl rfl (by decide) (by rfl) (by rfl) ?_
   have hi:=ints_of (c:=c') hb' (by simpa using hc')
   rw[List.length_append,List.length_singleton] at hi
   exact jretS (hR.trans hR2) trivial rfl (by exact { hok'.le hR2 with old:=hi })
  ·have hv0:¬ v≠0:=by simpa using h2
   rw[if_neg (λhh=>hv0 hh.2)] at hS
   cases hS
   exact jretS (RM.le.refl R) trivial rfl hok
 ·have hph:S.phase≠1:=by simpa using h
  rw[if_neg (λhh=>hph hh.1)] at hS
  cases hS
  refine jend λe he=>?_
  simp only[List.map,lj,and_true,h] at he
  simp only[he]
  refine jpkf (jiff ?_)
  exact jretS (RM.le.refl R) trivial rfl hok
theorem jcS {R:RM} {D G:Chs} {p f:Nat} {S S' : Sim} {g:Img} {args:List Value} {r:Value→Prop} {k:Value→M} [w:Fd D p S g G] (hF:Fn P f args R (simD p S g) (SimQ p S' r))
  (H:∀v R' g',R.le R'→r v→Ok R' S' g'→J R' (simD p S' g' ++ G) (k v)):J R D (CA P f args k):=by
 refine jperm w.ex (jc hF ?_)
 rintro v R' _ hR ⟨hr,g',rfl,ho⟩
 exact H v R' g' hR hr ho
theorem t_push {p:Nat} {S S' : Sim} {g:Img} {i a:Int} {R:RM} (hok:Ok R S g) (hS:S.push i a = some S') :
  Fn P F_Sim_push [.pointer (some ⟨p,0,none⟩),I i,I a] R (simD p S g) (SimQ p S' λ_=>True):=by
 refine s_Sim_push λF=>?_
 unfold c_Sim_push
 simp only[Sim.push] at hS
 split at hS
 ·cases hS
 rename_i hsz
 simp only[Bool.not_eq_true,Bool.not_eq_false'] at hsz
 have hsz:=sz_ev hsz
 split at hS
 ·rename_i t ht
  obtain⟨h0,h1,h2,h3⟩:=idx_some ht
  have hr:=hok.rvl
  have h2' : i.toNat < g.rv.length:=by omega
  have hv:=hok.rv i.toNat h2 h2'
  rw[h3] at hv
  have hl:t.roots.length < 1000000:=hsz.2.2.2.2 t (by rw[← h3];exact List.getElem_mem h2)
  obtain⟨xa,cap,hve,-⟩:=Fz.reads (D:=[]) hv
  rw[hve] at hv
  refine jl rfl ?_
  refine jia h0 h1 ?_
  refine jlt_ (p:=p) h2 hr ?_
  rw[h3,hve]
  refine ja λb=>?_
  refine js (cs':=eThr t (.slice xa t.roots.length cap)) rfl rfl (by simp) rfl ?_
  refine jl rfl ?_
  refine jc (A:=[]) (t_l5Ints hv hl) ?_
  rintro _ R' _ hR ⟨b2,c,sp,hc,hsp,rfl,rfl⟩
  have hok':=hok.le hR
  refine jbs (cs:=[I a]) rfl rfl λb1=>?_
  refine jap1 (v:=a) hc hsp hl (Reads.held (t:=T_int) (cs:=[I a]) (o:=0) (n:=1 * 1) (Nat.le_refl 1)) λb' c' sp' hc' hsp'=>?_
  refine jfreeze (b:=b') λR2 hR2 hb'=>?_
  have hi:=ints_of (c:=c') hb' (by simpa using hc')
  rw[List.length_append,List.length_singleton] at hi
  refine js (cs':=eThr { t with roots:=t.roots ++ [a] } (.slice (some ⟨b',0,none⟩) (t.roots.length + 1) c')) rfl rfl (by simp[eThr]) rfl ?_
  refine jl rfl ?_
  refine jla (l:=eThr { t with roots:=t.roots ++ [a] } (.slice (some ⟨b',0,none⟩) (t.roots.length + 1) c')) (by simp[eThr]) rfl ?_
  refine jia h0 h1 ?_
  refine jst (p:=p) { S with th:=seti S.th i { t with roots:=t.roots ++ [a] } } { g with rv:=g.rv.set i.toNat (.slice (some ⟨b',0,none⟩) (t.roots.length + 1) c') } (by exact h2) (by exact hr) rfl (by rfl) (by rfl) ?_
  refine jcS (p:=p) (by exact t_event ((hok'.le hR2).setT (i:=i.toNat) (t:={ t with roots:=t.roots ++ [a] }) hi) hS) λ_ R3 g3 hR3 _ hok3=>?_
  exact jretS ((hR.trans hR2).trans hR3) trivial rfl hok3
 ·cases hS
end Go.Lf
end
section
namespace Go.Lf
open Go Sm
theorem jopen {R:RM} {D G:Chs} {p:Nat} {S:Sim} {g:Img} {i:Int} {t:Thr} {z:Value} {k:Value→M} [w:Fd D p S g G] (hok:Ok R S g) (ht:idx S.th i = some t) (hz:(cl z).length = 17)
  (H:∀b a cap,Ints R (.slice a t.roots.length cap) t.roots→J R ((b,C T_l8Thread (eThr t (.slice a t.roots.length cap))) :: D) (k (.pointer (some ⟨b,0,none⟩)))) :
  J R D (L1 (.pointer (some ⟨p,17,none⟩)) λx3=>IA 17 x3 (I i) λx4=>LA 17 x4 λx5=>AL T_l8Thread z λx6=>ST 17 x6 x5 (k x6)):=by
 obtain⟨h0,h1,h2,h3⟩:=idx_some ht
 have hr:=hok.rvl
 have h2' : i.toNat < g.rv.length:=by omega
 have hv:=hok.rv i.toNat h2 h2'
 rw[h3] at hv
 obtain⟨xa,cap,hve,-⟩:=Fz.reads (D:=[]) hv
 rw[hve] at hv
 refine jperm w.ex ?_
 refine jl rfl ?_
 refine jia h0 h1 ?_
 refine jlt_ (p:=p) h2 hr ?_
 rw[h3,hve]
 refine ja λb=>?_
 refine js (cs':=eThr t (.slice xa t.roots.length cap)) rfl rfl (by rw[hz];exact Nat.le_refl 17) ?_ ?_
 ·show lay (cl z) 0 (eThr t _) = _
  have:=lay_pre (a:=cl z) (b:=[]) (l:=eThr t (.slice xa t.roots.length cap)) (by rw[hz];rfl)
  simpa using this
 ·exact jperm (w.ex.symm.cons _) (H b xa cap hv)
theorem jput {R:RM} {D G:Chs} {p b:Nat} {S:Sim} {g:Img} {i:Int} {t:Thr} {v:Value} {m:M} (S' : Sim) [w:Fd D p S g G] [at_:At D b (C T_l8Thread (eThr t v))] (hok:Ok R S g) (h0:0≤i) (h1:i < S.th.length) (hv:Ints R v t.roots) (hS:S' = { S with th:=seti S.th i t })
  (H:∀g',Ok R S' g'→J R (simD p S' g' ++ G) m) :
  J R D (L1 (.pointer (some ⟨p,17,none⟩)) λx24=>LA 17 (.pointer (some ⟨b,0,none⟩)) λx25=>IA 17 x24 (I i) λx26=>ST 17 x26 x25 m):=by
 subst hS
 obtain⟨xa,cap,hve,-⟩:=Fz.reads (D:=[]) hv
 subst hve
 have hr:=hok.rvl
 have h2:i.toNat < S.th.length:=by omega
 intro h hs
 have hst:=hs.perm w.ex
 have hl:J R D (LA 17 (.pointer (some ⟨b,0,none⟩)) λx25=>IA 17 (.slice (some ⟨g.hb,0,none⟩) S.th.length g.hc) (I i) λx26=>ST 17 x26 x25 m):=by
  refine jla (cs:=eThr t (.slice xa t.roots.length cap)) (t:=T_l8Thread) (l:=eThr t (.slice xa t.roots.length cap)) (Nat.le_refl 17) rfl ?_
  refine jia h0 h1 ?_
  refine jst (p:=p) { S with th:=seti S.th i t } { g with rv:=g.rv.set i.toNat (.slice xa t.roots.length cap) } (by exact h2) (by exact hr) rfl (by rfl) (by rfl) ?_
  exact H _ (hok.setT hv)
 have:J R (simD p S g ++ G) (L1 (.pointer (some ⟨p,17,none⟩)) λx24=>LA 17 (.pointer (some ⟨b,0,none⟩)) λx25=>IA 17 x24 (I i) λx26=>ST 17 x26 x25 m):=jl rfl (jperm w.ex.symm hl)
 exact this h hst
theorem p_l8Next (pc:Int) (h:inR (pc + 1)):Pu F_s_l8Next [I pc] (I (l8Next pc)):=by
 intro R
 refine s_s_l8Next λF=>?_
 unfold c_s_l8Next
 refine jeq (jif (λh1=>?_) (λh1=>?_))
 ·refine jret (A:=[]) (RM.le.refl R) ?_
  rw[l8Next,if_pos (by simpa using h1)]
 ·refine jeq (jif (λh2=>?_) (λh2=>jadd h ?_))
  ·refine jret (A:=[]) (RM.le.refl R) ?_
   rw[l8Next,if_neg (by simpa using h1),if_pos (by simpa using h2)]
  ·refine jret (A:=[]) (RM.le.refl R) ?_
   rw[l8Next,if_neg (by simpa using h1),if_neg (by simpa using h2)]
theorem p_l8Held (t:Thr) (a:Option Addr) (n c:Nat) (pc:Int):Pu F_s_l8Held [.agg (eThr t (.slice a n c)).toArray,I pc] (I (l8Held t pc)):=by
 intro R
 refine s_s_l8Held λF=>?_
 unfold c_s_l8Held
 refine ja λb=>?_
 have e:cl (.agg (eThr t (.slice a n c)).toArray) = eThr t (.slice a n c):=rfl
 rw[e]
 refine jeq (jif (λh1=>?_) (λh1=>?_))
 ·refine jl rfl (jret (A:=[]) (RM.le.refl R) ?_)
  rw[l8Held,if_pos (by simpa using h1)]
 ·refine jeq (jif (λh2=>?_) (λh2=>?_))
  ·refine jl rfl (jret (A:=[]) (RM.le.refl R) ?_)
   rw[l8Held,if_neg (by simpa using h1),if_pos (by simpa using h2)]
  ·refine jeq (jif (λh3=>?_) (λh3=>?_))
   ·refine jl rfl (jret (A:=[]) (RM.le.refl R) ?_)
    rw[l8Held,if_neg (by simpa using h1),if_neg (by simpa using h2),if_pos (by simpa using h3)]
   ·refine jl rfl (jret (A:=[]) (RM.le.refl R) ?_)
    rw[l8Held,if_neg (by simpa using h1),if_neg (by simpa using h2),if_neg (by simpa using h3)]
end Go.Lf
end
section
namespace Go.Lf
open Go Sm
theorem bind_some {α β:Type} {x:Option α} {f:α→Option β} {b:β} (h:(x >>= f) = some b):∃a,x = some a∧f a = some b:=by
 cases x with
 | none=>cases h
 | some a=>exact⟨a,rfl,h⟩
theorem t_load {p:Nat} {S S' : Sim} {g:Img} {i v:Int} {R:RM} (hok:Ok R S g) (hS:S.load i v = some S') :
  Fn P F_Sim_load [.pointer (some ⟨p,0,none⟩),I i,I v] R (simD p S g) (SimQ p S' λ_=>True):=by
 refine s_Sim_load λF=>?_
 unfold c_Sim_load
 obtain⟨t,ht,hS⟩:=bind_some hS
 obtain⟨h0,h1,h2,h3⟩:=idx_some ht
 refine jopen (p:=p) hok ht rfl λb a cap hv=>?_
 have rest:∀e:Env,e 0 = .pointer (some ⟨p,0,none⟩)→e 1 = I i→e 2 = I v→e 6 = .pointer (some ⟨b,0,none⟩)→¬ (t.pc = 12∧v = t.u)→J R ((b,C T_l8Thread (eThr t (.slice a t.roots.length cap))) :: (simD p S g ++ F)) (CA P F_Sim_from [(e 0),(e 2)] λx18=>NT x18 λx19=>IF x19 (CA P 105 [(e 0),(e 1),(e 2)] λx20=>POST R F (SimQ p S' λ_=>True) (.tuple #[])) (FO 7 (e 6) λx21=>ST 1 x21 (e 2)<|FO 8 (e 6) λx22=>ST 1 x22 (e 2)<|FO 3 (e 6) λx23=>ST 1 x23 (I 11)<|NC (e 0) λx24=>FO 17 x24 λx25=>L1 x25 λx26=>LA 17 (e 6) λx27=>IA 17 x26 (e 1) λx28=>ST 17 x28 x27<|POST R F (SimQ p S' λ_=>True) (.tuple #[]))):=by
  intro e e0 e1 e2 e6 hc
  simp only[e0,e1,e2,e6]
  rw[if_neg hc] at hS
  obtain⟨c,hf,hS⟩:=bind_some hS
  refine jcS (p:=p) (by exact t_from hok hf) λ_ R1 g1 hR1 hr ok1=>?_
  subst hr
  cases c with
  | false=>
   refine jift ?_
   refine jcS (p:=p) (by exact t_push ok1 hS) λ_ R2 g2 hR2 hr ok2=>?_
   exact jretS (hR1.trans hR2) trivial rfl ok2
  | true=>
   refine jiff ?_
   cases hS
   refine js (cs':=eThr { t with u:=v } (.slice a t.roots.length cap)) rfl rfl (by simp[eThr]) rfl ?_
   refine js (cs':=eThr { t with u:=v,v:=v } (.slice a t.roots.length cap)) rfl rfl (by simp[eThr]) rfl ?_
   refine js (cs':=eThr { t with u:=v,v:=v,pc:=11 } (.slice a t.roots.length cap)) rfl rfl (by simp[eThr]) rfl ?_
   refine jput (p:=p) (S.setT i { t with u:=v,v:=v,pc:=11 }) (by exact ok1) h0 (by exact h1) (by exact hv.le hR1) (by rfl) λg2 ok2=>?_
   exact jretS hR1 trivial rfl ok2
 refine jcut (jl rfl (jeq (jgtt (λhp=>jl rfl (jeq (jend λe he=>?_))) (λhp=>jend λe he=>?_))))
 ·simp only[List.map,lj,and_true,hp] at he
  obtain⟨e0,e1,e2,e6,e17,e21⟩:=he
  simp only[e17,e21]
  refine jpkt (jif (λhq=>?_) (λhq=>rest e e0 e1 e2 e6 λhh=>?_))
  ·have hc:t.pc = 12∧v = t.u:=⟨by simpa using hp,by simpa using hq⟩
   rw[if_pos hc] at hS
   simp only[e0,e1,e6]
   refine jl rfl ?_
   refine jcS (p:=p) (by exact t_push hok hS) λ_ R2 g2 hR2 hr ok2=>?_
   exact jretS hR2 trivial rfl ok2
  ·simp[hh.2] at hq
 ·simp only[List.map,lj,and_true,hp] at he
  obtain⟨e0,e1,e2,e6,e17,e21⟩:=he
  simp only[e17,e21]
  refine jpkf (jiff (rest e e0 e1 e2 e6 λhh=>?_))
  simp[hh.1] at hp
theorem t_swap {p:Nat} {S S' : Sim} {g:Img} {i v:Int} {R:RM} (hok:Ok R S g) (hS:S.swap i v = some S') :
  Fn P F_Sim_swap [.pointer (some ⟨p,0,none⟩),I i,I v] R (simD p S g) (SimQ p S' λ_=>True):=by
 refine s_Sim_swap λF=>?_
 unfold c_Sim_swap
 obtain⟨t,ht,hS⟩:=bind_some hS
 obtain⟨h0,h1,h2,h3⟩:=idx_some ht
 refine jopen (p:=p) hok ht rfl λb a cap hv=>?_
 refine jcutq (λvs R' D'=>R' = R∧D' = (b,C T_l8Thread (eThr t (.slice a t.roots.length cap))) :: (simD p S g ++ F)∧∃c u,vs = [.pointer (some ⟨p,0,none⟩),I i,I v,.pointer (some ⟨b,0,none⟩),c,u]∧∀k,PK c u (.bool false) k = k (.bool (t.pc == 16 && v == t.u))) (λK hK=>?_) ?_
 ·refine jl rfl (jeq (jgtt (λhp=>jl rfl (jeq (hK _ _ _ ⟨rfl,rfl,_,_,rfl,λk=>?_⟩))) (λhp=>hK _ _ _ ⟨rfl,rfl,_,_,rfl,λk=>?_⟩)))
  ·simp only[hp,PK,cond_true,Bool.true_and]
  ·simp only[hp,PK,cond_false,Bool.false_and]
 ·rintro e _ _ ⟨rfl,rfl,c,u,he,hpk⟩
  simp only[List.map,lj,and_true] at he
  obtain⟨e0,e1,e2,e6,e17,e21⟩:=he
  simp only[e0,e1,e2,e6,e17,e21]
  rw[hpk]
  refine jif (λhq=>?_) (λhc=>?_)
  ·simp only[Bool.and_eq_true,beq_iff_eq] at hq
   rw[if_pos hq] at hS
   refine jcS (p:=p) (by exact t_event hok hS) λ_ R2 g2 hR2 hr ok2=>?_
   exact jretS hR2 trivial rfl ok2
  have hc:¬ (t.pc = 16∧v = t.u):=by simpa using hc
  rw[if_neg hc] at hS
  obtain⟨d,hf,hS⟩:=bind_some hS
  refine js (cs':=eThr { t with u:=v } (.slice a t.roots.length cap)) rfl rfl (by simp[eThr]) rfl ?_
  refine jcS (p:=p) (by exact t_from hok hf) λ_ R1 g1 hR1 hr ok1=>?_
  subst hr
  refine jif (λhd=>?_) (λhd=>?_)
  ·subst hd
   cases hS
   refine js (cs':=eThr { t with u:=v,v:=v } (.slice a t.roots.length cap)) rfl rfl (by simp[eThr]) rfl ?_
   refine js (cs':=eThr { t with u:=v,v:=v,pc:=15 } (.slice a t.roots.length cap)) rfl rfl (by simp[eThr]) rfl ?_
   refine jput (p:=p) (S.setT i { t with u:=v,v:=v,pc:=15 }) (by exact ok1) h0 (by exact h1) (by exact hv.le hR1) (by rfl) λg2 ok2=>?_
   exact jretS hR1 trivial rfl ok2
  ·subst hd
   refine jl rfl (jne (jif (λhg=>?_) (λhg=>?_)))
   ·have hg:v≠t.g:=by simpa using hg
    rw[if_neg (by decide),if_pos hg] at hS
    refine jcS (p:=p) (by exact t_event ok1 hS) λ_ R2 g2 hR2 hr ok2=>?_
    exact jretS (hR1.trans hR2) trivial rfl ok2
   ·have hg:¬ v≠t.g:=by simpa using hg
    rw[if_neg (by decide),if_neg hg] at hS
    obtain⟨S2,ho,hS⟩:=bind_some hS
    cases hS
    refine jcS (p:=p) (by exact t_old ok1 ho) λ_ R2 g2 hR2 hr ok2=>?_
    refine js (cs':=eThr { t with u:=v,pc:=14 } (.slice a t.roots.length cap)) rfl rfl (by simp[eThr]) rfl ?_
    have hth:S2.th = S.th:=by
     simp only[Sim.oldV] at ho
     split at ho
     ·cases ho
     ·cases ho;split<;>rfl
    refine jput (p:=p) (S2.setT i { t with u:=v,pc:=14 }) (by exact ok2) h0 (by rw[hth];exact h1) (by exact hv.le (hR1.trans hR2)) (by rfl) λg3 ok3=>?_
    exact jretS (hR1.trans hR2) trivial rfl ok3
end Go.Lf
end
section
namespace Go.Lf
open Go Sm
theorem p_l8Hold (t:Thr) (xa:Option Addr) (n c:Nat) (pc a:Int) (h:inR (pc + 1)):Pu F_s_l8Hold [.agg (eThr t (.slice xa n c)).toArray,I pc,I a] (.agg (eThr (l8Hold t pc a) (.slice xa n c)).toArray):=by
 intro R
 refine s_s_l8Hold λF=>?_
 unfold c_s_l8Hold
 refine ja λb=>ja λb2=>?_
 have e:cl (.agg (eThr t (.slice xa n c)).toArray) = eThr t (.slice xa n c):=rfl
 rw[e]
 refine jcutq (λvs R' D'=>R' = R∧D' = (b2,C T_l8Thread (cl z128)) :: (b,C T_l8Thread (eThr { l8Hold t pc a with pc:=t.pc } (.slice xa n c))) :: ([] ++ F)∧vs = [I pc,.pointer (some ⟨b,0,none⟩),.pointer (some ⟨b2,0,none⟩)]) (λK hK=>?_) ?_
 ·refine jcut ?_
  have fin:∀t1,t1 = { l8Hold t pc a with pc:=t.pc }→J R ((b2,C T_l8Thread (cl z128)) :: (b,C T_l8Thread (eThr t1 (.slice xa n c))) :: ([] ++ F)) (λh=>∀e:Env,List.map e [1,3,6] = [I pc,.pointer (some ⟨b,0,none⟩),.pointer (some ⟨b2,0,none⟩)]→K [(e 1),(e 3),(e 6)] h):=by
   rintro t1 rfl
   refine jend λe he=>?_
   simp only[List.map,lj,and_true] at he
   simp only[he]
   exact hK _ _ _ ⟨rfl,rfl,rfl⟩
  refine jeq (jif (λh1=>?_) (λh1=>?_))
  ·refine js (cs':=eThr { t with h:=a } (.slice xa n c)) rfl rfl (by simp[eThr]) rfl (fin _ ?_)
   rw[l8Hold,if_pos (by simpa using h1)]
  ·refine jeq (jif (λh2=>?_) (λh2=>?_))
   ·refine js (cs':=eThr { t with g:=a } (.slice xa n c)) rfl rfl (by simp[eThr]) rfl (fin _ ?_)
    rw[l8Hold,if_neg (by simpa using h1),if_pos (by simpa using h2)]
   ·refine jeq (jif (λh3=>?_) (λh3=>?_))
    ·refine js (cs':=eThr { t with k:=a } (.slice xa n c)) rfl rfl (by simp[eThr]) rfl (fin _ ?_)
     rw[l8Hold,if_neg (by simpa using h1),if_neg (by simpa using h2),if_pos (by simpa using h3)]
    ·refine js (cs':=eThr { t with v:=a } (.slice xa n c)) rfl rfl (by simp[eThr]) rfl (fin _ ?_)
     rw[l8Hold,if_neg (by simpa using h1),if_neg (by simpa using h2),if_neg (by simpa using h3)]
 ·rintro e _ _ ⟨rfl,rfl,he⟩
  simp only[List.map,lj,and_true] at he
  simp only[he]
  refine jp (p_l8Next pc h) ?_
  have hp:(l8Hold t pc a).pc = l8Next pc:=rfl
  refine js (cs':=eThr (l8Hold t pc a) (.slice xa n c)) rfl rfl (by simp[eThr]) rfl ?_
  refine jla (cs:=eThr (l8Hold t pc a) (.slice xa n c)) (t:=T_l8Thread) (l:=eThr (l8Hold t pc a) (.slice xa n c)) (Nat.le_refl 17) rfl ?_
  refine js (cs':=eThr (l8Hold t pc a) (.slice xa n c)) rfl rfl (by exact Nat.le_refl 17) rfl ?_
  refine jla (cs:=eThr (l8Hold t pc a) (.slice xa n c)) (t:=T_l8Thread) (l:=eThr (l8Hold t pc a) (.slice xa n c)) (Nat.le_refl 17) rfl ?_
  exact jret (A:=[]) (RM.le.refl _) rfl
theorem t_resolve {p:Nat} {S S' : Sim} {g:Img} {i:Int} {R:RM} (hok:Ok R S g) (hS:S.resolve i = some S') :
  Fn P F_Sim_resolve [.pointer (some ⟨p,0,none⟩),I i] R (simD p S g) (SimQ p S' λ_=>True):=by
 refine s_Sim_resolve λF=>?_
 unfold c_Sim_resolve
 obtain⟨t,ht,hS⟩:=bind_some hS
 obtain⟨h0,h1,h2,h3⟩:=idx_some ht
 split at hS
 ·cases hS
 rename_i hpc
 have hpc:0≤t.pc∧t.pc≤100:=Classical.not_not.1 hpc
 have hin:inR (t.pc + 1):=⟨by omega,by omega⟩
 obtain⟨c,hf,hS⟩:=bind_some hS
 refine jopen (p:=p) hok ht rfl λb a cap hv=>?_
 refine jl rfl ?_
 refine jla (cs:=eThr t (.slice a t.roots.length cap)) (t:=T_l8Thread) (l:=eThr t (.slice a t.roots.length cap)) (Nat.le_refl 17) rfl ?_
 refine jp (p_l8Held t a t.roots.length cap t.pc) ?_
 refine jcS (p:=p) (by exact t_from hok hf) λ_ R1 g1 hR1 hr ok1=>?_
 subst hr
 refine jif (λhc=>?_) (λhc=>?_)
 ·have hc:c = false:=by simpa using hc
  subst hc
  cases hS
  refine jp (p_l8Next t.pc hin) ?_
  refine js (cs':=eThr { t with pc:=l8Next t.pc } (.slice a t.roots.length cap)) rfl rfl (by simp[eThr]) rfl ?_
  refine jput (p:=p) (S.setT i { t with pc:=l8Next t.pc }) (by exact ok1) h0 (by exact h1) (by exact hv.le hR1) (by rfl) λg2 ok2=>?_
  exact jretS hR1 trivial rfl ok2
 ·have hc:c = true:=by simpa using hc
  subst hc
  obtain⟨⟨f,S1⟩,hrd,hS⟩:=bind_some hS
  dsimp only at hS
  have hS1:S1.th = S.th∧S1.phase = S.phase:=by
   simp only[Sim.read] at hrd
   split at hrd
   ·cases hrd;exact⟨rfl,rfl⟩
   ·cases hrd
  refine jcS (p:=p) (by exact t_read ok1 hrd) λ_ R2 g2 hR2 hr ok2=>?_
  subst hr
  refine jcutq (λvs R' D'=>R' = R2∧∃t',t'.roots = t.roots∧S' = S1.setT i t'∧D' = simD p S1 g2 ++ (b,C T_l8Thread (eThr t' (.slice a t.roots.length cap))) :: F∧vs = [.pointer (some ⟨p,0,none⟩),I i,.pointer (some ⟨b,0,none⟩)]) (λK hK=>?_) ?_
  ·refine jcutq (λvs R' D'=>R' = R2∧D' = simD p S1 g2 ++ (b,C T_l8Thread (eThr t (.slice a t.roots.length cap))) :: F∧∃c u,vs = [.pointer (some ⟨p,0,none⟩),I i,.pointer (some ⟨b,0,none⟩),I t.pc,I (l8Held t t.pc),I f,c,u]∧∀k,PK c u (.bool false) k = k (.bool (f == l8Held t t.pc && S.phase == 2))) (λK2 hK2=>?_) ?_
   ·refine jeq (jgtt (λhp=>jl rfl (jeq (hK2 _ _ _ ⟨rfl,rfl,_,_,rfl,λk=>?_⟩))) (λhp=>hK2 _ _ _ ⟨rfl,rfl,_,_,rfl,λk=>?_⟩))
    ·simp only[hp,PK,cond_true,Bool.true_and,hS1.2]
    ·simp only[hp,PK,cond_false,Bool.false_and]
   ·rintro e _ _ ⟨rfl,rfl,c,u,he,hpk⟩
    simp only[List.map,lj,and_true] at he
    obtain⟨e0,e1,e4,e5,e6,e7,e40,e46⟩:=he
    simp only[e0,e1,e4,e5,e6,e7,e40,e46]
    rw[hpk]
    refine jif (λhq=>?_) (λhq=>?_)
    ·simp only[Bool.and_eq_true,beq_iff_eq] at hq
     rw[if_pos ⟨hq.1,by rw[hS1.2];exact hq.2⟩] at hS
     cases hS
     refine js (cs':=eThr { t with src:=l8Held t t.pc } (.slice a t.roots.length cap)) rfl rfl (by simp[eThr]) rfl ?_
     refine js (cs':=eThr { t with src:=l8Held t t.pc,ret:=t.pc } (.slice a t.roots.length cap)) rfl rfl (by simp[eThr]) rfl ?_
     refine js (cs':=eThr { t with src:=l8Held t t.pc,ret:=t.pc,pc:=20 } (.slice a t.roots.length cap)) rfl rfl (by simp[eThr]) rfl ?_
     exact hK _ _ _ ⟨rfl,{ t with src:=l8Held t t.pc,ret:=t.pc,pc:=20 },rfl,rfl,rfl,rfl⟩
    ·have hq:¬ (f = l8Held t t.pc∧S1.phase = 2):=by rw[hS1.2];simpa using hq
     rw[if_neg hq] at hS
     cases hS
     refine jla (cs:=eThr t (.slice a t.roots.length cap)) (t:=T_l8Thread) (l:=eThr t (.slice a t.roots.length cap)) (Nat.le_refl 17) rfl ?_
     refine jp (p_l8Hold t a t.roots.length cap t.pc f hin) ?_
     refine js (cs':=eThr (l8Hold t t.pc f) (.slice a t.roots.length cap)) rfl rfl (by exact Nat.le_refl 17) rfl ?_
     refine hK _ _ _ ⟨rfl,l8Hold t t.pc f,?_,rfl,rfl,rfl⟩
     simp only[l8Hold];split<;>(try split)<;>(try split)<;>rfl
  ·rintro e _ _ ⟨rfl,t',hr,rfl,rfl,he⟩
   simp only[List.map,lj,and_true] at he
   simp only[he]
   have hv' : Ints _ _ _:=hv.le (hR1.trans hR2)
   refine jput (p:=p) (S1.setT i t') (by exact ok2) h0 (by rw[hS1.1];exact h1) (by rw[hr];exact hv') (by rfl) λg3 ok3=>?_
   exact jretS (hR1.trans hR2) trivial rfl ok3
end Go.Lf
end
section
namespace Go.Lf
open Go Sm
theorem x_run_bool (a b:Bool) (x y:Operand) (w:World):(do eqGuard .neq 4 x y (.bool a) (.bool b);binOp .neq 4 (.bool a) (.bool b):Sem Value).run P w = .ok (.bool (a != b)) w:=by
 cases a<;>cases b<;>kernel_rfl
theorem jxb {a b:Bool} {x y:Operand} {R:RM} {D:Chs} {k:Value→M} (H:J R D (k (.bool (a != b)))):J R D (X P (do eqGuard .neq T_bool x y (.bool a) (.bool b);binOp .neq T_bool (.bool a) (.bool b)) k):=by
 intro h hs w hw
 have:=x_run_bool a b x y w
 rw[this]
 subst hw
 exact⟨Same.refl _,H _ hs⟩
end Go.Lf
end
section
namespace Go.Lf
open Go Sm
theorem x_flds:(P.fieldsOf T_Region).toList.map (λf=>(f.name != "_",f.type,f.offset)) = [(true,T_int,0),(true,T_int,1),(true,T_int,2),(true,T_int,3),(true,T_int,4)]:=by kernel_rfl
theorem x_part (f:Nat) (o:Nat) (xs:List Value) (v:Value) (w:World) (h:xs[o]? = some v):(part T_int xs.toArray o).run P w = .ok v w:=
 run_part_plain w (by kernel_rfl) (by simpa using h)
theorem x_fields (d:Nat) (w:World) (xs ys:List Value):∀(fs:List Field) (os:List Nat) (ps bs:List Int),fs.map (λf=>(f.name != "_",f.type,f.offset)) = os.map (λo=>(true,T_int,o))→os.map (xs[·]?) = ps.map (λa=>some (I a))→os.map (ys[·]?) = bs.map (λb=>some (I b))→
  (Op.eqFields (d + 1) xs.toArray ys.toArray fs).run P w = .ok (ps == bs) w:=by
 intro fs
 induction fs with
 | nil=>intro os ps bs h1 h2 h3;cases os<;>simp at h1;cases ps<;>simp at h2;cases bs<;>simp at h3;simp[Op.eqFields]
 | cons f fs ih=>
  intro os ps bs h1 h2 h3
  cases os with
  | nil=>simp at h1
  | cons o os=>
   cases ps with
   | nil=>simp at h2
   | cons a ps=>
    cases bs with
    | nil=>simp at h3
    | cons b bs=>
     simp only[List.map_cons,lj,Prod.mk.injEq] at h1 h2 h3
     obtain⟨⟨n1,n2,n3⟩,h1⟩:=h1
     have n1' : f.name≠ "_":=by simpa using n1
     simp only[Op.eqFields,if_pos n1',Sem.run_bind]
     rw[n2,n3,x_part 0 o xs (I a) w h2.1]
     simp only[Result.andThen_ok]
     rw[x_part 0 o ys (I b) w h3.1]
     simp only[Result.andThen_ok]
     rw[run_equalIn_int w d T_int .i64 .i64 a b (by kernel_rfl)]
     simp only[Result.andThen_ok]
     cases hb:(a == b)
     ·simp[hb]
     ·simp[hb,ih os ps bs h1 h2.2 h3.2]
theorem jxrg {a b:Rg} {x y:Operand} {R:RM} {D:Chs} {k:Value→M} (H:J R D (k (.bool (!(a == b))))):J R D (X P (do eqGuard .neq T_Region x y (.agg (eRg a).toArray) (.agg (eRg b).toArray);binOp .neq T_Region (.agg (eRg a).toArray) (.agg (eRg b).toArray)) k):=by
 intro h hs w hw
 have hfs:=x_flds
 rw[Sem.run_bind,run_eqGuard_agg _ _ _ _ _ _ _ (by kernel_rfl)]
 simp only[Result.andThen_ok]
 rw[run_neq_struct,run_equalIn_struct w 9999 T_Region _ _ (by kernel_rfl) (by kernel_rfl)]
 rw[x_fields 9998 w (eRg a) (eRg b) _ [0,1,2,3,4] [a.kind,a.owner,a.top,a.tams,a.live] [b.kind,b.owner,b.top,b.tams,b.live] hfs rfl rfl]
 simp only[Result.andThen_ok]
 have:([a.kind,a.owner,a.top,a.tams,a.live] == [b.kind,b.owner,b.top,b.tams,b.live]) = (a == b):=by
  rw[Bool.eq_iff_iff]
  obtain⟨a1,a2,a3,a4,a5⟩:=a
  obtain⟨b1,b2,b3,b4,b5⟩:=b
  simp
 rw[this]
 subst hw
 exact⟨Same.refl _,H _ hs⟩
end Go.Lf
end
section
namespace Go.Lf
open Go Sm
def Ro (f:Nat) (args:List Value) (v:Value) (R:RM) (D:Chs):Prop:=Fn P f args R D λv' _ A=>v' = v∧A = D
theorem jro {f:Nat} {args:List Value} {v:Value} {R:RM} {D:Chs} {k:Value→M} (hF:Ro f args v R D) (H:J R D (k v)):J R D (CA P f args k):=by
 intro h hs
 refine CA_mono ?_ (hF [] h (by simpa using hs))
 rintro v' h' ⟨R',A',h1,h2,rfl,rfl⟩
 exact H h' (by simpa using h2.le h1)
theorem ro_ret {v v' : Value} {R:RM} {D E G F:Chs} (hv:v' = v) [s:Sp G (D ++ F) E]:J R G (POST R F (λv' _ A=>v' = v∧A = D) v'):=by
 intro h hs
 refine⟨R,D,RM.le.refl R,?_,hv,rfl⟩
 exact (hs.perm s.p).keep
theorem jln {R:RM} {D:Chs} {a:Option Addr} {n c:Nat} {k:Value→M} (H:J R D (k (I n))):J R D (LN (.slice a n c) k):=H
def Or2 (c u:Value) (v:Bool):Prop:=∀k:Value→M,PK c (.bool true) u k = k (.bool v)
def And2 (c u:Value) (v:Bool):Prop:=∀k:Value→M,PK c u (.bool false) k = k (.bool v)
theorem or2_t {u:Value}:Or2 (.bool true) u true:=λ_=>rfl
theorem or2_f {b:Bool}:Or2 (.bool false) (.bool b) b:=λ_=>rfl
theorem and2_t {b:Bool}:And2 (.bool true) (.bool b) b:=λ_=>rfl
theorem and2_f {u:Value}:And2 (.bool false) u false:=λ_=>rfl
section cuts
variable {R:RM} {D:Chs} {lv:List Nat} {B:(List Value→M)→M} {K:Env→M}
theorem jor (pre:List Value) (v:Bool) (H1:∀K' : List Value→M,(∀c u w,Or2 c u w→w = v→J R D (K' (pre ++ [c,u])))→J R D (B K')) (H2:∀e c u,Or2 c u v→lv.map e = pre ++ [c,u]→J R D (K e)):J R D (CUT lv B K):=
 jcutq (λvs R' D'=>R' = R∧D' = D∧∃c u,vs = pre ++ [c,u]∧Or2 c u v) (λK' h=>H1 K' λc u w hc hw=>h _ _ _ ⟨rfl,rfl,c,u,rfl,hw▸hc⟩) λe R' D' ⟨h1,h2,c,u,h3,h4⟩=>by
  subst h1 h2;exact H2 e c u h4 h3
theorem jan (pre:List Value) (v:Bool) (H1:∀K' : List Value→M,(∀c u w,And2 c u w→w = v→J R D (K' (pre ++ [c,u])))→J R D (B K')) (H2:∀e c u,And2 c u v→lv.map e = pre ++ [c,u]→J R D (K e)):J R D (CUT lv B K):=
 jcutq (λvs R' D'=>R' = R∧D' = D∧∃c u,vs = pre ++ [c,u]∧And2 c u v) (λK' h=>H1 K' λc u w hc hw=>h _ _ _ ⟨rfl,rfl,c,u,rfl,hw▸hc⟩) λe R' D' ⟨h1,h2,c,u,h3,h4⟩=>by
  subst h1 h2;exact H2 e c u h4 h3
theorem jsame (pre:List Value) (H1:∀K' : List Value→M,J R D (K' pre)→J R D (B K')) (H2:∀e,lv.map e = pre→J R D (K e)):J R D (CUT lv B K):=
 jcutq (λvs R' D'=>R' = R∧D' = D∧vs = pre) (λK' h=>H1 K' (h _ _ _ ⟨rfl,rfl,rfl⟩)) λe R' D' ⟨h1,h2,h3⟩=>by
  subst h1 h2;exact H2 e h3
end cuts
theorem row_cell {t:List Rg} {sp:List Value} {i:Nat} (h:i < t.length) {f:Nat} {v:Value} (hv:(eRg (t[i]))[f]? = some v):(rowsE eRg t ++ sp)[i * 5 + f]? = some v:=by
 have:=rowsE_get (f:=eRg) (w:=5) (λ_=>rfl) (sp:=sp) h
 have e2:=congrArg (λl=>l[f]?) this
 simp only[List.getElem?_take,List.getElem?_drop] at e2
 have hf:f < 5:=by
  by_cases c:f < 5
  ·exact c
  ·have:(eRg (t[i]))[f]? = none:=List.getElem?_eq_none (by show 5≤f;omega)
   rw[this] at hv;cases hv
 rw[if_pos hf] at e2
 rw[e2,hv]
theorem row_len {t:List Rg} {sp:List Value} {i:Nat} (h:i < t.length):i * 5 + 5≤(rowsE eRg t ++ sp).length:=by
 rw[List.length_append,rowsE_size (w:=5) (λ_=>rfl)];omega
section table
variable {t:List Rg} {sp:List Value} {b cap:Nat} {R:RM} {D:Chs}
theorem r_l4Own (owner:Int) (hl:t.length < 1000000) [a:At D b (C T_Region (rowsE eRg t ++ sp))]:Ro F_s_l4Own [.slice (some ⟨b,0,none⟩) t.length cap,I owner] (I (own t owner)) R D:=by
 refine s_s_l4Own λF=>?_
 unfold c_s_l4Own
 have ex:=find_row (λx=>x.kind == 2 && x.owner == owner) t
 refine jlp (λn vs R' D'=>R' = R∧D' = D ++ F∧∃r:Nat,1≤r∧r≤t.length + 1∧vs = [.slice (some ⟨b,0,none⟩) t.length cap,I owner,I r]∧n = t.length + 1 - r∧own t owner = findFrom (λx=>x.kind == 2 && x.owner == owner) r (t.drop r))
  (n:=t.length) ⟨rfl,rfl,1,by omega,by omega,rfl,by omega,by rw[own,List.drop_one]⟩ ?_
 rintro n e R' D' K ⟨rfl,rfl,r,r0,hr,he,hn,hown⟩ hK
 simp only[List.map,lc,ln,lj,and_true] at he
 simp only[he]
 refine jln (jlt (jif (λhc=>?_) (λhc=>?_)))
 ·have hc:r < t.length:=by have:=of_decide_eq_true hc;omega
  have hd:t.drop r = t[r] :: t.drop (r + 1):=List.drop_eq_getElem_cons hc
  rw[hd] at hown
  simp only[findFrom] at hown
  refine jan [.slice (some ⟨b,0,none⟩) t.length cap,I owner,I r] (t[r].kind == 2 && t[r].owner == owner) (λK' hK'=>?_) (λe c u h2 he=>?_)
  ·refine jia (by omega) (by omega) ?_
   refine jl (v:=I t[r].kind) ?_ (jeq (jgtt (λh1=>?_) (λh1=>?_)))
   ·rw[Nat.zero_add];exact row_cell (f:=0) hc rfl
   ·refine jia (by omega) (by omega) ?_
    refine jl (v:=I t[r].owner) ?_ (jeq (hK' _ _ _ (h1▸and2_t) (by rw[h1,Bool.true_and])))
    rw[Nat.zero_add];exact row_cell (f:=1) hc rfl
   ·exact hK' _ _ _ (h1▸and2_f) (by rw[h1,Bool.false_and])
  ·simp only[List.map,lc,ln,lj,and_true] at he
   simp only[he]
   rw[h2]
   refine jif (λh=>?_) (λh=>?_)
   ·rw[if_pos h] at hown
    exact ro_ret (by rw[hown])
   ·rw[if_neg (by rw[h];decide)] at hown
    refine jadd ⟨by omega,by omega⟩ ?_
    exact hK (t.length + 1 - (r + 1)) _ _ _ (by omega) ⟨rfl,rfl,r + 1,by omega,by omega,rfl,rfl,hown⟩
 ·have hc:¬ r < t.length:=by have:=of_decide_eq_false hc;omega
  rw[List.drop_eq_nil_of_le (by omega)] at hown
  exact ro_ret (by rw[hown];rfl)
end table
end Go.Lf
end
section
namespace Go.Lf
open Go Sm
section table
variable {t:List Rg} {sp:List Value} {b cap:Nat} {R:RM} {D:Chs}
theorem rv_at {t:List Rg} {r:Nat} (h:r < t.length):rv t r = t[r]:=gv_get h
theorem r_TableOk (hl:t.length < 1000000) [a:At D b (C T_Region (rowsE eRg t ++ sp))]:Ro F_s_TableOk [.slice (some ⟨b,0,none⟩) t.length cap] (.bool (tableOk t)) R D:=by
 refine s_s_TableOk λF=>?_
 unfold c_s_TableOk
 have nok:(TOk t→False)→Value.bool false = Value.bool (tableOk t):=λh=>by
  cases hh:tableOk t
  ·rfl
  ·exact (h (tableOk_iff.1 hh)).elim
 refine jor [.slice (some ⟨b,0,none⟩) t.length cap] (decide ((t.length:Int) < 2) || decide ((t.length:Int) > 12)) (λK' hK'=>?_) (λe c u ho he=>?_)
 ·refine jln (jlt (jgtf (λh1=>?_) (λh1=>?_)))
  ·exact jln (jgr (hK' _ _ _ (h1▸or2_f) (by rw[h1,Bool.false_or])))
  ·exact hK' _ _ _ (h1▸or2_t) (by rw[h1,Bool.true_or])
 simp only[List.map,lc,ln,lj,and_true] at he
 simp only[he]
 refine jor [.slice (some ⟨b,0,none⟩) t.length cap] ((decide ((t.length:Int) < 2) || decide ((t.length:Int) > 12)) || !(rv t 0 == edge)) (λK' hK'=>?_) (λe c u ho he=>?_)
 ·rw[ho]
  refine jgtf (λh1=>?_) (λh1=>?_)
  ·have h1':=h1
   simp only[Bool.or_eq_false_iff,decide_eq_false_iff_not] at h1'
   have h0:0 < t.length:=by omega
   refine jia (by omega) (by omega) ?_
   refine jla (l:=eRg (t[0])) (row_len h0) (rowsE_get (f:=eRg) (w:=5) (λ_=>rfl) h0) ?_
   refine jbd (cs:=[I 0,I (-1),I 0,I 0,I 0]) rfl rfl ?_
   have ee:[I 0,I (-1),I 0,I 0,I 0] = eRg edge:=rfl
   rw[ee]
   refine @jxrg (t[0]) edge _ _ _ _ _ ?_
   refine hK' _ _ _ (h1▸or2_f) ?_
   rw[h1,Bool.false_or,show rv t 0 = t[0] from rv_at h0]
  ·exact hK' _ _ _ (h1▸or2_t) (by rw[h1,Bool.true_or])
 simp only[List.map,lc,ln,lj,and_true] at he
 simp only[he]
 rw[ho]
 refine jif (λh0=>?_) (λh0=>?_)
 ·refine ro_ret (nok λT=>?_)
  have n0:=T.n0
  have n1:=T.n1
  have e:=T.e
  simp only[Bool.or_eq_true,decide_eq_true_eq,Bool.not_eq_true',beq_eq_false_iff_ne] at h0
  rcases h0 with (h | h) | h
  ·omega
  ·omega
  ·exact h e
 simp only[Bool.or_eq_false_iff,decide_eq_false_iff_not,Bool.not_eq_false',beq_iff_eq] at h0
 obtain⟨⟨n0,n1⟩,hedge⟩:=h0
 refine jlp (λn vs R' D'=>R' = R∧D' = D ++ F∧∃r:Nat,1≤r∧r≤t.length∧vs = [.slice (some ⟨b,0,none⟩) t.length cap,I r]∧n = t.length - r∧(∀k:Nat,1≤k→k < r→RowP k (rv t k)∧∀m:Nat,1≤m→m < k→0≤(rv t k).owner→(rv t m).owner≠(rv t k).owner))
  (n:=t.length - 1) ⟨rfl,rfl,1,by omega,by omega,rfl,rfl,λk h1 h2=>by omega⟩ ?_
 rintro n e R' D' K ⟨rfl,rfl,r,r0,hr,he,hn,hinv⟩ hK
 simp only[List.map,lc,ln,lj,and_true] at he
 simp only[he]
 refine jln (jlt (jif (λhc=>?_) (λhc=>?_)))
 rotate_left
 ·have hc:=of_decide_eq_false hc
  refine ro_ret ?_
  rw[tableOk_iff.2 ⟨by omega,by omega,hedge,λq q0 q1=>?_,λq s q0 q1 s0 s1 hoo heq=>?_⟩]
  ·have:=(hinv q.toNat (by omega) (by omega)).1
   rwa [show ((q.toNat:Nat):Int) = q from by omega] at this
  ·have h1:=(hinv q.toNat (by omega) (by omega)).2 s.toNat (by omega)
   have h2:=(hinv s.toNat (by omega) (by omega)).2 q.toNat (by omega)
   rw[show ((q.toNat:Nat):Int) = q from by omega,show ((s.toNat:Nat):Int) = s from by omega] at h1 h2
   rcases Int.lt_trichotomy q s with c | c | c
   ·exact absurd heq (h2 (by omega) (by rw[← heq];exact hoo))
   ·exact c
   ·exact absurd heq.symm (h1 (by omega) hoo)
 have hc:=of_decide_eq_true hc
 have hrl:r < t.length:=by omega
 have hrv:=rv_at hrl
 have hb:=base_eq (r:=(r:Int)) (by omega) (by omega)
 refine jcutq (λvs R2 D2=>R2 = R'∧D2 = D ++ F∧vs = [.slice (some ⟨b,0,none⟩) t.length cap,I r]∧RowP r (rv t r)∧∀m:Nat,1≤m→m < r→0≤(rv t r).owner→(rv t m).owner≠(rv t r).owner) (λK2 hK2=>?_) ?_
 rotate_left
 ·rintro e _ _ ⟨rfl,rfl,he,hrow,hun⟩
  simp only[List.map,lc,ln,lj,and_true] at he
  simp only[he]
  refine jadd ⟨by omega,by omega⟩ ?_
  refine hK (t.length - (r + 1)) _ _ _ (by omega) ⟨rfl,rfl,r + 1,by omega,by omega,rfl,rfl,λk k1 k2=>?_⟩
  by_cases c:k = r
  ·subst c;exact⟨hrow,hun⟩
  ·exact hinv k k1 (by omega)
 refine jcutq (λvs R2 D2=>R2 = R'∧D2 = D ++ F∧vs = [.slice (some ⟨b,0,none⟩) t.length cap,I r]∧RowP r (rv t r)∧∀m:Nat,1≤m→m < r→0≤(rv t r).owner→(rv t m).owner≠(rv t r).owner) (λK3 hK3=>?_) ?_
 rotate_left
 ·rintro e _ _ ⟨rfl,rfl,he,hrow,hun⟩
  simp only[List.map,lc,ln,lj,and_true] at he
  simp only[he]
  exact hK2 _ _ _ ⟨rfl,rfl,rfl,hrow,hun⟩
 refine jia (by omega) (by omega) ?_
 refine jla (l:=eRg (t[r])) (by rw[Nat.zero_add];exact row_len hrl) (by rw[Nat.zero_add];exact rowsE_get (f:=eRg) (w:=5) (λ_=>rfl) hrl) ?_
 refine ja λbx=>?_
 refine js (cs':=eRg (t[r])) rfl rfl (by simp) rfl ?_
 refine jp (p_RegionBase r) ?_
 rw[hb]
 refine jor [.slice (some ⟨b,0,none⟩) t.length cap,I r,.pointer (some ⟨bx,0,none⟩),I (16 * (r:Int))] (decide (t[r].kind < 1) || decide (t[r].kind > 4)) (λK' hK'=>?_) (λe c u ho he=>?_)
 ·refine jl (v:=I t[r].kind) rfl (jlt (jgtf (λh1=>?_) (λh1=>?_)))
  ·have h1':=h1
   simp only[Bool.or_eq_false_iff,decide_eq_false_iff_not] at h1'
   refine jl (v:=I t[r].kind) rfl (jgr (hK' _ _ _ (h1▸or2_f) (by rw[h1,Bool.false_or])))
  ·exact hK' _ _ _ (h1▸or2_t) (by rw[h1,Bool.true_or])
 simp only[List.map,lc,ln,lj,and_true] at he
 simp only[he]
 refine jor [.slice (some ⟨b,0,none⟩) t.length cap,I r,.pointer (some ⟨bx,0,none⟩),I (16 * (r:Int))] ((decide (t[r].kind < 1) || decide (t[r].kind > 4)) || decide (t[r].top < 16 * r)) (λK' hK'=>?_) (λe c u ho he=>?_)
 ·rw[ho]
  refine jgtf (λh1=>?_) (λh1=>?_)
  ·have h1':=h1
   simp only[Bool.or_eq_false_iff,decide_eq_false_iff_not] at h1'
   refine jl (v:=I t[r].top) rfl (jlt (hK' _ _ _ (h1▸or2_f) (by rw[h1,Bool.false_or])))
  ·exact hK' _ _ _ (h1▸or2_t) (by rw[h1,Bool.true_or])
 simp only[List.map,lc,ln,lj,and_true] at he
 simp only[he]
 refine jor [.slice (some ⟨b,0,none⟩) t.length cap,I r,.pointer (some ⟨bx,0,none⟩),I (16 * (r:Int))] (((decide (t[r].kind < 1) || decide (t[r].kind > 4)) || decide (t[r].top < 16 * r)) || decide (t[r].top > 16 * r + 16)) (λK' hK'=>?_) (λe c u ho he=>?_)
 ·rw[ho]
  refine jgtf (λh1=>?_) (λh1=>?_)
  ·have h1':=h1
   simp only[Bool.or_eq_false_iff,decide_eq_false_iff_not] at h1'
   refine jl (v:=I t[r].top) rfl (jadd ⟨by omega,by omega⟩ (jgr (hK' _ _ _ (h1▸or2_f) (by rw[h1,Bool.false_or]))))
  ·exact hK' _ _ _ (h1▸or2_t) (by rw[h1,Bool.true_or])
 simp only[List.map,lc,ln,lj,and_true] at he
 simp only[he]
 refine jor [.slice (some ⟨b,0,none⟩) t.length cap,I r,.pointer (some ⟨bx,0,none⟩),I (16 * (r:Int))] ((((decide (t[r].kind < 1) || decide (t[r].kind > 4)) || decide (t[r].top < 16 * r)) || decide (t[r].top > 16 * r + 16)) || decide (t[r].tams < 16 * r)) (λK' hK'=>?_) (λe c u ho he=>?_)
 ·rw[ho]
  refine jgtf (λh1=>?_) (λh1=>?_)
  ·have h1':=h1
   simp only[Bool.or_eq_false_iff,decide_eq_false_iff_not] at h1'
   refine jl (v:=I t[r].tams) rfl (jlt (hK' _ _ _ (h1▸or2_f) (by rw[h1,Bool.false_or])))
  ·exact hK' _ _ _ (h1▸or2_t) (by rw[h1,Bool.true_or])
 simp only[List.map,lc,ln,lj,and_true] at he
 simp only[he]
 refine jor [.slice (some ⟨b,0,none⟩) t.length cap,I r,.pointer (some ⟨bx,0,none⟩),I (16 * (r:Int))] (((((decide (t[r].kind < 1) || decide (t[r].kind > 4)) || decide (t[r].top < 16 * r)) || decide (t[r].top > 16 * r + 16)) || decide (t[r].tams < 16 * r)) || decide (t[r].tams > t[r].top)) (λK' hK'=>?_) (λe c u ho he=>?_)
 ·rw[ho]
  refine jgtf (λh1=>?_) (λh1=>?_)
  ·have h1':=h1
   simp only[Bool.or_eq_false_iff,decide_eq_false_iff_not] at h1'
   refine jl (v:=I t[r].tams) rfl (jl (v:=I t[r].top) rfl (jgr (hK' _ _ _ (h1▸or2_f) (by rw[h1,Bool.false_or]))))
  ·exact hK' _ _ _ (h1▸or2_t) (by rw[h1,Bool.true_or])
 simp only[List.map,lc,ln,lj,and_true] at he
 simp only[he]
 refine jor [.slice (some ⟨b,0,none⟩) t.length cap,I r,.pointer (some ⟨bx,0,none⟩),I (16 * (r:Int))] ((((((decide (t[r].kind < 1) || decide (t[r].kind > 4)) || decide (t[r].top < 16 * r)) || decide (t[r].top > 16 * r + 16)) || decide (t[r].tams < 16 * r)) || decide (t[r].tams > t[r].top)) || decide (t[r].live < 0)) (λK' hK'=>?_) (λe c u ho he=>?_)
 ·rw[ho]
  refine jgtf (λh1=>?_) (λh1=>?_)
  ·have h1':=h1
   simp only[Bool.or_eq_false_iff,decide_eq_false_iff_not] at h1'
   refine jl (v:=I t[r].live) rfl (jlt (hK' _ _ _ (h1▸or2_f) (by rw[h1,Bool.false_or])))
  ·exact hK' _ _ _ (h1▸or2_t) (by rw[h1,Bool.true_or])
 simp only[List.map,lc,ln,lj,and_true] at he
 simp only[he]
 refine jor [.slice (some ⟨b,0,none⟩) t.length cap,I r,.pointer (some ⟨bx,0,none⟩),I (16 * (r:Int))] (((((((decide (t[r].kind < 1) || decide (t[r].kind > 4)) || decide (t[r].top < 16 * r)) || decide (t[r].top > 16 * r + 16)) || decide (t[r].tams < 16 * r)) || decide (t[r].tams > t[r].top)) || decide (t[r].live < 0)) || decide (t[r].live > t[r].top - 16 * r)) (λK' hK'=>?_) (λe c u ho he=>?_)
 ·rw[ho]
  refine jgtf (λh1=>?_) (λh1=>?_)
  ·have h1':=h1
   simp only[Bool.or_eq_false_iff,decide_eq_false_iff_not] at h1'
   refine jl (v:=I t[r].live) rfl (jl (v:=I t[r].top) rfl (jsub ⟨by omega,by omega⟩ (jgr (hK' _ _ _ (h1▸or2_f) (by rw[h1,Bool.false_or])))))
  ·exact hK' _ _ _ (h1▸or2_t) (by rw[h1,Bool.true_or])
 simp only[List.map,lc,ln,lj,and_true] at he
 simp only[he]
 rw[ho]
 refine jif (λh0=>?_) (λh0=>?_)
 ·refine jdrop (ro_ret (nok λT=>?_))
  have P:=T.row r (by omega) (by omega)
  rw[hrv] at P
  obtain⟨p1,p2,p3,p4,p5,p6,p7,p8,_⟩:=P
  simp only[Bool.or_eq_true,decide_eq_true_eq] at h0
  omega
 simp only[Bool.or_eq_false_iff,decide_eq_false_iff_not] at h0
 obtain⟨⟨⟨⟨⟨⟨⟨q1,q2⟩,q3⟩,q4⟩,q5⟩,q6⟩,q7⟩,q8⟩:=h0
 refine jan [.slice (some ⟨b,0,none⟩) t.length cap,I r,.pointer (some ⟨bx,0,none⟩)] (t[r].kind == 1 && t[r].top != 16 * (r:Int)) (λK' hK'=>?_) (λe c u ho he=>?_)
 ·refine jl (v:=I t[r].kind) rfl (jeq (jgtt (λh1=>?_) (λh1=>?_)))
  ·exact jl (v:=I t[r].top) rfl (jne (hK' _ _ _ (h1▸and2_t) (by rw[h1,Bool.true_and])))
  ·exact hK' _ _ _ (h1▸and2_f) (by rw[h1,Bool.false_and])
 simp only[List.map,lc,ln,lj,and_true] at he
 simp only[he]
 rw[ho]
 refine jif (λh0=>?_) (λh0=>?_)
 ·refine jdrop (ro_ret (nok λT=>?_))
  have P:=T.row r (by omega) (by omega)
  rw[hrv] at P
  have p9:=P.fr
  simp only[Bool.and_eq_true,beq_iff_eq,bne_iff_ne,ne_eq] at h0
  exact h0.2 (p9 h0.1)
 have hfr:t[r].kind = 1→t[r].top = 16 * r:=λhk=>by
  simp only[hk,beq_self_eq_true,Bool.true_and,bne_eq_false_iff_eq] at h0;exact h0
 clear h0
 refine jor [.slice (some ⟨b,0,none⟩) t.length cap,I r,.pointer (some ⟨bx,0,none⟩)] (((t[r].kind == 2) != decide (t[r].owner≥0)) || decide (t[r].owner < -1)) (λK' hK'=>?_) (λe c u ho he=>?_)
 ·refine jl (v:=I t[r].kind) rfl (jeq (jl (v:=I t[r].owner) rfl (jge ?_)))
  refine @jxb (t[r].kind == 2) (decide (t[r].owner≥0)) _ _ _ _ _ ?_
  refine jgtf (λh1=>?_) (λh1=>?_)
  ·exact jl (v:=I t[r].owner) rfl (jlt (hK' _ _ _ (h1▸or2_f) (by rw[h1,Bool.false_or])))
  ·exact hK' _ _ _ (h1▸or2_t) (by rw[h1,Bool.true_or])
 simp only[List.map,lc,ln,lj,and_true] at he
 simp only[he]
 refine jor [.slice (some ⟨b,0,none⟩) t.length cap,I r,.pointer (some ⟨bx,0,none⟩)] ((((t[r].kind == 2) != decide (t[r].owner≥0)) || decide (t[r].owner < -1)) || decide (t[r].owner > 3)) (λK' hK'=>?_) (λe c u ho he=>?_)
 ·rw[ho]
  refine jgtf (λh1=>?_) (λh1=>?_)
  ·exact jl (v:=I t[r].owner) rfl (jgr (hK' _ _ _ (h1▸or2_f) (by rw[h1,Bool.false_or])))
  ·exact hK' _ _ _ (h1▸or2_t) (by rw[h1,Bool.true_or])
 simp only[List.map,lc,ln,lj,and_true] at he
 simp only[he]
 rw[ho]
 have how:((t[r].kind == 2) != decide (t[r].owner≥0)) = false↔(t[r].kind = 2↔0≤t[r].owner):=by
  rw[bne_eq_false_iff_eq,Bool.eq_iff_iff];simp
 refine jif (λh0=>?_) (λh0=>?_)
 ·refine jdrop (ro_ret (nok λT=>?_))
  have P:=T.row r (by omega) (by omega)
  rw[hrv] at P
  rw[how.2 P.ow] at h0
  have o0:=P.o0
  have o1:=P.o1
  simp only[Bool.false_or,Bool.or_eq_true,decide_eq_true_eq] at h0
  omega
 simp only[Bool.or_eq_false_iff,decide_eq_false_iff_not] at h0
 obtain⟨⟨w1,w2⟩,w3⟩:=h0
 have hrow:RowP r (rv t r):=by
  rw[hrv]
  exact⟨by omega,by omega,by omega,by omega,by omega,by omega,by omega,by omega,hfr,how.1 w1,by omega,by omega⟩
 refine jcutq (λvs R2 D2=>R2 = R'∧D2 = (bx,C T_Region (eRg (t[r]))) :: (D ++ F)∧vs = [.slice (some ⟨b,0,none⟩) t.length cap,I r]∧∀m:Nat,1≤m→m < r→0≤(rv t r).owner→(rv t m).owner≠(rv t r).owner) (λK4 hK4=>?_) ?_
 rotate_left
 ·rintro e _ _ ⟨rfl,rfl,he,hun⟩
  simp only[List.map,lc,ln,lj,and_true] at he
  simp only[he]
  exact jdrop (hK3 _ _ _ ⟨rfl,rfl,rfl,hrow,hun⟩)
 refine jlp (λn vs R2 D2=>R2 = R'∧D2 = (bx,C T_Region (eRg (t[r]))) :: (D ++ F)∧∃k:Nat,1≤k∧k≤r∧vs = [.slice (some ⟨b,0,none⟩) t.length cap,I r,.pointer (some ⟨bx,0,none⟩),I k]∧n = r - k∧∀m:Nat,1≤m→m < k→0≤(rv t r).owner→(rv t m).owner≠(rv t r).owner)
  (n:=r - 1) ⟨rfl,rfl,1,by omega,by omega,rfl,rfl,λm h1 h2=>by omega⟩ ?_
 rintro n e _ _ K' ⟨rfl,rfl,k,k0,k1,he,hn,hun⟩ hK'
 simp only[List.map,lc,ln,lj,and_true] at he
 simp only[he]
 refine jlt (jif (λhd=>?_) (λhd=>?_))
 rotate_left
 ·have hd:=of_decide_eq_false hd
  exact hK4 _ _ _ ⟨rfl,rfl,rfl,λm h1 h2=>hun m h1 (by omega)⟩
 have hd:=of_decide_eq_true hd
 have hkl:k < t.length:=by omega
 refine jan [.slice (some ⟨b,0,none⟩) t.length cap,I r,.pointer (some ⟨bx,0,none⟩),I k] (decide (t[r].owner≥0) && t[k].owner == t[r].owner) (λK5 hK5=>?_) (λe c u ho he=>?_)
 ·refine jl (v:=I t[r].owner) rfl (jge (jgtt (λh1=>?_) (λh1=>?_)))
  ·refine jia (by omega) (by omega) ?_
   refine jl (v:=I t[k].owner) (by rw[Nat.zero_add];exact row_cell (f:=1) hkl rfl) ?_
   exact jl (v:=I t[r].owner) rfl (jeq (hK5 _ _ _ (h1▸and2_t) (by rw[h1,Bool.true_and])))
  ·exact hK5 _ _ _ (h1▸and2_f) (by rw[h1,Bool.false_and])
 simp only[List.map,lc,ln,lj,and_true] at he
 simp only[he]
 rw[ho]
 refine jif (λh0=>?_) (λh0=>?_)
 ·refine jdrop (ro_ret (nok λT=>?_))
  simp only[Bool.and_eq_true,decide_eq_true_eq,beq_iff_eq] at h0
  have:=T.own r k (by omega) (by omega) (by omega) (by omega) (by rw[hrv];exact h0.1) (by rw[hrv,rv_at hkl];exact h0.2.symm)
  omega
 refine jadd ⟨by omega,by omega⟩ ?_
 refine hK' (r - (k + 1)) _ _ _ (by omega) ⟨rfl,rfl,k + 1,by omega,by omega,rfl,rfl,λm h1 h2 hoo=>?_⟩
 by_cases c:m = k
 ·subst c
  rw[hrv] at hoo ⊢
  rw[rv_at hkl]
  intro heq
  simp[heq,hoo] at h0
 ·exact hun m h1 (by omega) hoo
end table
end Go.Lf
end
section
namespace Go.Lf
open Go Sm
def Mk (f:Nat) (args:List Value) (R:RM) (D:Chs) (q:Value→Chs→Prop):Prop:=Fn P f args R D λv _ A=>∃N,A = N ++ D∧q v N
theorem jmk {f:Nat} {args:List Value} {R:RM} {D:Chs} {q:Value→Chs→Prop} {k:Value→M} (hF:Mk f args R D q) (H:∀v N,q v N→J R (N ++ D) (k v)):J R D (CA P f args k):=by
 intro h hs
 refine CA_mono ?_ (hF [] h (by simpa using hs))
 rintro v' h' ⟨R',A',h1,h2,N,rfl,hq⟩
 exact H v' N hq h' (by simpa using h2.le h1)
theorem mk_ret {v:Value} {R:RM} {D E G F:Chs} {q:Value→Chs→Prop} (N:Chs) (hv:q v N) [s:Sp G N E] [x:Sf E (D ++ F)]:J R G (POST R F (λv _ A=>∃N,A = N ++ D∧q v N) v):=by
 intro h hs
 obtain⟨X,hX⟩:=x.p
 refine⟨R,N ++ D,RM.le.refl R,?_,N,rfl,hv⟩
 have h1:=hs.perm s.p
 subst hX
 have:St h R (X ++ (N ++ D ++ F)):=h1.perm (by
  rw[List.append_assoc N D F,← List.append_assoc N X,← List.append_assoc X N]
  exact List.Perm.append_right _ List.perm_append_comm)
 exact this.drop
theorem jex {R:RM} {D:Chs} {i:Nat} {vs:Array Value} {v:Value} {k:Value→M} (h:vs.toList[i]? = some v) (H:J R D (k v)):J R D (EX i (.tuple vs) k):=by
 have e:EX i (.tuple vs) k = k v:=by simp only[EX,h]
 rw[e];exact H
theorem jian {R:RM} {D:Chs} {k:Value→M} {n b off len cap r:Nat} (h:r < len) (H:J R D (k (.pointer (some ⟨b,off + r * n,none⟩)))):J R D (IA n (.slice (some ⟨b,off,none⟩) len cap) (I (r:Int)) k):=
 jia (by omega) (by omega) (by rw[Int.toNat_natCast];exact H)
def OwnT (t:List Rg) (v:Value) (N:Chs):Prop:=∃b c sp,t.length≤c∧v = .slice (some ⟨b,0,none⟩) t.length c∧N = [(b,C T_Region (rowsE eRg t ++ sp))]
def QTake (r:Option (List Rg × Int)) (v:Value) (N:Chs):Prop:=match r with
 | none=>v = .tuple #[.slice none 0 0,I 0,.bool false]∧N = []
 | some (t',i)=>∃sv,OwnT t' sv N∧v = .tuple #[sv,I i,.bool true]
def QDrop (r:Option (List Rg)) (v:Value) (N:Chs):Prop:=match r with
 | none=>v = .tuple #[.slice none 0 0,.bool false]∧N = []
 | some t'=>∃sv,OwnT t' sv N∧v = .tuple #[sv,.bool true]
theorem jsrow {t:List Rg} {sp:List Value} {b i:Nat} {x:Rg} {R:RM} {D D' : Chs} {m:M} (hi:i < t.length) [a:At D b (C T_Region (rowsE eRg t ++ sp))] [u:Up D b (C T_Region (rowsE eRg t ++ sp)) (C T_Region (rowsE eRg (t.set i x) ++ sp)) D'] (H:J R D' m):J R D (ST 5 (.pointer (some ⟨b,0 + i * 5,none⟩)) (.agg (eRg x).toArray) m):=by
 rw[Nat.zero_add]
 exact js (cs:=rowsE eRg t ++ sp) (cs':=rowsE eRg (t.set i x) ++ sp) rfl rfl (row_len hi) (rowsE_set (f:=eRg) (w:=5) (λ_=>rfl) hi) H
theorem jlrow {t:List Rg} {sp:List Value} {b i:Nat} {R:RM} {D:Chs} {k:Value→M} (hi:i < t.length) [a:At D b (C T_Region (rowsE eRg t ++ sp))] (H:J R D (k (.agg (eRg (t[i])).toArray))):J R D (LA 5 (.pointer (some ⟨b,0 + i * 5,none⟩)) k):=by
 rw[Nat.zero_add]
 exact jla (cs:=rowsE eRg t ++ sp) (row_len hi) (rowsE_get (f:=eRg) (w:=5) (λ_=>rfl) hi) H
section table
variable {t:List Rg} {sp:List Value} {b cap:Nat} {R:RM} {D:Chs}
theorem m_l4Copy (hl:t.length < 1000000) [a:At D b (C T_Region (rowsE eRg t ++ sp))]:Mk F_s_l4Copy [.slice (some ⟨b,0,none⟩) t.length cap] R D (OwnT t):=by
 refine s_s_l4Copy λF=>?_
 unfold c_s_l4Copy
 have hsz:=rowsE_size (f:=eRg) (w:=5) (λ_=>rfl) t
 refine jbs (cs:=[]) rfl rfl λb0=>?_
 have hr:Reads R ((b0,C 52 []) :: (D ++ F)) (some ⟨b,0,none⟩) (t.length * 5) (rowsE eRg t):=by
  have:=Reads.held (R:=R) (D:=(b0,C 52 []) :: (D ++ F)) (b:=b) (o:=0) (n:=t.length * 5) (t:=T_Region) (cs:=rowsE eRg t ++ sp) (by simp[hsz])
  rw[List.drop_zero,List.take_append_of_le_length (by omega),← hsz,List.take_length] at this
  rw[← hsz];exact this
 refine jap0 (new:=rowsE eRg t) hr (by decide) (by omega) (λ_=>rfl) (λh0=>?_) (λb' c hc=>?_)
 ·have ht:t = []:=List.length_eq_zero_iff.1 h0
  subst ht
  exact mk_ret [(b0,C 52 [])] ⟨b0,0,[],Nat.le_refl _,rfl,rfl⟩
 ·exact mk_ret [(b',C 52 (rowsE eRg t ++ (List.replicate (c - t.length) (cl z52)).flatten))] ⟨b',c,_,hc,rfl,rfl⟩
theorem m_TableTake (owner:Int) (hl:t.length < 1000000) [a:At D b (C T_Region (rowsE eRg t ++ sp))]:Mk F_s_TableTake [.slice (some ⟨b,0,none⟩) t.length cap,I owner] R D (QTake (tableTake t owner)):=by
 refine s_s_TableTake λF=>?_
 unfold c_s_TableTake
 refine jor [.slice (some ⟨b,0,none⟩) t.length cap,I owner] (!tableOk t || decide (owner < 0)) (λK' hK'=>?_) (λe c u ho he=>?_)
 ·refine jro (r_TableOk hl) (jgtf (λh1=>?_) (λh1=>?_))
  ·exact jlt (hK' _ _ _ (h1▸or2_f) (by rw[h1,Bool.false_or]))
  ·exact hK' _ _ _ (h1▸or2_t) (by rw[h1,Bool.true_or])
 simp only[List.map,lc,ln,lj,and_true] at he
 simp only[he]
 refine jor [.slice (some ⟨b,0,none⟩) t.length cap,I owner] ((!tableOk t || decide (owner < 0)) || decide (owner > 3)) (λK' hK'=>?_) (λe c u ho he=>?_)
 ·rw[ho]
  refine jgtf (λh1=>?_) (λh1=>?_)
  ·exact jgr (hK' _ _ _ (h1▸or2_f) (by rw[h1,Bool.false_or]))
  ·exact hK' _ _ _ (h1▸or2_t) (by rw[h1,Bool.true_or])
 simp only[List.map,lc,ln,lj,and_true] at he
 simp only[he]
 refine jor [.slice (some ⟨b,0,none⟩) t.length cap,I owner] (((!tableOk t || decide (owner < 0)) || decide (owner > 3)) || decide (own t owner≥0)) (λK' hK'=>?_) (λe c u ho he=>?_)
 ·rw[ho]
  refine jgtf (λh1=>?_) (λh1=>?_)
  ·exact jro (r_l4Own owner hl) (jge (hK' _ _ _ (h1▸or2_f) (by rw[h1,Bool.false_or])))
  ·exact hK' _ _ _ (h1▸or2_t) (by rw[h1,Bool.true_or])
 simp only[List.map,lc,ln,lj,and_true] at he
 simp only[he]
 rw[ho]
 refine jif (λh0=>?_) (λh0=>?_)
 ·refine mk_ret [] ?_
  have:tableTake t owner = none:=by
   unfold tableTake
   rw[if_neg]
   intro hh
   simp only[Bool.or_eq_true,Bool.not_eq_true',decide_eq_true_eq,Bool.and_eq_true] at h0 hh
   rcases h0 with ((h | h) | h) | h
   ·rw[hh.1.1.1] at h;cases h
   ·omega
   ·omega
   ·omega
  rw[this];exact⟨rfl,rfl⟩
 simp only[Bool.or_eq_false_iff,Bool.not_eq_false',decide_eq_false_iff_not] at h0
 obtain⟨⟨⟨hok,h2⟩,h3⟩,h4⟩:=h0
 have n1:=(tableOk_iff.1 hok).n1
 have eq:tableTake t owner = (let i:=findFrom (λx=>x.kind == 1) 1 t.tail;if i < 0 then none else some (seti t i ⟨2,owner,regionBase i,regionBase i,0⟩,i)):=by
  unfold tableTake
  rw[if_pos (by simp[hok];omega)]
 refine jcutq (λvs R' D'=>R' = R∧D' = D ++ F∧vs = []∧tableTake t owner = none) (λK2 hK2=>?_) ?_
 rotate_left
 ·rintro e _ _ ⟨rfl,rfl,-,hn⟩
  exact mk_ret [] (by rw[hn];exact⟨rfl,rfl⟩)
 refine jlp (λn vs R' D'=>R' = R∧D' = D ++ F∧∃r:Nat,1≤r∧r≤t.length + 1∧vs = [.slice (some ⟨b,0,none⟩) t.length cap,I owner,I r]∧n = t.length + 1 - r∧findFrom (λx=>x.kind == 1) 1 t.tail = findFrom (λx=>x.kind == 1) r (t.drop r))
  (n:=t.length) ⟨rfl,rfl,1,by omega,by omega,rfl,by omega,by rw[List.drop_one]⟩ ?_
 rintro n e R' D' K ⟨rfl,rfl,r,r0,hr,he,hn,hown⟩ hK
 simp only[List.map,lc,ln,lj,and_true] at he
 simp only[he]
 refine jln (jlt (jif (λhc=>?_) (λhc=>?_)))
 rotate_left
 ·have hc:=of_decide_eq_false hc
  refine hK2 _ _ _ ⟨rfl,rfl,rfl,?_⟩
  rw[eq,hown,List.drop_eq_nil_of_le (by omega)];rfl
 have hc:r < t.length:=by have:=of_decide_eq_true hc;omega
 have hd:t.drop r = t[r] :: t.drop (r + 1):=List.drop_eq_getElem_cons hc
 rw[hd] at hown
 simp only[findFrom] at hown
 refine jia (by omega) (by omega) ?_
 refine jl (v:=I t[r].kind) (by rw[Nat.zero_add];exact row_cell (f:=0) hc rfl) ?_
 refine jeq (jif (λh=>?_) (λh=>?_))
 ·rw[if_pos h] at hown
  refine jmk (m_l4Copy hl) ?_
  rintro _ _ ⟨b',c',sp',hc',rfl,rfl⟩
  refine jp (p_RegionBase r) (jp (p_RegionBase r) ?_)
  refine jbd (cs:=eRg ⟨2,owner,regionBase r,regionBase r,0⟩) rfl rfl ?_
  refine jian hc ?_
  refine jsrow (x:=⟨2,owner,regionBase r,regionBase r,0⟩) hc ?_
  refine mk_ret [(b',C T_Region (rowsE eRg (t.set r ⟨2,owner,regionBase r,regionBase r,0⟩) ++ sp'))] ?_
  rw[eq,hown]
  simp only
  rw[if_neg (by omega)]
  refine⟨_,⟨b',c',sp',?_,rfl,?_⟩,?_⟩
  ·simpa [seti] using hc'
  ·simp[seti]
  ·simp
 ·rw[if_neg (by rw[h];decide)] at hown
  refine jadd ⟨by omega,by omega⟩ ?_
  exact hK (t.length + 1 - (r + 1)) _ _ _ (by omega) ⟨rfl,rfl,r + 1,by omega,by omega,rfl,rfl,hown⟩
end table
end Go.Lf
end
section
namespace Go.Lf
open Go Sm
section table
variable {t:List Rg} {sp:List Value} {b cap:Nat} {R:RM} {D:Chs}
theorem m_TableClose (r:Int) (hl:t.length < 1000000) [a:At D b (C T_Region (rowsE eRg t ++ sp))]:Mk F_s_TableClose [.slice (some ⟨b,0,none⟩) t.length cap,I r] R D (QDrop (tableClose t r)):=by
 refine s_s_TableClose λF=>?_
 unfold c_s_TableClose
 refine jor [.slice (some ⟨b,0,none⟩) t.length cap,I r] (!tableOk t || decide (r < 1)) (λK' hK'=>?_) (λe c u ho he=>?_)
 ·refine jro (r_TableOk hl) (jgtf (λh1=>?_) (λh1=>?_))
  ·exact jlt (hK' _ _ _ (h1▸or2_f) (by rw[h1,Bool.false_or]))
  ·exact hK' _ _ _ (h1▸or2_t) (by rw[h1,Bool.true_or])
 simp only[List.map,lc,ln,lj,and_true] at he
 simp only[he]
 refine jor [.slice (some ⟨b,0,none⟩) t.length cap,I r] ((!tableOk t || decide (r < 1)) || decide (r≥t.length)) (λK' hK'=>?_) (λe c u ho he=>?_)
 ·rw[ho]
  refine jgtf (λh1=>?_) (λh1=>?_)
  ·exact jln (jge (hK' _ _ _ (h1▸or2_f) (by rw[h1,Bool.false_or])))
  ·exact hK' _ _ _ (h1▸or2_t) (by rw[h1,Bool.true_or])
 simp only[List.map,lc,ln,lj,and_true] at he
 simp only[he]
 refine jor [.slice (some ⟨b,0,none⟩) t.length cap,I r] (((!tableOk t || decide (r < 1)) || decide (r≥t.length)) || (rv t r).kind != 2) (λK' hK'=>?_) (λe c u ho he=>?_)
 ·rw[ho]
  refine jgtf (λh1=>?_) (λh1=>?_)
  ·have h1':=h1
   simp only[Bool.or_eq_false_iff,decide_eq_false_iff_not] at h1'
   obtain⟨k,rfl⟩:∃k:Nat,r = k:=⟨r.toNat,by omega⟩
   have hk:k < t.length:=by omega
   refine jian hk ?_
   refine jl (v:=I t[k].kind) (by rw[Nat.zero_add];exact row_cell (f:=0) hk rfl) ?_
   exact jne (hK' _ _ _ (h1▸or2_f) (by rw[h1,Bool.false_or,rv_at hk]))
  ·exact hK' _ _ _ (h1▸or2_t) (by rw[h1,Bool.true_or])
 simp only[List.map,lc,ln,lj,and_true] at he
 simp only[he]
 rw[ho]
 refine jif (λh0=>?_) (λh0=>?_)
 ·refine mk_ret [] ?_
  have:tableClose t r = none:=by
   unfold tableClose
   split
   ·rename_i hh
    simp only[Bool.or_eq_true,Bool.not_eq_true',decide_eq_true_eq,Bool.and_eq_true,bne_iff_ne,ne_eq] at h0 hh
    by_cases c:r < t.length
    ·rw[idx_rv (by omega) c]
     simp only
     rw[if_neg]
     intro h2
     rcases h0 with ((h | h) | h) | h
     ·rw[hh.1] at h;cases h
     ·omega
     ·omega
     ·exact h (by simpa using h2)
    ·unfold idx
     rw[if_pos (by omega),List.getElem?_eq_none (by omega)]
   ·rfl
  rw[this];exact⟨rfl,rfl⟩
 simp only[Bool.or_eq_false_iff,Bool.not_eq_false',decide_eq_false_iff_not,bne_eq_false_iff_eq] at h0
 obtain⟨⟨⟨hok,h2⟩,h3⟩,h4⟩:=h0
 obtain⟨k,rfl⟩:∃k:Nat,r = k:=⟨r.toNat,by omega⟩
 have hk:k < t.length:=by omega
 refine jmk (m_l4Copy hl) ?_
 rintro _ _ ⟨b',c',sp',hc',rfl,rfl⟩
 refine jian hk (jlrow hk ?_)
 refine ja λb2=>?_
 refine js (cs':=eRg (t[k])) rfl rfl (by simp) rfl ?_
 refine js (cs':=eRg { t[k] with kind:=3 }) rfl rfl (by simp) rfl ?_
 refine js (cs':=eRg { t[k] with kind:=3,owner:=-1 }) rfl rfl (by simp) rfl ?_
 refine jla (l:=eRg { t[k] with kind:=3,owner:=-1 }) (by simp) rfl ?_
 refine jian hk ?_
 refine jsrow (x:={ t[k] with kind:=3,owner:=-1 }) hk ?_
 refine mk_ret [(b',C T_Region (rowsE eRg (t.set k { t[k] with kind:=3,owner:=-1 }) ++ sp'))] ?_
 have:tableClose t k = some (seti t k { t[k] with kind:=3,owner:=-1 }):=by
  unfold tableClose
  rw[if_pos (by simp[hok];omega),idx_rv (by omega) (by omega),rv_at hk]
  simp only
  rw[rv_at hk] at h4
  rw[if_pos (by simpa using h4)]
 rw[this]
 exact⟨_,⟨b',c',sp',by simpa [seti] using hc',rfl,by simp[seti]⟩,by simp⟩
theorem m_TableDrop (r:Int) (hl:t.length < 1000000) [a:At D b (C T_Region (rowsE eRg t ++ sp))]:Mk F_s_TableDrop [.slice (some ⟨b,0,none⟩) t.length cap,I r] R D (QDrop (tableDrop t r)):=by
 refine s_s_TableDrop λF=>?_
 unfold c_s_TableDrop
 refine jor [.slice (some ⟨b,0,none⟩) t.length cap,I r] (!tableOk t || decide (r < 1)) (λK' hK'=>?_) (λe c u ho he=>?_)
 ·refine jro (r_TableOk hl) (jgtf (λh1=>?_) (λh1=>?_))
  ·exact jlt (hK' _ _ _ (h1▸or2_f) (by rw[h1,Bool.false_or]))
  ·exact hK' _ _ _ (h1▸or2_t) (by rw[h1,Bool.true_or])
 simp only[List.map,lc,ln,lj,and_true] at he
 simp only[he]
 refine jor [.slice (some ⟨b,0,none⟩) t.length cap,I r] ((!tableOk t || decide (r < 1)) || decide (r≥t.length)) (λK' hK'=>?_) (λe c u ho he=>?_)
 ·rw[ho]
  refine jgtf (λh1=>?_) (λh1=>?_)
  ·exact jln (jge (hK' _ _ _ (h1▸or2_f) (by rw[h1,Bool.false_or])))
  ·exact hK' _ _ _ (h1▸or2_t) (by rw[h1,Bool.true_or])
 simp only[List.map,lc,ln,lj,and_true] at he
 simp only[he]
 refine jor [.slice (some ⟨b,0,none⟩) t.length cap,I r] (((!tableOk t || decide (r < 1)) || decide (r≥t.length)) || (rv t r).kind == 1) (λK' hK'=>?_) (λe c u ho he=>?_)
 ·rw[ho]
  refine jgtf (λh1=>?_) (λh1=>?_)
  ·have h1':=h1
   simp only[Bool.or_eq_false_iff,decide_eq_false_iff_not] at h1'
   obtain⟨k,rfl⟩:∃k:Nat,r = k:=⟨r.toNat,by omega⟩
   have hk:k < t.length:=by omega
   refine jian hk ?_
   refine jl (v:=I t[k].kind) (by rw[Nat.zero_add];exact row_cell (f:=0) hk rfl) ?_
   exact jeq (hK' _ _ _ (h1▸or2_f) (by rw[h1,Bool.false_or,rv_at hk]))
  ·exact hK' _ _ _ (h1▸or2_t) (by rw[h1,Bool.true_or])
 simp only[List.map,lc,ln,lj,and_true] at he
 simp only[he]
 rw[ho]
 refine jif (λh0=>?_) (λh0=>?_)
 ·refine mk_ret [] ?_
  have:tableDrop t r = none:=by
   unfold tableDrop
   split
   ·rename_i hh
    simp only[Bool.or_eq_true,Bool.not_eq_true',decide_eq_true_eq,Bool.and_eq_true,beq_iff_eq] at h0 hh
    by_cases c:r < t.length
    ·rw[idx_rv (by omega) c]
     simp only
     rcases h0 with ((h | h) | h) | h
     ·rw[hh.1] at h;cases h
     ·omega
     ·omega
     ·rw[if_pos (by simpa using h)]
    ·unfold idx
     rw[if_pos (by omega),List.getElem?_eq_none (by omega)]
   ·rfl
  rw[this];exact⟨rfl,rfl⟩
 simp only[Bool.or_eq_false_iff,Bool.not_eq_false',decide_eq_false_iff_not,beq_eq_false_iff_ne] at h0
 obtain⟨⟨⟨hok,h2⟩,h3⟩,h4⟩:=h0
 obtain⟨k,rfl⟩:∃k:Nat,r = k:=⟨r.toNat,by omega⟩
 have hk:k < t.length:=by omega
 refine jmk (m_l4Copy hl) ?_
 rintro _ _ ⟨b',c',sp',hc',rfl,rfl⟩
 refine jp (p_RegionBase k) (jp (p_RegionBase k) ?_)
 refine jbd (cs:=eRg (free k)) rfl rfl ?_
 refine jian hk ?_
 refine jsrow (x:=free k) hk ?_
 refine mk_ret [(b',C T_Region (rowsE eRg (t.set k (free k)) ++ sp'))] ?_
 have:tableDrop t k = some (seti t k (free k)):=by
  unfold tableDrop
  rw[if_pos (by simp[hok];omega),idx_rv (by omega) (by omega)]
  simp only
  rw[if_neg (by simpa using h4)]
 rw[this]
 exact⟨_,⟨b',c',sp',by simpa [seti] using hc',rfl,by simp[seti]⟩,by simp⟩
theorem m_TableRoom (owner size:Int) (hl:t.length < 1000000) [a:At D b (C T_Region (rowsE eRg t ++ sp))]:Mk F_s_TableRoom [.slice (some ⟨b,0,none⟩) t.length cap,I owner,I size] R D (QTake (tableRoom t owner size)):=by
 refine s_s_TableRoom λF=>?_
 unfold c_s_TableRoom
 refine jor [.slice (some ⟨b,0,none⟩) t.length cap,I owner,I size] (!tableOk t || decide (owner < 0)) (λK' hK'=>?_) (λe c u ho he=>?_)
 ·refine jro (r_TableOk hl) (jgtf (λh1=>?_) (λh1=>?_))
  ·exact jlt (hK' _ _ _ (h1▸or2_f) (by rw[h1,Bool.false_or]))
  ·exact hK' _ _ _ (h1▸or2_t) (by rw[h1,Bool.true_or])
 simp only[List.map,lc,ln,lj,and_true] at he
 simp only[he]
 refine jor [.slice (some ⟨b,0,none⟩) t.length cap,I owner,I size] ((!tableOk t || decide (owner < 0)) || decide (owner > 3)) (λK' hK'=>?_) (λe c u ho he=>?_)
 ·rw[ho]
  refine jgtf (λh1=>?_) (λh1=>?_)
  ·exact jgr (hK' _ _ _ (h1▸or2_f) (by rw[h1,Bool.false_or]))
  ·exact hK' _ _ _ (h1▸or2_t) (by rw[h1,Bool.true_or])
 simp only[List.map,lc,ln,lj,and_true] at he
 simp only[he]
 refine jor [.slice (some ⟨b,0,none⟩) t.length cap,I owner,I size] (((!tableOk t || decide (owner < 0)) || decide (owner > 3)) || decide (size < 1)) (λK' hK'=>?_) (λe c u ho he=>?_)
 ·rw[ho]
  refine jgtf (λh1=>?_) (λh1=>?_)
  ·exact jlt (hK' _ _ _ (h1▸or2_f) (by rw[h1,Bool.false_or]))
  ·exact hK' _ _ _ (h1▸or2_t) (by rw[h1,Bool.true_or])
 simp only[List.map,lc,ln,lj,and_true] at he
 simp only[he]
 refine jor [.slice (some ⟨b,0,none⟩) t.length cap,I owner,I size] ((((!tableOk t || decide (owner < 0)) || decide (owner > 3)) || decide (size < 1)) || decide (size > 16)) (λK' hK'=>?_) (λe c u ho he=>?_)
 ·rw[ho]
  refine jgtf (λh1=>?_) (λh1=>?_)
  ·exact jgr (hK' _ _ _ (h1▸or2_f) (by rw[h1,Bool.false_or]))
  ·exact hK' _ _ _ (h1▸or2_t) (by rw[h1,Bool.true_or])
 simp only[List.map,lc,ln,lj,and_true] at he
 simp only[he]
 rw[ho]
 refine jif (λh0=>?_) (λh0=>?_)
 ·refine mk_ret [] ?_
  have:tableRoom t owner size = none:=by
   unfold tableRoom
   rw[if_neg]
   intro hh
   simp only[Bool.or_eq_true,Bool.not_eq_true',decide_eq_true_eq,Bool.and_eq_true] at h0 hh
   rcases h0 with (((h | h) | h) | h) | h
   ·rw[hh.1.1.1.1] at h;cases h
   ·omega
   ·omega
   ·omega
   ·omega
  rw[this];exact⟨rfl,rfl⟩
 simp only[Bool.or_eq_false_iff,Bool.not_eq_false',decide_eq_false_iff_not] at h0
 obtain⟨⟨⟨⟨hok,h2⟩,h3⟩,h4⟩,h5⟩:=h0
 have T:=tableOk_iff.1 hok
 have n1:=T.n1
 have eq:tableRoom t owner size = (match (if 0≤own t owner then idx t (own t owner) else none) with
  | some x=>if x.top + size≤regionBase (own t owner) + 16 then some (t,x.top) else
    (match tableTake ((tableClose t (own t owner)).getD []) owner with | some (u,n)=>some (u,regionBase n) | none=>none)
  | none=>(match tableTake t owner with | some (u,n)=>some (u,regionBase n) | none=>none)):=by
  unfold tableRoom
  rw[if_pos (by simp[hok];omega)]
  rfl
 refine jro (r_l4Own owner hl) ?_
 have hown:own t owner < 0∨(1≤own t owner∧own t owner < t.length∧(rv t (own t owner)).kind = 2):=by
  rcases find_row (λx=>x.kind == 2 && x.owner == owner) t with ⟨h,_⟩ | ⟨h,h',h''⟩
  ·left;unfold own;rw[h];decide
  ·right
   simp only[Bool.and_eq_true] at h''
   exact⟨h,h',by have:=h''.1;exact eq_of_beq this⟩
 rcases hown with hneg | ⟨hp,hlt,hk2⟩
 ·have hb:decide (own t owner≥0) = false:=decide_eq_false (by omega)
  rw[if_neg (by omega)] at eq
  refine jcut (jcut (jge ?_))
  rw[hb]
  refine jft (jend λe he=>?_)
  simp only[List.map,lc,ln,lj,and_true] at he
  simp only[he]
  refine jft (jpkf (jand jev (jend λe he=>?_)))
  simp only[List.map,lc,ln,lj,and_true] at he
  simp only[he]
  refine jiff (jmk (m_l4Copy hl) ?_)
  rintro _ _ ⟨b',c',sp',hc',rfl,rfl⟩
  refine jcut (jge ?_)
  rw[hb]
  refine jiff (jend λe he=>?_)
  simp only[List.map,lc,ln,lj,and_true] at he
  simp only[he]
  refine jmk (m_TableTake owner hl) ?_
  intro v N hq
  cases htk:tableTake t owner with
  | none=>
   rw[htk] at hq eq
   obtain⟨rfl,rfl⟩:=hq
   refine jex rfl (jex rfl (jex rfl (jift ?_)))
   exact mk_ret [] (by rw[eq];exact⟨rfl,rfl⟩)
  | some un=>
   obtain⟨u,n⟩:=un
   rw[htk] at hq eq
   obtain⟨sv,⟨b2,c2,sp2,hc2,rfl,rfl⟩,rfl⟩:=hq
   refine jex rfl (jex rfl (jex rfl (jiff (jp (p_RegionBase n) ?_))))
   exact mk_ret [(b2,C T_Region (rowsE eRg u ++ sp2))] (by rw[eq];exact⟨_,⟨b2,c2,sp2,hc2,rfl,rfl⟩,rfl⟩)
 ·have hb:decide (own t owner≥0) = true:=decide_eq_true (by omega)
  have RR:=T.row _ hp hlt
  have t0:=RR.t0
  have t1:=RR.t1
  obtain⟨k,hkk⟩:∃k:Nat,own t owner = k:=⟨(own t owner).toNat,by omega⟩
  rw[hkk] at eq hb t0 t1 hk2 ⊢
  have hk:k < t.length:=by omega
  rw[rv_at hk] at t0 t1
  have hbase:=base_eq (r:=(k:Int)) (by omega) (by omega)
  rw[if_pos (by omega),idx_rv (by omega) (by omega),rv_at hk] at eq
  simp only at eq
  refine jcut (jcut (jge ?_))
  rw[hb]
  refine jtt (jian hk (jl (v:=I t[k].top) (by rw[Nat.zero_add];exact row_cell (f:=2) hk rfl) (jadd ⟨by omega,by omega⟩ (jend λe he=>?_))))
  simp only[List.map,lc,ln,lj,and_true] at he
  simp only[he]
  refine jtt (jp (p_RegionBase k) (jadd ⟨by omega,by omega⟩ (jle (jpkt (jand (jl (v:=I t[k].top) (by rw[Nat.zero_add];exact row_cell (f:=2) hk rfl) jev) (jend λe he=>?_))))))
  simp only[List.map,lc,ln,lj,and_true] at he
  simp only[he]
  refine jif (λhfit=>?_) (λhfit=>?_)
  ·rw[if_pos (of_decide_eq_true hfit)] at eq
   refine jian hk (jl (v:=I t[k].top) (by rw[Nat.zero_add];exact row_cell (f:=2) hk rfl) (jmk (m_l4Copy hl) ?_))
   rintro _ _ ⟨b',c',sp',hc',rfl,rfl⟩
   refine jand (jl (v:=I t[k].top) (by rw[Nat.zero_add];exact row_cell (f:=2) hk rfl) jev) (jand (jl (v:=I t[k].top) (by rw[Nat.zero_add];exact row_cell (f:=2) hk rfl) jev) ?_)
   exact mk_ret [(b',C T_Region (rowsE eRg t ++ sp'))] (by rw[eq];exact⟨_,⟨b',c',sp',hc',rfl,rfl⟩,rfl⟩)
  ·rw[if_neg (of_decide_eq_false hfit)] at eq
   refine jmk (m_l4Copy hl) ?_
   rintro _ _ ⟨b',c',sp',hc',rfl,rfl⟩
   refine jcut (jge ?_)
   rw[hb]
   refine jift (jmk (m_TableClose k hl) ?_)
   intro v N hq
   have hcl:tableClose t k = some (seti t k { rv t k with kind:=3,owner:=-1 }):=by
    unfold tableClose
    rw[if_pos (by simp[hok];omega),idx_rv (by omega) (by omega)]
    simp only
    rw[if_pos (by simpa using hk2)]
   rw[hcl] at hq eq
   simp only[Option.getD_some] at eq
   obtain⟨sv,⟨b3,c3,sp3,hc3,rfl,rfl⟩,rfl⟩:=hq
   refine jex rfl (jex rfl (jend λe he=>?_))
   simp only[List.map,lc,ln,lj,and_true] at he
   simp only[he]
   refine jmk (m_TableTake owner (by simpa using hl)) ?_
   intro v N hq
   cases htk:tableTake (seti t k { rv t k with kind:=3,owner:=-1 }) owner with
   | none=>
    rw[htk] at hq eq
    obtain⟨rfl,rfl⟩:=hq
    refine jex rfl (jex rfl (jex rfl (jift ?_)))
    exact mk_ret [] (by rw[eq];exact⟨rfl,rfl⟩)
   | some un=>
    obtain⟨u,n⟩:=un
    rw[htk] at hq eq
    obtain⟨sv,⟨b2,c2,sp2,hc2,rfl,rfl⟩,rfl⟩:=hq
    refine jex rfl (jex rfl (jex rfl (jiff (jp (p_RegionBase n) ?_))))
    exact mk_ret [(b2,C T_Region (rowsE eRg u ++ sp2))] (by rw[eq];exact⟨_,⟨b2,c2,sp2,hc2,rfl,rfl⟩,rfl⟩)
end table
end Go.Lf
end
section
namespace Go.Lf
open Go Sm
theorem jrp {f:Nat} {args:List Value} {v:Value} {R:RM} {D:Chs} {k:Value→M} (hF:Ro f args v R []) (H:J R D (k v)):J R D (CA P f args k):=by
 intro h hs
 refine CA_mono ?_ (hF D h hs)
 rintro v' h' ⟨R',A',h1,h2,rfl,rfl⟩
 exact H h' (h2.le h1)
theorem jfo {R:RM} {D:Chs} {o b off:Nat} {k:Value→M} (H:J R D (k (.pointer (some ⟨b,off + o,none⟩)))):J R D (FO o (.pointer (some ⟨b,off,none⟩)) k):=H
theorem p_OpOk (o:Sm.Op):Pu F_s_OpOk [.agg (eOp o).toArray] (.bool (opOk o)):=by
 intro R
 refine s_s_OpOk λF=>?_
 unfold c_s_OpOk
 refine ja λb=>?_
 have e0:cl (.agg (eOp o).toArray) = eOp o:=rfl
 rw[e0]
 refine jan [.pointer (some ⟨b,0,none⟩)] ((decide (o.kind≥1)) && (decide (o.kind≤11))) (λK' hK'=>?_) (λe c u ho he=>?_)
 ·refine jl rfl (jge (jgtt (λh1=>?_) (λh1=>?_)))
  ·refine jl rfl (jle (hK' _ _ _ (h1▸and2_t) (by rw[h1,Bool.true_and])))
  ·exact hK' _ _ _ (h1▸and2_f) (by rw[h1,Bool.false_and])
 simp only[List.map,lc,ln,lj,and_true] at he
 simp only[he]
 refine jan [] ((decide (o.kind≥1) && decide (o.kind≤11)) && (o.kind != 1 || shapeOk o.sh)) (λK' hK'=>?_) (λe c u ho he=>?_)
 ·rw[ho]
  refine jgtt (λh1=>?_) (λh1=>?_)
  ·refine jl rfl (jne (jgtf (λh2=>?_) (λh2=>?_)))
   ·refine jfo (jla (l:=[I o.sh.refs,I o.sh.nums]) (by exact Nat.le_refl 8) (by rfl) ?_)
    refine jp (p_ShapeOk o.sh) ?_
    rw[h2]
    exact jpkf (hK' _ _ _ (h1▸and2_t) (by rw[h1,h2,Bool.true_and,Bool.false_or]))
   ·rw[h2]
    exact jpkt (hK' _ _ _ (h1▸and2_t) (by rw[h1,h2,Bool.true_and,Bool.true_or]))
  ·exact hK' _ _ _ (h1▸and2_f) (by rw[h1,Bool.false_and])
 simp only[List.map,lc,ln,lj,and_true] at he
 simp only[he]
 rw[ho]
 refine jret (A:=[]) (RM.le.refl _) ?_
 congr 1
theorem p_l5Fields (k:Int):Pu F_s_l5Fields [I k] (.bool (fieldsOp k)):=by
 intro R
 refine s_s_l5Fields λF=>?_
 unfold c_s_l5Fields
 refine jor [I k] ((k == 2) || (k == 3)) (λK' hK'=>?_) (λe c u ho he=>?_)
 ·refine jeq (jgtf (λh1=>?_) (λh1=>?_))
  ·refine jeq (hK' _ _ _ (h1▸or2_f) (by rw[h1,Bool.false_or]))
  ·exact hK' _ _ _ (h1▸or2_t) (by rw[h1,Bool.true_or])
 simp only[List.map,lc,ln,lj,and_true] at he
 simp only[he]
 refine jor [I k] (((k == 2) || (k == 3)) || (k == 4)) (λK' hK'=>?_) (λe c u ho he=>?_)
 ·rw[ho]
  refine jgtf (λh1=>?_) (λh1=>?_)
  ·refine jeq (hK' _ _ _ (h1▸or2_f) (by rw[h1,Bool.false_or]))
  ·exact hK' _ _ _ (h1▸or2_t) (by rw[h1,Bool.true_or])
 simp only[List.map,lc,ln,lj,and_true] at he
 simp only[he]
 refine jor [I k] ((((k == 2) || (k == 3)) || (k == 4)) || (k == 5)) (λK' hK'=>?_) (λe c u ho he=>?_)
 ·rw[ho]
  refine jgtf (λh1=>?_) (λh1=>?_)
  ·refine jeq (hK' _ _ _ (h1▸or2_f) (by rw[h1,Bool.false_or]))
  ·exact hK' _ _ _ (h1▸or2_t) (by rw[h1,Bool.true_or])
 simp only[List.map,lc,ln,lj,and_true] at he
 simp only[he]
 refine jor [] (((((k == 2) || (k == 3)) || (k == 4)) || (k == 5)) || (k == 7)) (λK' hK'=>?_) (λe c u ho he=>?_)
 ·rw[ho]
  refine jgtf (λh1=>?_) (λh1=>?_)
  ·refine jeq (hK' _ _ _ (h1▸or2_f) (by rw[h1,Bool.false_or]))
  ·exact hK' _ _ _ (h1▸or2_t) (by rw[h1,Bool.true_or])
 simp only[List.map,lc,ln,lj,and_true] at he
 simp only[he]
 rw[ho]
 exact jret (A:=[]) (RM.le.refl _) rfl
theorem p_l5One (b:Bool):Pu F_s_l5One [.bool b] (I (Sm.one b)):=by
 intro R
 refine s_s_l5One λF=>?_
 unfold c_s_l5One
 cases b
 ·exact jiff (jret (A:=[]) (RM.le.refl _) rfl)
 ·exact jift (jret (A:=[]) (RM.le.refl _) rfl)
theorem p_l5Field (o:Sm.Op) (refs nums:Int):Pu F_s_l5Field [.agg (eOp o).toArray,I refs,I nums] (.bool (l5Field o refs nums)):=by
 intro R
 refine s_s_l5Field λF=>?_
 unfold c_s_l5Field
 refine ja λb=>?_
 have e0:cl (.agg (eOp o).toArray) = eOp o:=rfl
 rw[e0]
 refine jor [I refs,I nums,.pointer (some ⟨b,0,none⟩)] ((o.kind == 4) || (o.kind == 5)) (λK' hK'=>?_) (λe c u ho he=>?_)
 ·refine jl rfl (jeq (jgtf (λh1=>?_) (λh1=>?_)))
  ·refine jl rfl (jeq (hK' _ _ _ (h1▸or2_f) (by rw[h1,Bool.false_or])))
  ·exact hK' _ _ _ (h1▸or2_t) (by rw[h1,Bool.true_or])
 simp only[List.map,lc,ln,lj,and_true] at he
 simp only[he]
 rw[ho]
 refine jif (λh0=>?_) (λh0=>?_)
 ·refine jan [] ((decide (o.f≥0)) && (decide (o.f < nums))) (λK' hK'=>?_) (λe c u ho he=>?_)
  ·refine jl rfl (jge (jgtt (λh1=>?_) (λh1=>?_)))
   ·refine jl rfl (jlt (hK' _ _ _ (h1▸and2_t) (by rw[h1,Bool.true_and])))
   ·exact hK' _ _ _ (h1▸and2_f) (by rw[h1,Bool.false_and])
  simp only[List.map,lc,ln,lj,and_true] at he
  simp only[he]
  rw[ho]
  refine jret (A:=[]) (RM.le.refl _) ?_
  unfold l5Field;rw[if_pos h0]
 ·refine jan [] ((decide (o.f≥0)) && (decide (o.f < refs))) (λK' hK'=>?_) (λe c u ho he=>?_)
  ·refine jl rfl (jge (jgtt (λh1=>?_) (λh1=>?_)))
   ·refine jl rfl (jlt (hK' _ _ _ (h1▸and2_t) (by rw[h1,Bool.true_and])))
   ·exact hK' _ _ _ (h1▸and2_f) (by rw[h1,Bool.false_and])
  simp only[List.map,lc,ln,lj,and_true] at he
  simp only[he]
  rw[ho]
  refine jret (A:=[]) (RM.le.refl _) ?_
  unfold l5Field;rw[if_neg (by rw[h0];decide)]
end Go.Lf
end
section
namespace Go.Lf
open Go Sm
theorem jfz1 {R:RM} {D:Chs} {v:Value} {l:List Int} {i:Int} {k:Value→M} (h:Ints R v l) (h0:0≤i) (h1:i < l.length) (H:J R D (k (I (l[i.toNat]'(by omega))))):J R D (IA 1 v (I i) λx=>L1 x k):=by
 rcases h with ⟨_,h2,_⟩ | ⟨b,o,cap,t,cs,rfl,h2,h3,h4,h5⟩
 ·omega
 ·refine jia h0 h1 (jlr h2 ?_ H)
  have:=congrArg (λl=>l[i.toNat]?) h4
  simp only[List.getElem?_take,List.getElem?_drop,List.getElem?_map] at this
  rw[if_pos (by omega),List.getElem?_eq_getElem (by omega:i.toNat < l.length)] at this
  rw[Nat.mul_one,this];rfl
theorem jlnz {R:RM} {D:Chs} {v:Value} {w n:Nat} {cells:List Value} {k:Value→M} (h:Fz R v w n cells) (H:J R D (k (I n))):J R D (LN v k):=by
 rcases h with ⟨rfl,rfl,_⟩ | ⟨b,o,cap,t,cs,rfl,_⟩<;>exact H
theorem r_l5Begin {R:RM} {rv:Value} {roots:List Int} (o:Sm.Op) (nn:Int) (h:Ints R rv roots):Ro F_s_l5Begin [.agg (eOp o).toArray,rv,I nn] (I (l5Begin o roots nn)) R []:=by
 refine s_s_l5Begin λF=>?_
 unfold c_s_l5Begin
 refine ja λb=>?_
 have e0:cl (.agg (eOp o).toArray) = eOp o:=rfl
 rw[e0]
 refine jlnz h ?_
 refine jan [rv,I nn,.pointer (some ⟨b,0,none⟩),I roots.length] ((decide (o.a≥0)) && (decide (o.a < roots.length))) (λK' hK'=>?_) (λe c u ho he=>?_)
 ·refine jl rfl (jge (jgtt (λh1=>?_) (λh1=>?_)))
  ·refine jl rfl (jlt (hK' _ _ _ (h1▸and2_t) (by rw[h1,Bool.true_and])))
  ·exact hK' _ _ _ (h1▸and2_f) (by rw[h1,Bool.false_and])
 simp only[List.map,lc,ln,lj,and_true] at he
 simp only[he]
 rw[ho]
 refine jan [rv,I nn,.pointer (some ⟨b,0,none⟩),I roots.length,.bool (hnd roots.length o.a)] ((decide (o.b≥0)) && (decide (o.b < roots.length))) (λK' hK'=>?_) (λe c u ho he=>?_)
 ·refine jl rfl (jge (jgtt (λh1=>?_) (λh1=>?_)))
  ·refine jl rfl (jlt (hK' _ _ _ (h1▸and2_t) (by rw[h1,Bool.true_and])))
  ·exact hK' _ _ _ (h1▸and2_f) (by rw[h1,Bool.false_and])
 simp only[List.map,lc,ln,lj,and_true] at he
 simp only[he]
 rw[ho]
 refine jan [rv,I nn,.pointer (some ⟨b,0,none⟩),I roots.length,.bool (hnd roots.length o.a),.bool (hnd roots.length o.b)] ((decide (o.c≥0)) && (decide (o.c < roots.length))) (λK' hK'=>?_) (λe c u ho he=>?_)
 ·refine jl rfl (jge (jgtt (λh1=>?_) (λh1=>?_)))
  ·refine jl rfl (jlt (hK' _ _ _ (h1▸and2_t) (by rw[h1,Bool.true_and])))
  ·exact hK' _ _ _ (h1▸and2_f) (by rw[h1,Bool.false_and])
 simp only[List.map,lc,ln,lj,and_true] at he
 simp only[he]
 rw[ho]
 have fin:∀v,v = l5Begin o roots nn→J R ((b,C 122 (eOp o)) :: ([] ++ F)) (POST R F (λv' x A=>v' = I (l5Begin o roots nn)∧A = []) (I v)):=λv hv=>ro_ret (by rw[hv])
 have hA:∃A B Cc:Bool,A = (o.kind == 1 || (if o.kind == 8 then decide (0 < roots.length) else hnd roots.length o.a))∧B = (o.kind == 1 || o.kind == 8 || o.kind == 2 || o.kind == 4 || o.kind == 5 || o.kind == 9 || o.kind == 10 || o.kind == 11 || hnd roots.length o.b)∧Cc = (!(o.kind == 7) && (decide (1≤o.kind) && decide (o.kind≤11)) || hnd roots.length o.c):=⟨_,_,_,rfl,rfl,rfl⟩
 obtain⟨A,B,Cc,eA,eB,eC⟩:=hA
 refine jsame [rv,I nn,.pointer (some ⟨b,0,none⟩),I roots.length,.bool A,.bool B,.bool Cc] (λK1 hK1=>?_) (λe he=>?_)
 ·refine jl rfl ?_
  refine jsame [rv,I nn,.pointer (some ⟨b,0,none⟩),I roots.length,.bool A,.bool B,.bool Cc] (λK2 hK2=>?_) (λe he=>?_)
  rotate_left
  ·simp only[List.map,lc,ln,lj,and_true] at he
   simp only[he]
   exact hK1
  have leaf:∀x y z:Bool,x = A→y = B→z = Cc→J R ((b,C 122 (eOp o)) :: ([] ++ F)) (K2 [rv,I nn,.pointer (some ⟨b,0,none⟩),I roots.length,.bool x,.bool y,.bool z]):=by
   rintro x y z rfl rfl rfl;exact hK2
  refine jeq (jif (λk1=>?_) (λk1=>?_))
  ·have k1:=eq_of_beq k1
   refine leaf _ _ _ ?_ ?_ ?_<;>simp[eA,eB,eC,k1]
  have k1:o.kind≠1:=by simpa using k1
  refine jeq (jif (λk8=>?_) (λk8=>?_))
  ·have k8:=eq_of_beq k8
   refine jgr (leaf _ _ _ ?_ ?_ ?_)<;>simp[eA,eB,eC,k8]
  have k8:o.kind≠8:=by simpa using k8
  refine jcutq (λvs R' D'=>R' = R∧D' = (b,C 122 (eOp o)) :: ([] ++ F)∧∃v:Bool,vs = [rv,I nn,.pointer (some ⟨b,0,none⟩),I roots.length,.bool (hnd roots.length o.a),.bool (hnd roots.length o.b),.bool (hnd roots.length o.c),I o.kind,.bool v]∧(v = true↔o.kind = 2∨o.kind = 4∨o.kind = 5∨o.kind = 9∨o.kind = 10∨o.kind = 11)) (λK3 hK3=>?_) ?_
  ·refine jeq (jif (λh=>hK3 _ _ _ ⟨rfl,rfl,_,rfl,?_⟩) (λn2=>?_))
   ·rw[h];simp[eq_of_beq h]
   refine jeq (jif (λh=>hK3 _ _ _ ⟨rfl,rfl,_,rfl,?_⟩) (λn4=>?_))
   ·rw[h];simp[eq_of_beq h]
   refine jeq (jif (λh=>hK3 _ _ _ ⟨rfl,rfl,_,rfl,?_⟩) (λn5=>?_))
   ·rw[h];simp[eq_of_beq h]
   refine jeq (jif (λh=>hK3 _ _ _ ⟨rfl,rfl,_,rfl,?_⟩) (λn9=>?_))
   ·rw[h];simp[eq_of_beq h]
   refine jeq (jif (λh=>hK3 _ _ _ ⟨rfl,rfl,_,rfl,?_⟩) (λn10=>?_))
   ·rw[h];simp[eq_of_beq h]
   refine jeq (hK3 _ _ _ ⟨rfl,rfl,_,rfl,?_⟩)
   simp only[beq_eq_false_iff_ne,ne_eq] at n2 n4 n5 n9 n10
   simp[n2,n4,n5,n9,n10]
  ·rintro e R3 _ ⟨rfl,rfl,v,he,hv⟩
   simp only[List.map,lc,ln,lj,and_true] at he
   simp only[he]
   refine jif (λhvt=>?_) (λhvf=>?_)
   ·have hk:=hv.1 hvt
    refine leaf _ _ _ ?_ ?_ ?_
    ·simp[eA,k1,k8]
    ·rw[eB];rcases hk with h | h | h | h | h | h<;>simp[h]
    ·rw[eC];rcases hk with h | h | h | h | h | h<;>simp[h]
   ·have hk:¬ (o.kind = 2∨o.kind = 4∨o.kind = 5∨o.kind = 9∨o.kind = 10∨o.kind = 11):=λh=>by rw[hv.2 h] at hvf;cases hvf
    simp only[not_or] at hk
    obtain⟨q2,q4,q5,q9,q10,q11⟩:=hk
    refine jcutq (λvs R2 D2=>R2 = R3∧D2 = (b,C 122 (eOp o)) :: ([] ++ F)∧∃v:Bool,vs = [rv,I nn,.pointer (some ⟨b,0,none⟩),I roots.length,.bool (hnd roots.length o.a),.bool (hnd roots.length o.b),.bool (hnd roots.length o.c),.bool v]∧(v = true↔o.kind = 3∨o.kind = 6)) (λK3 hK3=>?_) ?_
    ·refine jeq (jif (λh=>hK3 _ _ _ ⟨rfl,rfl,_,rfl,?_⟩) (λn3=>?_))
     ·rw[h];simp[eq_of_beq h]
     refine jeq (hK3 _ _ _ ⟨rfl,rfl,_,rfl,?_⟩)
     simp only[beq_eq_false_iff_ne,ne_eq] at n3
     simp[n3]
    ·rintro e _ _ ⟨rfl,rfl,v,he,hv⟩
     simp only[List.map,lc,ln,lj,and_true] at he
     simp only[he]
     refine jif (λhvt=>?_) (λhvf=>?_)
     ·refine leaf _ _ _ ?_ ?_ ?_
      ·simp[eA,k1,k8]
      ·rw[eB];rcases hv.1 hvt with h | h<;>simp[h]
      ·rw[eC];rcases hv.1 hvt with h | h<;>simp[h]
     ·have hk:¬ (o.kind = 3∨o.kind = 6):=λh=>by rw[hv.2 h] at hvf;cases hvf
      rw[not_or] at hk
      refine leaf _ _ _ ?_ ?_ ?_
      ·simp[eA,k1,k8]
      ·simp[eB,k1,k8,q2,q4,q5,q9,q10,q11]
      ·rw[eC]
       by_cases q7:o.kind = 7
       ·simp[q7]
       ·have:(decide (1≤o.kind) && decide (o.kind≤11)) = false:=by
         rw[Bool.and_eq_false_iff,decide_eq_false_iff_not,decide_eq_false_iff_not];omega
        simp[this]
 simp only[List.map,lc,ln,lj,and_true] at he
 simp only[he]
 refine jor [rv,I nn,.pointer (some ⟨b,0,none⟩),I roots.length,.bool Cc] ((!A) || (!B)) (λK' hK'=>?_) (λe c u ho he=>?_)
 ·refine id (jgtf (λh1=>?_) (λh1=>?_))
  ·refine id (hK' _ _ _ (h1▸or2_f) (by rw[h1,Bool.false_or]))
  ·exact hK' _ _ _ (h1▸or2_t) (by rw[h1,Bool.true_or])
 simp only[List.map,lc,ln,lj,and_true] at he
 simp only[he]
 refine jor [rv,I nn,.pointer (some ⟨b,0,none⟩),I roots.length] ((!A || !B) || (!Cc)) (λK' hK'=>?_) (λe c u ho he=>?_)
 ·rw[ho]
  refine jgtf (λh1=>?_) (λh1=>?_)
  ·refine id (hK' _ _ _ (h1▸or2_f) (by rw[h1,Bool.false_or]))
  ·exact hK' _ _ _ (h1▸or2_t) (by rw[h1,Bool.true_or])
 simp only[List.map,lc,ln,lj,and_true] at he
 simp only[he]
 rw[ho]
 have fa:¬ ((!A || !B) || !Cc) = true→o.kind≠1→o.kind≠8→0≤o.a∧o.a < roots.length:=λhh k1 k8=>by
  have:A = true:=by
   cases A
   ·simp at hh
   ·rfl
  rw[this] at eA
  simp[k1,k8,hnd] at eA
  exact eA
 have base:l5Begin o roots nn = if (!A || !B || !Cc) = true then 2 else if ((fieldsOp o.kind || o.kind == 10 || o.kind == 11) && (idx roots o.a).getD 0 == nn) = true then 3 else if ((o.kind == 1 || o.kind == 2 || o.kind == 9) && roots.length == 8) = true then 5 else 0:=by
  unfold l5Begin
  rw[eA,eB,eC]
 refine jif (λh0=>fin _ (by rw[base,if_pos h0])) (λh0=>?_)
 have h0' : ¬ ((!A || !B) || !Cc) = true:=by rw[h0];decide
 rw[if_neg h0'] at base
 have k18:∀x:Bool,x = (fieldsOp o.kind || o.kind == 10 || o.kind == 11)→x = true→o.kind≠1∧o.kind≠8:=λx hx hx2=>by
  rw[hx2] at hx
  constructor<;>intro hk<;>rw[hk] at hx<;>simp[fieldsOp] at hx
 refine jor [rv,I nn,.pointer (some ⟨b,0,none⟩),I roots.length] (fieldsOp o.kind || o.kind == 10) (λK' hK'=>?_) (λe c u ho he=>?_)
 ·refine jl rfl (jp (p_l5Fields o.kind) (jgtf (λh1=>?_) (λh1=>?_)))
  ·exact jl rfl (jeq (hK' _ _ _ (h1▸or2_f) (by rw[h1,Bool.false_or])))
  ·exact hK' _ _ _ (h1▸or2_t) (by rw[h1,Bool.true_or])
 simp only[List.map,lc,ln,lj,and_true] at he
 simp only[he]
 refine jor [rv,I nn,.pointer (some ⟨b,0,none⟩),I roots.length] ((fieldsOp o.kind || o.kind == 10) || (o.kind == 11)) (λK' hK'=>?_) (λe c u ho he=>?_)
 ·rw[ho]
  refine jgtf (λh1=>?_) (λh1=>?_)
  ·refine jl rfl (jeq (hK' _ _ _ (h1▸or2_f) (by rw[h1,Bool.false_or])))
  ·exact hK' _ _ _ (h1▸or2_t) (by rw[h1,Bool.true_or])
 simp only[List.map,lc,ln,lj,and_true] at he
 simp only[he]
 refine jan [.pointer (some ⟨b,0,none⟩),I roots.length] ((fieldsOp o.kind || o.kind == 10 || o.kind == 11) && (idx roots o.a).getD 0 == nn) (λK' hK'=>?_) (λe c u ho he=>?_)
 ·rw[ho]
  refine jgtt (λh1=>?_) (λh1=>?_)
  ·obtain⟨n1,n8⟩:=k18 _ rfl h1
   obtain⟨a0,a1⟩:=fa h0' n1 n8
   refine jl rfl (jfz1 h a0 a1 (jeq (hK' _ _ _ (h1▸and2_t) ?_)))
   rw[h1,Bool.true_and]
   have:idx roots o.a = some (roots[o.a.toNat]'(by omega)):=by unfold idx;rw[if_pos a0,List.getElem?_eq_getElem]
   rw[this];rfl
  ·exact hK' _ _ _ (h1▸and2_f) (by rw[h1,Bool.false_and])
 simp only[List.map,lc,ln,lj,and_true] at he
 simp only[he]
 rw[ho]
 refine jif (λh3=>fin _ (by rw[base,if_pos h3])) (λh3=>?_)
 rw[if_neg (by rw[h3];decide)] at base
 refine jor [.pointer (some ⟨b,0,none⟩),I roots.length] ((o.kind == 1) || (o.kind == 2)) (λK' hK'=>?_) (λe c u ho he=>?_)
 ·refine jl rfl (jeq (jgtf (λh1=>?_) (λh1=>?_)))
  ·refine jl rfl (jeq (hK' _ _ _ (h1▸or2_f) (by rw[h1,Bool.false_or])))
  ·exact hK' _ _ _ (h1▸or2_t) (by rw[h1,Bool.true_or])
 simp only[List.map,lc,ln,lj,and_true] at he
 simp only[he]
 refine jor [I roots.length] ((o.kind == 1 || o.kind == 2) || (o.kind == 9)) (λK' hK'=>?_) (λe c u ho he=>?_)
 ·rw[ho]
  refine jgtf (λh1=>?_) (λh1=>?_)
  ·refine jl rfl (jeq (hK' _ _ _ (h1▸or2_f) (by rw[h1,Bool.false_or])))
  ·exact hK' _ _ _ (h1▸or2_t) (by rw[h1,Bool.true_or])
 simp only[List.map,lc,ln,lj,and_true] at he
 simp only[he]
 refine jan [] (((o.kind == 1 || o.kind == 2) || o.kind == 9) && (roots.length:Int) == 8) (λK' hK'=>?_) (λe c u ho he=>?_)
 ·rw[ho]
  refine jgtt (λh1=>?_) (λh1=>?_)
  ·exact jeq (hK' _ _ _ (h1▸and2_t) (by rw[h1,Bool.true_and]))
  ·exact hK' _ _ _ (h1▸and2_f) (by rw[h1,Bool.false_and])
 simp only[List.map,lc,ln,lj,and_true] at he
 simp only[he]
 rw[ho]
 have e8:((roots.length:Int) == 8) = (roots.length == 8):=by rw[Bool.eq_iff_iff];simp;omega
 rw[e8]
 refine jif (λh5=>fin _ (by rw[base,if_pos h5])) (λh5=>fin _ (by rw[base,if_neg (by rw[h5];decide)]))
end Go.Lf
end
section
namespace Go.Lf
open Go Sm
theorem jslh {R:RM} {D:Chs} {v:Value} {l:List Int} {u:Int} {k:Value→M} (h:Ints R v l) (h0:0≤u) (h1:u≤l.length) (H:∀v',Ints R v' (l.take u.toNat)→J R D (k v')):J R D (SL 1 v none (some (I u)) k):=by
 rcases h with ⟨rfl,h2,_⟩ | ⟨b,o,cap,t,cs,rfl,h2,h3,h4,h5⟩
 ·intro h' hs
  refine⟨⟨h0,by omega⟩,H _ ?_ h' hs⟩
  have:l = []:=List.length_eq_zero_iff.1 h2
  subst this
  have:u = 0:=by simp at h1;omega
  subst this
  exact .inl ⟨rfl,by simp,by simp⟩
 ·intro h' hs
  refine⟨⟨h0,by omega⟩,H _ ?_ h' hs⟩
  refine .inr ⟨b,o,cap,t,cs,?_,h2,?_,?_,?_⟩
  ·simp only[List.length_take];congr 1;omega
  ·simp only[List.length_take];omega
  ·simp only[List.length_take]
   rw[List.map_take,← h4,List.take_take];congr 1;omega
  ·simp only[List.length_take];omega
theorem jsll {R:RM} {D:Chs} {v:Value} {l:List Int} {u:Int} {k:Value→M} (h:Ints R v l) (h0:0≤u) (h1:u≤l.length) (H:∀v',Ints R v' (l.drop u.toNat)→J R D (k v')):J R D (SL 1 v (some (I u)) none k):=by
 rcases h with ⟨rfl,h2,_⟩ | ⟨b,o,cap,t,cs,rfl,h2,h3,h4,h5⟩
 ·intro h' hs
  refine⟨⟨h0,by omega,by omega⟩,H _ ?_ h' hs⟩
  have:l = []:=List.length_eq_zero_iff.1 h2
  subst this
  have:u = 0:=by simp at h1;omega
  subst this
  exact .inl ⟨rfl,by simp,by simp⟩
 ·intro h' hs
  refine⟨⟨h0,h1,by omega⟩,H _ ?_ h' hs⟩
  by_cases c:cap = u.toNat
  ·have hl:l.length = u.toNat:=by omega
   refine .inr ⟨b,o,cap - u.toNat,t,cs,?_,h2,?_,?_,?_⟩
   ·rw[if_pos c];simp
   ·simp[hl];omega
   ·simp[hl]
   ·simp[hl]
  ·refine .inr ⟨b,o + u.toNat * 1,cap - u.toNat,t,cs,?_,h2,?_,?_,?_⟩
   ·rw[if_neg c];simp
   ·simp only[List.length_drop];omega
   ·simp only[List.length_drop]
    rw[List.map_drop,← h4,List.drop_take,List.drop_drop]
    congr 1
    ·omega
    ·congr 1;omega
   ·simp only[List.length_drop];omega
theorem japl {R:RM} {D E:Chs} {l l2:List Int} {b c cx m:Nat} {sp:List Value} {xa:Option Addr} {k:Value→M} [tk:Tk D b (C T_int (l.map I ++ sp)) E] (hm:m = l2.length) (hc:l.length≤c) (hsp:sp.length = c - l.length) (hl:l.length + l2.length < 2000000) (hx:Reads R D xa (m * 1) (l2.map I))
  (H:∀b' c' sp',(l ++ l2).length≤c'→sp'.length = c' - (l ++ l2).length→J R ((b',C T_int ((l ++ l2).map I ++ sp')) :: E) (k (.slice (some ⟨b',0,none⟩) (l ++ l2).length c'))) :
  J R D (AP T_int 1 8 [I 0] (.slice (some ⟨b,0,none⟩) l.length c) (.slice xa m cx) k):=by
 subst hm
 have hfl:allFlat (l2.map I) = true:=by
  unfold allFlat;rw[List.all_eq_true];intro x hx;obtain⟨y,_,rfl⟩:=List.mem_map.1 hx;rfl
 refine japh (tk:=tk) hx (by simp;omega) hc (by simp) hfl (by decide) (by omega) (λh=>?_) (λb' c' h=>?_)
 ·have el:lay (l.map I ++ sp) (l.length * 1) (l2.map I) = (l ++ l2).map I ++ sp.drop l2.length:=by
   rw[lay_app (by simp)];simp[lay]
  rw[el]
  have:=H b c (sp.drop l2.length) (by simpa using h) (by simp;omega)
  simpa using this
 ·refine jperm (tk.p.cons _) (jperm (List.Perm.swap _ _ _) (jdrop ?_))
  have:=H b' c' (List.replicate (c' - (l.length + l2.length)) [I 0]).flatten (by simpa using h) (by rw[flat_len (w:=1) (by intro x hx;rw[(List.mem_replicate.1 hx).2];rfl)];simp)
  rw[List.take_append_of_le_length (by simp),List.take_of_length_le (by simp)]
  simpa using this
theorem Ints.reads {R:RM} {D:Chs} {v:Value} {l:List Int} (h:Ints R v l):∃a cap,v = .slice a l.length cap∧Reads R D a (l.length * 1) (l.map I):=Fz.reads h
def QPins (r:Option (List Int)) (v:Value) (A:Chs):Prop:=match r with
 | none=>v = .tuple #[.slice none 0 0,.bool false]∧A = []
 | some l=>∃sv,OwnI l sv A∧v = .tuple #[sv,.bool true]
theorem lastIdx_some {l:List Int} {a:Int}:∀{n k:Nat},lastIdx l a n = some k→l[k]? = some a∧k < n∧∀j,k < j→j < n→l[j]?≠some a:=by
 intro n;induction n with
 | zero=>intro k h;cases h
 | succ n ih=>
  intro k h
  simp only[lastIdx] at h
  split at h
  ·cases h;exact⟨by assumption,by omega,λj h1 h2=>by omega⟩
  ·rename_i hn
   obtain⟨h1,h2,h3⟩:=ih h
   refine⟨h1,by omega,λj h4 h5=>?_⟩
   by_cases c:j = n
   ·subst c;exact hn
   ·exact h3 j h4 (by omega)
theorem t_l5Pins {R:RM} {v:Value} {pins:List Int} (kind a:Int) (h:Ints R v pins) (hl:pins.length < 1000000):Fn P F_s_l5Pins [v,I kind,I a] R [] (λv' _ A=>QPins (l5Pins pins kind a) v' A):=by
 refine s_s_l5Pins λF=>?_
 unfold c_s_l5Pins
 refine jeq (jif (λhk=>?_) (λhk=>?_))
 ·refine jlnz h (jeq (jif (λh8=>?_) (λh8=>?_)))
  ·refine jret (A:=[]) (RM.le.refl _) ?_
   have h8:pins.length = 8:=by have:=eq_of_beq h8;omega
   unfold l5Pins;rw[if_pos hk,if_pos h8];exact⟨rfl,rfl⟩
  ·have h8:pins.length≠8:=by have:=ne_of_beq_false h8;omega
   refine jc (A:=[]) (t_l5Ints h (by omega)) ?_
   rintro _ R' _ hR ⟨b,c,sp,hc,hsp,rfl,rfl⟩
   refine jbs (cs:=[I a]) rfl rfl λb1=>?_
   refine jap1 (v:=a) hc hsp (by omega) (Reads.held (t:=T_int) (cs:=[I a]) (o:=0) (n:=1 * 1) (Nat.le_refl 1)) λb' c' sp' hc' hsp'=>?_
   refine jret (A:=[(b',C T_int ((pins ++ [a]).map I ++ sp'))]) hR ?_
   unfold l5Pins;rw[if_pos hk,if_neg h8]
   exact⟨.slice (some ⟨b',0,none⟩) (pins.length + 1) c',⟨b',c',sp',by simpa using hc',by simpa using hsp',by simp,rfl⟩,rfl⟩
 ·refine jcutq (λvs R' D'=>R' = R∧D' = [] ++ F∧vs = [v,I (match lastIdx pins a pins.length with | some i=>(i:Int) | none=>-1)]) (λK' hK'=>?_) ?_
  ·refine jcutq (λvs R' D'=>R' = R∧D' = [] ++ F∧vs = [v,I (match lastIdx pins a pins.length with | some i=>(i:Int) | none=>-1)]) (λK2 hK2=>?_) ?_
   ·refine jlp (λn vs R' D'=>R' = R∧D' = [] ++ F∧∃i:Nat,i≤pins.length∧vs = [v,I a,I (match lastIdx pins a i with | some i=>(i:Int) | none=>-1),I i]∧n = pins.length - i)
     (n:=pins.length) ⟨rfl,rfl,0,by omega,rfl,by omega⟩ ?_
    rintro n e R3 D3 K ⟨rfl,hD,i,hi,he,hn⟩ hK
    rw[hD];clear hD
    simp only[List.map,lc,ln,lj,and_true] at he
    simp only[he]
    refine jlnz h (jlt (jif (λhc=>?_) (λhc=>?_)))
    ·have hc:=of_decide_eq_true hc
     have hil:i < pins.length:=by omega
     refine jcutq (λvs R' D'=>R' = R3∧D' = [] ++ F∧vs = [v,I a,I (match lastIdx pins a (i + 1) with | some i=>(i:Int) | none=>-1),I i]) (λK4 hK4=>?_) ?_
     rotate_left
     ·rintro e R4 D4 ⟨rfl,hD,he⟩
      rw[hD];clear hD
      simp only[List.map,lc,ln,lj,and_true] at he
      simp only[he]
      refine jadd ⟨by omega,by omega⟩ ?_
      exact hK (pins.length - (i + 1)) _ _ _ (by omega) ⟨rfl,rfl,i + 1,by omega,rfl,rfl⟩
     refine jcutq (λvs R' D'=>R' = R3∧D' = [] ++ F∧vs = [v,I a,I (match lastIdx pins a (i + 1) with | some i=>(i:Int) | none=>-1),I i]) (λK5 hK5=>?_) ?_
     rotate_left
     ·rintro e R4 D4 ⟨rfl,hD,he⟩
      rw[hD];clear hD
      simp only[List.map,lc,ln,lj,and_true] at he
      simp only[he]
      exact hK4 _ _ _ ⟨rfl,rfl,rfl⟩
     refine jfz1 h (by omega) (by omega) (jeq (jif (λhq=>?_) (λhq=>?_)))
     ·have hq:=eq_of_beq hq
      simp only[Int.toNat_natCast] at hq
      refine hK5 _ _ _ ⟨rfl,rfl,?_⟩
      simp only[lastIdx]
      rw[if_pos (by rw[List.getElem?_eq_getElem hil,hq])]
     ·have hq:=ne_of_beq_false hq
      simp only[Int.toNat_natCast] at hq
      refine hK5 _ _ _ ⟨rfl,rfl,?_⟩
      simp only[lastIdx]
      rw[if_neg (by rw[List.getElem?_eq_getElem hil];simpa using hq)]
    ·have hc:=of_decide_eq_false hc
     have:i = pins.length:=by omega
     subst this
     exact hK2 _ _ _ ⟨rfl,rfl,rfl⟩
   ·rintro e R4 D4 ⟨rfl,hD,he⟩
    rw[hD];clear hD
    simp only[List.map,lc,ln,lj,and_true] at he
    simp only[he]
    exact hK' _ _ _ ⟨rfl,rfl,rfl⟩
  ·rintro e R4 D4 ⟨rfl,hD,he⟩
   rw[hD];clear hD
   simp only[List.map,lc,ln,lj,and_true] at he
   simp only[he]
   cases hli:lastIdx pins a pins.length with
   | none=>
    refine jlt (jif (λ_=>?_) (λhh=>?_))
    ·refine jret (A:=[]) (RM.le.refl _) ?_
     unfold l5Pins;rw[if_neg (by rw[hk];decide),hli];exact⟨rfl,rfl⟩
    ·exact absurd hh (by decide)
   | some i=>
    obtain⟨q1,q2,_⟩:=lastIdx_some hli
    refine jlt (jif (λhh=>?_) (λhh=>?_))
    ·exact absurd (of_decide_eq_true hh) (by simp only;omega)
    ·refine jslh h (by simp only;omega) (by simp only;omega) λv1 h1=>?_
     refine jadd ⟨by simp only;omega,by simp only;omega⟩ ?_
     refine jsll h (by simp only;omega) (by simp only;omega) λv2 h2=>?_
     simp only[Int.toNat_natCast] at h1
     rw[show ((i:Int) + 1).toNat = i + 1 from by omega] at h2
     refine jc (A:=[]) (t_l5Ints h1 (by simp;omega)) ?_
     rintro _ R' _ hR ⟨b,c,sp,hc,hsp,rfl,rfl⟩
     obtain⟨xa,cx,rfl,hx⟩:=Ints.reads (D:=[(b,C T_int ((pins.take i).map I ++ sp))] ++ ([] ++ F)) (h2.le hR)
     refine japl (l2:=pins.drop (i + 1)) rfl hc hsp (by simp;omega) hx λb' c' sp' hc' hsp'=>?_
     refine jret (A:=[(b',C T_int ((pins.take i ++ pins.drop (i + 1)).map I ++ sp'))]) hR ?_
     unfold l5Pins;rw[if_neg (by rw[hk];decide),hli]
     exact⟨_,⟨b',c',sp',hc',hsp',rfl,rfl⟩,rfl⟩
end Go.Lf
end
section
namespace Go.Lf
open Go Sm
theorem opOf_some {S:Sim} {i:Int} {t:Thr} {o:Sm.Op} (h:S.opOf i t = some o):∃p,idx S.progs i = some p∧idx p t.next = some o:=by
 unfold Sim.opOf at h
 split at h
 ·exact⟨_,by assumption,h⟩
 ·cases h
theorem jopO {R:RM} {F:Chs} {p b:Nat} {S:Sim} {g:Img} {i:Int} {t:Thr} {v:Value} {o:Sm.Op} {k:Value→M} (hok:Ok R S g) (ho:S.opOf i t = some o)
  (H:∀b2,J R ((b2,C 122 (eOp o)) :: (b,C T_l8Thread (eThr t v)) :: (simD p S g ++ F)) (k (.pointer (some ⟨b2,0,none⟩)))) :
  J R ((b,C T_l8Thread (eThr t v)) :: (simD p S g ++ F)) (L1 (.pointer (some ⟨p,3,none⟩)) λx9=>IA 1 x9 (I i) λx10=>L1 x10 λx11=>L1 (.pointer (some ⟨b,0 + 1,none⟩)) λx13=>IA 8 x11 x13 λx14=>LA 8 x14 λx15=>AL 122 z122 λx16=>
   AND (L1 (.pointer (some ⟨p,3,none⟩)) λx17=>EV x17 x9)<|AND (L1 x10 λx18=>EV x18 x11)<|AND (L1 (.pointer (some ⟨b,0 + 1,none⟩)) λx19=>EV x19 x13)<|AND (LA 8 x14 λx20=>EV x20 x15)<|ST 8 x16 x15<|k x16):=by
 obtain⟨pr,h1,h2⟩:=opOf_some ho
 obtain⟨i0,i1,i2,i3⟩:=idx_some h1
 obtain⟨n0,n1,n2,n3⟩:=idx_some h2
 obtain⟨vs,f1,f2,f3⟩:=hok.progs
 obtain⟨x,f4,f5⟩:=f3 i.toNat i2
 rw[i3] at f5
 rcases f1 with ⟨_,h,_⟩ | ⟨bp,op_,cp,tp,cs,e1,e2,e3,e4,e5⟩
 ·omega
 rcases f5 with ⟨_,h,_⟩ | ⟨bo,oo,co,to_,co2,q1,q2,q3,q4,q5⟩
 ·omega
 have l1:J R ((b,C T_l8Thread (eThr t v)) :: (simD p S g ++ F)) (L1 (.pointer (some ⟨p,3,none⟩)) λx9=>IA 1 x9 (I i) λx10=>L1 x10 λx11=>L1 (.pointer (some ⟨b,0 + 1,none⟩)) λx13=>IA 8 x11 x13 λx14=>LA 8 x14 λx15=>AL 122 z122 λx16=>
   AND (L1 (.pointer (some ⟨p,3,none⟩)) λx17=>EV x17 x9)<|AND (L1 x10 λx18=>EV x18 x11)<|AND (L1 (.pointer (some ⟨b,0 + 1,none⟩)) λx19=>EV x19 x13)<|AND (LA 8 x14 λx20=>EV x20 x15)<|ST 8 x16 x15<|k x16):=by
  have hx:cs[op_ + i.toNat * 1]? = some x:=by
   have:=congrArg (λl=>l[i.toNat]?) e4
   simp only[List.getElem?_take,List.getElem?_drop] at this
   rw[if_pos (by omega)] at this
   rw[Nat.mul_one,this,f4]
  have ho8:(co2.drop (oo + t.next.toNat * 8)).take 8 = eOp o:=by
   have:=rowsE_get (f:=eOp) (w:=8) (λ_=>rfl) (sp:=[]) n2
   rw[List.append_nil,n3,← q4,List.drop_take,List.drop_drop,List.take_take] at this
   rw[← this];congr 1;omega
  refine jl (v:=g.progs) rfl ?_
  rw[e1]
  refine jia i0 (by omega) (jlr e2 hx ?_)
  rw[q1]
  refine jl (v:=I t.next) rfl ?_
  refine jia n0 (by omega) ?_
  refine jlar q2 (by omega) ho8 ?_
  refine ja λb2=>?_
  refine jand (jl (v:=g.progs) rfl (by rw[e1];exact jev)) ?_
  refine jand (jlr e2 (by rw[hx,q1]) jev) ?_
  refine jand (jl (v:=I t.next) rfl jev) ?_
  refine jand (jlar q2 (by omega) ho8 jev) ?_
  refine js (cs':=eOp o) rfl rfl (by exact Nat.le_refl 8) (by rfl) (H b2)
 exact l1
theorem begin8 {o:Sm.Op} {roots:List Int} (h8:o.kind = 8) (h:l5Begin o roots 0 = 0):0 < roots.length:=by
 by_cases c:0 < roots.length
 ·exact c
 ·exfalso
  have:roots = []:=List.length_eq_zero_iff.1 (by omega)
  subst this
  unfold l5Begin at h
  simp[h8] at h
theorem event_sz {S S' : Sim} {i a c:Int} (h:S.event i a c = some S'):S.sz = true:=by
 unfold Sim.event at h
 split at h
 ·cases h
 ·rename_i hz;simpa using hz
theorem setT_len {S:Sim} {i:Int} {t t' : Thr} (h:(S.setT i t').sz = true) (ht:idx S.th i = some t):t'.roots.length < 1000000:=by
 obtain⟨i0,i1,i2,i3⟩:=idx_some ht
 refine (sz_ev h).2.2.2.2 t' ?_
 show t'∈seti S.th i t'
 unfold seti
 exact List.mem_of_getElem? (List.getElem?_set_self (by omega))
theorem t_begin {p:Nat} {S S' : Sim} {g:Img} {i:Int} {R:RM} (hok:Ok R S g) (hS:S.begin_ i = some S') :
  Fn P F_Sim_begin [.pointer (some ⟨p,0,none⟩),I i] R (simD p S g) (SimQ p S' λ_=>True):=by
 refine s_Sim_begin λF=>?_
 unfold c_Sim_begin
 obtain⟨t,ht,hS⟩:=bind_some hS
 obtain⟨o,ho,hS⟩:=bind_some hS
 obtain⟨h0,h1,h2,h3⟩:=idx_some ht
 refine jopen (p:=p) hok ht rfl λb a cap hv=>?_
 refine jopO (p:=p) hok ho λb2=>?_
 refine jla (l:=eOp o) (by exact Nat.le_refl 8) (by rfl) ?_
 refine jp (p_OpOk o) (jif (λhb=>?_) (λhb=>?_))
 ·rw[if_pos hb] at hS
  refine jcS (p:=p) (by exact t_event hok hS) λ_ R2 g2 hR2 hr ok2=>?_
  exact jretS hR2 trivial rfl ok2
 rw[if_neg (by rw[hb];decide)] at hS
 refine jla (l:=eOp o) (by exact Nat.le_refl 8) (by rfl) ?_
 refine jl (v:=.slice a t.roots.length cap) rfl ?_
 refine jrp (r_l5Begin o 0 hv) (jne (jif (λhc=>?_) (λhc=>?_)))
 ·have hc:l5Begin o t.roots 0≠0:=by simpa using hc
  simp only[if_pos hc] at hS
  refine jcS (p:=p) (by exact t_event hok hS) λ_ R2 g2 hR2 hr ok2=>?_
  exact jretS hR2 trivial rfl ok2
 have hc:l5Begin o t.roots 0 = 0:=by simpa using hc
 simp only[if_neg (show ¬ l5Begin o t.roots 0≠0 from λh=>h hc)] at hS
 refine jl (v:=I o.kind) rfl (jeq (jif (λh8=>?_) (λh8=>?_)))
 ·have h8:=eq_of_beq h8
  rw[if_pos h8] at hS
  have hn:=begin8 h8 hc
  have hsz:=setT_len (event_sz hS) ht
  have hl1:t.roots.length≤1000000:=by simp at hsz;omega
  refine jl (v:=.slice a t.roots.length cap) rfl (jl (v:=.slice a t.roots.length cap) rfl (jln (jsub ⟨by omega,by omega⟩ ?_)))
  refine jslh hv (by omega) (by omega) λv1 hv1=>?_
  rw[show ((t.roots.length:Int) - 1).toNat = t.roots.length - 1 from by omega] at hv1
  refine jc (A:=[]) (t_l5Ints hv1 (by simp;omega)) ?_
  rintro _ R' _ hR ⟨b4,c4,sp4,hc4,hsp4,rfl,rfl⟩
  refine jfreeze (b:=b4) λR2 hR2 hb4=>?_
  have hv2:=ints_of (c:=c4) hb4 hc4
  have ok2:=(hok.le hR).le hR2
  refine js (cs':=eThr { t with roots:=t.roots.take (t.roots.length - 1) } (.slice (some ⟨b4,0,none⟩) (t.roots.take (t.roots.length - 1)).length c4)) rfl rfl (by simp[eThr]) rfl ?_
  refine jput (p:=p) (S.setT i { t with roots:=t.roots.take (t.roots.length - 1) }) (by exact ok2) h0 (by exact h1) (by exact hv2) (by rfl) λg3 ok3=>?_
  refine jcS (p:=p) (by exact t_event ok3 hS) λ_ R4 g4 hR4 hr ok4=>?_
  exact jretS ((hR.trans hR2).trans hR4) trivial rfl ok4
 have h8:o.kind≠8:=by simpa using h8
 rw[if_neg h8] at hS
 refine jeq (jif (λh9=>?_) (λh9=>?_))
 ·have h9:=eq_of_beq h9
  rw[if_pos h9] at hS
  obtain⟨r,hr,hS⟩:=bind_some hS
  obtain⟨r0,r1,r2,r3⟩:=idx_some hr
  refine jl (v:=.slice a t.roots.length cap) rfl (jl (v:=I o.a) rfl ?_)
  refine jfz1 hv r0 r1 ?_
  rw[r3]
  refine jcS (p:=p) (by exact t_push hok hS) λ_ R2 g2 hR2 hr ok2=>?_
  exact jretS hR2 trivial rfl ok2
 have h9:o.kind≠9:=by simpa using h9
 rw[if_neg h9] at hS
 refine jeq (jif (λk1=>?_) (λk1=>?_))
 ·have k1:=eq_of_beq k1
  rw[if_pos k1] at hS
  cases hS
  refine js (cs':=eThr { t with pc:=30 } (.slice a t.roots.length cap)) rfl rfl (by simp[eThr]) rfl ?_
  refine jput (p:=p) (S.setT i { t with pc:=30 }) (by exact hok) h0 (by exact h1) (by exact hv) (by rfl) λg3 ok3=>?_
  exact jretS (RM.le.refl _) trivial rfl ok3
 have k1:o.kind≠1:=by simpa using k1
 rw[if_neg k1] at hS
 obtain⟨ra,hra,hS⟩:=bind_some hS
 obtain⟨a0,a1,a2,a3⟩:=idx_some hra
 obtain⟨t2,ht2,hS⟩:=bind_some hS
 obtain⟨t3,ht3,hS⟩:=bind_some hS
 cases hS
 refine js (cs':=eThr { t with pc:=1 } (.slice a t.roots.length cap)) rfl rfl (by simp[eThr]) rfl ?_
 refine jl (v:=.slice a t.roots.length cap) rfl (jl (v:=I o.a) rfl (jfz1 hv a0 a1 ?_))
 rw[a3]
 refine js (cs':=eThr { t with pc:=1,h:=ra } (.slice a t.roots.length cap)) rfl rfl (by simp[eThr]) rfl ?_
 have ht2r:t2.roots = t.roots:=by
  split at ht2
  ·obtain⟨x,_,hx⟩:=bind_some ht2;cases hx;rfl
  ·cases ht2;rfl
 have ht3r:t3.roots = t.roots:=by
  split at ht3
  ·obtain⟨x,_,hx⟩:=bind_some ht3;cases hx;exact ht2r
  ·cases ht3;exact ht2r
 refine jcutq (λvs R' D'=>R' = R∧D' = (b2,C 122 (eOp o)) :: (b,C T_l8Thread (eThr t2 (.slice a t.roots.length cap))) :: (simD p S g ++ F)∧vs = [.pointer (some ⟨p,0,none⟩),I i,.pointer (some ⟨b,0,none⟩),.pointer (some ⟨b2,0,none⟩)]) (λK' hK'=>?_) ?_
 ·refine jor [.pointer (some ⟨p,0,none⟩),I i,.pointer (some ⟨b,0,none⟩),.pointer (some ⟨b2,0,none⟩)] ((o.kind == 3) || (o.kind == 6)) (λK' hK'=>?_) (λe c u ho he=>?_)
  ·refine jl (v:=I o.kind) rfl (jeq (jgtf (λh1=>?_) (λh1=>?_)))
   ·refine jl (v:=I o.kind) rfl (jeq (hK' _ _ _ (h1▸or2_f) (by rw[h1,Bool.false_or])))
   ·exact hK' _ _ _ (h1▸or2_t) (by rw[h1,Bool.true_or])
  simp only[List.map,lc,ln,lj,and_true] at he
  simp only[he]
  refine jor [.pointer (some ⟨p,0,none⟩),I i,.pointer (some ⟨b,0,none⟩),.pointer (some ⟨b2,0,none⟩)] (((o.kind == 3) || (o.kind == 6)) || (o.kind == 7)) (λK' hK'=>?_) (λe c u ho he=>?_)
  ·rw[ho]
   refine jgtf (λh1=>?_) (λh1=>?_)
   ·refine jl (v:=I o.kind) rfl (jeq (hK' _ _ _ (h1▸or2_f) (by rw[h1,Bool.false_or])))
   ·exact hK' _ _ _ (h1▸or2_t) (by rw[h1,Bool.true_or])
  simp only[List.map,lc,ln,lj,and_true] at he
  simp only[he]
  rw[ho]
  refine jif (λhk=>?_) (λhk=>?_)
  ·rw[if_pos (by simpa [or_assoc,and_assoc] using hk)] at ht2
   obtain⟨rb,hrb,ht2⟩:=bind_some ht2
   obtain⟨b0,b1,b2',b3⟩:=idx_some hrb
   cases ht2
   refine jl (v:=.slice a t.roots.length cap) rfl (jl (v:=I o.b) rfl (jfz1 hv b0 b1 ?_))
   rw[b3]
   refine js (cs':=eThr { t with pc:=1,h:=ra,g:=rb } (.slice a t.roots.length cap)) rfl rfl (by simp[eThr]) rfl ?_
   exact hK' _ _ _ ⟨rfl,rfl,rfl⟩
  ·rw[if_neg (by simpa [or_assoc,and_assoc] using hk)] at ht2
   cases ht2
   exact hK' _ _ _ ⟨rfl,rfl,rfl⟩
 ·rintro e R5 D3 ⟨rfl,hD,he⟩
  rw[hD];clear hD
  simp only[List.map,lc,ln,lj,and_true] at he
  simp only[he]
  refine jcutq (λvs R' D'=>R' = R5∧(∃G,D' = (b,C T_l8Thread (eThr t3 (.slice a t.roots.length cap))) :: (simD p S g ++ G)∧G = F)∧vs = [.pointer (some ⟨p,0,none⟩),I i,.pointer (some ⟨b,0,none⟩)]) (λK' hK'=>?_) ?_
  ·refine jl (v:=I o.kind) rfl (jeq (jif (λhk=>?_) (λhk=>?_)))
   ·rw[if_pos (eq_of_beq hk)] at ht3
    obtain⟨rc,hrc,ht3⟩:=bind_some ht3
    cases ht3
    rw[ht2r] at hrc
    obtain⟨b0,b1,b2',b3⟩:=idx_some hrc
    refine jl (v:=.slice a t.roots.length cap) rfl (jl (v:=I o.c) rfl (jfz1 hv b0 b1 ?_))
    rw[b3]
    refine js (cs':=eThr { t2 with k:=rc } (.slice a t.roots.length cap)) rfl rfl (by simp[eThr]) rfl ?_
    exact jdrop (hK' _ _ _ ⟨rfl,⟨_,rfl,rfl⟩,rfl⟩)
   ·rw[if_neg (ne_of_beq_false hk)] at ht3
    cases ht3
    exact jdrop (hK' _ _ _ ⟨rfl,⟨_,rfl,rfl⟩,rfl⟩)
  ·rintro e _ D3 ⟨rfl,⟨G,hD,hG⟩,he⟩
   rw[hD,hG];clear hD
   simp only[List.map,lc,ln,lj,and_true] at he
   simp only[he]
   refine jput (p:=p) (S.setT i t3) (by exact hok) h0 (by exact h1) (by rw[ht3r];exact hv) (by rfl) λg3 ok3=>?_
   exact jretS (RM.le.refl _) trivial rfl ok3
end Go.Lf
end
