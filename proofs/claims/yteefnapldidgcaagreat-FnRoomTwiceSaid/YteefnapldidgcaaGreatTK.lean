/- A part of the proof of the given row: the walk of the law and of all that it calls. Conditions: none. -/
import Derived.Test.YteefnapldidgcaaGreatTJ
set_option linter.unusedVariables false
set_option linter.unusedSimpArgs false
section
namespace Go.Lf
open Go Sm
theorem t_work {p:Nat} {S S' : Sim} {g:Img} {R:RM} (hok:Ok R S g) (hS:S.work = some S') :
  Fn P F_Sim_work [.pointer (some ⟨p,0,none⟩)] R (simD p S g) (SimQ p S' λ_=>True):=by
 refine s_Sim_work λF=>?_
 unfold c_Sim_work
 unfold Sim.work at hS
 refine jan [.pointer (some ⟨p,0,none⟩)] ((S.phase == 1) && (S.col.pc == 1)) (λK' hK'=>?_) (λe c u ho he=>?_)
 ·refine jl (v:=I S.phase) rfl (jeq (jgtt (λh1=>?_) (λh1=>?_)))
  ·refine jl (v:=I S.col.pc) rfl (jeq (hK' _ _ _ (h1▸and2_t) (by rw[h1,Bool.true_and])))
  ·exact hK' _ _ _ (h1▸and2_f) (by rw[h1,Bool.false_and])
 simp only[List.map,lc,ln,lj,and_true] at he
 simp only[he]
 rw[ho]
 refine jif (λhc=>?_) (λhc=>?_)
 ·rw[if_pos (by simpa using hc)] at hS
  refine jcS (p:=p) (by exact t_mark hok hS) λ_ R2 g2 hR2 hr ok2=>?_
  exact jretS hR2 trivial rfl ok2
 rw[if_neg (by intro h;simp[h.1,h.2] at hc)] at hS
 refine jl (v:=I S.phase) rfl (jeq (jif (λh1=>?_) (λh1=>?_)))
 ·rw[if_pos (eq_of_beq h1)] at hS
  refine jcS (p:=p) (by exact t_look hok hS) λ_ R2 g2 hR2 hr ok2=>?_
  exact jretS hR2 trivial rfl ok2
 rw[if_neg (ne_of_beq_false h1)] at hS
 refine jan [.pointer (some ⟨p,0,none⟩)] ((S.phase == 2) && (S.col.pc == 5)) (λK' hK'=>?_) (λe c u ho he=>?_)
 ·refine jl (v:=I S.phase) rfl (jeq (jgtt (λh1=>?_) (λh1=>?_)))
  ·refine jl (v:=I S.col.pc) rfl (jeq (hK' _ _ _ (h1▸and2_t) (by rw[h1,Bool.true_and])))
  ·exact hK' _ _ _ (h1▸and2_f) (by rw[h1,Bool.false_and])
 simp only[List.map,lc,ln,lj,and_true] at he
 simp only[he]
 rw[ho]
 refine jif (λhc=>?_) (λhc=>?_)
 ·rw[if_pos (by simpa using hc)] at hS
  refine jcS (p:=p) (by exact t_walk hok hS) λ_ R2 g2 hR2 hr ok2=>?_
  exact jretS hR2 trivial rfl ok2
 rw[if_neg (by intro h;simp[h.1,h.2] at hc)] at hS
 refine jl (v:=I S.phase) rfl (jeq (jif (λh1=>?_) (λh1=>?_)))
 ·rw[if_pos (eq_of_beq h1)] at hS
  refine jcS (p:=p) (by exact t_carry hok hS) λ_ R2 g2 hR2 hr ok2=>?_
  exact jretS hR2 trivial rfl ok2
 ·rw[if_neg (ne_of_beq_false h1)] at hS
  refine jcS (p:=p) (by exact t_renew hok hS) λ_ R2 g2 hR2 hr ok2=>?_
  exact jretS hR2 trivial rfl ok2
theorem jmarks {R:RM} {D G:Chs} {p b c:Nat} {S:Sim} {g:Img} {ms:List Bool} {sp:List Value} {m:M} [w:Fd D p S g G]
  (H:J R (simD p { S with marks:=ms } { g with mb:=b,mc:=c,msp:=sp } ++ G) m) :
  J R ((b,C T_bool (ms.map Value.bool ++ sp)) :: D) (ST 1 (.pointer (some ⟨p,6,none⟩)) (.slice (some ⟨b,0,none⟩) ms.length c) m):=by
 refine jperm ((w.ex.cons _).trans List.perm_middle.symm) ?_
 have e2:eSim { S with marks:=ms } { g with mb:=b,mc:=c,msp:=sp } = (eSim S g).set 6 (.slice (some ⟨b,0,none⟩) ms.length c):=by
  simp[eSim,evV]
 refine js (D:=simD p S g ++ (b,C T_bool (ms.map Value.bool ++ sp)) :: G) (t:=T_l8Sim) (cs:=eSim S g) (cs':=eSim { S with marks:=ms } { g with mb:=b,mc:=c,msp:=sp })
  (D':=(p,C T_l8Sim (eSim { S with marks:=ms } { g with mb:=b,mc:=c,msp:=sp })) :: ((g.wb,C T_int (S.words.map I ++ g.wsp)) :: (g.tb,C T_Region (rowsE eRg S.table ++ g.tsp)) :: (g.mb,C T_bool (S.marks.map Value.bool ++ g.msp)) :: (g.hb,C T_l8Thread (eThs S.th g.rv ++ g.hsp)) :: evD S g ++ (b,C T_bool (ms.map Value.bool ++ sp)) :: G)) rfl rfl (by simp[eSim]) (by rw[e2,show cl (Value.slice (some ⟨b,0,none⟩) ms.length c) = [Value.slice (some ⟨b,0,none⟩) ms.length c] from rfl,lay_one (by simp[eSim])]) ?_ (u:=?_)
 ·unfold simD
  exact inferInstance
 ·refine jpart ((p,C T_l8Sim (eSim { S with marks:=ms } { g with mb:=b,mc:=c,msp:=sp })) :: (g.wb,C T_int (S.words.map I ++ g.wsp)) :: (g.tb,C T_Region (rowsE eRg S.table ++ g.tsp)) :: (b,C T_bool (ms.map Value.bool ++ sp)) :: (g.hb,C T_l8Thread (eThs S.th g.rv ++ g.hsp)) :: evD S g) (G:=G) ?_
  exact H
theorem t_unmark {p:Nat} {S:Sim} {g:Img} {R:RM} (hok:Ok R S g) :
  Fn P F_Sim_unmark [.pointer (some ⟨p,0,none⟩)] R (simD p S g) (SimQ p { S with marks:=List.replicate S.marks.length false } λ_=>True):=by
 refine s_Sim_unmark λF=>?_
 unfold c_Sim_unmark
 have hml:=hok.ml
 refine jl (v:=.slice (some ⟨g.mb,0,none⟩) S.marks.length g.mc) rfl (jln (jms (by omega) (by omega) (by omega) λb=>?_))
 rw[Int.toNat_natCast]
 have e:(List.replicate S.marks.length (cl z4)).flatten = (List.replicate S.marks.length false).map Value.bool ++ []:=by
  rw[List.append_nil,List.map_replicate,show cl z4 = [Value.bool false] from rfl,List.flatten_replicate_singleton]
 rw[e]
 have:=jmarks (p:=p) (R:=R) (D:=simD p S g ++ F) (b:=b) (c:=S.marks.length) (ms:=List.replicate S.marks.length false) (sp:=[]) (m:=POST R F (SimQ p { S with marks:=List.replicate S.marks.length false } λ_=>True) (.tuple #[])) ?_
 ·rw[List.length_replicate] at this
  exact this
 ·exact jretS (RM.le.refl _) trivial rfl (by exact { hok with ml:=by simpa using hok.ml,mk_:=by simp })
def rowsTo (f:Int→Rg→Rg) (k:Nat) (t:List Rg):List Rg:=t.mapIdx λi x=>if i = 0∨k≤i then x else f i x
theorem rowsTo_one {f:Int→Rg→Rg} {t:List Rg}:rowsTo f 1 t = t:=by
 apply List.ext_getElem
 ·simp[rowsTo]
 ·intro i h1 h2
  simp only[rowsTo,List.getElem_mapIdx]
  rw[if_pos (by omega)]
theorem rowsTo_all {f:Int→Rg→Rg} {t:List Rg} {k:Nat} (h:t.length≤k):rowsTo f k t = rows f t:=by
 apply List.ext_getElem
 ·simp[rowsTo,rows]
 ·intro i h1 h2
  simp only[rowsTo,rows,List.getElem_mapIdx]
  simp only[rowsTo,List.length_mapIdx] at h1
  by_cases c:i = 0
  ·rw[if_pos (.inl c),if_pos c]
  ·rw[if_neg (by omega),if_neg c]
@[simp] theorem rowsTo_len {f:Int→Rg→Rg} {t:List Rg} {k:Nat}:(rowsTo f k t).length = t.length:=by simp[rowsTo]
theorem rowsTo_get {f:Int→Rg→Rg} {t:List Rg} {k:Nat} (h:k < t.length):(rowsTo f k t)[k]'(by simpa using h) = t[k]:=by
 simp only[rowsTo,List.getElem_mapIdx];rw[if_pos (.inr (Nat.le_refl k))]
theorem rowsTo_set {f:Int→Rg→Rg} {t:List Rg} {k:Nat} (h1:1≤k) (h:k < t.length):(rowsTo f k t).set k (f k t[k]) = rowsTo f (k + 1) t:=by
 apply List.ext_getElem
 ·simp[rowsTo]
 ·intro i h2 h3
  simp only[rowsTo,List.length_mapIdx] at h3
  rw[List.getElem_set]
  simp only[rowsTo,List.getElem_mapIdx]
  by_cases c:k = i
  ·subst c;rw[if_pos rfl,if_neg (by omega)]
  ·rw[if_neg c]
   by_cases d:i = 0∨k≤i
   ·rw[if_pos d,if_pos (by omega)]
   ·rw[if_neg d,if_neg (by omega)]
theorem t_idle {p:Nat} {S S' : Sim} {g:Img} {R:RM} (hok:Ok R S g) (hS:S.idle = some S') :
  Fn P F_Sim_idle [.pointer (some ⟨p,0,none⟩)] R (simD p S g) (SimQ p S' λ_=>True):=by
 refine s_Sim_idle λF=>?_
 unfold c_Sim_idle
 unfold Sim.idle at hS
 obtain⟨n,hn,hS⟩:=bind_some hS
 obtain⟨rfl,hin⟩:=plus_some hn
 simp only[Option.some.injEq] at hS
 have htl:=hok.tl
 refine jcS (p:=p) (by exact t_unmark hok) λ_ R1 g1 hR1 hr ok1=>?_
 refine jss (p:=p) { S with marks:=List.replicate S.marks.length false,phase:=0 } g1 rfl rfl (by decide) (by rfl) (by rfl) ?_
 refine jl (v:=.bool S.col.asked) rfl ?_
 refine jbd (cs:=eCol (col0 S.col.asked 0) (.slice none 0 0)) rfl rfl ?_
 refine jss (p:=p) { S with marks:=List.replicate S.marks.length false,phase:=0,col:=col0 S.col.asked 0 } { g1 with stack:=.slice none 0 0 } rfl rfl (by decide) (by rfl) (by rfl) ?_
 refine jl (v:=I S.cycles) rfl (jadd hin ?_)
 refine jss (p:=p) { S with marks:=List.replicate S.marks.length false,phase:=0,col:=col0 S.col.asked 0,cycles:=S.cycles + 1 } { g1 with stack:=.slice none 0 0 } rfl rfl (by decide) (by rfl) (by rfl) ?_
 refine jlp (λm vs R' D'=>R' = R1∧∃k:Nat,1≤k∧k≤S.table.length + 1∧D' = simD p { S with marks:=List.replicate S.marks.length false,phase:=0,col:=col0 S.col.asked 0,cycles:=S.cycles + 1,table:=rowsTo (λ_ x=>{ x with live:=0 }) k S.table } { g1 with stack:=.slice none 0 0 } ++ F∧vs = [.pointer (some ⟨p,0,none⟩),I k]∧m = S.table.length + 1 - k)
  (n:=S.table.length) ⟨rfl,1,Nat.le_refl 1,by omega,by rw[rowsTo_one],rfl,by omega⟩ ?_
 rintro m e R2 D2 K ⟨hR2,k,k0,k1,hD,he,hm⟩ hK
 subst hR2
 rw[hD];clear hD
 simp only[List.map,lc,ln,lj,and_true] at he
 simp only[he]
 refine jl (v:=.slice (some ⟨g1.tb,0,none⟩) (rowsTo (λ_ x=>{ x with live:=0 }) k S.table).length g1.tc) rfl (jln (jlt (jif (λhc=>?_) (λhc=>?_))))
 ·have hc:k < S.table.length:=by have:=of_decide_eq_true hc;rw[rowsTo_len] at this;omega
  refine jl (v:=.slice (some ⟨g1.tb,0,none⟩) (rowsTo (λ_ x=>{ x with live:=0 }) k S.table).length g1.tc) rfl (jian (by rw[rowsTo_len];exact hc) ?_)
  refine jlr_ (p:=p) (g:={ g1 with stack:=.slice none 0 0 }) (by simpa using hc) ?_
  rw[show ({ S with marks:=List.replicate S.marks.length false,phase:=0,col:=col0 S.col.asked 0,cycles:=S.cycles + 1,table:=rowsTo (λ_ x=>{ x with live:=0 }) k S.table }:Sim).table[k]'(by simpa using hc) = S.table[k] from rowsTo_get (f:=λ_ x=>{ x with live:=0 }) hc]
  refine ja λb5=>?_
  refine js (cs':=eRg (S.table[k])) rfl rfl (by simp) rfl ?_
  refine js (cs':=eRg { S.table[k] with live:=0 }) rfl rfl (by simp) rfl ?_
  refine jl (v:=.slice (some ⟨g1.tb,0,none⟩) (rowsTo (λ_ x=>{ x with live:=0 }) k S.table).length g1.tc) rfl ?_
  refine jla (l:=eRg { S.table[k] with live:=0 }) (by simp) rfl ?_
  refine jian (by rw[rowsTo_len];exact hc) ?_
  refine jsr_ (p:=p) (g:={ g1 with stack:=.slice none 0 0 }) (x:={ S.table[k] with live:=0 }) { S with marks:=List.replicate S.marks.length false,phase:=0,col:=col0 S.col.asked 0,cycles:=S.cycles + 1,table:=rowsTo (λ_ x=>{ x with live:=0 }) (k + 1) S.table } (by simpa using hc) (by rw[← rowsTo_set k0 hc]) ?_
  refine jadd ⟨by omega,by omega⟩ ?_
  refine jpart (simD p { S with marks:=List.replicate S.marks.length false,phase:=0,col:=col0 S.col.asked 0,cycles:=S.cycles + 1,table:=rowsTo (λ_ x=>{ x with live:=0 }) (k + 1) S.table } { g1 with stack:=.slice none 0 0 }) (G:=F) ?_
  exact hK (S.table.length + 1 - (k + 1)) _ _ _ (by omega) ⟨rfl,k + 1,by omega,by omega,rfl,rfl,rfl⟩
 ·have hc:S.table.length≤k:=by have:=of_decide_eq_false hc;rw[rowsTo_len] at this;omega
  subst hS
  refine jretS hR1 trivial (by rw[rowsTo_all hc]) ?_
  exact { ok1 with stack:=.inl ⟨rfl,rfl,rfl⟩,tl:=by simpa [rows] using hok.tl,tk:=by simpa [rows] using ok1.tk,ml:=by simpa using hok.ml,mk_:=by simpa using ok1.mk_ }
end Go.Lf
end
section
namespace Go.Lf
open Go Sm
def SO (l:List Int) (v:Value) (A:Chs):Prop:=(l = []∧v = .slice none 0 0∧A = [])∨OwnI l v A
theorem SO.flat {l:List Int} {v:Value} {A:Chs} (h:SO l v A):flat v = true:=by
 rcases h with ⟨_,rfl,_⟩ | ⟨b,c,sp,_,_,rfl,_⟩<;>rfl
theorem SO.sl {l:List Int} {v:Value} {A:Chs} (h:SO l v A):∃a n c,v = .slice a n c:=by
 rcases h with ⟨_,rfl,_⟩ | ⟨b,c,sp,_,_,rfl,_⟩<;>exact⟨_,_,_,rfl⟩
theorem jas {R:RM} {A E:Chs} {l l2:List Int} {v:Value} {xa:Option Addr} {m cx:Nat} {k:Value→M} (so:SO l v A) (hm:m = l2.length) (hl:l.length + l2.length < 1000000000000) (hx:Reads R (A ++ E) xa (m * 1) (l2.map I))
  (H:∀v' A',SO (l ++ l2) v' A'→J R (A' ++ E) (k v')):J R (A ++ E) (AP T_int 1 8 [I 0] v (.slice xa m cx) k):=by
 subst hm
 have hfl:allFlat (l2.map I) = true:=by
  unfold allFlat;rw[List.all_eq_true];intro x hx;obtain⟨y,_,rfl⟩:=List.mem_map.1 hx;rfl
 have fl:∀n,(List.replicate n [I 0]).flatten.length = n:=λn=>by
  rw[flat_len (w:=1) (by intro x hx;rw[(List.mem_replicate.1 hx).2];rfl)];simp
 rcases so with ⟨rfl,rfl,rfl⟩ | ⟨b,c,sp,hc,hsp,rfl,rfl⟩
 ·refine jap hx (sl:=0) (old:=[]) (by rw[Nat.zero_mul];exact Reads.none_) (by decide) (by simp at hl;omega) (λhc h hst=>?_) (λb c hc=>?_)
  ·have h0:l2 = []:=List.length_eq_zero_iff.1 (by omega)
   subst h0
   have:=H (.slice none 0 0) [] (.inl ⟨rfl,rfl,rfl⟩) h hst
   simpa using this
  ·have:=H (.slice (some ⟨b,0,none⟩) l2.length c) [(b,C T_int (l2.map I ++ (List.replicate (c - l2.length) [I 0]).flatten))] (.inr ⟨b,c,(List.replicate (c - l2.length) [I 0]).flatten,by simpa using hc,by rw[fl];simp,by simp,by simp⟩)
   simpa using this
 ·refine japh hx (E:=E) (tk:=⟨List.Perm.refl _⟩) (by simp;omega) hc (by simp) hfl (by decide) (by omega) (λh=>?_) (λb' c' h=>?_)
  ·have el:lay (l.map I ++ sp) (l.length * 1) (l2.map I) = (l ++ l2).map I ++ sp.drop l2.length:=by
    rw[lay_app (by simp)];simp[lay]
   rw[el]
   have:=H (.slice (some ⟨b,0,none⟩) (l ++ l2).length c) [(b,C T_int ((l ++ l2).map I ++ sp.drop l2.length))] (.inr ⟨b,c,_,by simpa using h,by simp;omega,rfl,rfl⟩)
   simpa using this
  ·refine jperm (List.Perm.swap _ _ _) (jdrop ?_)
   have:=H (.slice (some ⟨b',0,none⟩) (l ++ l2).length c') [(b',C T_int ((l ++ l2).map I ++ (List.replicate (c' - (l.length + l2.length)) [I 0]).flatten))] (.inr ⟨b',c',_,by simpa using h,by simp[fl],rfl,rfl⟩)
   rw[List.take_append_of_le_length (by simp),List.take_of_length_le (by simp)]
   simpa using this
theorem jfso {R:RM} {A E:Chs} {l:List Int} {v:Value} {m:M} (so:SO l v A) (H:∀R',R.le R'→Ints R' v l→J R' E m):J R (A ++ E) m:=by
 rcases so with ⟨rfl,rfl,rfl⟩ | ⟨b,c,sp,hc,hsp,rfl,rfl⟩
 ·exact H R (RM.le.refl _) (.inl ⟨rfl,rfl,rfl⟩)
 ·refine jfreeze (b:=b) (E:=E) (t:=⟨List.Perm.refl _⟩) λR2 hR2 hb=>?_
  exact H R2 hR2 (ints_of hb hc)
theorem jrv {R:RM} {D G:Chs} {p:Nat} {S:Sim} {g:Img} {i:Int} {t:Thr} {k:Value→M} [w:Fd D p S g G] (hok:Ok R S g) (ht:idx S.th i = some t) (H:∀v,Ints R v t.roots→J R D (k v)) :
  J R D (L1 (.pointer (some ⟨p,17,none⟩)) λx=>IA 17 x (I i) λy=>FO 0 y λz=>L1 z k):=by
 obtain⟨h0,h1,h2,h3⟩:=idx_some ht
 have h2' : i.toNat < g.rv.length:=by have:=hok.rvl;omega
 have hv:=hok.rv i.toNat h2 h2'
 rw[h3] at hv
 have H' : J R (simD p S g ++ G) (k (g.rv[i.toNat])):=jperm w.ex.symm (H _ hv)
 have l1:J R (simD p S g ++ G) (L1 (.pointer (some ⟨p,17,none⟩)) λx=>IA 17 x (I i) λy=>FO 0 y λz=>L1 z k):=by
  refine jl rfl (jia h0 h1 (jl (v:=g.rv[i.toNat]) ?_ H'))
  rw[Nat.zero_add]
  exact ths_cell h2 h2' (by rw[h3];rfl)
 exact jperm w.ex l1
theorem flat_le {l:List Thr} (h:∀t∈l,t.roots.length < 1000000):(l.flatMap λt=>t.roots.filter (·≠0)).length≤1000000 * l.length:=by
 induction l with
 | nil=>simp
 | cons t r ih=>
  rw[List.flatMap_cons,List.length_append,List.length_cons]
  have h1:=ih λt ht=>h t (by simp[ht])
  have h2:=h t (by simp)
  have h3:=List.length_filter_le (λx=>decide (x≠0)) t.roots
  omega
theorem t_snapshot {p:Nat} {S:Sim} {g:Img} {R:RM} (hok:Ok R S g) (hsz:S.sz = true) :
  Fn P F_Sim_snapshot [.pointer (some ⟨p,0,none⟩)] R (simD p S g) (SimQ p S.snapshot λ_=>True):=by
 refine s_Sim_snapshot λF=>?_
 unfold c_Sim_snapshot
 have hsz:=sz_ev hsz
 have htl:=hok.tl
 have hhl:=hok.hl
 have hml:=hok.ml
 refine jcS (p:=p) (by exact t_unmark hok) λ_ R1 g1 hR1 hr ok1=>?_
 refine jss (p:=p) { S with marks:=List.replicate S.marks.length false,old:=[] } { g1 with old:=.slice none 0 0 } rfl rfl (by decide) (by rfl) (by rfl) ?_
 refine jss (p:=p) { S with marks:=List.replicate S.marks.length false,old:=[],phase:=1 } { g1 with old:=.slice none 0 0 } rfl rfl (by decide) (by rfl) (by rfl) ?_
 have ok2:Ok R1 { S with marks:=List.replicate S.marks.length false,old:=[],phase:=1 } { g1 with old:=.slice none 0 0 }:={ ok1 with old:=.inl ⟨rfl,rfl,rfl⟩ }
 generalize hS2:({ S with marks:=List.replicate S.marks.length false,old:=[],phase:=1 }:Sim) = S2 at ok2 ⊢
 generalize hg2:({ g1 with old:=.slice none 0 0 }:Img) = g2 at ok2 ⊢
 have e1:S2.col = S.col:=by rw[← hS2]
 have e2:S2.th = S.th:=by rw[← hS2]
 have e3:S2.pins = S.pins:=by rw[← hS2]
 have e4:S2.table = S.table:=by rw[← hS2]
 refine jl (v:=.bool S2.col.asked) rfl (jl (v:=I S2.col.want) rfl ?_)
 refine jbd (cs:=eCol { col0 S2.col.asked S2.col.want with pc:=1 } (.slice none 0 0)) rfl rfl ?_
 refine ja λb=>?_
 refine jand (jl (v:=.bool S2.col.asked) rfl jev) (jand (jl (v:=I S2.col.want) rfl jev) ?_)
 refine js (cs':=eCol { col0 S2.col.asked S2.col.want with pc:=1 } (.slice none 0 0)) rfl rfl (by exact Nat.le_refl 15) rfl ?_
 have hth:∀i:Nat,(S2.th.take i).flatMap (λt=>t.roots.filter (·≠0)) = (S2.th.take i).flatMap (λt=>t.roots.filter (·≠0)):=λ_=>rfl
 have hlen:∀l:List Int,l.length≤1000000 * 1000 + 1000000→l.length + 1 < 1000000000000:=λl h=>by omega
 have hroots:∀t∈S2.th,t.roots.length < 1000000:=λt ht=>hsz.2.2.2.2 t (e2▸ht)
 have htl2:S2.th.length≤1000:=by rw[e2];exact hhl
 have tk:∀i:Nat,((S2.th.take i).flatMap λt=>t.roots.filter (·≠0)).length≤1000000 * 1000:=λi=>by
  have h1:=flat_le (l:=S2.th.take i) λt ht=>hroots t (List.mem_of_mem_take ht)
  have h2:(S2.th.take i).length≤1000:=by rw[List.length_take];omega
  omega
 refine jcutq (λvs R' D'=>R' = R1∧∃v A,SO (S2.th.flatMap λt=>t.roots.filter (·≠0)) v A∧D' = A ++ ((b,C T_l8Col (eCol { col0 S2.col.asked S2.col.want with pc:=1 } v)) :: (simD p S2 g2 ++ F))∧vs = [.pointer (some ⟨p,0,none⟩),.pointer (some ⟨b,0,none⟩)]) (λK hK=>?_) ?_
 ·refine jcutq (λvs R' D'=>R' = R1∧∃v A,SO (S2.th.flatMap λt=>t.roots.filter (·≠0)) v A∧D' = A ++ ((b,C T_l8Col (eCol { col0 S2.col.asked S2.col.want with pc:=1 } v)) :: (simD p S2 g2 ++ F))∧vs = [.pointer (some ⟨p,0,none⟩),.pointer (some ⟨b,0,none⟩)]) (λK2 hK2=>?_) ?_
  rotate_left
  ·rintro e R2 D2 ⟨hR2,v,A,so,hD,he⟩
   subst hR2
   rw[hD];clear hD
   simp only[List.map,lc,ln,lj,and_true] at he
   simp only[he]
   exact hK _ _ _ ⟨rfl,v,A,so,rfl,rfl⟩
  refine jlp (λm vs R' D'=>R' = R1∧∃(i:Nat) (v:Value) (A:Chs),i≤S2.th.length∧SO ((S2.th.take i).flatMap λt=>t.roots.filter (·≠0)) v A∧D' = A ++ ((b,C T_l8Col (eCol { col0 S2.col.asked S2.col.want with pc:=1 } v)) :: (simD p S2 g2 ++ F))∧vs = [.pointer (some ⟨p,0,none⟩),.pointer (some ⟨b,0,none⟩),I i]∧m = S2.th.length - i)
   (n:=S2.th.length) ⟨rfl,0,.slice none 0 0,[],by omega,.inl ⟨by simp,rfl,rfl⟩,rfl,rfl,by omega⟩ ?_
  rintro m e R2 D2 K3 ⟨hR2,i,v,A,hi,so,hD,he,hm⟩ hK3
  subst hR2
  rw[hD];clear hD
  simp only[List.map,lc,ln,lj,and_true] at he
  simp only[he]
  refine jl (v:=.slice (some ⟨g2.hb,0,none⟩) S2.th.length g2.hc) rfl (jln (jlt (jif (λhc=>?_) (λhc=>?_))))
  rotate_left
  ·have hc:=of_decide_eq_false hc
   rw[List.take_of_length_le (show S2.th.length≤i by omega)] at so
   exact hK2 _ _ _ ⟨rfl,v,A,so,rfl,rfl⟩
  have hc:i < S2.th.length:=by have:=of_decide_eq_true hc;omega
  have hti:idx S2.th i = some (S2.th[i]):=by unfold idx;rw[if_pos (by omega),Int.toNat_natCast,List.getElem?_eq_getElem hc]
  have htk:(S2.th.take (i + 1)).flatMap (λt=>t.roots.filter (·≠0)) = (S2.th.take i).flatMap (λt=>t.roots.filter (·≠0)) ++ (S2.th[i]).roots.filter (·≠0):=by
   rw[List.take_succ_eq_append_getElem hc,List.flatMap_append];simp
  have hri:=hroots _ (List.getElem_mem hc)
  have done:∀(K4:List Value→M),(∀v A,SO ((S2.th.take (i + 1)).flatMap λt=>t.roots.filter (·≠0)) v A→J R2 (A ++ ((b,C T_l8Col (eCol { col0 S2.col.asked S2.col.want with pc:=1 } v)) :: (simD p S2 g2 ++ F))) (K4 [.pointer (some ⟨p,0,none⟩),.pointer (some ⟨b,0,none⟩),I i]))→True:=λ_ _=>trivial
  refine jcutq (λvs R' D'=>R' = R2∧∃v A,SO ((S2.th.take (i + 1)).flatMap λt=>t.roots.filter (·≠0)) v A∧D' = A ++ ((b,C T_l8Col (eCol { col0 S2.col.asked S2.col.want with pc:=1 } v)) :: (simD p S2 g2 ++ F))∧vs = [.pointer (some ⟨p,0,none⟩),.pointer (some ⟨b,0,none⟩),I i]) (λK4 hK4=>?_) ?_
  rotate_left
  ·rintro e R3 D3 ⟨hR3,v,A,so,hD,he⟩
   subst hR3
   rw[hD];clear hD
   simp only[List.map,lc,ln,lj,and_true] at he
   simp only[he]
   refine jadd ⟨by omega,by omega⟩ ?_
   exact hK3 (S2.th.length - (i + 1)) _ _ _ (by omega) ⟨rfl,i + 1,v,A,by omega,so,rfl,rfl,rfl⟩
  refine jcutq (λvs R' D'=>R' = R2∧∃v A,SO ((S2.th.take (i + 1)).flatMap λt=>t.roots.filter (·≠0)) v A∧D' = A ++ ((b,C T_l8Col (eCol { col0 S2.col.asked S2.col.want with pc:=1 } v)) :: (simD p S2 g2 ++ F))∧vs = [.pointer (some ⟨p,0,none⟩),.pointer (some ⟨b,0,none⟩),I i]) (λK5 hK5=>?_) ?_
  rotate_left
  ·rintro e R3 D3 ⟨hR3,v,A,so,hD,he⟩
   subst hR3
   rw[hD];clear hD
   simp only[List.map,lc,ln,lj,and_true] at he
   simp only[he]
   exact hK4 _ _ _ ⟨rfl,v,A,so,rfl,rfl⟩
  refine jcutq (λvs R' D'=>R' = R2∧∃v A,SO ((S2.th.take (i + 1)).flatMap λt=>t.roots.filter (·≠0)) v A∧D' = A ++ ((b,C T_l8Col (eCol { col0 S2.col.asked S2.col.want with pc:=1 } v)) :: (simD p S2 g2 ++ F))∧vs = [.pointer (some ⟨p,0,none⟩),.pointer (some ⟨b,0,none⟩),I i]) (λK6 hK6=>?_) ?_
  rotate_left
  ·rintro e R3 D3 ⟨hR3,v,A,so,hD,he⟩
   subst hR3
   rw[hD];clear hD
   simp only[List.map,lc,ln,lj,and_true] at he
   simp only[he]
   exact hK5 _ _ _ ⟨rfl,v,A,so,rfl,rfl⟩
  refine jlp (λm vs R' D'=>R' = R2∧∃(k:Nat) (v:Value) (A:Chs),k≤(S2.th[i]).roots.length∧SO ((S2.th.take i).flatMap (λt=>t.roots.filter (·≠0)) ++ ((S2.th[i]).roots.take k).filter (·≠0)) v A∧D' = A ++ ((b,C T_l8Col (eCol { col0 S2.col.asked S2.col.want with pc:=1 } v)) :: (simD p S2 g2 ++ F))∧vs = [.pointer (some ⟨p,0,none⟩),.pointer (some ⟨b,0,none⟩),I i,I k]∧m = (S2.th[i]).roots.length - k)
   (n:=(S2.th[i]).roots.length) ⟨rfl,0,v,A,by omega,by simpa using so,rfl,rfl,by omega⟩ ?_
  rintro m e R3 D3 K7 ⟨hR3,k,v,A,hk,so,hD,he,hm⟩ hK7
  subst hR3
  rw[hD];clear hD
  simp only[List.map,lc,ln,lj,and_true] at he
  simp only[he]
  refine jrv (p:=p) ok2 hti λrv1 hrv1=>?_
  refine jlnz hrv1 (jlt (jif (λhd=>?_) (λhd=>?_)))
  rotate_left
  ·have hd:=of_decide_eq_false hd
   rw[List.take_of_length_le (show (S2.th[i]).roots.length≤k by omega),← htk] at so
   exact hK6 _ _ _ ⟨rfl,v,A,so,rfl,rfl⟩
  have hd:k < (S2.th[i]).roots.length:=by have:=of_decide_eq_true hd;omega
  have hrk:((S2.th[i]).roots.take (k + 1)).filter (·≠0) = ((S2.th[i]).roots.take k).filter (·≠0) ++ (if (S2.th[i]).roots[k]≠0 then [(S2.th[i]).roots[k]] else []):=by
   rw[List.take_succ_eq_append_getElem hd,List.filter_append]
   congr 1
   by_cases c:(S2.th[i]).roots[k] = 0<;>simp[c]
  refine jcutq (λvs R' D'=>R' = R3∧∃v A,SO ((S2.th.take i).flatMap (λt=>t.roots.filter (·≠0)) ++ ((S2.th[i]).roots.take (k + 1)).filter (·≠0)) v A∧D' = A ++ ((b,C T_l8Col (eCol { col0 S2.col.asked S2.col.want with pc:=1 } v)) :: (simD p S2 g2 ++ F))∧vs = [.pointer (some ⟨p,0,none⟩),.pointer (some ⟨b,0,none⟩),I i,I k]) (λK8 hK8=>?_) ?_
  rotate_left
  ·rintro e R4 D4 ⟨hR4,v,A,so,hD,he⟩
   subst hR4
   rw[hD];clear hD
   simp only[List.map,lc,ln,lj,and_true] at he
   simp only[he]
   refine jadd ⟨by omega,by omega⟩ ?_
   exact hK7 ((S2.th[i]).roots.length - (k + 1)) _ _ _ (by omega) ⟨rfl,k + 1,v,A,by omega,so,rfl,rfl,rfl⟩
  refine jcutq (λvs R' D'=>R' = R3∧∃v A,SO ((S2.th.take i).flatMap (λt=>t.roots.filter (·≠0)) ++ ((S2.th[i]).roots.take (k + 1)).filter (·≠0)) v A∧D' = A ++ ((b,C T_l8Col (eCol { col0 S2.col.asked S2.col.want with pc:=1 } v)) :: (simD p S2 g2 ++ F))∧vs = [.pointer (some ⟨p,0,none⟩),.pointer (some ⟨b,0,none⟩),I i,I k]) (λK9 hK9=>?_) ?_
  rotate_left
  ·rintro e R4 D4 ⟨hR4,v,A,so,hD,he⟩
   subst hR4
   rw[hD];clear hD
   simp only[List.map,lc,ln,lj,and_true] at he
   simp only[he]
   exact hK8 _ _ _ ⟨rfl,v,A,so,rfl,rfl⟩
  refine jrv (p:=p) ok2 hti λrv2 hrv2=>?_
  refine jfz1 hrv2 (by omega) (by omega) ?_
  have e0:(S2.th[i]).roots[((k:Nat):Int).toNat]'(by omega) = (S2.th[i]).roots[k]:=by simp
  rw[e0]
  refine jne (jif (λhz=>?_) (λhz=>?_))
  ·have hz:(S2.th[i]).roots[k]≠0:=by simpa using hz
   obtain⟨sa,sn,sc,rfl⟩:=so.sl
   refine jl (v:=.slice sa sn sc) rfl ?_
   refine jrv (p:=p) ok2 hti λrv3 hrv3=>?_
   refine jfz1 hrv3 (by omega) (by omega) ?_
   rw[e0]
   refine jbs (cs:=[I (S2.th[i]).roots[k]]) rfl rfl λb1=>?_
   refine jand (jl (v:=.slice sa sn sc) rfl jev) ?_
   refine jperm List.perm_middle.symm ?_
   have hx:Reads R3 (A ++ (b1,C 3 [I (S2.th[i]).roots[k]]) :: (b,C T_l8Col (eCol { col0 S2.col.asked S2.col.want with pc:=1 } (.slice sa sn sc))) :: (simD p S2 g2 ++ F)) (some ⟨b1,0,none⟩) (1 * 1) ([(S2.th[i]).roots[k]].map I):=Reads.held (t:=T_int) (cs:=[I (S2.th[i]).roots[k]]) (o:=0) (n:=1 * 1) (Nat.le_refl 1)
   refine jas so rfl (by
    have h1:=tk i
    have h2:=List.length_filter_le (λx=>decide (x≠0)) ((S2.th[i]).roots.take k)
    have h3:((S2.th[i]).roots.take k).length≤(S2.th[i]).roots.length:=by rw[List.length_take];omega
    rw[List.length_append,List.length_singleton];omega) hx λv' A' so'=>?_
   obtain⟨sa',sn',sc',rfl⟩:=so'.sl
   refine js (cs':=eCol { col0 S2.col.asked S2.col.want with pc:=1 } (.slice sa' sn' sc')) rfl rfl (by simp[eCol]) rfl ?_
   refine jpart A' (G:=(b,C T_l8Col (eCol { col0 S2.col.asked S2.col.want with pc:=1 } (.slice sa' sn' sc'))) :: (simD p S2 g2 ++ F)) ?_
   refine hK9 _ _ _ ⟨rfl,_,A',?_,rfl,rfl⟩
   rw[hrk,if_pos hz,← List.append_assoc];exact so'
  ·have hz:¬ (S2.th[i]).roots[k]≠0:=by simpa using hz
   refine hK9 _ _ _ ⟨rfl,v,A,?_,rfl,rfl⟩
   rw[hrk,if_neg hz,List.append_nil];exact so
 ·rintro e R2 D2 ⟨hR2,v,A,so,hD,he⟩
  subst hR2
  rw[hD];clear hD
  simp only[List.map,lc,ln,lj,and_true] at he
  simp only[he]
  obtain⟨sa,sn,sc,rfl⟩:=so.sl
  refine jl (v:=.slice sa sn sc) rfl (jl (v:=g2.pins) rfl ?_)
  obtain⟨xa,cx,hpv,hx⟩:=Ints.reads (D:=A ++ ((b,C T_l8Col (eCol { col0 S2.col.asked S2.col.want with pc:=1 } (.slice sa sn sc))) :: (simD p S2 g2 ++ F))) ok2.pins
  rw[hpv]
  refine jas so rfl (by
   have h1:=tk S2.th.length
   rw[List.take_length] at h1
   have h2:=hsz.2.2.2.1
   rw[e3];omega) hx λv' A' so'=>?_
  obtain⟨sa',sn',sc',rfl⟩:=so'.sl
  refine js (cs':=eCol { col0 S2.col.asked S2.col.want with pc:=1 } (.slice sa' sn' sc')) rfl rfl (by simp[eCol]) rfl ?_
  refine jfso so' λR3 hR3 hint=>?_
  generalize hst:((S2.th.flatMap λt=>t.roots.filter (·≠0)) ++ S2.pins) = st at hint
  refine jperm (D':=(b,C T_l8Col (eCol { col0 S2.col.asked S2.col.want with pc:=1,stack:=st } (.slice sa' sn' sc'))) :: (simD p S2 g2 ++ F)) (List.Perm.refl _) ?_
  refine jputC (p:=p) { S2 with col:={ col0 S2.col.asked S2.col.want with pc:=1,stack:=st } } (by exact ok2.le hR3) (by exact hint) (by rfl) λg3 ok3=>?_
  refine jpart (simD p { S2 with col:={ col0 S2.col.asked S2.col.want with pc:=1,stack:=st } } g3) (G:=F) ?_
  have htl3:S2.table.length≤1000:=by rw[e4];exact htl
  refine jlp (λm vs R' D'=>R' = R3∧∃k:Nat,1≤k∧k≤S2.table.length + 1∧D' = simD p { S2 with col:={ col0 S2.col.asked S2.col.want with pc:=1,stack:=st },table:=rowsTo (λ_ x=>{ x with tams:=x.top,live:=0 }) k S2.table } g3 ++ F∧vs = [.pointer (some ⟨p,0,none⟩),I k]∧m = S2.table.length + 1 - k)
   (n:=S2.table.length) ⟨rfl,1,Nat.le_refl 1,by omega,by rw[rowsTo_one],rfl,by omega⟩ ?_
  rintro m e R4 D4 K ⟨hR4,k,k0,k1,hD,he,hm⟩ hK
  subst hR4
  rw[hD];clear hD
  simp only[List.map,lc,ln,lj,and_true] at he
  simp only[he]
  refine jl (v:=.slice (some ⟨g3.tb,0,none⟩) (rowsTo (λ_ x=>{ x with tams:=x.top,live:=0 }) k S2.table).length g3.tc) rfl (jln (jlt (jif (λhc=>?_) (λhc=>?_))))
  ·have hc:k < S2.table.length:=by have:=of_decide_eq_true hc;rw[rowsTo_len] at this;omega
   refine jl (v:=.slice (some ⟨g3.tb,0,none⟩) (rowsTo (λ_ x=>{ x with tams:=x.top,live:=0 }) k S2.table).length g3.tc) rfl (jian (by rw[rowsTo_len];exact hc) ?_)
   refine jlr_ (p:=p) (by simpa using hc) ?_
   rw[show ({ S2 with col:={ col0 S2.col.asked S2.col.want with pc:=1,stack:=st },table:=rowsTo (λ_ x=>{ x with tams:=x.top,live:=0 }) k S2.table }:Sim).table[k]'(by simpa using hc) = S2.table[k] from rowsTo_get (f:=λ_ x=>{ x with tams:=x.top,live:=0 }) hc]
   refine ja λb5=>?_
   refine js (cs':=eRg (S2.table[k])) rfl rfl (by simp) rfl ?_
   refine jl (v:=I (S2.table[k]).top) rfl ?_
   refine js (cs':=eRg { S2.table[k] with tams:=(S2.table[k]).top }) rfl rfl (by simp) rfl ?_
   refine js (cs':=eRg { S2.table[k] with tams:=(S2.table[k]).top,live:=0 }) rfl rfl (by simp) rfl ?_
   refine jl (v:=.slice (some ⟨g3.tb,0,none⟩) (rowsTo (λ_ x=>{ x with tams:=x.top,live:=0 }) k S2.table).length g3.tc) rfl ?_
   refine jla (l:=eRg { S2.table[k] with tams:=(S2.table[k]).top,live:=0 }) (by simp) rfl ?_
   refine jian (by rw[rowsTo_len];exact hc) ?_
   refine jsr_ (p:=p) (x:={ S2.table[k] with tams:=(S2.table[k]).top,live:=0 }) { S2 with col:={ col0 S2.col.asked S2.col.want with pc:=1,stack:=st },table:=rowsTo (λ_ x=>{ x with tams:=x.top,live:=0 }) (k + 1) S2.table } (by simpa using hc) (by rw[← rowsTo_set k0 hc]) ?_
   refine jadd ⟨by omega,by omega⟩ ?_
   refine jpart (simD p { S2 with col:={ col0 S2.col.asked S2.col.want with pc:=1,stack:=st },table:=rowsTo (λ_ x=>{ x with tams:=x.top,live:=0 }) (k + 1) S2.table } g3) (G:=F) ?_
   exact hK (S2.table.length + 1 - (k + 1)) _ _ _ (by omega) ⟨rfl,k + 1,by omega,by omega,rfl,rfl,rfl⟩
  ·have hc:S2.table.length≤k:=by have:=of_decide_eq_false hc;rw[rowsTo_len] at this;omega
   have efin:({ S2 with col:={ col0 S2.col.asked S2.col.want with pc:=1,stack:=st },table:=rowsTo (λ_ x=>{ x with tams:=x.top,live:=0 }) k S2.table }:Sim) = S.snapshot:=by
    rw[rowsTo_all hc,← hst,← hS2];rfl
   refine jretS (hR1.trans hR3) trivial efin ?_
   rw[← efin]
   exact { ok3 with tl:=by simpa using htl3,tk:=by simpa using ok3.tk }
end Go.Lf
end
section
namespace Go.Lf
open Go Sm
theorem r_l4Has {R:RM} {D:Chs} {v:Value} {l:List Int} (n:Int) (h:Ints R v l) (hl:l.length < 1000000000000):Ro F_s_l4Has [v,I n] (.bool (l.contains n)) R D:=by
 refine s_s_l4Has λF=>?_
 unfold c_s_l4Has
 refine jlp (λm vs R' D'=>R' = R∧D' = D ++ F∧∃i:Nat,i≤l.length∧vs = [v,I n,I i]∧m = l.length - i∧∀k (hk:k < l.length),k < i→l[k]≠n)
  (n:=l.length) ⟨rfl,rfl,0,by omega,rfl,by omega,λk _ h=>by omega⟩ ?_
 rintro m e R1 D1 K ⟨hR1,hD,i,hi,he,hm,hall⟩ hK
 subst hR1
 rw[hD];clear hD
 simp only[List.map,lc,ln,lj,and_true] at he
 simp only[he]
 refine jlnz h (jlt (jif (λhc=>?_) (λhc=>?_)))
 ·have hc:i < l.length:=by have:=of_decide_eq_true hc;omega
  refine jfz1 h (by omega) (by omega) (jeq (jif (λhq=>?_) (λhq=>?_)))
  ·refine ro_ret ?_
   have hq:=eq_of_beq hq
   simp only[Int.toNat_natCast] at hq
   have:l.contains n = true:=by rw[List.contains_eq_mem,decide_eq_true_eq,← hq];exact List.getElem_mem hc
   rw[this]
  ·have hq:=ne_of_beq_false hq
   simp only[Int.toNat_natCast] at hq
   refine jadd ⟨by omega,by omega⟩ ?_
   refine hK (l.length - (i + 1)) _ _ _ (by omega) ⟨rfl,rfl,i + 1,by omega,rfl,rfl,λk hk hki=>?_⟩
   by_cases c:k = i
   ·subst c;exact hq
   ·exact hall k hk (by omega)
 ·have hc:¬ i < l.length:=by have:=of_decide_eq_false hc;omega
  refine ro_ret ?_
  have:l.contains n = false:=by
   rw[List.contains_eq_mem,decide_eq_false_iff_not]
   intro hm
   obtain⟨k,hk,hkn⟩:=List.getElem_of_mem hm
   exact hall k hk (by omega) hkn
  rw[this]
section choose
variable {t:List Rg} {sp:List Value} {b cap:Nat} {R:RM} {D:Chs}
def InC (t:List Rg) (held:List Int) (reserve:Int) (n i:Nat) (left:Int) (fr fe:List Int):Prop:=
 (n = 0→fr = []∧left = reserve∧fe ++ freeOf held i (t.drop i) = freeOf held 1 t.tail)∧
 (1≤n→fe = freeOf held 1 t.tail∧fr ++ ((chooseIn held n i (t.drop i) left).2 ++ chooseFrom t held (16 - n) (n + 1) (chooseIn held n i (t.drop i) left).1) = chooseFrom t held 16 1 reserve)
def OuC (t:List Rg) (held:List Int) (reserve:Int) (n:Nat) (left:Int) (fr fe:List Int):Prop:=
 (n = 0→fr = []∧left = reserve∧fe = [])∧(1≤n→fe = freeOf held 1 t.tail∧fr ++ chooseFrom t held (17 - n) n left = chooseFrom t held 16 1 reserve)
theorem InC.step {held:List Int} {reserve:Int} {n i:Nat} {left:Int} {fr fe:List Int} (h:InC t held reserve n i left fr fe) (hi:i < t.length) :
  (chooseRow held n i t[i] = false→InC t held reserve n (i + 1) left fr fe)∧(chooseRow held n i t[i] = true→n = 0→InC t held reserve n (i + 1) left fr (fe ++ [(i:Int)]))∧
  (chooseRow held n i t[i] = true→1≤n→(n:Int)≤left→InC t held reserve n (i + 1) (left - n) (fr ++ [(i:Int)]) fe)∧(1≤n→¬ (n:Int)≤left→InC t held reserve n (i + 1) left fr fe):=by
 have hd:t.drop i = t[i] :: t.drop (i + 1):=List.drop_eq_getElem_cons hi
 obtain⟨h0,h1⟩:=h
 rw[hd] at h0 h1
 refine⟨λhc=>⟨λhn=>?_,λhn=>?_⟩,λhc hn=>⟨λ_=>?_,λhn'=>by omega⟩,λhc hn hl=>⟨λhn'=>by omega,λ_=>?_⟩,λhn hl=>⟨λhn'=>by omega,λ_=>?_⟩⟩
 ·obtain⟨a1,a2,a3⟩:=h0 hn
  subst hn
  simp only[freeOf] at a3
  rw[if_neg (by rw[show chooseRow held 0 i t[i] = false from hc];decide)] at a3
  exact⟨a1,a2,a3⟩
 ·obtain⟨a1,a2⟩:=h1 hn
  simp only[chooseIn,hc,Bool.false_and,Bool.false_eq_true,if_false] at a2
  exact⟨a1,a2⟩
 ·obtain⟨a1,a2,a3⟩:=h0 hn
  subst hn
  simp only[freeOf] at a3
  rw[if_pos (show chooseRow held 0 i t[i] = true from hc)] at a3
  exact⟨a1,a2,by rw[List.append_assoc];exact a3⟩
 ·obtain⟨a1,a2⟩:=h1 hn
  simp only[chooseIn,hc,Bool.true_and,decide_eq_true hl,if_true] at a2
  refine⟨a1,?_⟩
  rw[List.append_assoc];exact a2
 ·obtain⟨a1,a2⟩:=h1 hn
  simp only[chooseIn,decide_eq_false hl,Bool.and_false,Bool.false_eq_true,if_false] at a2
  exact⟨a1,a2⟩
theorem OuC.inner {held:List Int} {reserve:Int} {n:Nat} {left:Int} {fr fe:List Int} (h:OuC t held reserve n left fr fe) (hn:n≤16):InC t held reserve n 1 left fr fe:=by
 obtain⟨h0,h1⟩:=h
 refine⟨λhz=>?_,λhz=>?_⟩
 ·obtain⟨a1,a2,a3⟩:=h0 hz
  exact⟨a1,a2,by rw[a3,List.drop_one];rfl⟩
 ·obtain⟨a1,a2⟩:=h1 hz
  refine⟨a1,?_⟩
  rw[show 17 - n = (16 - n) + 1 from by omega] at a2
  simp only[chooseFrom] at a2
  rw[List.drop_one];exact a2
theorem InC.outer {held:List Int} {reserve:Int} {n i:Nat} {left:Int} {fr fe:List Int} (h:InC t held reserve n i left fr fe) (hi:t.length≤i):OuC t held reserve (n + 1) left fr fe:=by
 obtain⟨h0,h1⟩:=h
 rw[List.drop_eq_nil_of_le hi] at h0 h1
 refine⟨λhz=>by omega,λ_=>?_⟩
 by_cases c:n = 0
 ·obtain⟨a1,a2,a3⟩:=h0 c
  subst c
  refine⟨by simpa [freeOf] using a3,?_⟩
  rw[a1,a2];rfl
 ·obtain⟨a1,a2⟩:=h1 (by omega)
  refine⟨a1,?_⟩
  simp only[chooseIn,ln] at a2
  rw[show 17 - (n + 1) = 16 - n from by omega]
  exact_mod_cast a2
end choose
end Go.Lf
end
section
namespace Go.Lf
open Go Sm
theorem chooseIn_len (held:List Int) (n:Int):∀(l:List Rg) (i:Nat) (left:Int),(chooseIn held n i l left).2.length≤l.length
 | [],_,_=>Nat.le_refl 0
 | x :: r,i,left=>by
  unfold chooseIn
  split
  ·simp only[List.length_cons];have:=chooseIn_len held n r (i + 1) (left - n);omega
  ·simp only[List.length_cons];have:=chooseIn_len held n r (i + 1) left;omega
theorem chooseFrom_len (t:List Rg) (held:List Int):∀(k:Nat) (n left:Int),(chooseFrom t held k n left).length≤k * t.length
 | 0,_,_=>by simp[chooseFrom]
 | k + 1,n,left=>by
  unfold chooseFrom
  simp only[List.length_append]
  have h1:=chooseIn_len held n t.tail 1 left
  have h2:=chooseFrom_len t held k (n + 1) (chooseIn held n 1 t.tail left).1
  rw[List.length_tail] at h1
  rw[Nat.succ_mul];omega
theorem freeOf_len (held:List Int):∀(l:List Rg) (i:Nat),(freeOf held i l).length≤l.length
 | [],_=>Nat.le_refl 0
 | x :: r,i=>by
  unfold freeOf
  have:=freeOf_len held r (i + 1)
  split<;>simp only[List.length_cons]<;>omega
theorem InC.len {t:List Rg} {held:List Int} {reserve:Int} {n i:Nat} {left:Int} {fr fe:List Int} (h:InC t held reserve n i left fr fe):fr.length≤16 * t.length∧fe.length≤t.length:=by
 obtain⟨h0,h1⟩:=h
 have f:=freeOf_len held t.tail 1
 rw[List.length_tail] at f
 by_cases c:n = 0
 ·obtain⟨a1,a2,a3⟩:=h0 c
  have:=congrArg List.length a3
  rw[List.length_append] at this
  rw[a1];constructor
  ·simp
  ·omega
 ·obtain⟨a1,a2⟩:=h1 (by omega)
  have:=congrArg List.length a2
  rw[List.length_append] at this
  have g:=chooseFrom_len t held 16 1 reserve
  rw[a1];constructor<;>omega
def Q2I (l1 l2:List Int) (v:Value) (N:Chs):Prop:=∃v1 v2 A1 A2,SO l1 v1 A1∧SO l2 v2 A2∧v = .tuple #[v1,v2]∧N = A1 ++ A2
theorem perm_in {A1 A2 D:Chs} (x:Nat × Obj):(x :: (A1 ++ (A2 ++ D))).Perm (A2 ++ (x :: (A1 ++ D))):=
 (List.Perm.cons x (by rw[← List.append_assoc,← List.append_assoc];exact List.perm_append_comm.append_right D)).trans List.perm_middle.symm
theorem perm_sw {A1 A2 D:Chs}:(A2 ++ (A1 ++ D)).Perm (A1 ++ (A2 ++ D)):=by
 rw[← List.append_assoc,← List.append_assoc];exact List.perm_append_comm.append_right D
section table
variable {t:List Rg} {sp:List Value} {b cap:Nat} {R:RM} {D:Chs}
theorem m_TableChoose {held:List Int} {hv:Value} (reserve:Int) (hr:inR reserve) (hl:t.length < 1000000) (hi:Ints R hv held) (hhl:held.length < 1000000000000) [a:At D b (C T_Region (rowsE eRg t ++ sp))] :
  Mk F_s_TableChoose [.slice (some ⟨b,0,none⟩) t.length cap,I reserve,hv] R D (Q2I (tableChoose t reserve held).1 (tableChoose t reserve held).2):=by
 refine s_s_TableChoose λF=>?_
 unfold c_s_TableChoose
 refine jro (r_TableOk hl) ?_
 cases hok:tableOk t with
 | false=>
  refine jift (mk_ret [] ?_)
  have:tableChoose t reserve held = ([],[]):=by unfold tableChoose;rw[hok];rfl
  rw[this]
  exact⟨_,_,[],[],.inl ⟨rfl,rfl,rfl⟩,.inl ⟨rfl,rfl,rfl⟩,rfl,rfl⟩
 | true=>
 have eqc:tableChoose t reserve held = (chooseFrom t held 16 1 reserve,freeOf held 1 t.tail):=by unfold tableChoose;rw[hok];rfl
 have T:=tableOk_iff.1 hok
 refine jiff ?_
 refine jcutq (λvs R' D'=>R' = R∧∃v1 A1 v2 A2,SO (chooseFrom t held 16 1 reserve) v1 A1∧SO (freeOf held 1 t.tail) v2 A2∧D' = A1 ++ (A2 ++ (D ++ F))∧vs = [v1,v2]) (λK hK=>?_) ?_
 rotate_left
 ·rintro e R1 D1 ⟨hR,v1,A1,v2,A2,so1,so2,hD,he⟩
  subst hR
  rw[hD];clear hD
  simp only[List.map,lc,ln,lj,and_true] at he
  simp only[he]
  refine jperm (D':=(A1 ++ A2) ++ (D ++ F)) (by rw[List.append_assoc]) ?_
  refine mk_ret (A1 ++ A2) ?_
  rw[eqc]
  exact⟨v1,v2,A1,A2,so1,so2,rfl,rfl⟩
 refine jcutq (λvs R' D'=>R' = R∧∃v1 A1 v2 A2,SO (chooseFrom t held 16 1 reserve) v1 A1∧SO (freeOf held 1 t.tail) v2 A2∧D' = A1 ++ (A2 ++ (D ++ F))∧vs = [v1,v2]) (λK2 hK2=>?_) ?_
 rotate_left
 ·rintro e R1 D1 ⟨hR,v1,A1,v2,A2,so1,so2,hD,he⟩
  subst hR
  rw[hD];clear hD
  simp only[List.map,lc,ln,lj,and_true] at he
  simp only[he]
  exact hK _ _ _ ⟨rfl,v1,A1,v2,A2,so1,so2,rfl,rfl⟩
 refine jlp (λm vs R' D'=>R' = R∧∃(n:Nat) (left:Int) (fr fe:List Int) (v1 v2:Value) (A1 A2:Chs),n≤17∧inR left∧OuC t held reserve n left fr fe∧SO fr v1 A1∧SO fe v2 A2∧D' = A1 ++ (A2 ++ (D ++ F))∧vs = [.slice (some ⟨b,0,none⟩) t.length cap,hv,v1,v2,I left,I n]∧m = 17 - n)
  (n:=17) ⟨rfl,0,reserve,[],[],.slice none 0 0,.slice none 0 0,[],[],by omega,hr,⟨λ_=>⟨rfl,rfl,rfl⟩,λh=>by omega⟩,.inl ⟨rfl,rfl,rfl⟩,.inl ⟨rfl,rfl,rfl⟩,rfl,rfl,rfl⟩ ?_
 rintro m e R1 D1 K3 ⟨hR,n,left,fr,fe,v1,v2,A1,A2,hn,hleft,ou,so1,so2,hD,he,hm⟩ hK3
 subst hR
 rw[hD];clear hD
 simp only[List.map,lc,ln,lj,and_true] at he
 simp only[he]
 refine jle (jif (λhc=>?_) (λhc=>?_))
 rotate_left
 ·have hc:n = 17:=by have:=of_decide_eq_false hc;omega
  subst hc
  obtain⟨o1,o2⟩:=ou.2 (by omega)
  have o2:fr ++ [] = chooseFrom t held 16 1 reserve:=o2
  rw[List.append_nil] at o2
  exact hK2 _ _ _ ⟨rfl,v1,A1,v2,A2,o2▸so1,o1▸so2,rfl,rfl⟩
 have hc:n≤16:=by have:=of_decide_eq_true hc;omega
 refine jcutq (λvs R' D'=>R' = R1∧∃(left:Int) (fr fe:List Int) (v1 v2:Value) (A1 A2:Chs),inR left∧OuC t held reserve (n + 1) left fr fe∧SO fr v1 A1∧SO fe v2 A2∧D' = A1 ++ (A2 ++ (D ++ F))∧vs = [.slice (some ⟨b,0,none⟩) t.length cap,hv,v1,v2,I left,I n]) (λK4 hK4=>?_) ?_
 rotate_left
 ·rintro e R2 D2 ⟨hR,left,fr,fe,v1,v2,A1,A2,hleft,ou,so1,so2,hD,he⟩
  subst hR
  rw[hD];clear hD
  simp only[List.map,lc,ln,lj,and_true] at he
  simp only[he]
  refine jadd ⟨by omega,by omega⟩ ?_
  exact hK3 (17 - (n + 1)) _ _ _ (by omega) ⟨rfl,n + 1,left,fr,fe,v1,v2,A1,A2,by omega,hleft,ou,so1,so2,rfl,rfl,rfl⟩
 refine jcutq (λvs R' D'=>R' = R1∧∃(left:Int) (fr fe:List Int) (v1 v2:Value) (A1 A2:Chs),inR left∧OuC t held reserve (n + 1) left fr fe∧SO fr v1 A1∧SO fe v2 A2∧D' = A1 ++ (A2 ++ (D ++ F))∧vs = [.slice (some ⟨b,0,none⟩) t.length cap,hv,v1,v2,I left,I n]) (λK5 hK5=>?_) ?_
 rotate_left
 ·rintro e R2 D2 ⟨hR,left,fr,fe,v1,v2,A1,A2,hleft,ou,so1,so2,hD,he⟩
  subst hR
  rw[hD];clear hD
  simp only[List.map,lc,ln,lj,and_true] at he
  simp only[he]
  exact hK4 _ _ _ ⟨rfl,left,fr,fe,v1,v2,A1,A2,hleft,ou,so1,so2,rfl,rfl⟩
 refine jcutq (λvs R' D'=>R' = R1∧∃(left:Int) (fr fe:List Int) (v1 v2:Value) (A1 A2:Chs),inR left∧OuC t held reserve (n + 1) left fr fe∧SO fr v1 A1∧SO fe v2 A2∧D' = A1 ++ (A2 ++ (D ++ F))∧vs = [.slice (some ⟨b,0,none⟩) t.length cap,hv,v1,v2,I left,I n]) (λK6 hK6=>?_) ?_
 rotate_left
 ·rintro e R2 D2 ⟨hR,left,fr,fe,v1,v2,A1,A2,hleft,ou,so1,so2,hD,he⟩
  subst hR
  rw[hD];clear hD
  simp only[List.map,lc,ln,lj,and_true] at he
  simp only[he]
  exact hK5 _ _ _ ⟨rfl,left,fr,fe,v1,v2,A1,A2,hleft,ou,so1,so2,rfl,rfl⟩
 refine jlp (λm vs R' D'=>R' = R1∧∃(i:Nat) (left:Int) (fr fe:List Int) (v1 v2:Value) (A1 A2:Chs),1≤i∧i≤t.length + 1∧inR left∧InC t held reserve n i left fr fe∧SO fr v1 A1∧SO fe v2 A2∧D' = A1 ++ (A2 ++ (D ++ F))∧vs = [.slice (some ⟨b,0,none⟩) t.length cap,hv,v1,v2,I left,I n,I i]∧m = t.length + 1 - i)
  (n:=t.length) ⟨rfl,1,left,fr,fe,v1,v2,A1,A2,by omega,by omega,hleft,ou.inner hc,so1,so2,rfl,rfl,by omega⟩ ?_
 clear ou so1 so2 hleft
 rintro m e R2 D2 K7 ⟨hR,i,left,fr,fe,v1,v2,A1,A2,hi1,hi2,hleft,ic,so1,so2,hD,he,hm⟩ hK7
 subst hR
 rw[hD];clear hD
 simp only[List.map,lc,ln,lj,and_true] at he
 simp only[he]
 refine jln (jlt (jif (λhd=>?_) (λhd=>?_)))
 rotate_left
 ·have hd:=of_decide_eq_false hd
  exact hK6 _ _ _ ⟨rfl,left,fr,fe,v1,v2,A1,A2,hleft,ic.outer (by omega),so1,so2,rfl,rfl⟩
 have hd:i < t.length:=by have:=of_decide_eq_true hd;omega
 have n1:=T.n1
 obtain⟨s1,s2,s3,s4⟩:=ic.step hd
 obtain⟨len1,len2⟩:=ic.len
 refine jcutq (λvs R' D'=>R' = R2∧∃(left:Int) (fr fe:List Int) (v1 v2:Value) (A1 A2:Chs),inR left∧InC t held reserve n (i + 1) left fr fe∧SO fr v1 A1∧SO fe v2 A2∧D' = A1 ++ (A2 ++ (D ++ F))∧vs = [.slice (some ⟨b,0,none⟩) t.length cap,hv,v1,v2,I left,I n,I i]) (λK8 hK8=>?_) ?_
 rotate_left
 ·rintro e R3 D3 ⟨hR,left,fr,fe,v1,v2,A1,A2,hleft,ou,so1,so2,hD,he⟩
  subst hR
  rw[hD];clear hD
  simp only[List.map,lc,ln,lj,and_true] at he
  simp only[he]
  refine jadd ⟨by omega,by omega⟩ ?_
  exact hK7 (t.length + 1 - (i + 1)) _ _ _ (by omega) ⟨rfl,i + 1,left,fr,fe,v1,v2,A1,A2,by omega,by omega,hleft,ou,so1,so2,rfl,rfl,rfl⟩
 refine jcutq (λvs R' D'=>R' = R2∧∃(left:Int) (fr fe:List Int) (v1 v2:Value) (A1 A2:Chs),inR left∧InC t held reserve n (i + 1) left fr fe∧SO fr v1 A1∧SO fe v2 A2∧D' = A1 ++ (A2 ++ (D ++ F))∧vs = [.slice (some ⟨b,0,none⟩) t.length cap,hv,v1,v2,I left,I n,I i]) (λK9 hK9=>?_) ?_
 rotate_left
 ·rintro e R3 D3 ⟨hR,left,fr,fe,v1,v2,A1,A2,hleft,ou,so1,so2,hD,he⟩
  subst hR
  rw[hD];clear hD
  simp only[List.map,lc,ln,lj,and_true] at he
  simp only[he]
  exact hK8 _ _ _ ⟨rfl,left,fr,fe,v1,v2,A1,A2,hleft,ou,so1,so2,rfl,rfl⟩
 have RR:=T.row i (by omega) (by omega)
 have t0:=RR.t0
 have t1:=RR.t1
 rw[rv_at hd] at t0 t1
 have hbase:=base_eq (r:=(i:Int)) (by omega) (by omega)
 refine jian hd (jlrow hd (ja λb2=>?_))
 refine js (cs':=eRg (t[i])) rfl rfl (by simp) rfl ?_
 refine jcutq (λvs R' D'=>R' = R2∧D' = A1 ++ (A2 ++ (D ++ F))∧vs = [.slice (some ⟨b,0,none⟩) t.length cap,hv,v1,v2,I left,I n,I i,.bool (!chooseRow held n i t[i])]) (λK10 hK10=>?_) ?_
 rotate_left
 ·rintro e R3 D3 ⟨hR,hD,he⟩
  subst hR
  rw[hD];clear hD
  simp only[List.map,lc,ln,lj,and_true] at he
  simp only[he]
  cases hch:chooseRow held n i t[i] with
  | false=>exact jift (hK9 _ _ _ ⟨rfl,left,fr,fe,v1,v2,A1,A2,hleft,s1 hch,so1,so2,rfl,rfl⟩)
  | true=>
  refine jiff (jeq (jif (λh0=>?_) (λh0=>?_)))
  ·have h0:n = 0:=by have:=eq_of_beq h0;omega
   refine jbs (cs:=[I i]) rfl rfl λb1=>?_
   refine jperm (perm_in _) ?_
   have hx:Reads R3 (A2 ++ ((b1,C 3 [I i]) :: (A1 ++ (D ++ F)))) (some ⟨b1,0,none⟩) (1 * 1) ([(i:Int)].map I):=Reads.held (t:=T_int) (cs:=[I i]) (o:=0) (n:=1 * 1) (Nat.le_refl 1)
   refine jas so2 rfl (by simp only[List.length_singleton];omega) hx λv' A' so'=>?_
   refine jpart A' (G:=A1 ++ (D ++ F)) (jperm perm_sw ?_)
   exact hK9 _ _ _ ⟨rfl,left,fr,fe ++ [(i:Int)],v1,v',A1,A',hleft,s2 hch h0,so1,so',rfl,rfl⟩
  ·have h0:1≤n:=by have:=ne_of_beq_false h0;omega
   refine jle (jif (λh2=>?_) (λh2=>?_))
   ·have h2:=of_decide_eq_true h2
    refine jbs (cs:=[I i]) rfl rfl λb1=>?_
    refine jperm List.perm_middle.symm ?_
    have hx:Reads R3 (A1 ++ ((b1,C 3 [I i]) :: (A2 ++ (D ++ F)))) (some ⟨b1,0,none⟩) (1 * 1) ([(i:Int)].map I):=Reads.held (t:=T_int) (cs:=[I i]) (o:=0) (n:=1 * 1) (Nat.le_refl 1)
    refine jas so1 rfl (by simp only[List.length_singleton];omega) hx λv' A' so'=>?_
    have hleft' : inR (left - n):=by have:=hleft.1;have:=hleft.2;constructor<;>omega
    refine jsub hleft' (jpart A' (G:=A2 ++ (D ++ F)) ?_)
    exact hK9 _ _ _ ⟨rfl,left - n,fr ++ [(i:Int)],fe,v',v2,A',A2,hleft',s3 hch h0 h2,so',so2,rfl,rfl⟩
   ·have h2:=of_decide_eq_false h2
    exact hK9 _ _ _ ⟨rfl,left,fr,fe,v1,v2,A1,A2,hleft,s4 h0 h2,so1,so2,rfl,rfl⟩
 refine jor [.slice (some ⟨b,0,none⟩) t.length cap,hv,v1,v2,I left,I n,I i,.pointer (some ⟨b2,0,none⟩)] ((t[i].kind != 3) || (t[i].top != t[i].tams)) (λK' hK'=>?_) (λe c u ho he=>?_)
 ·refine jl (v:=I t[i].kind) rfl (jne (jgtf (λh1=>?_) (λh1=>?_)))
  ·refine jl (v:=I t[i].top) rfl (jl (v:=I t[i].tams) rfl (jne (hK' _ _ _ (h1▸or2_f) (by rw[h1,Bool.false_or]))))
  ·exact hK' _ _ _ (h1▸or2_t) (by rw[h1,Bool.true_or])
 simp only[List.map,lc,ln,lj,and_true] at he
 simp only[he]
 refine jor [.slice (some ⟨b,0,none⟩) t.length cap,hv,v1,v2,I left,I n,I i,.pointer (some ⟨b2,0,none⟩)] ((t[i].kind != 3) || (t[i].top != t[i].tams) || (t[i].live != n)) (λK' hK'=>?_) (λe c u ho he=>?_)
 ·rw[ho]
  refine jgtf (λh1=>?_) (λh1=>?_)
  ·refine jl (v:=I t[i].live) rfl (jne (hK' _ _ _ (h1▸or2_f) (by rw[h1,Bool.false_or])))
  ·exact hK' _ _ _ (h1▸or2_t) (by rw[h1,Bool.true_or])
 simp only[List.map,lc,ln,lj,and_true] at he
 simp only[he]
 generalize hf3:((t[i].kind != 3) || (t[i].top != t[i].tams) || (t[i].live != n)) = f3 at ho
 have ech:chooseRow held n i t[i] = (!f3 && decide (t[i].live < t[i].top - regionBase i) && !(held.contains (i:Int))):=by
  unfold chooseRow
  rw[← hf3]
  simp only[bne,Bool.not_or,Bool.not_not,Bool.and_assoc]
 cases f3 with
 | true=>
  rw[Bool.not_true,Bool.false_and,Bool.false_and] at ech
  refine jcut ?_
  rw[ho]
  refine jtf (jend λe he=>?_)
  simp only[List.map,lc,ln,lj,and_true] at he
  simp only[he]
  refine jtf (jcut (jtf (jend λe he=>?_)))
  simp only[List.map,lc,ln,lj,and_true] at he
  simp only[he]
  refine jcut (jpkt (jtf (jend λe he=>?_)))
  simp only[List.map,lc,ln,lj,and_true] at he
  simp only[he]
  refine jand (jtf jev) (jand (jtf jev) (jtf (jpkt ?_)))
  refine jdrop ?_
  exact hK10 _ _ _ ⟨rfl,rfl,by rw[ech];rfl⟩
 | false=>
  rw[Bool.not_false,Bool.true_and] at ech
  refine jcut ?_
  rw[ho]
  refine jff (jl (v:=I t[i].live) rfl (jl (v:=I t[i].top) rfl (jend λe he=>?_)))
  simp only[List.map,lc,ln,lj,and_true] at he
  simp only[he]
  refine jff (jp (p_RegionBase i) (jcut (jff (jsub ⟨by omega,by omega⟩ (jge (jend λe he=>?_))))))
  simp only[List.map,lc,ln,lj,and_true] at he
  simp only[he]
  refine jcut (jpkf ?_)
  by_cases c4:t[i].live < t[i].top - regionBase i
  ·rw[decide_eq_false (show ¬ t[i].live≥t[i].top - regionBase i by omega)]
   rw[decide_eq_true c4,Bool.true_and] at ech
   refine jff (jend λe he=>?_)
   simp only[List.map,lc,ln,lj,and_true] at he
   simp only[he]
   refine jand (jff (jl (v:=I t[i].live) rfl jev)) (jand (jff (jl (v:=I t[i].top) rfl jev)) (jff ?_))
   refine jro (r_l4Has i hi hhl) (jpkf ?_)
   refine jdrop ?_
   exact hK10 _ _ _ ⟨rfl,rfl,by rw[ech,Bool.not_not]⟩
  ·rw[decide_eq_true (show t[i].live≥t[i].top - regionBase i by omega)]
   rw[decide_eq_false c4,Bool.false_and] at ech
   refine jtf (jend λe he=>?_)
   simp only[List.map,lc,ln,lj,and_true] at he
   simp only[he]
   refine jand (jff (jl (v:=I t[i].live) rfl jev)) (jand (jff (jl (v:=I t[i].top) rfl jev)) (jtf (jpkt ?_)))
   refine jdrop ?_
   exact hK10 _ _ _ ⟨rfl,rfl,by rw[ech];rfl⟩
end table
end Go.Lf
end
section
namespace Go.Lf
open Go Sm
theorem jfz2 {R:RM} {D:Chs} {v:Value} {l:List Int} {i:Int} {k:Value→M} (h:Ints R v l) (h0:0≤i) (h1:i < l.length) (H:∀q:Value,(∀(D' : Chs) (k' : Value→M),J R D' (k' (I (l[i.toNat]'(by omega))))→J R D' (L1 q k'))→J R D (k q)):J R D (IA 1 v (I i) k):=by
 rcases h with ⟨_,h2,_⟩ | ⟨b,o,cap,t,cs,rfl,h2,h3,h4,h5⟩
 ·omega
 ·refine jia h0 h1 (H _ λD' k' H'=>jlr h2 ?_ H')
  have:=congrArg (λl=>l[i.toNat]?) h4
  simp only[List.getElem?_take,List.getElem?_drop,List.getElem?_map] at this
  rw[if_pos (by omega),List.getElem?_eq_getElem (by omega:i.toNat < l.length)] at this
  rw[Nat.mul_one,this];rfl
theorem look_keeps {S S' : Sim} (h:S.look = some S'):S'.c = S.c∧S'.pins = S.pins:=by
 unfold Sim.look at h
 split at h
 ·cases h
 obtain⟨_,_,h⟩:=bind_some h
 obtain⟨_,_,h⟩:=bind_some h
 obtain⟨⟨v,S1⟩,hr,h⟩:=bind_some h
 have e:=read_is hr
 subst e
 obtain⟨_,_,h⟩:=bind_some h
 simp only[Option.some.injEq] at h
 subst h
 exact⟨rfl,rfl⟩
theorem mark_keeps {S S' : Sim} (h:S.mark = some S'):S'.c = S.c∧S'.pins = S.pins:=by
 unfold Sim.mark at h
 split at h
 ·cases h
 dsimp only at h
 split at h
 ·split at h
  ·simp only[Option.some.injEq] at h;subst h;exact⟨rfl,rfl⟩
  ·simp only[Option.some.injEq] at h;subst h;exact⟨rfl,rfl⟩
 obtain⟨a,_,h⟩:=bind_some h
 obtain⟨row,_,h⟩:=bind_some h
 obtain⟨b,_,h⟩:=bind_some h
 split at h
 ·obtain⟨_,_,h⟩:=bind_some h
  obtain⟨⟨v,S1⟩,hr,h⟩:=bind_some h
  have e:=read_is hr
  subst e
  obtain⟨_,_,h⟩:=bind_some h
  simp only[Option.some.injEq] at h
  subst h
  exact⟨rfl,rfl⟩
 ·simp only[Option.some.injEq] at h;subst h;exact⟨rfl,rfl⟩
def Pr (S:Sim):Prop:=inR S.c.reserve∧∀a∈S.pins,regionOf a≤9223372036854775807
theorem choose_drop {t:List Rg} {reserve:Int} {held:List Int} {i:Nat} (h:i < (tableChoose t reserve held).2.length) :
  ∃t',tableDrop (((tableChoose t reserve held).2.take i).foldl (λt r=>(tableDrop t r).getD []) t) ((tableChoose t reserve held).2[i]) = some t'∧t'.length = t.length∧(((tableChoose t reserve held).2.take i).foldl (λt r=>(tableDrop t r).getD []) t).length = t.length:=by
 cases hok:tableOk t with
 | false=>
  have:tableChoose t reserve held = ([],[]):=by unfold tableChoose;rw[hok];rfl
  rw[this] at h;exact absurd h (by simp)
 | true=>
  have T:=tableOk_iff.1 hok
  obtain⟨c1,c2,_⟩:=choose_spec (reserve:=reserve) (held:=held) T
  generalize (tableChoose t reserve held).2 = q at c1 c2 h ⊢
  obtain⟨f1,f2,f3⟩:=fold_spec (q.take i) t T (c1.sublist (List.take_sublist _ _)) λr hr=>by
   obtain⟨a1,a2,a3,_⟩:=c2 r (List.mem_of_mem_take hr)
   exact⟨a1,a2,by omega⟩
  obtain⟨a1,a2,a3,_⟩:=c2 q[i] (List.getElem_mem h)
  have hni:q[i] ∉ q.take i:=by
   intro hm
   obtain⟨j,hj,e⟩:=List.getElem_of_mem hm
   rw[List.length_take] at hj
   rw[List.getElem_take] at e
   have:=(List.getElem_inj c1).1 e
   omega
  have e:=f3 q[i] a1 a2
  rw[if_neg hni] at e
  obtain⟨d1,d2⟩:=drop_spec f1 a1 (by rw[f2];exact a2) (by rw[e];omega)
  exact⟨_,d1,by rw[seti_len,f2],f2⟩
theorem t_choose {p n:Nat} {S S' : Sim} {g:Img} {R:RM} (hok:Ok R S g) (hp:Pr S) (hS:S.choose n = some S') :
  Fn P F_Sim_choose [.pointer (some ⟨p,0,none⟩)] R (simD p S g) (SimQ p S' λ_=>True):=by
 refine s_Sim_choose λF=>?_
 unfold c_Sim_choose
 unfold Sim.choose at hS
 obtain⟨S0,hS0,hS⟩:=bind_some hS
 refine jcutq (λvs R' D'=>R.le R'∧∃g0,Ok R' S0 g0∧S0.sz = true∧Pr S0∧D' = simD p S0 g0 ++ F∧vs = [.pointer (some ⟨p,0,none⟩)]) (λK hK=>?_) ?_
 ·refine jcutq (λvs R' D'=>R.le R'∧∃g0,Ok R' S0 g0∧S0.sz = true∧Pr S0∧D' = simD p S0 g0 ++ F∧vs = [.pointer (some ⟨p,0,none⟩)]) (λK2 hK2=>?_) ?_
  rotate_left
  ·rintro e R1 D1 ⟨hR1,g0,ok0,hz,hp0,hD,he⟩
   rw[hD];clear hD
   simp only[List.map,lc,ln,lj,and_true] at he
   simp only[he]
   exact hK _ _ _ ⟨hR1,g0,ok0,hz,hp0,rfl,rfl⟩
  refine jlp (λm vs R' D'=>R.le R'∧∃S1 g1,Ok R' S1 g1∧Pr S1∧Sim.drain m S1 = some S0∧D' = simD p S1 g1 ++ F∧vs = [.pointer (some ⟨p,0,none⟩)])
   (n:=n) ⟨RM.le.refl R,S,g,hok,hp,hS0,rfl,rfl⟩ ?_
  rintro m e R1 D1 K3 ⟨hR1,S1,g1,ok1,hp1,hdr,hD,he⟩ hK3
  rw[hD];clear hD
  simp only[List.map,lc,ln,lj,and_true] at he
  simp only[he]
  cases m with
  | zero=>exact absurd hdr (by simp[Sim.drain])
  | succ m=>
  unfold Sim.drain at hdr
  split at hdr
  ·cases hdr
  rename_i hz
  have hz:S1.sz = true:=by simpa using hz
  refine jor [.pointer (some ⟨p,0,none⟩)] ((decide ((S1.col.stack.length:Int) > 0)) || (decide ((S1.old.length:Int) > 0))) (λK' hK'=>?_) (λe c u ho he=>?_)
  ·refine jl (v:=g1.stack) rfl (jlnz ok1.stack (jgr (jgtf (λh1=>?_) (λh1=>?_))))
   ·refine jl (v:=g1.old) rfl (jlnz ok1.old (jgr (hK' _ _ _ (h1▸or2_f) (by rw[h1,Bool.false_or]))))
   ·exact hK' _ _ _ (h1▸or2_t) (by rw[h1,Bool.true_or])
  simp only[List.map,lc,ln,lj,and_true] at he
  simp only[he]
  refine jor [.pointer (some ⟨p,0,none⟩)] ((decide ((S1.col.stack.length:Int) > 0) || decide ((S1.old.length:Int) > 0)) || (S1.col.pc == 2)) (λK' hK'=>?_) (λe c u ho he=>?_)
  ·rw[ho]
   refine jgtf (λh1=>?_) (λh1=>?_)
   ·refine jl (v:=I S1.col.pc) rfl (jeq (hK' _ _ _ (h1▸or2_f) (by rw[h1,Bool.false_or])))
   ·exact hK' _ _ _ (h1▸or2_t) (by rw[h1,Bool.true_or])
  simp only[List.map,lc,ln,lj,and_true] at he
  simp only[he]
  rw[ho]
  refine jif (λhc=>?_) (λhc=>?_)
  ·simp only[Bool.or_eq_true,decide_eq_true_eq,beq_iff_eq] at hc
   rw[if_pos (by omega)] at hdr
   have hd2:∃S2,(if S1.col.pc = 2 then S1.look else S1.mark) = some S2∧Sim.drain m S2 = some S0:=by
    dsimp only at hdr
    by_cases c2:S1.col.pc = 2
    ·rw[if_pos c2] at hdr ⊢;exact bind_some hdr
    ·rw[if_neg c2] at hdr ⊢;exact bind_some hdr
   obtain⟨S2,h2,hdr⟩:=hd2
   refine jcutq (λvs R' D'=>R.le R'∧∃g2,Ok R' S2 g2∧Pr S2∧D' = simD p S2 g2 ++ F∧vs = [.pointer (some ⟨p,0,none⟩)]) (λK4 hK4=>?_) ?_
   rotate_left
   ·rintro e R2 D2 ⟨hR2,g2,ok2,hp2,hD,he⟩
    rw[hD];clear hD
    simp only[List.map,lc,ln,lj,and_true] at he
    simp only[he]
    exact hK3 m _ _ _ (by omega) ⟨hR2,S2,g2,ok2,hp2,hdr,rfl,rfl⟩
   refine jl (v:=I S1.col.pc) rfl (jeq (jif (λh3=>?_) (λh3=>?_)))
   ·rw[if_pos (eq_of_beq h3)] at h2
    obtain⟨k1,k2⟩:=look_keeps h2
    refine jcS (p:=p) (by exact t_look ok1 h2) λ_ R2 g2 hR2 _ ok2=>?_
    exact hK4 _ _ _ ⟨hR1.trans hR2,g2,ok2,by unfold Pr;rw[k1,k2];exact hp1,rfl,rfl⟩
   ·rw[if_neg (ne_of_beq_false h3)] at h2
    obtain⟨k1,k2⟩:=mark_keeps h2
    refine jcS (p:=p) (by exact t_mark ok1 h2) λ_ R2 g2 hR2 _ ok2=>?_
    exact hK4 _ _ _ ⟨hR1.trans hR2,g2,ok2,by unfold Pr;rw[k1,k2];exact hp1,rfl,rfl⟩
  ·simp only[Bool.or_eq_false_iff,decide_eq_false_iff_not,beq_eq_false_iff_ne] at hc
   rw[if_neg (by omega)] at hdr
   simp only[Option.some.injEq] at hdr
   subst hdr
   exact hK2 _ _ _ ⟨hR1,g1,ok1,hz,hp1,rfl,rfl⟩
 rintro e R1 D1 ⟨hR1,g0,ok0,hz,hp0,hD,he⟩
 rw[hD];clear hD
 simp only[List.map,lc,ln,lj,and_true] at he
 simp only[he]
 clear hp hS0 hok
 have hsz:=sz_ev hz
 have htl:=ok0.tl
 refine jss (p:=p) { S0 with stop:=false } g0 rfl rfl (by decide) (by rfl) (by rfl) ?_
 dsimp only at hS
 obtain⟨t4,ht4,hS⟩:=bind_some hS
 refine jcutq (λvs R' D'=>R' = R1∧∃v A,SO (S0.pins.map regionOf) v A∧D' = A ++ (simD p { S0 with stop:=false } g0 ++ F)∧vs = [.pointer (some ⟨p,0,none⟩),v]) (λK hK=>?_) ?_
 ·refine jcutq (λvs R' D'=>R' = R1∧∃v A,SO (S0.pins.map regionOf) v A∧D' = A ++ (simD p { S0 with stop:=false } g0 ++ F)∧vs = [.pointer (some ⟨p,0,none⟩),v]) (λK2 hK2=>?_) ?_
  rotate_left
  ·rintro e R2 D2 ⟨hR,v,A,so,hD,he⟩
   subst hR
   rw[hD];clear hD
   simp only[List.map,lc,ln,lj,and_true] at he
   simp only[he]
   exact hK _ _ _ ⟨rfl,v,A,so,rfl,rfl⟩
  refine jlp (λm vs R' D'=>R' = R1∧∃(i:Nat) (v:Value) (A:Chs),i≤S0.pins.length∧SO ((S0.pins.take i).map regionOf) v A∧D' = A ++ (simD p { S0 with stop:=false } g0 ++ F)∧vs = [.pointer (some ⟨p,0,none⟩),v,I i]∧m = S0.pins.length - i)
   (n:=S0.pins.length) ⟨rfl,0,.slice none 0 0,[],by omega,.inl ⟨by simp,rfl,rfl⟩,rfl,rfl,by omega⟩ ?_
  rintro m e R2 D2 K3 ⟨hR,i,v,A,hi,so,hD,he,hm⟩ hK3
  subst hR
  rw[hD];clear hD
  simp only[List.map,lc,ln,lj,and_true] at he
  simp only[he]
  refine jl (v:=g0.pins) rfl (jlnz ok0.pins (jlt (jif (λhc=>?_) (λhc=>?_))))
  rotate_left
  ·have hc:=of_decide_eq_false hc
   rw[List.take_of_length_le (by omega)] at so
   exact hK2 _ _ _ ⟨rfl,v,A,so,rfl,rfl⟩
  have hc:i < S0.pins.length:=by have:=of_decide_eq_true hc;omega
  refine jl (v:=g0.pins) rfl (jfz1 ok0.pins (by omega) (by omega) ?_)
  have e0:S0.pins[((i:Nat):Int).toNat]'(by omega) = S0.pins[i]:=by simp
  rw[e0]
  refine jp (p_RegionOf _ (hp0.2 _ (List.getElem_mem hc))) ?_
  refine jbs (cs:=[I (regionOf S0.pins[i])]) rfl rfl λb1=>?_
  refine jperm List.perm_middle.symm ?_
  have hx:Reads R2 (A ++ ((b1,C 3 [I (regionOf S0.pins[i])]) :: (simD p { S0 with stop:=false } g0 ++ F))) (some ⟨b1,0,none⟩) (1 * 1) ([regionOf S0.pins[i]].map I):=Reads.held (t:=T_int) (cs:=[I (regionOf S0.pins[i])]) (o:=0) (n:=1 * 1) (Nat.le_refl 1)
  obtain⟨sa,sn,sc,rfl⟩:=so.sl
  have hpl:=hsz.2.2.2.1
  refine jas so rfl (by rw[List.length_map,List.length_take,List.length_singleton];omega) hx λv' A' so'=>?_
  refine jadd ⟨by omega,by omega⟩ ?_
  refine jpart A' (G:=simD p { S0 with stop:=false } g0 ++ F) ?_
  exact hK3 (S0.pins.length - (i + 1)) _ _ _ (by omega) ⟨rfl,i + 1,v',A',by omega,by rw[List.take_succ_eq_append_getElem hc,List.map_append];exact so',rfl,rfl,rfl⟩
 rintro e R2 D2 ⟨hR,v,A,so,hD,he⟩
 subst hR
 rw[hD];clear hD
 simp only[List.map,lc,ln,lj,and_true] at he
 simp only[he]
 refine jfso so λR2 hR2 hint=>?_
 have hR2':=hR1.trans hR2
 have ok1:Ok R2 { S0 with stop:=false } g0:={ ok0.le hR2 with }
 refine jl (v:=.slice (some ⟨g0.tb,0,none⟩) S0.table.length g0.tc) rfl (jl (v:=I S0.c.reserve) rfl ?_)
 have hpl:=hsz.2.2.2.1
 refine jmk (m_TableChoose S0.c.reserve hp0.1 (by omega) hint (by rw[List.length_map];omega)) ?_
 rintro _ _ ⟨v1,v2,A1,A2,so1,so2,rfl,rfl⟩
 refine jex rfl (jex rfl ?_)
 rw[List.append_assoc]
 refine jfso so1 λR3 hR3 hi1=>?_
 refine jfso so2 λR4 hR4 hi2=>?_
 have hi1:=hi1.le hR4
 have ok2:=(ok1.le hR3).le hR4
 have hR4':=(hR2'.trans hR3).trans hR4
 clear ok1 ok0 hint so so1 so2 hR3 hR4 hR2 hR2' hR1
 have cd:∀i (h:i < (tableChoose S0.table S0.c.reserve (S0.pins.map regionOf)).2.length),_:=λi h=>choose_drop h
 generalize hq:tableChoose S0.table S0.c.reserve (S0.pins.map regionOf) = q at ht4 hS hi1 hi2 cd ⊢
 obtain⟨q1,q2⟩:=q
 dsimp only at ht4 hS hi1 hi2 cd ⊢
 generalize htf:q2.foldl (λt r=>(tableDrop t r).getD []) S0.table = tf at ht4
 have hl2:q2.length < 1000000:=by
  have:=freeOf_len (S0.pins.map regionOf) S0.table.tail 1
  have e2:q2 = (tableChoose S0.table S0.c.reserve (S0.pins.map regionOf)).2:=by rw[hq]
  rw[List.length_tail] at this
  rw[e2];unfold tableChoose
  split
  ·dsimp only;omega
  ·simp
 have hl1:q1.length < 1000000:=by
  have:=chooseFrom_len S0.table (S0.pins.map regionOf) 16 1 S0.c.reserve
  have e2:q1 = (tableChoose S0.table S0.c.reserve (S0.pins.map regionOf)).1:=by rw[hq]
  rw[e2];unfold tableChoose
  split
  ·dsimp only;omega
  ·simp
 refine jcutq (λvs R' D'=>R' = R4∧∃g1,Ok R4 { S0 with stop:=false,table:=tf } g1∧D' = simD p { S0 with stop:=false,table:=tf } g1 ++ F∧vs = [.pointer (some ⟨p,0,none⟩),v1]) (λK hK=>?_) ?_
 ·refine jcutq (λvs R' D'=>R' = R4∧∃g1,Ok R4 { S0 with stop:=false,table:=tf } g1∧D' = simD p { S0 with stop:=false,table:=tf } g1 ++ F∧vs = [.pointer (some ⟨p,0,none⟩),v1]) (λK2 hK2=>?_) ?_
  rotate_left
  ·rintro e R5 D5 ⟨hR,g1,ok1,hD,he⟩
   subst hR
   rw[hD];clear hD
   simp only[List.map,lc,ln,lj,and_true] at he
   simp only[he]
   exact hK _ _ _ ⟨rfl,g1,ok1,rfl,rfl⟩
  refine jlp (λm vs R' D'=>R' = R4∧∃(i:Nat) (t1:List Rg) (g1:Img),i≤q2.length∧t1 = (q2.take i).foldl (λt r=>(tableDrop t r).getD []) S0.table∧Ok R4 { S0 with stop:=false,table:=t1 } g1∧D' = simD p { S0 with stop:=false,table:=t1 } g1 ++ F∧vs = [.pointer (some ⟨p,0,none⟩),v1,v2,I i]∧m = q2.length - i)
   (n:=q2.length) ⟨rfl,0,S0.table,g0,by omega,rfl,ok2,rfl,rfl,by omega⟩ ?_
  rintro m e R5 D5 K3 ⟨hR,i,t1,g1,hi,ht1,ok1,hD,he,hm⟩ hK3
  subst hR
  rw[hD];clear hD
  simp only[List.map,lc,ln,lj,and_true] at he
  simp only[he]
  refine jlnz hi2 (jlt (jif (λhc=>?_) (λhc=>?_)))
  rotate_left
  ·have hc:=of_decide_eq_false hc
   rw[List.take_of_length_le (by omega),htf] at ht1
   subst ht1
   exact hK2 _ _ _ ⟨rfl,g1,ok1,rfl,rfl⟩
  have hc:i < q2.length:=by have:=of_decide_eq_true hc;omega
  obtain⟨t',d1,d2,d3⟩:=cd i hc
  rw[← ht1] at d1 d3
  refine jl (v:=.slice (some ⟨g1.tb,0,none⟩) t1.length g1.tc) rfl (jfz1 hi2 (by omega) (by omega) ?_)
  have e0:q2[((i:Nat):Int).toNat]'(by omega) = q2[i]:=by simp
  rw[e0]
  refine jmk (m_TableDrop (t:=t1) (sp:=g1.tsp) _ (by omega)) ?_
  rw[d1]
  rintro _ _ ⟨sv,⟨b4,c4,sp4,hc4,rfl,rfl⟩,rfl⟩
  refine jex rfl (jex rfl ?_)
  refine jtab1 (p:=p) ?_
  refine jadd ⟨by omega,by omega⟩ ?_
  refine hK3 (q2.length - (i + 1)) _ _ _ (by omega) ⟨rfl,i + 1,t',{ g1 with tb:=b4,tc:=c4,tsp:=sp4 },by omega,?_,ok1.tab (by omega) _ _ _ hc4,rfl,rfl,rfl⟩
  rw[List.take_succ_eq_append_getElem hc,List.foldl_append,← ht1]
  simp only[List.foldl_cons,List.foldl_nil,d1,Option.getD_some]
 rintro e R5 D5 ⟨hR,g1,ok1,hD,he⟩
 subst hR
 rw[hD];clear hD
 simp only[List.map,lc,ln,lj,and_true] at he
 simp only[he]
 clear cd hi2 htf ok2
 refine jcutq (λvs R' D'=>R' = R5∧∃g1,Ok R5 { S0 with stop:=false,table:=t4 } g1∧D' = simD p { S0 with stop:=false,table:=t4 } g1 ++ F∧vs = [.pointer (some ⟨p,0,none⟩),v1]) (λK hK=>?_) ?_
 ·refine jcutq (λvs R' D'=>R' = R5∧∃g1,Ok R5 { S0 with stop:=false,table:=t4 } g1∧D' = simD p { S0 with stop:=false,table:=t4 } g1 ++ F∧vs = [.pointer (some ⟨p,0,none⟩),v1]) (λK2 hK2=>?_) ?_
  rotate_left
  ·rintro e R5 D5 ⟨hR,g1,ok1,hD,he⟩
   subst hR
   rw[hD];clear hD
   simp only[List.map,lc,ln,lj,and_true] at he
   simp only[he]
   exact hK _ _ _ ⟨rfl,g1,ok1,rfl,rfl⟩
  refine jlp (λm vs R' D'=>R' = R5∧∃(i:Nat) (t1:List Rg),i≤q1.length∧kind4 (q1.drop i) t1 = some t4∧Ok R5 { S0 with stop:=false,table:=t1 } g1∧D' = simD p { S0 with stop:=false,table:=t1 } g1 ++ F∧vs = [.pointer (some ⟨p,0,none⟩),v1,I i]∧m = q1.length - i)
   (n:=q1.length) ⟨rfl,0,tf,by omega,ht4,ok1,rfl,rfl,by omega⟩ ?_
  rintro m e R6 D6 K3 ⟨hR,i,t1,hi,hk4,ok1,hD,he,hm⟩ hK3
  subst hR
  rw[hD];clear hD
  simp only[List.map,lc,ln,lj,and_true] at he
  simp only[he]
  refine jlnz hi1 (jlt (jif (λhc=>?_) (λhc=>?_)))
  rotate_left
  ·have hc:=of_decide_eq_false hc
   rw[List.drop_eq_nil_of_le (by omega)] at hk4
   simp only[kind4,Option.some.injEq] at hk4
   subst hk4
   exact hK2 _ _ _ ⟨rfl,g1,ok1,rfl,rfl⟩
  have hc:i < q1.length:=by have:=of_decide_eq_true hc;omega
  rw[List.drop_eq_getElem_cons hc] at hk4
  unfold kind4 at hk4
  obtain⟨x,hx,hk4⟩:=bind_some hk4
  obtain⟨x0,x1,x2,x3⟩:=idx_some hx
  have e0:q1[((i:Nat):Int).toNat]'(by omega) = q1[i]:=by simp
  have htl1:=ok1.tl
  refine jl (v:=.slice (some ⟨g1.tb,0,none⟩) t1.length g1.tc) rfl (jfz2 hi1 (by omega) (by omega) λqq hqq=>hqq _ _ ?_)
  rw[e0] at hqq ⊢
  obtain⟨k,hk⟩:∃k:Nat,q1[i] = k:=⟨q1[i].toNat,by omega⟩
  rw[hk] at hqq hk4 ⊢
  have hkl:k < t1.length:=by omega
  have hxk:t1[k] = x:=by rw[← x3];simp only[hk,Int.toNat_natCast]
  refine jian hkl ?_
  refine jlr_ (p:=p) hkl ?_
  refine ja λb2=>?_
  refine jand (jl (v:=.slice (some ⟨g1.tb,0,none⟩) t1.length g1.tc) rfl jev) (jand (hqq _ _ jev) (jand (jlr_ (p:=p) hkl jev) ?_))
  have hxk' : ({ S0 with stop:=false,table:=t1 }:Sim).table[k] = x:=hxk
  rw[hxk']
  refine js (cs':=eRg x) rfl rfl (by simp) rfl ?_
  refine js (cs':=eRg { x with kind:=4 }) rfl rfl (by simp) rfl ?_
  refine jl (v:=.slice (some ⟨g1.tb,0,none⟩) t1.length g1.tc) rfl ?_
  refine jfz1 hi1 (by omega) (by omega) ?_
  rw[e0,hk]
  refine jla (l:=eRg { x with kind:=4 }) (by simp) rfl ?_
  refine jian hkl ?_
  refine jsr_ (p:=p) (x:={ x with kind:=4 }) { S0 with stop:=false,table:=t1.set k { x with kind:=4 } } hkl (by rfl) ?_
  refine jadd ⟨by omega,by omega⟩ ?_
  refine jpart (simD p { S0 with stop:=false,table:=t1.set k { x with kind:=4 } } g1) (G:=F) ?_
  refine hK3 (q1.length - (i + 1)) _ _ _ (by omega) ⟨rfl,i + 1,t1.set k { x with kind:=4 },by omega,?_,{ ok1 with tl:=by simpa using htl1,tk:=by simpa using ok1.tk },rfl,rfl,rfl⟩
  rw[← hk4];simp[seti]
 rintro e R6 D6 ⟨hR,g1,ok1,hD,he⟩
 subst hR
 rw[hD];clear hD
 simp only[List.map,lc,ln,lj,and_true] at he
 simp only[he]
 refine jlnz hi1 (jeq (jif (λhc=>?_) (λhc=>?_)))
 ·rw[if_pos (by have:=eq_of_beq hc;omega)] at hS
  refine jcS (p:=p) (by exact t_idle ok1 hS) λ_ R7 g7 hR7 _ ok7=>?_
  exact jretS (hR4'.trans hR7) trivial rfl ok7
 ·rw[if_neg (by have:=ne_of_beq_false hc;omega)] at hS
  simp only[Option.some.injEq] at hS
  refine jss (p:=p) { S0 with stop:=false,table:=t4,phase:=2 } g1 rfl rfl (by decide) (by rfl) (by rfl) ?_
  refine jl (v:=.bool S0.col.asked) rfl (jl (v:=I S0.col.want) rfl ?_)
  refine jbd (cs:=eCol { col0 S0.col.asked S0.col.want with pc:=5,r:=1,p:=16 } (.slice none 0 0)) rfl rfl ?_
  refine jss (p:=p) { S0 with stop:=false,table:=t4,phase:=2,col:={ col0 S0.col.asked S0.col.want with pc:=5,r:=1,p:=16 } } { g1 with stack:=.slice none 0 0 } rfl rfl (by decide) (by rfl) (by rfl) ?_
  subst hS
  refine jretS hR4' trivial rfl ?_
  exact { ok1 with stack:=.inl ⟨rfl,rfl,rfl⟩ }
end Go.Lf
end
section
namespace Go.Lf
open Go Sm
theorem rootsF_get {S:Sim}:∀{l l' : List Int},S.rootsF l = some l'→l'.length = l.length∧∀k (h:k < l.length) (h' : k < l'.length),∃f,S.from_ l[k] = some f∧(if f then idx S.words l[k] else some l[k]) = some l'[k]
 | [],l',e=>by
  simp only[Sim.rootsF,Option.some.injEq] at e
  subst e
  exact⟨rfl,λk h=>absurd h (by simp)⟩
 | a :: r,l',e=>by
  unfold Sim.rootsF at e
  obtain⟨f,hf,e⟩:=bind_some e
  have e2:∃b,(if f then idx S.words a else some a) = some b∧∃r',S.rootsF r = some r'∧b :: r' = l':=by
   cases f with
   | true=>
    obtain⟨b,hb,e⟩:=bind_some e
    obtain⟨r',hr,e⟩:=bind_some e
    simp only[Option.some.injEq] at e
    exact⟨b,hb,r',hr,e⟩
   | false=>
    obtain⟨b,hb,e⟩:=bind_some e
    obtain⟨r',hr,e⟩:=bind_some e
    simp only[Option.some.injEq] at e
    exact⟨b,hb,r',hr,e⟩
  obtain⟨b,hb,r',hr,rfl⟩:=e2
  obtain⟨h1,h2⟩:=rootsF_get hr
  refine⟨by simp[h1],λk h h'=>?_⟩
  cases k with
  | zero=>exact⟨f,hf,hb⟩
  | succ k=>exact h2 k (by simpa using h) (by simpa using h')
theorem thsF_get {S:Sim}:∀{l l' : List Thr},S.thsF l = some l'→l'.length = l.length∧∀k (h:k < l.length) (h' : k < l'.length),∃r,S.rootsF l[k].roots = some r∧l'[k] = { l[k] with roots:=r }
 | [],l',e=>by
  simp only[Sim.thsF,Option.some.injEq] at e
  subst e
  exact⟨rfl,λk h=>absurd h (by simp)⟩
 | a :: r,l',e=>by
  unfold Sim.thsF at e
  obtain⟨r1,h1,e⟩:=bind_some e
  obtain⟨r',hr,e⟩:=bind_some e
  simp only[Option.some.injEq] at e
  subst e
  obtain⟨g1,g2⟩:=thsF_get hr
  refine⟨by simp[g1],λk h h'=>?_⟩
  cases k with
  | zero=>exact⟨r1,h1,rfl⟩
  | succ k=>exact g2 k (by simpa using h) (by simpa using h')
theorem jsi {R:RM} {b k:Nat} {l:List Int} {sp:List Value} {w:Int} {D D' : Chs} {m:M} (hk:k < l.length) [a:At D b (C T_int (l.map I ++ sp))] [u:Up D b (C T_int (l.map I ++ sp)) (C T_int ((l.set k w).map I ++ sp)) D'] (H:J R D' m):J R D (ST 1 (.pointer (some ⟨b,0 + k * 1,none⟩)) (I w) m):=by
 rw[Nat.zero_add,Nat.mul_one]
 refine js (cs:=l.map I ++ sp) (cs':=(l.set k w).map I ++ sp) rfl rfl (by simp;omega) ?_ H
 rw[show cl (I w) = [I w] from rfl,lay_one (by simp;omega),List.set_append_left _ _ (by simpa using hk),List.map_set]
theorem upto_set {α:Type} {l l' : List α} {k:Nat} (hl:l'.length = l.length) (hk:k < l.length):(l'.take k ++ l.drop k).set k (l'[k]'(by omega)) = l'.take (k + 1) ++ l.drop (k + 1):=by
 have e1:(l'.take k).length = k:=by simp;omega
 rw[List.set_append_right _ _ (by omega),e1,Nat.sub_self,List.drop_eq_getElem_cons hk,List.set_cons_zero,List.take_succ_eq_append_getElem (by omega),List.append_assoc,List.singleton_append]
theorem upto_get {α:Type} {l l' : List α} {k:Nat} (hl:l'.length = l.length) (hk:k < l.length) (h:k < (l'.take k ++ l.drop k).length):(l'.take k ++ l.drop k)[k] = l[k]:=by
 have e1:(l'.take k).length = k:=by simp;omega
 rw[List.getElem_append_right (by omega),List.getElem_drop]
 congr 1;omega
theorem upto_len {α:Type} {l l' : List α} {k:Nat} (hl:l'.length = l.length):(l'.take k ++ l.drop k).length = l.length:=by simp;omega
theorem t_finish {p:Nat} {S S' : Sim} {g:Img} {R:RM} (hok:Ok R S g) (hz:S.sz = true) (hT:TOk S.table) (hS:S.finish = some S') :
  Fn P F_Sim_finish [.pointer (some ⟨p,0,none⟩)] R (simD p S g) (SimQ p S' λ_=>True):=by
 refine s_Sim_finish λF=>?_
 unfold c_Sim_finish
 unfold Sim.finish at hS
 obtain⟨th,hth,hS⟩:=bind_some hS
 obtain⟨tl1,tl2⟩:=thsF_get hth
 have hsz:=sz_ev hz
 have hhl:=hok.hl
 have htl:=hok.tl
 refine jcutq (λvs R' D'=>R.le R'∧∃g1,Ok R' { S with th:=th } g1∧D' = simD p { S with th:=th } g1 ++ F∧vs = [.pointer (some ⟨p,0,none⟩)]) (λK hK=>?_) ?_
 ·refine jcutq (λvs R' D'=>R.le R'∧∃g1,Ok R' { S with th:=th } g1∧D' = simD p { S with th:=th } g1 ++ F∧vs = [.pointer (some ⟨p,0,none⟩)]) (λK2 hK2=>?_) ?_
  rotate_left
  ·rintro e R1 D1 ⟨hR,g1,ok1,hD,he⟩
   rw[hD];clear hD
   simp only[List.map,lc,ln,lj,and_true] at he
   simp only[he]
   exact hK _ _ _ ⟨hR,g1,ok1,rfl,rfl⟩
  refine jlp (λm vs R' D'=>R.le R'∧∃(i:Nat) (g1:Img),i≤S.th.length∧Ok R' { S with th:=th.take i ++ S.th.drop i } g1∧D' = simD p { S with th:=th.take i ++ S.th.drop i } g1 ++ F∧vs = [.pointer (some ⟨p,0,none⟩),I i]∧m = S.th.length - i)
   (n:=S.th.length) ⟨RM.le.refl R,0,g,by omega,by simpa using hok,by simp,rfl,by omega⟩ ?_
  rintro m e R1 D1 K3 ⟨hR,i,g1,hi,ok1,hD,he,hm⟩ hK3
  rw[hD];clear hD
  simp only[List.map,lc,ln,lj,and_true] at he
  simp only[he]
  refine jl (v:=.slice (some ⟨g1.hb,0,none⟩) (th.take i ++ S.th.drop i).length g1.hc) rfl (jln (jlt (jif (λhc=>?_) (λhc=>?_))))
  rotate_left
  ·have hc:i = S.th.length:=by have:=of_decide_eq_false hc;rw[upto_len tl1] at this;omega
   have e1:th.take i ++ S.th.drop i = th:=by rw[List.take_of_length_le (by omega),List.drop_eq_nil_of_le (by omega),List.append_nil]
   rw[e1] at ok1 ⊢
   exact hK2 _ _ _ ⟨hR,g1,ok1,rfl,rfl⟩
  have hc:i < S.th.length:=by have:=of_decide_eq_true hc;rw[upto_len tl1] at this;omega
  obtain⟨r',hr',et⟩:=tl2 i hc (by omega)
  obtain⟨rl1,rl2⟩:=rootsF_get hr'
  have hti:idx (th.take i ++ S.th.drop i) i = some (S.th[i]):=by
   unfold idx
   rw[if_pos (by omega),Int.toNat_natCast,List.getElem?_eq_getElem (by rw[upto_len tl1];exact hc),upto_get tl1 hc]
  have hri:=hsz.2.2.2.2 _ (List.getElem_mem hc)
  generalize hS1:({ S with th:=th.take i ++ S.th.drop i }:Sim) = S1 at ok1 ⊢
  have e1:S1.th = th.take i ++ S.th.drop i:=by rw[← hS1]
  have e2:S1.words = S.words:=by rw[← hS1]
  have e3:∀a,S1.from_ a = S.from_ a:=λa=>by rw[← hS1];rfl
  rw[← e1] at hti
  refine jopen (p:=p) ok1 hti rfl λb a cap hv=>?_
  refine jl (v:=.slice a (S.th[i]).roots.length cap) rfl ?_
  refine jc (A:=[]) (t_l5Ints hv hri) ?_
  rintro _ R2 _ hR2 ⟨b4,c4,sp4,hc4,hsp4,rfl,rfl⟩
  refine js (cs':=eThr (S.th[i]) (.slice (some ⟨b4,0,none⟩) (S.th[i]).roots.length c4)) rfl rfl (by simp[eThr]) rfl ?_
  refine jperm (D':=(b4,C T_int ((S.th[i]).roots.map I ++ sp4)) :: (b,C T_l8Thread (eThr (S.th[i]) (.slice (some ⟨b4,0,none⟩) (S.th[i]).roots.length c4))) :: (simD p S1 g1 ++ F)) (List.Perm.refl _) ?_
  refine jpart (simD p S1 g1) (G:=(b4,C T_int ((S.th[i]).roots.map I ++ sp4)) :: (b,C T_l8Thread (eThr (S.th[i]) (.slice (some ⟨b4,0,none⟩) (S.th[i]).roots.length c4))) :: F) ?_
  have ok2:=ok1.le hR2
  have hRR:=hR.trans hR2
  refine jcutq (λvs R' D'=>R.le R'∧∃g2,Ok R' S1 g2∧D' = simD p S1 g2 ++ (b4,C T_int (r'.map I ++ sp4)) :: (b,C T_l8Thread (eThr (S.th[i]) (.slice (some ⟨b4,0,none⟩) (S.th[i]).roots.length c4))) :: F∧vs = [.pointer (some ⟨p,0,none⟩),I i,.pointer (some ⟨b,0,none⟩)]) (λK4 hK4=>?_) ?_
  rotate_left
  ·rintro e R3 D3 ⟨hR3,g2,ok3,hD,he⟩
   rw[hD];clear hD
   simp only[List.map,lc,ln,lj,and_true] at he
   simp only[he]
   refine jperm List.perm_middle ?_
   refine jfreeze (b:=b4) λR4 hR4 hb4=>?_
   have hv2:=ints_of (l:=r') (c:=c4) hb4 (by omega)
   have ok4:=ok3.le hR4
   have ev:eThr (S.th[i]) (.slice (some ⟨b4,0,none⟩) (S.th[i]).roots.length c4) = eThr { S.th[i] with roots:=r' } (.slice (some ⟨b4,0,none⟩) r'.length c4):=by rw[rl1];rfl
   rw[ev]
   refine jput (p:=p) (i:=i) { S1 with th:=seti S1.th i { S.th[i] with roots:=r' } } (by exact ok4) (by omega) (by rw[e1,upto_len tl1];omega) (by exact hv2) (by rfl) λg5 ok5=>?_
   refine jadd ⟨by omega,by omega⟩ ?_
   have e5:({ S1 with th:=seti S1.th i { S.th[i] with roots:=r' } }:Sim) = { S with th:=th.take (i + 1) ++ S.th.drop (i + 1) }:=by
    rw[← hS1,← et]
    have:=upto_set tl1 hc
    simp only[seti,Int.toNat_natCast,this]
   rw[e5] at ok5 ⊢
   refine jpart (simD p { S with th:=th.take (i + 1) ++ S.th.drop (i + 1) } g5) (G:=F) ?_
   exact hK3 (S.th.length - (i + 1)) _ _ _ (by omega) ⟨hR3.trans hR4,i + 1,g5,by omega,ok5,rfl,rfl,rfl⟩
  refine jcutq (λvs R' D'=>R.le R'∧∃g2,Ok R' S1 g2∧D' = simD p S1 g2 ++ (b4,C T_int (r'.map I ++ sp4)) :: (b,C T_l8Thread (eThr (S.th[i]) (.slice (some ⟨b4,0,none⟩) (S.th[i]).roots.length c4))) :: F∧vs = [.pointer (some ⟨p,0,none⟩),I i,.pointer (some ⟨b,0,none⟩)]) (λK5 hK5=>?_) ?_
  rotate_left
  ·rintro e R3 D3 ⟨hR3,g2,ok3,hD,he⟩
   rw[hD];clear hD
   simp only[List.map,lc,ln,lj,and_true] at he
   simp only[he]
   exact hK4 _ _ _ ⟨hR3,g2,ok3,rfl,rfl⟩
  refine jlp (λm vs R' D'=>R.le R'∧∃(k:Nat) (g2:Img) (l:List Int),k≤(S.th[i]).roots.length∧l = r'.take k ++ (S.th[i]).roots.drop k∧Ok R' S1 g2∧D' = simD p S1 g2 ++ (b4,C T_int (l.map I ++ sp4)) :: (b,C T_l8Thread (eThr (S.th[i]) (.slice (some ⟨b4,0,none⟩) (S.th[i]).roots.length c4))) :: F∧vs = [.pointer (some ⟨p,0,none⟩),I i,.pointer (some ⟨b,0,none⟩),I k]∧m = (S.th[i]).roots.length - k)
   (n:=(S.th[i]).roots.length) ⟨hRR,0,g1,(S.th[i]).roots,by omega,by simp,ok2,rfl,rfl,by omega⟩ ?_
  rintro m e R3 D3 K6 ⟨hR3,k,g2,l,hk,hl,ok3,hD,he,hm⟩ hK6
  rw[hD];clear hD
  simp only[List.map,lc,ln,lj,and_true] at he
  simp only[he]
  have hll:l.length = (S.th[i]).roots.length:=by rw[hl,upto_len rl1]
  refine jl (v:=.slice (some ⟨b4,0,none⟩) (S.th[i]).roots.length c4) rfl (jln (jlt (jif (λhd=>?_) (λhd=>?_))))
  rotate_left
  ·have hd:k = (S.th[i]).roots.length:=by have:=of_decide_eq_false hd;omega
   have:l = r':=by rw[hl,List.take_of_length_le (by omega),List.drop_eq_nil_of_le (by omega),List.append_nil]
   subst this
   exact hK5 _ _ _ ⟨hR3,g2,ok3,rfl,rfl⟩
  have hd:k < (S.th[i]).roots.length:=by have:=of_decide_eq_true hd;omega
  obtain⟨f,hf,hw⟩:=rl2 k hd (by omega)
  obtain⟨y,hy⟩:∃y,r'[k]'(by omega) = y:=⟨_,rfl⟩
  rw[hy] at hw
  have hlk:l[k]'(by omega) = (S.th[i]).roots[k]:=by subst hl;exact upto_get rl1 hd (by omega)
  refine jcutq (λvs R' D'=>R.le R'∧∃g2,Ok R' S1 g2∧D' = simD p S1 g2 ++ (b4,C T_int ((l.set k y).map I ++ sp4)) :: (b,C T_l8Thread (eThr (S.th[i]) (.slice (some ⟨b4,0,none⟩) (S.th[i]).roots.length c4))) :: F∧vs = [.pointer (some ⟨p,0,none⟩),I i,.pointer (some ⟨b,0,none⟩),I k]) (λK7 hK7=>?_) ?_
  rotate_left
  ·rintro e R4 D4 ⟨hR4,g3,ok4,hD,he⟩
   rw[hD];clear hD
   simp only[List.map,lc,ln,lj,and_true] at he
   simp only[he]
   refine jadd ⟨by omega,by omega⟩ ?_
   exact hK6 ((S.th[i]).roots.length - (k + 1)) _ _ _ (by omega) ⟨hR4,k + 1,g3,l.set k y,by omega,by rw[hl,← hy];exact upto_set rl1 hd,ok4,rfl,rfl,rfl⟩
  refine jcutq (λvs R' D'=>R.le R'∧∃g2,Ok R' S1 g2∧D' = simD p S1 g2 ++ (b4,C T_int ((l.set k y).map I ++ sp4)) :: (b,C T_l8Thread (eThr (S.th[i]) (.slice (some ⟨b4,0,none⟩) (S.th[i]).roots.length c4))) :: F∧vs = [.pointer (some ⟨p,0,none⟩),I i,.pointer (some ⟨b,0,none⟩),I k]) (λK8 hK8=>?_) ?_
  rotate_left
  ·rintro e R4 D4 ⟨hR4,g3,ok4,hD,he⟩
   rw[hD];clear hD
   simp only[List.map,lc,ln,lj,and_true] at he
   simp only[he]
   exact hK7 _ _ _ ⟨hR4,g3,ok4,rfl,rfl⟩
  have gk:∀g' : Img,(l.map I ++ sp4)[0 + k * 1]? = some (I (S.th[i]).roots[k]):=λ_=>by
   rw[Nat.zero_add,Nat.mul_one,ints_get (by omega),hlk]
  refine jl (v:=.slice (some ⟨b4,0,none⟩) (S.th[i]).roots.length c4) rfl (jian hd (jl (v:=I (S.th[i]).roots[k]) (gk g) ?_))
  refine jcS (p:=p) (by exact t_from ok3 ((e3 _).trans hf)) λ_ R4 g3 hR4 hr ok4=>?_
  subst hr
  refine jif (λhff=>?_) (λhff=>?_)
  ·subst hff
   rw[if_pos rfl] at hw
   obtain⟨w0,w1,w2,w3⟩:=idx_some hw
   refine jl (v:=.slice (some ⟨b4,0,none⟩) (S.th[i]).roots.length c4) rfl (jl (v:=.slice (some ⟨g3.wb,0,none⟩) S1.words.length g3.wc) rfl (jl (v:=.slice (some ⟨b4,0,none⟩) (S.th[i]).roots.length c4) rfl ?_))
   refine jian hd (jl (v:=I (S.th[i]).roots[k]) (gk g) ?_)
   refine jia w0 (by rw[e2];exact w1) (jl (v:=I y) ?_ ?_)
   ·rw[Nat.zero_add,Nat.mul_one,ints_get (by rw[e2];exact w2)]
    simp only[e2,w3]
   refine jian hd (jsi (by omega) ?_)
   exact hK8 _ _ _ ⟨hR3.trans hR4,g3,ok4,rfl,rfl⟩
  ·subst hff
   simp only[Bool.false_eq_true,if_false,Option.some.injEq] at hw
   refine hK8 _ _ _ ⟨hR3.trans hR4,g3,ok4,?_,rfl⟩
   have:l.set k y = l:=by rw[← hw,← hlk];exact List.set_getElem_self _
   rw[this]
 rintro e R1 D1 ⟨hR1,g1,ok1,hD,he⟩
 rw[hD];clear hD
 simp only[List.map,lc,ln,lj,and_true] at he
 simp only[he]
 generalize hdd:dropFrom S.table.length 1 S.table = td at hS
 refine jcutq (λvs R' D'=>R' = R1∧∃g2,Ok R' { S with th:=th,table:=td } g2∧D' = simD p { S with th:=th,table:=td } g2 ++ F∧vs = [.pointer (some ⟨p,0,none⟩)]) (λK hK=>?_) ?_
 rotate_left
 ·rintro e R2 D2 ⟨hR2,g2,ok2,hD,he⟩
  subst hR2
  rw[hD];clear hD
  simp only[List.map,lc,ln,lj,and_true] at he
  simp only[he]
  refine jcS (p:=p) (by exact t_idle ok2 hS) λ_ R7 g7 hR7 _ ok7=>?_
  exact jretS (hR1.trans hR7) trivial rfl ok7
 refine jcutq (λvs R' D'=>R' = R1∧∃g2,Ok R' { S with th:=th,table:=td } g2∧D' = simD p { S with th:=th,table:=td } g2 ++ F∧vs = [.pointer (some ⟨p,0,none⟩)]) (λK2 hK2=>?_) ?_
 rotate_left
 ·rintro e R2 D2 ⟨hR2,g2,ok2,hD,he⟩
  rw[hD];clear hD
  simp only[List.map,lc,ln,lj,and_true] at he
  simp only[he]
  exact hK _ _ _ ⟨hR2,g2,ok2,rfl,rfl⟩
 refine jlp (λm vs R' D'=>R' = R1∧∃(i:Nat) (t1:List Rg) (g2:Img),1≤i∧i≤S.table.length∧TOk t1∧t1.length = S.table.length∧dropFrom (S.table.length + 1 - i) i t1 = td∧Ok R' { S with th:=th,table:=t1 } g2∧D' = simD p { S with th:=th,table:=t1 } g2 ++ F∧vs = [.pointer (some ⟨p,0,none⟩),I i]∧m = S.table.length + 1 - i)
  (n:=S.table.length) ⟨rfl,1,S.table,g1,by omega,by have:=hT.n0;omega,hT,rfl,hdd,ok1,rfl,rfl,by omega⟩ ?_
 rintro m e R2 D2 K3 ⟨hR2,i,t1,g2,hi0,hi1,T,htl1,hdf,ok2,hD,he,hm⟩ hK3
 subst hR2
 rw[hD];clear hD
 simp only[List.map,lc,ln,lj,and_true] at he
 simp only[he]
 refine jl (v:=.slice (some ⟨g2.tb,0,none⟩) t1.length g2.tc) rfl (jln (jlt (jif (λhc=>?_) (λhc=>?_))))
 rotate_left
 ·have hc:i = S.table.length:=by have:=of_decide_eq_false hc;omega
  have:t1 = td:=by
   rw[← hdf,show S.table.length + 1 - i = 0 + 1 by omega]
   unfold dropFrom
   rw[List.getElem?_eq_none (by omega)]
  subst this
  exact hK2 _ _ _ ⟨rfl,g2,ok2,rfl,rfl⟩
 have hc:i < t1.length:=by have:=of_decide_eq_true hc;omega
 rw[show S.table.length + 1 - i = (S.table.length + 1 - (i + 1)) + 1 by omega] at hdf
 unfold dropFrom at hdf
 rw[List.getElem?_eq_getElem hc] at hdf
 simp only at hdf
 refine jcutq (λvs R' D'=>R' = R2∧∃(t2:List Rg) (g3:Img),TOk t2∧t2.length = S.table.length∧dropFrom (S.table.length + 1 - (i + 1)) (i + 1) t2 = td∧Ok R' { S with th:=th,table:=t2 } g3∧D' = simD p { S with th:=th,table:=t2 } g3 ++ F∧vs = [.pointer (some ⟨p,0,none⟩),I i]) (λK4 hK4=>?_) ?_
 rotate_left
 ·rintro e R3 D3 ⟨hR3,t2,g3,T2,hl2,hd2,ok3,hD,he⟩
  subst hR3
  rw[hD];clear hD
  simp only[List.map,lc,ln,lj,and_true] at he
  simp only[he]
  refine jadd ⟨by omega,by omega⟩ ?_
  exact hK3 (S.table.length + 1 - (i + 1)) _ _ _ (by omega) ⟨rfl,i + 1,t2,g3,by omega,by omega,T2,hl2,hd2,ok3,rfl,rfl,rfl⟩
 refine jcutq (λvs R' D'=>R' = R2∧∃(t2:List Rg) (g3:Img),TOk t2∧t2.length = S.table.length∧dropFrom (S.table.length + 1 - (i + 1)) (i + 1) t2 = td∧Ok R' { S with th:=th,table:=t2 } g3∧D' = simD p { S with th:=th,table:=t2 } g3 ++ F∧vs = [.pointer (some ⟨p,0,none⟩),I i]) (λK5 hK5=>?_) ?_
 rotate_left
 ·rintro e R3 D3 ⟨hR3,t2,g3,T2,hl2,hd2,ok3,hD,he⟩
  subst hR3
  rw[hD];clear hD
  simp only[List.map,lc,ln,lj,and_true] at he
  simp only[he]
  exact hK4 _ _ _ ⟨rfl,t2,g3,T2,hl2,hd2,ok3,rfl,rfl⟩
 refine jl (v:=.slice (some ⟨g2.tb,0,none⟩) t1.length g2.tc) rfl (jian hc (jl (v:=I t1[i].kind) (by rw[Nat.zero_add];exact row_cell (f:=0) hc rfl) (jeq (jif (λhk=>?_) (λhk=>?_)))))
 ·rw[if_pos hk] at hdf
  have hk4:(rv t1 i).kind = 4:=by rw[rv_at hc];exact eq_of_beq hk
  obtain⟨d1,d2⟩:=drop_spec (r:=i) T (by omega) (by omega) (by omega)
  rw[d1] at hdf
  simp only[Option.getD_some] at hdf
  refine jl (v:=.slice (some ⟨g2.tb,0,none⟩) t1.length g2.tc) rfl ?_
  refine jmk (m_TableDrop (t:=t1) (sp:=g2.tsp) _ (by omega)) ?_
  rw[d1]
  rintro _ _ ⟨sv,⟨b4,c4,sp4,hc4,rfl,rfl⟩,rfl⟩
  refine jex rfl (jex rfl ?_)
  refine jtab1 (p:=p) ?_
  exact hK5 _ _ _ ⟨rfl,seti t1 i (free i),{ g2 with tb:=b4,tc:=c4,tsp:=sp4 },d2,by rw[seti_len,htl1],hdf,ok2.tab (by rw[seti_len];omega) _ _ _ hc4,rfl,rfl⟩
 ·rw[if_neg (by rw[hk];decide)] at hdf
  exact hK5 _ _ _ ⟨rfl,t1,g2,T,htl1,hdf,ok2,rfl,rfl⟩
end Go.Lf
end
section
namespace Go.Lf
open Go Sm
theorem Ints.sl {R:RM} {v:Value} {l:List Int} (h:Ints R v l):∃a c,v = .slice a l.length c:=by
 obtain⟨a,cap,hsv,-⟩:=Ints.reads (D:=[]) h
 exact⟨a,cap,hsv⟩
theorem p_WordsOk (a:Option Addr) (n c:Nat) (hn:n < 1000000000000):Pu F_s_WordsOk [.slice a n c] (.bool (wordsOk n)):=by
 intro R
 refine s_s_WordsOk λF=>?_
 unfold c_s_WordsOk
 have eq:(n:Int).tdiv 16 = (n / 16:Nat):=by rw[Int.tdiv_eq_ediv_of_nonneg (by omega)];omega
 have er:(n:Int).tmod 16 = (n % 16:Nat):=by rw[Int.tmod_eq_emod_of_nonneg (by omega)];omega
 refine jln (jquo (by decide) ⟨by omega,by omega⟩ ?_)
 rw[eq]
 refine jan [I ((n / 16:Nat):Int)] (((n:Int).tmod 16 == 0) && (decide (((n / 16:Nat):Int)≥2))) (λK' hK'=>?_) (λe c u ho he=>?_)
 ·refine jln (jrem (by decide) (jeq (jgtt (λh1=>?_) (λh1=>?_))))
  ·refine jge (hK' _ _ _ (h1▸and2_t) (by rw[h1,Bool.true_and]))
  ·exact hK' _ _ _ (h1▸and2_f) (by rw[h1,Bool.false_and])
 simp only[List.map,lc,ln,lj,and_true] at he
 simp only[he]
 refine jan [] ((((n:Int).tmod 16 == 0) && decide (((n / 16:Nat):Int)≥2)) && (decide (((n / 16:Nat):Int)≤12))) (λK' hK'=>?_) (λe c u ho he=>?_)
 ·rw[ho]
  refine jgtt (λh1=>?_) (λh1=>?_)
  ·refine jle (hK' _ _ _ (h1▸and2_t) (by rw[h1,Bool.true_and]))
  ·exact hK' _ _ _ (h1▸and2_f) (by rw[h1,Bool.false_and])
 simp only[List.map,lc,ln,lj,and_true] at he
 simp only[he]
 rw[ho]
 refine jret (A:=[]) (RM.le.refl R) ?_
 congr 1
 unfold wordsOk
 rw[er]
 rw[Bool.eq_iff_iff]
 simp only[Bool.and_eq_true,decide_eq_true_eq,beq_iff_eq]
 constructor<;>rintro⟨⟨h1,h2⟩,h3⟩<;>exact⟨⟨by omega,by omega⟩,by omega⟩
theorem p_l3Fits (x:Option Addr) (n cc:Nat) (a size:Int) (hn:n < 1000000000000):Pu F_s_l3Fits [.slice x n cc,I a,I size] (.bool (fits n a size)):=by
 intro R
 refine s_s_l3Fits λF=>?_
 unfold c_s_l3Fits
 refine jan [.slice x n cc,I a,I size] ((wordsOk n) && (decide (size > 0))) (λK' hK'=>?_) (λe c u ho he=>?_)
 ·refine jp (p_WordsOk x n cc hn) (jgtt (λh1=>?_) (λh1=>?_))
  ·refine jgr (hK' _ _ _ (h1▸and2_t) (by rw[h1,Bool.true_and]))
  ·exact hK' _ _ _ (h1▸and2_f) (by rw[h1,Bool.false_and])
 simp only[List.map,lc,ln,lj,and_true] at he
 simp only[he]
 refine jan [.slice x n cc,I a,I size] ((wordsOk n && decide (size > 0)) && (decide (size≤16))) (λK' hK'=>?_) (λe c u ho he=>?_)
 ·rw[ho]
  refine jgtt (λh1=>?_) (λh1=>?_)
  ·refine jle (hK' _ _ _ (h1▸and2_t) (by rw[h1,Bool.true_and]))
  ·exact hK' _ _ _ (h1▸and2_f) (by rw[h1,Bool.false_and])
 simp only[List.map,lc,ln,lj,and_true] at he
 simp only[he]
 refine jan [.slice x n cc,I a,I size] ((wordsOk n && decide (size > 0) && decide (size≤16)) && (decide (a≥16))) (λK' hK'=>?_) (λe c u ho he=>?_)
 ·rw[ho]
  refine jgtt (λh1=>?_) (λh1=>?_)
  ·refine jge (hK' _ _ _ (h1▸and2_t) (by rw[h1,Bool.true_and]))
  ·exact hK' _ _ _ (h1▸and2_f) (by rw[h1,Bool.false_and])
 simp only[List.map,lc,ln,lj,and_true] at he
 simp only[he]
 refine jan [I a,I size] ((wordsOk n && decide (size > 0) && decide (size≤16) && decide (a≥16)) && (decide (a < n))) (λK' hK'=>?_) (λe c u ho he=>?_)
 ·rw[ho]
  refine jgtt (λh1=>?_) (λh1=>?_)
  ·refine jln (jlt (hK' _ _ _ (h1▸and2_t) (by rw[h1,Bool.true_and])))
  ·exact hK' _ _ _ (h1▸and2_f) (by rw[h1,Bool.false_and])
 simp only[List.map,lc,ln,lj,and_true] at he
 simp only[he]
 refine jan [] ((wordsOk n && decide (size > 0) && decide (size≤16) && decide (a≥16) && decide (a < n)) && (regionOf a == regionOf (a + size - 1))) (λK' hK'=>?_) (λe c u ho he=>?_)
 ·rw[ho]
  refine jgtt (λh1=>?_) (λh1=>?_)
  ·have h2:=h1
   simp only[Bool.and_eq_true,decide_eq_true_eq] at h2
   have r1:regionOf a≤9223372036854775807:=by unfold regionOf;split<;>omega
   have r2:regionOf (a + size - 1)≤9223372036854775807:=by unfold regionOf;split<;>omega
   refine jp (p_RegionOf a r1) (jadd ⟨by omega,by omega⟩ (jsub ⟨by omega,by omega⟩ (jp (p_RegionOf _ r2) (jeq (hK' _ _ _ (h1▸and2_t) (by rw[h1,Bool.true_and]))))))
  ·exact hK' _ _ _ (h1▸and2_f) (by rw[h1,Bool.false_and])
 simp only[List.map,lc,ln,lj,and_true] at he
 simp only[he]
 rw[ho]
 refine jret (A:=[]) (RM.le.refl R) ?_
 congr 1
theorem idx_first {n:Int}:∀{l:List Int} {i:Nat} (h:i < l.length),l[i] = n→(∀k (hk:k < l.length),k < i→l[k]≠n)→l.idxOf n = i
 | [],i,h,_,_=>absurd h (by simp)
 | a :: r,0,_,e,_=>by
  have e:a = n:=e
  rw[List.idxOf_cons,e];simp
 | a :: r,i + 1,h,e,hall=>by
  have h0:a≠n:=hall 0 (by simp) (by omega)
  have:=idx_first (l:=r) (i:=i) (by simpa using h) (by simpa using e) (λk hk hki=>by have:=hall (k + 1) (by simpa using hk) (by omega);simpa using this)
  rw[List.idxOf_cons,this]
  have:(a == n) = false:=by simpa using h0
  rw[this];rfl
end Go.Lf
end
section
namespace Go.Lf
open Go Sm
def eTh (t:Thing) (rv nv:Value):List Value:=[I t.at_,I t.moved,I t.sh.refs,I t.sh.nums,rv,nv]
def ThV (R:RM) (v:Value) (t:Thing):Prop:=∃rv nv,v = .agg (eTh t rv nv).toArray∧Ints R rv t.refs∧Ints R nv t.nums
theorem ThV.le {R R' : RM} {v:Value} {t:Thing} (h:R.le R') (H:ThV R v t):ThV R' v t:=by
 obtain⟨rv,nv,h1,h2,h3⟩:=H
 exact⟨rv,nv,h1,h2.le h,h3.le h⟩
theorem fits_in {n:Nat} {a size:Int} (h:fits n a size = true):16≤a∧a + size≤n∧0 < size∧size≤16:=by
 unfold fits wordsOk at h
 simp only[Bool.and_eq_true,decide_eq_true_eq,beq_iff_eq] at h
 obtain⟨⟨⟨⟨⟨⟨⟨h1,h2⟩,h3⟩,h4⟩,h5⟩,h6⟩,h7⟩,h8⟩:=h
 unfold regionOf at h8
 rw[if_neg (by omega),if_neg (by omega)] at h8
 refine⟨h6,?_,h4,h5⟩
 omega
theorem shape_rng {w:Int} (h:(shapeOf w).2 = true):0≤(shapeOf w).1.refs∧(shapeOf w).1.refs≤4∧0≤(shapeOf w).1.nums∧(shapeOf w).1.nums≤4∧shapeSize (shapeOf w).1 = 2 + (shapeOf w).1.refs + (shapeOf w).1.nums:=by
 unfold shapeOf at h ⊢
 split at h
 ·rename_i hc
  rw[if_pos hc]
  have h1:shapeOk ⟨w / 16,w % 16⟩ = true:=by
   unfold shapeOk
   simp only[Bool.and_eq_true,decide_eq_true_eq]
   omega
  refine⟨by dsimp only;omega,by dsimp only;omega,by dsimp only;omega,by dsimp only;omega,?_⟩
  unfold shapeSize
  rw[if_pos h1]
 ·exact absurd h (by decide)
theorem seg_step {w:List Int} {k i:Nat} (h:k + i < w.length):(w.drop k).take (i + 1) = (w.drop k).take i ++ [w[k + i]]:=by
 rw[List.take_succ_eq_append_getElem (by rw[List.length_drop];omega),List.getElem_drop]
theorem t_ThingAt {R:RM} {wv:Value} {w:List Int} (a:Int) (h:Ints R wv w) (hl:w.length < 1000000000000) :
  Fn P F_s_ThingAt [wv,I a] R [] (λv R' A=>A = []∧∃x,ThV R' x (thingAt w a).1∧v = .tuple #[x,.bool (thingAt w a).2]):=by
 refine s_s_ThingAt λF=>?_
 unfold c_s_ThingAt
 obtain⟨wa,wc,hwv⟩:=h.sl
 refine ja λb1=>?_
 have none_:∀(R1:RM) (G:Chs),R.le R1→(thingAt w a) = (thing0,false)→∀{D:Chs} [At D b1 (C T_Thing (eTh thing0 (.slice none 0 0) (.slice none 0 0)))] [Sf D F],True:=λ_ _ _ _ _ _ _=>trivial
 clear none_
 rw[hwv]
 refine jp (p_l3Fits wa w.length wc a 2 hl) (jif (λh2=>?_) (λh2=>?_))
 ·have h2:fits w.length a 2 = false:=by simpa using h2
  have et:thingAt w a = (thing0,false):=by unfold thingAt;rw[h2];rfl
  refine jbd (cs:=eTh thing0 (.slice none 0 0) (.slice none 0 0)) rfl rfl ?_
  refine js (cs':=eTh thing0 (.slice none 0 0) (.slice none 0 0)) rfl rfl (by exact Nat.le_refl 6) rfl ?_
  refine jla (l:=eTh thing0 (.slice none 0 0) (.slice none 0 0)) (by exact Nat.le_refl 6) rfl ?_
  refine jret (A:=[]) (RM.le.refl R) ⟨rfl,_,?_,by rw[et]⟩
  rw[et]
  exact⟨_,_,rfl,.inl ⟨rfl,rfl,rfl⟩,.inl ⟨rfl,rfl,rfl⟩⟩
 have h2:fits w.length a 2 = true:=by simpa using h2
 obtain⟨a0,a1,-,-⟩:=fits_in h2
 obtain⟨n,rfl⟩:∃n:Nat,a = n:=⟨a.toNat,by omega⟩
 rw[← hwv]
 refine jadd ⟨by omega,by omega⟩ (jfz1 h (by omega) (by omega) ?_)
 have e1:w[((n:Int) + 1).toNat]'(by omega) = w[n + 1]:=getElem_congr_idx (by omega)
 rw[e1]
 refine jp (p_ShapeOf _) (jex rfl (jex rfl ?_))
 have eg:w.getD (((n:Int)).toNat + 1) 0 = w[n + 1]:=by
  rw[Int.toNat_natCast,List.getD_eq_getElem?_getD,List.getElem?_eq_getElem (by omega),Option.getD_some]
 have et0:thingAt w n = if (shapeOf w[n + 1]).2 && fits w.length n (shapeSize (shapeOf w[n + 1]).1) then (⟨n,w.getD ((n:Int)).toNat 0,(shapeOf w[n + 1]).1,seg w (n + 2) (shapeOf w[n + 1]).1.refs,seg w (n + 2 + (shapeOf w[n + 1]).1.refs) (shapeOf w[n + 1]).1.nums⟩,true) else (thing0,false):=by
  unfold thingAt
  rw[if_pos h2,eg]
 have sr:=@shape_rng w[n + 1]
 generalize shapeOf w[n + 1] = s at et0 sr ⊢
 obtain⟨s,sb⟩:=s
 dsimp only at et0 sr ⊢
 refine ja λb2=>?_
 refine js (cs':=[I s.refs,I s.nums]) rfl rfl (by simp) rfl ?_
 rw[hwv]
 refine jor [.slice wa w.length wc,I n,.pointer (some ⟨b1,0,none⟩),.pointer (some ⟨b2,0,none⟩)] ((!sb) || (!fits w.length n (shapeSize s))) (λK' hK'=>?_) (λe c u ho he=>?_)
 ·refine jgtf (λh1=>?_) (λh1=>?_)
  ·refine jla (l:=[I s.refs,I s.nums]) (by simp) rfl (jp (p_ShapeSize s) (jp (p_l3Fits wa w.length wc n (shapeSize s) hl) (hK' _ _ _ (h1▸or2_f) (by rw[h1,Bool.false_or]))))
  ·exact hK' _ _ _ (h1▸or2_t) (by rw[h1,Bool.true_or])
 simp only[List.map,lc,ln,lj,and_true] at he
 simp only[he]
 rw[ho]
 refine jif (λh3=>?_) (λh3=>?_)
 ·have et:thingAt w n = (thing0,false):=by
   rw[et0,if_neg]
   intro hh
   simp only[Bool.or_eq_true,Bool.not_eq_true',Bool.and_eq_true] at h3 hh
   rcases h3 with h3 | h3
   ·rw[h3] at hh;exact absurd hh.1 (by decide)
   ·rw[h3] at hh;exact absurd hh.2 (by decide)
  refine jbd (cs:=eTh thing0 (.slice none 0 0) (.slice none 0 0)) rfl rfl ?_
  refine js (cs':=eTh thing0 (.slice none 0 0) (.slice none 0 0)) rfl rfl (by exact Nat.le_refl 6) rfl ?_
  refine jla (l:=eTh thing0 (.slice none 0 0) (.slice none 0 0)) (by exact Nat.le_refl 6) rfl ?_
  refine jret (A:=[]) (RM.le.refl R) ⟨rfl,_,?_,by rw[et]⟩
  rw[et]
  exact⟨_,_,rfl,.inl ⟨rfl,rfl,rfl⟩,.inl ⟨rfl,rfl,rfl⟩⟩
 simp only[Bool.or_eq_false_iff,Bool.not_eq_false'] at h3
 obtain⟨h3,h4⟩:=h3
 obtain⟨s1,s2,s3,s4,s5⟩:=sr h3
 obtain⟨-,f1,-,-⟩:=fits_in h4
 rw[h3,h4] at et0
 simp only[Bool.and_self,if_true] at et0
 have eg0:w.getD ((n:Int)).toNat 0 = w[n]:=by rw[Int.toNat_natCast,List.getD_eq_getElem?_getD,List.getElem?_eq_getElem (by omega),Option.getD_some]
 rw[eg0] at et0
 obtain⟨⟨r,hr⟩,⟨m,hm⟩⟩:(∃r:Nat,s.refs = r)∧(∃m:Nat,s.nums = m):=⟨⟨s.refs.toNat,by omega⟩,⟨s.nums.toNat,by omega⟩⟩
 have es1:seg w ((n:Int) + 2) s.refs = (w.drop (n + 2)).take r:=by unfold seg;rw[hr,show ((n:Int) + 2).toNat = n + 2 by omega,Int.toNat_natCast]
 have es2:seg w ((n:Int) + 2 + s.refs) s.nums = (w.drop (n + 2 + r)).take m:=by unfold seg;rw[hr,hm,show ((n:Int) + 2 + r).toNat = n + 2 + r by omega,Int.toNat_natCast]
 rw[es1,es2] at et0
 rw[← hwv]
 refine jfz2 h (by omega) (by omega) λq hq=>hq _ _ ?_
 have e2:w[((n:Int)).toNat]'(by omega) = w[n]:=getElem_congr_idx (by omega)
 rw[e2] at hq ⊢
 refine jla (l:=[I s.refs,I s.nums]) (by simp) rfl ?_
 refine jbd (cs:=eTh ⟨n,w[n],s,[],[]⟩ (.slice none 0 0) (.slice none 0 0)) rfl rfl ?_
 refine ja λb3=>?_
 refine jand (hq _ _ jev) (jand (jla (l:=[I s.refs,I s.nums]) (by simp) rfl jev) ?_)
 refine js (cs':=eTh ⟨n,w[n],s,[],[]⟩ (.slice none 0 0) (.slice none 0 0)) rfl rfl (by exact Nat.le_refl 6) rfl ?_
 generalize hE:((b2,C T_Shape [I s.refs,I s.nums]) :: (b1,C T_Thing (cl z32)) :: ([] ++ F)) = E
 have ea:At E b1 (C T_Thing (cl z32)):=by rw[← hE];exact inferInstance
 have ea2:At E b2 (C T_Shape [I s.refs,I s.nums]):=by rw[← hE];exact inferInstance
 refine jcutq (λvs R' D'=>R.le R'∧∃v1,Ints R' v1 ((w.drop (n + 2)).take r)∧D' = (b3,C T_Thing (eTh ⟨n,w[n],s,[],[]⟩ v1 (.slice none 0 0))) :: E∧vs = [wv,I n,.pointer (some ⟨b1,0,none⟩),.pointer (some ⟨b2,0,none⟩),.pointer (some ⟨b3,0,none⟩)]) (λK hK=>?_) ?_
 ·refine jcutq (λvs R' D'=>R.le R'∧∃v1,Ints R' v1 ((w.drop (n + 2)).take r)∧D' = (b3,C T_Thing (eTh ⟨n,w[n],s,[],[]⟩ v1 (.slice none 0 0))) :: E∧vs = [wv,I n,.pointer (some ⟨b1,0,none⟩),.pointer (some ⟨b2,0,none⟩),.pointer (some ⟨b3,0,none⟩)]) (λK2 hK2=>?_) ?_
  rotate_left
  ·rintro e R1 D1 ⟨hR,v1,hv1,hD,he⟩
   rw[hD];clear hD
   simp only[List.map,lc,ln,lj,and_true] at he
   simp only[he]
   exact hK _ _ _ ⟨hR,v1,hv1,rfl,rfl⟩
  refine jlp (λk vs R' D'=>R' = R∧∃(i:Nat) (v1:Value) (A:Chs),i≤r∧SO ((w.drop (n + 2)).take i) v1 A∧D' = A ++ ((b3,C T_Thing (eTh ⟨n,w[n],s,[],[]⟩ v1 (.slice none 0 0))) :: E)∧vs = [wv,I n,.pointer (some ⟨b1,0,none⟩),.pointer (some ⟨b2,0,none⟩),.pointer (some ⟨b3,0,none⟩),I i]∧k = r - i)
   (n:=r) ⟨rfl,0,.slice none 0 0,[],by omega,.inl ⟨by simp,rfl,rfl⟩,by rw[← hE];rfl,rfl,by omega⟩ ?_
  rintro k e R1 D1 K3 ⟨hR,i,v1,A,hi,so,hD,he,hk⟩ hK3
  subst hR
  rw[hD];clear hD
  simp only[List.map,lc,ln,lj,and_true] at he
  simp only[he]
  obtain⟨sa,sn,sc,hsl⟩:=so.sl
  refine jl (v:=I s.refs) rfl (jlt (jif (λhc=>?_) (λhc=>?_)))
  rotate_left
  ·have hc:i = r:=by have:=of_decide_eq_false hc;omega
   subst hc
   refine jfso so λR2 hR2 hint=>?_
   exact hK2 _ _ _ ⟨hR2,v1,hint,rfl,rfl⟩
  have hc:i < r:=by have:=of_decide_eq_true hc;omega
  subst hsl
  refine jl (v:=.slice sa sn sc) rfl (jadd ⟨by omega,by omega⟩ (jadd ⟨by omega,by omega⟩ (jfz1 h (by omega) (by omega) ?_)))
  have e3:w[((n:Int) + 2 + i).toNat]'(by omega) = w[n + 2 + i]:=getElem_congr_idx (by omega)
  rw[e3]
  refine jbs (cs:=[I w[n + 2 + i]]) rfl rfl λb4=>?_
  refine jand (jl (v:=.slice sa sn sc) rfl jev) ?_
  refine jperm List.perm_middle.symm ?_
  have hx:Reads R1 (A ++ ((b4,C 3 [I w[n + 2 + i]]) :: (b3,C T_Thing (eTh ⟨n,w[n],s,[],[]⟩ (.slice sa sn sc) (.slice none 0 0))) :: E)) (some ⟨b4,0,none⟩) (1 * 1) ([w[n + 2 + i]].map I):=Reads.held (t:=T_int) (cs:=[I w[n + 2 + i]]) (o:=0) (n:=1 * 1) (Nat.le_refl 1)
  refine jas so rfl (by rw[List.length_take,List.length_singleton];omega) hx λv' A' so'=>?_
  obtain⟨sa',sn',sc',rfl⟩:=so'.sl
  refine js (cs':=eTh ⟨n,w[n],s,[],[]⟩ (.slice sa' sn' sc') (.slice none 0 0)) rfl rfl (by simp[eTh]) rfl ?_
  refine jadd ⟨by omega,by omega⟩ ?_
  refine jpart A' (G:=(b3,C T_Thing (eTh ⟨n,w[n],s,[],[]⟩ (.slice sa' sn' sc') (.slice none 0 0))) :: E) ?_
  exact hK3 (r - (i + 1)) _ _ _ (by omega) ⟨rfl,i + 1,_,A',by omega,by rw[seg_step (by omega)];exact so',rfl,rfl,rfl⟩
 rintro e R1 D1 ⟨hR,v1,hv1,hD,he⟩
 rw[hD];clear hD
 simp only[List.map,lc,ln,lj,and_true] at he
 simp only[he]
 obtain⟨ta,tc,htv⟩:=hv1.sl
 have h1:=h.le hR
 refine jcutq (λvs R' D'=>R.le R'∧Ints R' v1 ((w.drop (n + 2)).take r)∧∃v2,Ints R' v2 ((w.drop (n + 2 + r)).take m)∧D' = (b3,C T_Thing (eTh ⟨n,w[n],s,[],[]⟩ v1 v2)) :: E∧vs = [.pointer (some ⟨b1,0,none⟩),.pointer (some ⟨b3,0,none⟩)]) (λK hK=>?_) ?_
 ·refine jcutq (λvs R' D'=>R.le R'∧Ints R' v1 ((w.drop (n + 2)).take r)∧∃v2,Ints R' v2 ((w.drop (n + 2 + r)).take m)∧D' = (b3,C T_Thing (eTh ⟨n,w[n],s,[],[]⟩ v1 v2)) :: E∧vs = [.pointer (some ⟨b1,0,none⟩),.pointer (some ⟨b3,0,none⟩)]) (λK2 hK2=>?_) ?_
  rotate_left
  ·rintro e R2 D2 ⟨hR,hv1,v2,hv2,hD,he⟩
   rw[hD];clear hD
   simp only[List.map,lc,ln,lj,and_true] at he
   simp only[he]
   exact hK _ _ _ ⟨hR,hv1,v2,hv2,rfl,rfl⟩
  refine jlp (λk vs R' D'=>R' = R1∧∃(i:Nat) (v2:Value) (A:Chs),i≤m∧SO ((w.drop (n + 2 + r)).take i) v2 A∧D' = A ++ ((b3,C T_Thing (eTh ⟨n,w[n],s,[],[]⟩ v1 v2)) :: E)∧vs = [wv,I n,.pointer (some ⟨b1,0,none⟩),.pointer (some ⟨b2,0,none⟩),.pointer (some ⟨b3,0,none⟩),I i]∧k = m - i)
   (n:=m) ⟨rfl,0,.slice none 0 0,[],by omega,.inl ⟨by simp,rfl,rfl⟩,rfl,rfl,by omega⟩ ?_
  rintro k e R2 D2 K3 ⟨hR2,i,v2,A,hi,so,hD,he,hk⟩ hK3
  subst hR2
  rw[hD];clear hD
  simp only[List.map,lc,ln,lj,and_true] at he
  simp only[he]
  obtain⟨sa,sn,sc,hsl⟩:=so.sl
  refine jl (v:=I s.nums) rfl (jlt (jif (λhc=>?_) (λhc=>?_)))
  rotate_left
  ·have hc:i = m:=by have:=of_decide_eq_false hc;omega
   subst hc
   refine jfso so λR3 hR3 hint=>?_
   exact hK2 _ _ _ ⟨hR.trans hR3,hv1.le hR3,v2,hint,rfl,rfl⟩
  have hc:i < m:=by have:=of_decide_eq_true hc;omega
  subst hsl
  refine jl (v:=.slice sa sn sc) (by rw[htv];rfl) (jadd ⟨by omega,by omega⟩ (jl (v:=I s.refs) rfl (jadd ⟨by omega,by omega⟩ (jadd ⟨by omega,by omega⟩ (jfz1 h1 (by omega) (by omega) ?_)))))
  have e3:w[((n:Int) + 2 + s.refs + i).toNat]'(by omega) = w[n + 2 + r + i]:=getElem_congr_idx (by omega)
  rw[e3]
  refine jbs (cs:=[I w[n + 2 + r + i]]) rfl rfl λb4=>?_
  refine jand (jl (v:=.slice sa sn sc) (by rw[htv];rfl) jev) ?_
  refine jperm List.perm_middle.symm ?_
  have hx:Reads R2 (A ++ ((b4,C 3 [I w[n + 2 + r + i]]) :: (b3,C T_Thing (eTh ⟨n,w[n],s,[],[]⟩ v1 (.slice sa sn sc))) :: E)) (some ⟨b4,0,none⟩) (1 * 1) ([w[n + 2 + r + i]].map I):=Reads.held (t:=T_int) (cs:=[I w[n + 2 + r + i]]) (o:=0) (n:=1 * 1) (Nat.le_refl 1)
  refine jas so rfl (by rw[List.length_take,List.length_singleton];omega) hx λv' A' so'=>?_
  obtain⟨sa',sn',sc',rfl⟩:=so'.sl
  refine js (cs':=eTh ⟨n,w[n],s,[],[]⟩ v1 (.slice sa' sn' sc')) rfl rfl (by simp[eTh]) (by rw[htv];rfl) ?_
  refine jadd ⟨by omega,by omega⟩ ?_
  refine jpart A' (G:=(b3,C T_Thing (eTh ⟨n,w[n],s,[],[]⟩ v1 (.slice sa' sn' sc'))) :: E) ?_
  exact hK3 (m - (i + 1)) _ _ _ (by omega) ⟨rfl,i + 1,_,A',by omega,by rw[seg_step (by omega)];exact so',rfl,rfl,rfl⟩
 rintro e R2 D2 ⟨hR2,hv1,v2,hv2,hD,he⟩
 rw[hD];clear hD
 simp only[List.map,lc,ln,lj,and_true] at he
 simp only[he]
 obtain⟨ua,uc,huv⟩:=hv2.sl
 subst htv huv hE
 refine jla (l:=eTh ⟨n,w[n],s,[],[]⟩ _ _) (by exact Nat.le_refl 6) rfl ?_
 refine js (cs':=eTh ⟨n,w[n],s,[],[]⟩ _ _) rfl rfl (by exact Nat.le_refl 6) rfl ?_
 refine jla (l:=eTh ⟨n,w[n],s,[],[]⟩ _ _) (by exact Nat.le_refl 6) rfl ?_
 refine jret (A:=[]) hR2 ⟨rfl,_,?_,by rw[et0]⟩
 rw[et0]
 exact⟨_,_,rfl,hv1,hv2⟩
end Go.Lf
end
section
namespace Go.Lf
open Go Sm
def SW (t w:Nat) (rows:List (List Value)) (v:Value) (A:Chs):Prop:=
 (rows = []∧v = .slice none 0 0∧A = [])∨∃b c sp,rows.length≤c∧sp.length = (c - rows.length) * w∧v = .slice (some ⟨b,0,none⟩) rows.length c∧A = [(b,C t (rows.flatten ++ sp))]
theorem SW.sl {t w:Nat} {rows:List (List Value)} {v:Value} {A:Chs} (h:SW t w rows v A):∃a c,v = .slice a rows.length c:=by
 rcases h with ⟨rfl,rfl,_⟩ | ⟨b,c,sp,_,_,rfl,_⟩<;>exact⟨_,_,rfl⟩
theorem jaw {R:RM} {A E:Chs} {t w by_:Nat} {rows rows2:List (List Value)} {v:Value} {xa:Option Addr} {m cx:Nat} {zs:List Value} {k:Value→M} (so:SW t w rows v A)
  (hw:∀r∈rows,r.length = w) (hw2:∀r∈rows2,r.length = w) (hz:zs.length = w) (hf:allFlat rows2.flatten = true) (hm:m = rows2.length) (hb:by_≠0) (hl:by_ * (2 * (rows.length + rows2.length) + 200)≤2 ^ 48) (hx:Reads R (A ++ E) xa (m * w) rows2.flatten)
  (H:∀v' A',SW t w (rows ++ rows2) v' A'→J R (A' ++ E) (k v')):J R (A ++ E) (AP t w by_ zs v (.slice xa m cx) k):=by
 subst hm
 have fl:∀n,(List.replicate n zs).flatten.length = n * w:=λn=>by
  rw[flat_len (w:=w) (by intro x hx;rw[(List.mem_replicate.1 hx).2,hz])];simp
 have l1:=flat_len hw
 have l2:=flat_len hw2
 rcases so with ⟨rfl,rfl,rfl⟩ | ⟨b,c,sp,hc,hsp,rfl,rfl⟩
 ·refine jap hx (sl:=0) (old:=[]) (by rw[Nat.zero_mul];exact Reads.none_) hb (by simpa using hl) (λhc h hst=>?_) (λb c hc=>?_)
  ·have h0:rows2 = []:=List.length_eq_zero_iff.1 (by omega)
   subst h0
   have:=H (.slice none 0 0) [] (.inl ⟨rfl,rfl,rfl⟩) h hst
   simpa using this
  ·have:=H (.slice (some ⟨b,0,none⟩) rows2.length c) [(b,C t (rows2.flatten ++ (List.replicate (c - rows2.length) zs).flatten))] (.inr ⟨b,c,(List.replicate (c - rows2.length) zs).flatten,by simpa using hc,by rw[fl];simp,by simp,by simp⟩)
   simpa using this
 ·refine japh hx (E:=E) (tk:=⟨List.Perm.refl _⟩) (by rw[List.length_append,l1,hsp,← Nat.add_mul];congr 1;omega) hc l2 hf hb hl (λh=>?_) (λb' c' h=>?_)
  ·have el:lay (rows.flatten ++ sp) (rows.length * w) rows2.flatten = (rows ++ rows2).flatten ++ sp.drop (rows2.length * w):=by
    rw[lay_app (by omega),l1,Nat.sub_self];simp[lay,l2]
   rw[el]
   have:=H (.slice (some ⟨b,0,none⟩) (rows ++ rows2).length c) [(b,C t ((rows ++ rows2).flatten ++ sp.drop (rows2.length * w)))] (.inr ⟨b,c,_,by simpa using h,by rw[List.length_drop,hsp,← Nat.sub_mul,List.length_append];congr 1;omega,rfl,rfl⟩)
   simpa using this
  ·refine jperm (List.Perm.swap _ _ _) (jdrop ?_)
   have:=H (.slice (some ⟨b',0,none⟩) (rows ++ rows2).length c') [(b',C t ((rows ++ rows2).flatten ++ (List.replicate (c' - (rows.length + rows2.length)) zs).flatten))] (.inr ⟨b',c',_,by simpa using h,by rw[fl,List.length_append],rfl,rfl⟩)
   rw[List.take_append_of_le_length (by omega),List.take_of_length_le (by omega)]
   simpa using this
theorem jfw {R:RM} {A E:Chs} {t w:Nat} {rows:List (List Value)} {v:Value} {m:M} (so:SW t w rows v A) (hw:∀r∈rows,r.length = w) (H:∀R',R.le R'→Fz R' v w rows.length rows.flatten→J R' E m):J R (A ++ E) m:=by
 rcases so with ⟨rfl,rfl,rfl⟩ | ⟨b,c,sp,hc,hsp,rfl,rfl⟩
 ·exact H R (RM.le.refl _) (.inl ⟨rfl,rfl,rfl⟩)
 ·refine jfreeze (b:=b) (E:=E) (t:=⟨List.Perm.refl _⟩) λR2 hR2 hb=>?_
  exact H R2 hR2 (.inr ⟨b,0,c,t,_,rfl,hb,by rw[List.length_append,flat_len hw];omega,by rw[List.drop_zero,← flat_len hw];simp,hc⟩)
def Rw {α:Type} (p:List Value→α→Prop) (rows:List (List Value)) (l:List α):Prop:=rows.length = l.length∧∀i (h:i < rows.length) (h' : i < l.length),p rows[i] l[i]
theorem Rw.nil {α:Type} {p:List Value→α→Prop}:Rw p [] []:=⟨rfl,λi h=>absurd h (by simp)⟩
theorem Rw.app {α:Type} {p:List Value→α→Prop} {r1 r2:List (List Value)} {l1 l2:List α} (h1:Rw p r1 l1) (h2:Rw p r2 l2):Rw p (r1 ++ r2) (l1 ++ l2):=by
 refine⟨by rw[List.length_append,List.length_append,h1.1,h2.1],λi h h'=>?_⟩
 by_cases c:i < r1.length
 ·rw[List.getElem_append_left c,List.getElem_append_left (by rw[← h1.1];exact c)]
  exact h1.2 i c _
 ·rw[List.getElem_append_right (by omega),List.getElem_append_right (by rw[← h1.1];omega)]
  have e:i - l1.length = i - r1.length:=by rw[h1.1]
  rw[getElem_congr_idx e]
  rw[List.length_append] at h h'
  have:=h1.1
  exact h2.2 _ (by omega) (by omega)
theorem Rw.one {α:Type} {p:List Value→α→Prop} {r:List Value} {x:α} (h:p r x):Rw p [r] [x]:=by
 refine⟨rfl,λi h1 h2=>?_⟩
 have:i = 0:=by simp at h1;omega
 subst this;exact h
theorem Rw.mono {α:Type} {p q:List Value→α→Prop} {r:List (List Value)} {l:List α} (h:Rw p r l) (H:∀x y,p x y→q x y):Rw q r l:=⟨h.1,λi h1 h2=>H _ _ (h.2 i h1 h2)⟩
theorem Rw.all {α:Type} {p:List Value→α→Prop} {r:List (List Value)} {l:List α} (h:Rw p r l) {q:List Value→Prop} (H:∀x y,p x y→q x):∀x∈r,q x:=by
 intro x hx
 obtain⟨i,hi,rfl⟩:=List.getElem_of_mem hx
 exact H _ _ (h.2 i hi (by rw[← h.1];exact hi))
theorem flat_row {w:Nat}:∀{rows:List (List Value)} {i:Nat} (_:∀r∈rows,r.length = w) (h:i < rows.length),(rows.flatten.drop (i * w)).take w = rows[i]
 | [],i,_,h=>absurd h (by simp)
 | a :: r,0,hw,_=>by
  have:a.length = w:=hw a (by simp)
  rw[Nat.zero_mul,List.drop_zero,List.flatten_cons,List.take_append_of_le_length (by omega),List.take_of_length_le (by omega)];rfl
 | a :: r,i + 1,hw,h=>by
  have h1:a.length = w:=hw a (by simp)
  rw[List.flatten_cons,Nat.succ_mul,List.drop_append,List.drop_of_length_le (by omega),ln,h1,Nat.add_sub_cancel]
  exact flat_row (λr hr=>hw r (by simp[hr])) (by simpa using h)
theorem fz_row {R:RM} {v:Value} {w:Nat} {rows:List (List Value)} {i:Nat} (h:Fz R v w rows.length rows.flatten) (hw:∀r∈rows,r.length = w) (hi:i < rows.length) :
  ∃b o cap t cs,v = .slice (some ⟨b,o,none⟩) rows.length cap∧R b = some (C t cs)∧o + i * w + w≤cs.length∧(cs.drop (o + i * w)).take w = rows[i]:=by
 rcases h with ⟨_,h2,_⟩ | ⟨b,o,cap,t,cs,rfl,h2,h3,h4,h5⟩
 ·omega
 ·refine⟨b,o,cap,t,cs,rfl,h2,?_,?_⟩
  ·have:(i + 1) * w≤rows.length * w:=Nat.mul_le_mul_right w (by omega)
   rw[Nat.succ_mul] at this
   omega
  ·rw[← flat_row hw hi,← h4,List.drop_take,List.drop_drop,List.take_take]
   congr 1
   have:(i + 1) * w≤rows.length * w:=Nat.mul_le_mul_right w (by omega)
   rw[Nat.succ_mul] at this
   omega
def ThC (R:RM) (row:List Value) (t:Thing):Prop:=∃rv nv,row = eTh t rv nv∧Ints R rv t.refs∧Ints R nv t.nums
theorem ThC.le {R R' : RM} {row:List Value} {t:Thing} (h:R.le R') (H:ThC R row t):ThC R' row t:=by
 obtain⟨rv,nv,h1,h2,h3⟩:=H
 exact⟨rv,nv,h1,h2.le h,h3.le h⟩
theorem ThC.len {R:RM} {row:List Value} {t:Thing} (H:ThC R row t):row.length = 6:=by
 obtain⟨rv,nv,rfl,h2,h3⟩:=H;rfl
theorem ThC.flat {R:RM} {row:List Value} {t:Thing} (H:ThC R row t):allFlat row = true:=by
 obtain⟨rv,nv,rfl,h2,h3⟩:=H
 obtain⟨_,_,rfl⟩:=h2.sl
 obtain⟨_,_,rfl⟩:=h3.sl
 rfl
def Tgs (R:RM) (v:Value) (l:List Thing):Prop:=∃rows,Rw (ThC R) rows l∧Fz R v 6 rows.length rows.flatten
theorem Tgs.le {R R' : RM} {v:Value} {l:List Thing} (h:R.le R') (H:Tgs R v l):Tgs R' v l:=by
 obtain⟨rows,h1,h2⟩:=H
 exact⟨rows,h1.mono λ_ _=>ThC.le h,h2.le h⟩
theorem Tgs.sl {R:RM} {v:Value} {l:List Thing} (H:Tgs R v l):∃a c,v = .slice a l.length c:=by
 obtain⟨rows,h1,h2⟩:=H
 obtain⟨a,cap,e,-⟩:=Fz.reads (D:=[]) h2
 exact⟨a,cap,by rw[e,h1.1]⟩
theorem jln_ {R:RM} {D:Chs} {v:Value} {n:Nat} {k:Value→M} (h:∃a c,v = .slice a n c) (H:J R D (k (I n))):J R D (LN v k):=by
 obtain⟨a,c,rfl⟩:=h
 exact H
theorem jtg {R:RM} {D:Chs} {v:Value} {l:List Thing} {i:Nat} {k:Value→M} (h:Tgs R v l) (hi:i < l.length)
  (H:∀b o t cs rv nv,Ints R rv (l[i]).refs→Ints R nv (l[i]).nums→R b = some (C t cs)→o + 6≤cs.length→(cs.drop o).take 6 = eTh l[i] rv nv→J R D (k (.pointer (some ⟨b,o,none⟩)))):J R D (IA 6 v (I (i:Int)) k):=by
 obtain⟨rows,h1,h2⟩:=h
 have hi' : i < rows.length:=by rw[h1.1];exact hi
 obtain⟨b,o,cap,t,cs,rfl,hb,hl,hc⟩:=fz_row h2 (h1.all λ_ _=>ThC.len) hi'
 obtain⟨rv,nv,e,r1,r2⟩:=h1.2 i hi' hi
 refine jia (by omega) (by omega) ?_
 rw[Int.toNat_natCast]
 exact H b (o + i * 6) t cs rv nv r1 r2 hb hl (by rw[hc,e])
theorem cell_of {cs row:List Value} {o w f:Nat} {x:Value} (h:(cs.drop o).take w = row) (hf:row[f]? = some x):cs[o + f]? = some x:=by
 rw[← h,List.getElem?_take,List.getElem?_drop] at hf
 split at hf
 ·exact hf
 ·cases hf
end Go.Lf
end
