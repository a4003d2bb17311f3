/- The given row of this law is proved: whatever code comes in, it returns true and leaves the code as it was. Conditions: none. -/
import Derived.MapKept
import Derived.ChangeMaps4
import Derived.Test.YteefnapldidgcaaGreatRows
import Derived.ProofKit
import Derived.ChangeOld
import Derived.Test.YteefnapldidgcaaGreatTN
set_option linter.unusedVariables false
set_option linter.unusedSimpArgs false
section
namespace Go.Lf
open Go Sm
section draws
variable {R:RM} {rb:Nat} {v:Value} {m:Int}
def DTb (R:RM) (rb:Nat) (v:Value) (m c:Int) (x:Value) (R' : RM) (A:Chs):Prop:=
 ∃(t:List Rg) (tb tc:Nat) (tsp:List Value) (m' : Int),1≤t.length∧t.length≤12∧t.length≤tc∧m≤m'∧m'≤m + c∧x = .slice (some ⟨tb,0,none⟩) t.length tc∧A = [(rb,rdO v m'),(tb,C T_Region (rowsE eRg t ++ tsp))]
theorem d_l20Table (hb:Byt R v) (hm:0≤m∧m < 100000000):Fn P F_s_l20Table [.pointer (some ⟨rb,0,none⟩)] R [(rb,rdO v m)] (DTb R rb v m 2100000):=by
 refine s_s_l20Table λF=>?_
 unfold c_s_l20Table
 refine jc (A:=[(rb,rdO v m)]) (d_l20State hb hm) ?_
 rintro _ R1 _ hR1 ⟨s,wv,mv,thv,ov,pv,tb,tc,tsp,m1,sb,hw,hmv,hth,hov,hpv,htc,h1,h2,rfl,rfl⟩
 have t0:=sb.t0
 have t1:=sb.t1
 have hb1:=hb.le hR1
 show J R1 ([(rb,rdO v m1),(tb,C T_Region (rowsE eRg s.table ++ tsp))] ++ F) (CUT _ _ _)
 obtain⟨nt,hnt⟩:∃nt,s.table.length = nt:=⟨_,rfl⟩
 rw[hnt]
 have htp:∀x∈s.table,-900≤x.top∧x.top≤900:=λx hx=>by have:=sb.tp x hx;omega
 have n0:2≤nt:=by omega
 have n1:nt≤12:=by omega
 have n2:nt≤tc:=by omega
 generalize s.table = t at hnt htp ⊢
 refine jcutq (λvs R' D'=>R' = R1∧∃(t:List Rg) (m2:Int),t.length = nt∧(∀x∈t,-900≤x.top∧x.top≤900)∧m≤m2∧m2≤m + 2050000∧D' = (rb,rdO v m2) :: (tb,C T_Region (rowsE eRg t ++ tsp)) :: F∧vs = [.pointer (some ⟨rb,0,none⟩),.slice (some ⟨tb,0,none⟩) nt tc]) (λK hK=>?_) ?_
 ·refine jcutq (λvs R' D'=>R' = R1∧∃(t:List Rg) (m2:Int),t.length = nt∧(∀x∈t,-900≤x.top∧x.top≤900)∧m≤m2∧m2≤m + 2050000∧D' = (rb,rdO v m2) :: (tb,C T_Region (rowsE eRg t ++ tsp)) :: F∧vs = [.pointer (some ⟨rb,0,none⟩),.slice (some ⟨tb,0,none⟩) nt tc]) (λK2 hK2=>?_) ?_
  rotate_left
  ·rintro e R2 D2 ⟨hR2,t,m2,q1,q2,q3,q4,hD,he⟩
   simp only[List.map,lc,ln,lj,and_true] at he
   simp only[he]
   exact hK _ _ _ ⟨hR2,t,m2,q1,q2,q3,q4,hD,rfl⟩
  refine jlp (λmm vs R' D'=>R' = R1∧∃(i:Nat) (t:List Rg) (m2:Int),1≤i∧i≤12∧t.length = nt∧(∀x∈t,-900≤x.top∧x.top≤900)∧m≤m2∧m2≤m1 + 2 * i∧D' = (rb,rdO v m2) :: (tb,C T_Region (rowsE eRg t ++ tsp)) :: F∧vs = [.pointer (some ⟨rb,0,none⟩),.slice (some ⟨tb,0,none⟩) nt tc,I i]∧mm = 12 - i)
   (n:=11) ⟨rfl,1,t,m1,by omega,by omega,hnt,htp,by omega,by omega,rfl,rfl,rfl⟩ ?_
  clear hnt htp
  rintro mm e R2 D2 K3 ⟨hR2,i,t,m2,i1,i2,hnt,htp,q3,q4,hD,he,hmm⟩ hK3
  subst hR2
  rw[hD];clear hD
  simp only[List.map,lc,ln,lj,and_true] at he
  simp only[he]
  refine jln (jlt (jif (λh=>?_) (λh=>?_)))
  rotate_left
  ·exact hK2 _ _ _ ⟨rfl,t,m2,hnt,htp,q3,by omega,rfl,rfl⟩
  have h:=of_decide_eq_true h
  have hil:i < t.length:=by omega
  refine jcutq (λvs R' D'=>R' = R2∧∃(t:List Rg) (m3:Int),t.length = nt∧(∀x∈t,-900≤x.top∧x.top≤900)∧m2≤m3∧m3≤m2 + 2∧D' = (rb,rdO v m3) :: (tb,C T_Region (rowsE eRg t ++ tsp)) :: F∧vs = [.pointer (some ⟨rb,0,none⟩),.slice (some ⟨tb,0,none⟩) nt tc,I i]) (λK4 hK4=>?_) ?_
  rotate_left
  ·rintro e R3 D3 ⟨hR3,t,m3,q5,q6,q7,q8,hD,he⟩
   subst hR3
   rw[hD];clear hD
   simp only[List.map,lc,ln,lj,and_true] at he
   simp only[he]
   refine jadd ⟨by omega,by omega⟩ ?_
   exact hK3 (12 - (i + 1)) _ _ _ (by omega) ⟨rfl,i + 1,t,m3,by omega,by omega,q5,q6,by omega,by omega,rfl,rfl,rfl⟩
  refine jcutq (λvs R' D'=>R' = R2∧∃(t:List Rg) (m3:Int),t.length = nt∧(∀x∈t,-900≤x.top∧x.top≤900)∧m2≤m3∧m3≤m2 + 2∧D' = (rb,rdO v m3) :: (tb,C T_Region (rowsE eRg t ++ tsp)) :: F∧vs = [.pointer (some ⟨rb,0,none⟩),.slice (some ⟨tb,0,none⟩) nt tc,I i]) (λK5 hK5=>?_) ?_
  rotate_left
  ·rintro e R3 D3 ⟨hR3,t,m3,q5,q6,q7,q8,hD,he⟩
   simp only[List.map,lc,ln,lj,and_true] at he
   simp only[he]
   exact hK4 _ _ _ ⟨hR3,t,m3,q5,q6,q7,q8,hD,rfl⟩
  refine jcutq (λvs R' D'=>R' = R2∧∃c u w,And2 c u w∧D' = (rb,rdO v (m2 + 1)) :: (tb,C T_Region (rowsE eRg t ++ tsp)) :: F∧vs = [.pointer (some ⟨rb,0,none⟩),.slice (some ⟨tb,0,none⟩) nt tc,I i,c,u]) (λK6 hK6=>?_) ?_
  ·refine jpk hb1 ⟨by omega,by omega⟩ λy _ _=>jeq (jgtt (λq=>jian (by omega) (jfo (jl (v:=I (t[i]).kind) (by rw[Nat.zero_add];exact row_cell (f:=0) hil rfl) (jeq ?_)))) (λq=>?_))
   ·exact hK6 _ _ _ ⟨rfl,_,_,_,q▸and2_t,rfl,rfl⟩
   ·exact hK6 _ _ _ ⟨rfl,_,_,_,q▸and2_f,rfl,rfl⟩
  rintro e R3 D3 ⟨hR3,c,u,w,ho,hD,he⟩
  subst hR3
  rw[hD];clear hD
  simp only[List.map,lc,ln,lj,and_true] at he
  simp only[he]
  rw[ho]
  refine jif (λhw=>?_) (λhw=>?_)
  ·obtain⟨p0,p1⟩:=htp _ (List.getElem_mem hil)
   have hbase:regionBase (i:Int) = 16 * i:=by unfold regionBase;split<;>omega
   refine jian (by omega) (jlrow hil (ja λb52=>js (cs':=eRg t[i]) rfl rfl (by exact Nat.le_refl 5) rfl ?_))
   refine jl (v:=I (t[i]).top) rfl (js (cs':=eRg { t[i] with tams:=(t[i]).top }) rfl rfl (by simp) rfl ?_)
   refine jl (v:=I (t[i]).top) rfl (jp (p_RegionBase i) ?_)
   rw[hbase]
   refine jsub ⟨by omega,by omega⟩ (jadd ⟨by omega,by omega⟩ (jand (jl (v:=I (t[i]).top) rfl jev) (jpk hb1 ⟨by omega,by omega⟩ λz _ _=>?_)))
   refine js (cs':=eRg { t[i] with tams:=(t[i]).top,live:=z }) rfl rfl (by simp) rfl ?_
   refine jla (l:=eRg { t[i] with tams:=(t[i]).top,live:=z }) (by exact Nat.le_refl 5) rfl (jian (by omega) ?_)
   refine jsrow (x:={ t[i] with tams:=(t[i]).top,live:=z }) hil (jk2 (F:=F) rb tb ?_)
   refine hK5 _ _ _ ⟨rfl,t.set i { t[i] with tams:=(t[i]).top,live:=z },_,by simpa using hnt,λx hx=>?_,by omega,by omega,rfl,rfl⟩
   rcases List.mem_or_eq_of_mem_set hx with hx | hx
   ·exact htp x hx
   ·subst hx;exact⟨p0,p1⟩
  ·exact hK5 _ _ _ ⟨rfl,t,_,hnt,htp,by omega,by omega,rfl,rfl⟩
 clear hnt htp
 rintro e R2 D2 ⟨hR2,t,m2,hnt,htp,q3,q4,hD,he⟩
 subst hR2
 rw[hD];clear hD
 simp only[List.map,lc,ln,lj,and_true] at he
 simp only[he]
 have fin:∀(t' : List Rg) (sp' : List Value) (m3:Int),1≤t'.length→t'.length≤nt→m2≤m3→m3≤m2 + 5→J R2 ((rb,rdO v m3) :: (tb,C T_Region (rowsE eRg t' ++ sp')) :: F) (POST R F (DTb R rb v m 2100000) (.slice (some ⟨tb,0,none⟩) t'.length tc)):=λt' sp' m3 a1 a2 a3 a4=>
  jret (A:=[(rb,rdO v m3),(tb,C T_Region (rowsE eRg t' ++ sp'))]) hR1 ⟨t',tb,tc,sp',m3,a1,by omega,by omega,by omega,by omega,rfl,rfl⟩
 refine jcutq (λvs R' D'=>R' = R2∧∃(t' : List Rg) (sp' : List Value) (m3:Int),1≤t'.length∧t'.length≤nt∧m2≤m3∧m3≤m2 + 5∧D' = (rb,rdO v m3) :: (tb,C T_Region (rowsE eRg t' ++ sp')) :: F∧vs = [.slice (some ⟨tb,0,none⟩) t'.length tc]) (λK hK=>?_) ?_
 rotate_left
 ·rintro e R3 D3 ⟨hR3,t',sp',m3,a1,a2,a3,a4,hD,he⟩
  subst hR3
  rw[hD];clear hD
  simp only[List.map,lc,ln,lj,and_true] at he
  simp only[he]
  exact fin t' sp' m3 a1 a2 a3 a4
 refine jpk hb1 ⟨by omega,by omega⟩ λy _ _=>?_
 refine jcutq (λvs R' D'=>R' = R2∧∃(t' : List Rg) (sp' : List Value) (m3:Int),1≤t'.length∧t'.length≤nt∧m2≤m3∧m3≤m2 + 5∧D' = (rb,rdO v m3) :: (tb,C T_Region (rowsE eRg t' ++ sp')) :: F∧vs = [.slice (some ⟨tb,0,none⟩) t'.length tc]) (λK2 hK2=>?_) ?_
 rotate_left
 ·rintro e R3 D3 ⟨hR3,t',sp',m3,a1,a2,a3,a4,hD,he⟩
  simp only[List.map,lc,ln,lj,and_true] at he
  simp only[he]
  exact hK _ _ _ ⟨hR3,t',sp',m3,a1,a2,a3,a4,hD,rfl⟩
 have row:∀(k:Nat) (x:Rg) (m3:Int),k < t.length→m2≤m3→m3≤m2 + 5→J R2 ((rb,rdO v m3) :: (tb,C T_Region (rowsE eRg (t.set k x) ++ tsp)) :: F) (K2 [.slice (some ⟨tb,0,none⟩) nt tc]):=λk x m3 _ a3 a4=>
  hK2 _ _ _ ⟨rfl,t.set k x,tsp,m3,by rw[List.length_set];omega,by rw[List.length_set];omega,a3,a4,rfl,by rw[List.length_set,hnt]⟩
 have h0:0 < t.length:=by omega
 have h1' : 1 < t.length:=by omega
 refine jeq (jif (λ_=>?_) (λ_=>jeq (jif (λ_=>?_) (λ_=>jeq (jif (λ_=>?_) (λ_=>jeq (jif (λ_=>?_) (λ_=>?_))))))))
 ·intro h hs
  refine⟨⟨by decide,by omega⟩,?_⟩
  have e1:rowsE eRg t = rowsE eRg (t.take 1) ++ rowsE eRg (t.drop 1):=by
   unfold rowsE
   rw[← List.flatten_append,← List.map_append,List.take_append_drop]
  rw[e1,List.append_assoc] at hs
  have hl1:(t.take 1).length = 1:=by rw[List.length_take];omega
  exact hK2 _ _ _ ⟨rfl,t.take 1,_,m2 + 1,by omega,by omega,by omega,by omega,rfl,by rw[hl1];rfl⟩ h hs
 ·refine jian (r:=1) (by omega) (jlrow h1' (ja λb52=>js (cs':=eRg t[1]) rfl rfl (by exact Nat.le_refl 5) rfl ?_))
  refine jpk hb1 ⟨by omega,by omega⟩ λz _ _=>jsub ⟨by omega,by omega⟩ (js (cs':=eRg { t[1] with owner:=z - 2 }) rfl rfl (by simp) rfl ?_)
  refine jla (l:=eRg { t[1] with owner:=z - 2 }) (by exact Nat.le_refl 5) rfl (jian (r:=1) (by omega) ?_)
  refine jsrow (x:={ t[1] with owner:=z - 2 }) h1' (jk2 (F:=F) rb tb ?_)
  exact row 1 _ _ h1' (by omega) (by omega)
 ·obtain⟨p0,p1⟩:=htp _ (List.getElem_mem h1')
  refine jian (r:=1) (by omega) (jlrow h1' (ja λb52=>js (cs':=eRg t[1]) rfl rfl (by exact Nat.le_refl 5) rfl ?_))
  refine jl (v:=I (t[1]).top) rfl (jadd ⟨by omega,by omega⟩ (js (cs':=eRg { t[1] with tams:=(t[1]).top + 1 }) rfl rfl (by simp) rfl ?_))
  refine jla (l:=eRg { t[1] with tams:=(t[1]).top + 1 }) (by exact Nat.le_refl 5) rfl (jian (r:=1) (by omega) ?_)
  refine jsrow (x:={ t[1] with tams:=(t[1]).top + 1 }) h1' (jk2 (F:=F) rb tb ?_)
  exact row 1 _ _ h1' (by omega) (by omega)
 ·refine jian (r:=0) (by omega) (jlrow h0 (ja λb52=>js (cs':=eRg t[0]) rfl rfl (by exact Nat.le_refl 5) rfl ?_))
  refine js (cs':=eRg { t[0] with kind:=1 }) rfl rfl (by simp) rfl ?_
  refine jla (l:=eRg { t[0] with kind:=1 }) (by exact Nat.le_refl 5) rfl (jian (r:=0) (by omega) ?_)
  refine jsrow (x:={ t[0] with kind:=1 }) h0 (jk2 (F:=F) rb tb ?_)
  exact row 0 _ _ h0 (by omega) (by omega)
 ·exact hK2 _ _ _ ⟨rfl,t,tsp,_,by omega,by omega,by omega,by omega,rfl,by rw[hnt]⟩
end draws
end Go.Lf
end
section
namespace Go.Lf
open Go Sm
section rules
variable {R:RM} {D:Chs} {k:Value→M}
end rules
theorem p_i_RegionBase (r:Int):Pu F_i_RegionBase [I r] (I (regionBase r)):=λR=>s_i_RegionBase λF=>q_RegionBase r R F
end Go.Lf
end
section
namespace Go.Lf
open Go Sm
end Go.Lf
end
section
namespace Go.Lf
open Go Sm
def Cod (R:RM) (v:Value):Prop:=∃n,Bsl R v n
theorem d_DrawTableTake {R:RM} {v:Value} (hc:Cod R v):Fn P F_s_DrawTableTake [v] R [] (λx R' A=>∃(t:List Rg) (tb tc:Nat) (tsp:List Value) (o:Int),x = .tuple #[.slice (some ⟨tb,0,none⟩) t.length tc,I o]∧1≤t.length∧t.length≤12∧t.length≤tc∧-1≤o∧o≤4∧A = [(tb,C T_Region (rowsE eRg t ++ tsp))]):=by
 refine s_s_DrawTableTake λF=>?_
 unfold c_s_DrawTableTake
 obtain⟨n,hf⟩:=hc
 refine jc (A:=[]) (d_l1Open hf) ?_
 rintro _ R1 _ _ ⟨hR,rb,v',rfl,rfl,hb⟩
 subst hR
 refine jc (A:=[(rb,rdO v' 0)]) (d_l20Table hb (by decide)) ?_
 rintro _ R2 _ hR2 ⟨t,tb,tc,tsp,m2,h1,h2,h3,h4,h5,rfl,rfl⟩
 refine jpk (hb.le hR2) ⟨by omega,by omega⟩ λy _ _=>jsub ⟨by omega,by omega⟩ ?_
 exact jret (A:=[(tb,C T_Region (rowsE eRg t ++ tsp))]) hR2 ⟨t,tb,tc,tsp,_,rfl,h1,h2,h3,by omega,by omega,rfl⟩
theorem d_DrawTableRoom {R:RM} {v:Value} (hc:Cod R v):Fn P F_s_DrawTableRoom [v] R [] (λx R' A=>∃(t:List Rg) (tb tc:Nat) (tsp:List Value) (o z:Int),x = .tuple #[.slice (some ⟨tb,0,none⟩) t.length tc,I o,I z]∧1≤t.length∧t.length≤12∧t.length≤tc∧-1≤o∧o≤4∧-1≤z∧z≤17∧A = [(tb,C T_Region (rowsE eRg t ++ tsp))]):=by
 refine s_s_DrawTableRoom λF=>?_
 unfold c_s_DrawTableRoom
 obtain⟨n,hf⟩:=hc
 refine jc (A:=[]) (d_l1Open hf) ?_
 rintro _ R1 _ _ ⟨hR,rb,v',rfl,rfl,hb⟩
 subst hR
 refine jc (A:=[(rb,rdO v' 0)]) (d_l20Table hb (by decide)) ?_
 rintro _ R2 _ hR2 ⟨t,tb,tc,tsp,m2,h1,h2,h3,h4,h5,rfl,rfl⟩
 refine jpk (hb.le hR2) ⟨by omega,by omega⟩ λy _ _=>jsub ⟨by omega,by omega⟩ (jpk (hb.le hR2) ⟨by omega,by omega⟩ λz _ _=>jsub ⟨by omega,by omega⟩ ?_)
 exact jret (A:=[(tb,C T_Region (rowsE eRg t ++ tsp))]) hR2 ⟨t,tb,tc,tsp,_,_,rfl,h1,h2,h3,by omega,by omega,by omega,by omega,rfl⟩
end Go.Lf
end
section
namespace Go.Lf
open Go Sm
end Go.Lf
end
section
namespace Go.Lf
open Go Sm
end Go.Lf
end
section
namespace Go.Lf
open Go Sm
theorem x_map:P.underlying 86 = some (.map 3 4):=by kernel_rfl
theorem x_int:P.underlying 3 = some (.int .i64):=by kernel_rfl
theorem x_zb (w:World):(zeroValue 4).run P w = .ok (.bool false) w:=by kernel_rfl
def MpI (o:Obj) (q:Int→Prop):Prop:=∃es clock,o = .map es clock∧(∀e∈es.toList,∃x,e.key = I x∧q x∧e.val = .bool true)∧∀x,q x→∃e∈es.toList,e.key = I x
section rules
variable {R:RM} {D:Chs} {k:Value→M}
theorem jXr {s:Sem Value} (H:∀h,St h R D→∀w:World,w.heap = h→∃v w',s.run P w = .ok v w'∧Same w w'∧∃D',St w'.heap R D'∧J R D' (k v)):J R D (X P s k):=by
 intro h hs w hw
 have:=H h hs w hw
 generalize s.run P w = r at this
 obtain⟨v,w',rfl,h1,D',h2,h3⟩:=this
 exact⟨h1,h3 _ h2⟩
theorem jmap (H:∀b o,MpI o (λ_=>False)→J R ((b,o) :: D) (k (.map (some b)))):J R D (X P (Instr.makeMap 86 none) k):=by
 intro h hs w hw
 rw[show (Instr.makeMap 86 none).run P w = .ok (.map (some w.heap.size)) (w.alloc (.map #[] 0)) from rfl]
 subst hw
 exact⟨⟨rfl,rfl⟩,H _ _ ⟨#[],0,rfl,by simp,λ_ hx=>hx.elim⟩ _ hs.push⟩
theorem keys_is {es:Array MapEntry} {q:Int→Prop} (h:∀e∈es.toList,∃x,e.key = I x∧q x∧e.val = .bool true):∀e∈es.toList,MapKept.IsKey (.int .i64) e.key:=λe he=>by
 obtain⟨x,hx,_⟩:=h e he
 rw[hx];rfl
theorem lk_run {w:World} {b:Nat} {o:Obj} {q:Int→Prop} {x:Int} {t:Bool} (hb:w.heap[b]? = some o) (hm:MpI o q) (ht:q x↔t = true):(Instr.lookup 86 (.map (some b)) (I x) false).run P w = .ok (.bool t) w:=by
 obtain⟨es,clock,rfl,h1,h2⟩:=hm
 have hk:MapKept.IsKey (.int .i64) (I x):=rfl
 have run:∃c,(Instr.lookup 86 (.map (some b)) (I x) false).run P w = .ok (.bool c) w∧(c = true↔q x):=by
  rcases MapKept.findNow_spec hk es.toList 0 (keys_is h1) with ⟨f1,f2⟩ | ⟨j,e0,f1,f2,f3⟩
  ·refine⟨false,?_,⟨(λh=>by cases h),λhq=>?_⟩⟩
   ·simp[Instr.lookup,run_underlying x_map,MapKept.run_getObj_map hb,MapKept.run_checkKey x_int hk,MapKept.run_findKey x_int f1,x_zb,Result.andThen]
   ·obtain⟨e,he,hx⟩:=h2 x hq
    exact absurd hx (f2 e he)
  ·obtain⟨y,hy,hq,hv⟩:=h1 e0 (List.mem_of_getElem? f2)
   have:y = x:=by
    have:=hy.symm.trans f3
    exact (Value.int.inj this).2
   subst this
   refine⟨true,?_,⟨λ_=>hq,λ_=>rfl⟩⟩
   simp[Instr.lookup,run_underlying x_map,MapKept.run_getObj_map hb,MapKept.run_checkKey x_int hk,MapKept.run_findKey x_int f1,hv,Result.andThen]
 obtain⟨c,hr,hc⟩:=run
 have:c = t:=by
  have:=hc.trans ht
  cases c<;>cases t<;>simp_all
 subst this
 exact hr
theorem jlk {b:Nat} {o:Obj} {q:Int→Prop} {x:Int} {t:Bool} [a:At D b o] (hm:MpI o q) (ht:q x↔t = true) (H:J R D (k (.bool t))):J R D (X P (Instr.lookup 86 (.map (some b)) (I x) false) k):=
 @jXr R D k _ λh hs w hw=>⟨_,_,lk_run (by rw[hw];exact (hs.at_ b _ a.m).1) hm ht,Same.refl _,D,by rw[hw];exact hs,H⟩
theorem mu_run {w:World} {b:Nat} {o:Obj} {q:Int→Prop} {x:Int} (hb:w.heap[b]? = some o) (hm:MpI o q):∃o',MpI o' (λy=>q y∨y = x)∧(do Instr.mapUpdate 86 (.map (some b)) (I x) (.bool true);pure undef).run P w = .ok U (ChangeMaps.setBlock w b o')∧(∀b',b'≠b→(ChangeMaps.setBlock w b o').heap[b']? = w.heap[b']?)∧(ChangeMaps.setBlock w b o').heap[b]? = some o':=by
 obtain⟨es,clock,rfl,h1,h2⟩:=hm
 have hk:MapKept.IsKey (.int .i64) (I x):=rfl
 have run:∃es' clock',(Instr.mapUpdate 86 (.map (some b)) (I x) (.bool true)).run P w = .ok () (ChangeMaps.setBlock w b (.map es' clock'))∧MpI (.map es' clock') (λy=>q y∨y = x):=by
  rcases MapKept.findNow_spec hk es.toList 0 (keys_is h1) with ⟨f1,f2⟩ | ⟨j,e0,f1,f2,f3⟩
  ·refine⟨es.push ⟨I x,.bool true,clock⟩,clock + 1,?_,_,_,rfl,?_,?_⟩
   ·simp[Instr.mapUpdate,run_underlying x_map,MapKept.run_getObj_map hb,MapKept.run_checkKey x_int hk,MapKept.run_findKey x_int f1,MapKept.run_setObj_map _ hb,Result.andThen,ChangeMaps.setBlock]
   ·intro e he
    simp only[Array.toList_push,List.mem_append,List.mem_singleton] at he
    rcases he with he | rfl
    ·obtain⟨y,a1,a2,a3⟩:=h1 e he
     exact⟨y,a1,.inl a2,a3⟩
    ·exact⟨x,rfl,.inr rfl,rfl⟩
   ·rintro y (hy | rfl)
    ·obtain⟨e,he,a1⟩:=h2 y hy
     exact⟨e,by simp only[Array.toList_push,List.mem_append];exact .inl he,a1⟩
    ·exact⟨⟨I y,.bool true,clock⟩,by simp,rfl⟩
  ·have hj:es[j]? = some e0:=by rw[← Array.getElem?_toList];exact f2
   have hlt:j < es.size:=(Array.getElem?_eq_some_iff.1 hj).1
   obtain⟨x0,hx0,hq0,hv0⟩:=h1 e0 (List.mem_of_getElem? f2)
   have hx:x0 = x:=(Value.int.inj (hx0.symm.trans f3)).2
   subst hx
   refine⟨es.modify j (λe=>{ e with key:=I x0,val:=.bool true }),clock,?_,_,_,rfl,?_,?_⟩
   ·simp[Instr.mapUpdate,run_underlying x_map,MapKept.run_getObj_map hb,MapKept.run_checkKey x_int hk,MapKept.run_findKey x_int f1,hj,f3,MapKept.run_keyThatStays hk,MapKept.run_setObj_map _ hb,Result.andThen,ChangeMaps.setBlock]
   ·intro e he
    obtain⟨i,hi⟩:=List.mem_iff_getElem?.1 he
    rw[Array.getElem?_toList,Array.getElem?_modify] at hi
    split at hi
    ·rename_i hij;subst hij
     rw[hj] at hi
     cases hi
     exact⟨x0,rfl,.inr rfl,rfl⟩
    ·obtain⟨y,a1,a2,a3⟩:=h1 e (by rw[← Array.getElem?_toList] at hi;exact List.mem_of_getElem? hi)
     exact⟨y,a1,.inl a2,a3⟩
   ·intro y hy
    have hy:q y:=by rcases hy with hy | rfl;exact hy;exact hq0
    obtain⟨e,he,a1⟩:=h2 y hy
    obtain⟨i,hi⟩:=List.mem_iff_getElem?.1 he
    rw[Array.getElem?_toList] at hi
    by_cases hij:j = i
    ·subst hij
     rw[hj] at hi;cases hi
     exact⟨{ e0 with key:=I x0,val:=.bool true },List.mem_of_getElem? (i:=j) (by rw[Array.getElem?_toList,Array.getElem?_modify,if_pos rfl,hj];rfl),by show I x0 = I y;rw[← hx0];exact a1⟩
    ·exact⟨e,List.mem_of_getElem? (i:=i) (by rw[Array.getElem?_toList,Array.getElem?_modify,if_neg hij];exact hi),a1⟩
 obtain⟨es',clock',hr,hq⟩:=run
 have hst:=MapKept.heap_set (o':=.map es' clock') hb
 exact⟨_,hq,by rw[Sem.run_bind,hr];rfl,hst.2,hst.1⟩
theorem jmu {b:Nat} {o:Obj} {E:Chs} {q:Int→Prop} {x:Int} [t:Tk D b o E] (hm:MpI o q) (H:∀o',MpI o' (λy=>q y∨y = x)→J R ((b,o') :: E) (k U)):J R D (X P (do Instr.mapUpdate 86 (.map (some b)) (I x) (.bool true);pure undef) k):=
 @jXr R D k _ λh hs w hw=>(mu_run (w:=w) (x:=x) (by rw[hw];exact ((hs.perm t.p).at_ b _ (.head _)).1) hm).elim λo' h=>⟨U,_,h.2.1,⟨rfl,rfl⟩,_,(hs.perm t.p).turn (b:=b) (o:=o) (o':=o') h.2.2.2 (by rw[← hw];exact h.2.2.1),H _ h.1⟩
end rules
end Go.Lf
end
section
namespace Go.Lf
open Go Sm
set_option maxHeartbeats 1000000 in
theorem p_i_Region_ok (x:Rg) {r:Int} (r0:0≤r) (r1:r < 12):Pu F_i_Region_ok [.agg (eRg x).toArray,I r] (.bool (rowOk r x)):=by
 intro R
 refine s_i_Region_ok λF=>?_
 unfold c_i_Region_ok
 have hb:regionBase r = 16 * r:=base_eq r0 r1
 refine ja λb=>jp (p_i_RegionBase r) ?_
 rw[hb]
 have key:rowOk r x = true↔(¬ x.kind < 1∧¬ x.kind > 4∧¬ x.top < 16 * r∧¬ x.top > 16 * r + 16∧¬ x.tams < 16 * r∧¬ x.tams > x.top∧¬ x.live < 0∧¬ x.live > x.top - 16 * r∧¬ (x.kind = 1∧x.top≠16 * r))∧(if x.kind = 2 then 0≤x.owner∧x.owner≤3 else x.owner = -1):=by
  unfold rowOk
  rw[hb]
  simp only[Bool.and_eq_true,Bool.or_eq_true,Bool.not_eq_true',decide_eq_true_eq,beq_iff_eq,beq_eq_false_iff_ne]
  by_cases h2:x.kind = 2
  ·rw[if_pos h2,h2];simp;omega
  ·rw[if_neg h2,show (x.kind == 2) = false from beq_eq_false_iff_ne.2 h2]
   by_cases ho:0≤x.owner
   ·simp[ho];omega
   ·simp[ho];omega
 have fin:∀{c:Bool} {D:Chs} [Sf D F],c = rowOk r x→J R D (POST R F (λv' _ _=>v' = .bool (rowOk r x)) (.bool c)):=λ{c D} _ hc=>jret (A:=[]) (RM.le.refl R) (by rw[hc])
 refine jor [.pointer (some ⟨b,0,none⟩),I (16 * r)] ((decide (x.kind < 1)) || (decide (x.kind > 4))) (λK' hK'=>?_) (λe c u ho he=>?_)
 ·refine jl (v:=I x.kind) rfl (jlt (jgtf (λh1=>?_) (λh1=>?_)))
  ·refine jl (v:=I x.kind) rfl (jgr (hK' _ _ _ (h1▸or2_f) (by rw[h1,Bool.false_or])))
  ·exact hK' _ _ _ (h1▸or2_t) (by rw[h1,Bool.true_or])
 simp only[List.map,lc,ln,lj,and_true] at he
 simp only[he]
 obtain⟨B1,hB1⟩:∃B1,B1 = (decide (x.kind < 1) || decide (x.kind > 4)):=⟨_,rfl⟩
 rw[← hB1] at ho
 refine jor [.pointer (some ⟨b,0,none⟩),I (16 * r)] ((B1) || (decide (x.top < 16 * r))) (λK' hK'=>?_) (λe c u ho he=>?_)
 ·rw[ho]
  refine jgtf (λh1=>?_) (λh1=>?_)
  ·refine jl (v:=I x.top) rfl (jlt (hK' _ _ _ (h1▸or2_f) (by rw[h1,Bool.false_or])))
  ·exact hK' _ _ _ (h1▸or2_t) (by rw[h1,Bool.true_or])
 simp only[List.map,lc,ln,lj,and_true] at he
 simp only[he]
 obtain⟨B2,hB2⟩:∃B2,B2 = (B1 || decide (x.top < 16 * r)):=⟨_,rfl⟩
 rw[← hB2] at ho
 refine jor [.pointer (some ⟨b,0,none⟩),I (16 * r)] ((B2) || (decide (x.top > 16 * r + 16))) (λK' hK'=>?_) (λe c u ho he=>?_)
 ·rw[ho]
  refine jgtf (λh1=>?_) (λh1=>?_)
  ·refine jl (v:=I x.top) rfl (jadd ⟨by omega,by omega⟩ (jgr (hK' _ _ _ (h1▸or2_f) (by rw[h1,Bool.false_or]))))
  ·exact hK' _ _ _ (h1▸or2_t) (by rw[h1,Bool.true_or])
 simp only[List.map,lc,ln,lj,and_true] at he
 simp only[he]
 obtain⟨B3,hB3⟩:∃B3,B3 = (B2 || decide (x.top > 16 * r + 16)):=⟨_,rfl⟩
 rw[← hB3] at ho
 refine jor [.pointer (some ⟨b,0,none⟩),I (16 * r)] ((B3) || (decide (x.tams < 16 * r))) (λK' hK'=>?_) (λe c u ho he=>?_)
 ·rw[ho]
  refine jgtf (λh1=>?_) (λh1=>?_)
  ·refine jl (v:=I x.tams) rfl (jlt (hK' _ _ _ (h1▸or2_f) (by rw[h1,Bool.false_or])))
  ·exact hK' _ _ _ (h1▸or2_t) (by rw[h1,Bool.true_or])
 simp only[List.map,lc,ln,lj,and_true] at he
 simp only[he]
 obtain⟨B4,hB4⟩:∃B4,B4 = (B3 || decide (x.tams < 16 * r)):=⟨_,rfl⟩
 rw[← hB4] at ho
 refine jor [.pointer (some ⟨b,0,none⟩),I (16 * r)] ((B4) || (decide (x.tams > x.top))) (λK' hK'=>?_) (λe c u ho he=>?_)
 ·rw[ho]
  refine jgtf (λh1=>?_) (λh1=>?_)
  ·refine jl (v:=I x.tams) rfl (jl (v:=I x.top) rfl (jgr (hK' _ _ _ (h1▸or2_f) (by rw[h1,Bool.false_or]))))
  ·exact hK' _ _ _ (h1▸or2_t) (by rw[h1,Bool.true_or])
 simp only[List.map,lc,ln,lj,and_true] at he
 simp only[he]
 obtain⟨B5,hB5⟩:∃B5,B5 = (B4 || decide (x.tams > x.top)):=⟨_,rfl⟩
 rw[← hB5] at ho
 refine jor [.pointer (some ⟨b,0,none⟩),I (16 * r)] ((B5) || (decide (x.live < 0))) (λK' hK'=>?_) (λe c u ho he=>?_)
 ·rw[ho]
  refine jgtf (λh1=>?_) (λh1=>?_)
  ·refine jl (v:=I x.live) rfl (jlt (hK' _ _ _ (h1▸or2_f) (by rw[h1,Bool.false_or])))
  ·exact hK' _ _ _ (h1▸or2_t) (by rw[h1,Bool.true_or])
 simp only[List.map,lc,ln,lj,and_true] at he
 simp only[he]
 obtain⟨B6,hB6⟩:∃B6,B6 = (B5 || decide (x.live < 0)):=⟨_,rfl⟩
 rw[← hB6] at ho
 have hsub:B6 = false→inR (x.top - 16 * r):=λh=>by
  rw[hB6,hB5,hB4,hB3,hB2] at h
  simp only[Bool.or_eq_false_iff,decide_eq_false_iff_not] at h
  constructor<;>omega
 refine jor [.pointer (some ⟨b,0,none⟩),I (16 * r)] ((B6) || (decide (x.live > x.top - 16 * r))) (λK' hK'=>?_) (λe c u ho he=>?_)
 ·rw[ho]
  refine jgtf (λh1=>?_) (λh1=>?_)
  ·refine jl (v:=I x.live) rfl (jl (v:=I x.top) rfl (jsub (hsub h1) (jgr (hK' _ _ _ (h1▸or2_f) (by rw[h1,Bool.false_or])))))
  ·exact hK' _ _ _ (h1▸or2_t) (by rw[h1,Bool.true_or])
 simp only[List.map,lc,ln,lj,and_true] at he
 simp only[he]
 rw[ho]
 refine jif (λh=>fin ?_) (λh=>?_)
 ·symm
  rw[Bool.eq_false_iff]
  intro hk
  obtain⟨⟨k1,k2,k3,k4,k5,k6,k7,k8,k9⟩,k10⟩:=key.1 hk
  rw[hB6,hB5,hB4,hB3,hB2,hB1] at h
  simp only[Bool.or_eq_true,decide_eq_true_eq] at h
  omega
 rw[hB6,hB5,hB4,hB3,hB2,hB1] at h
 simp only[Bool.or_eq_false_iff,decide_eq_false_iff_not] at h
 obtain⟨⟨⟨⟨⟨⟨⟨k1,k2⟩,k3⟩,k4⟩,k5⟩,k6⟩,k7⟩,k8⟩:=h
 clear ho hsub
 refine jan [.pointer (some ⟨b,0,none⟩)] ((x.kind == 1) && (x.top != 16 * r)) (λK' hK'=>?_) (λe c u ho he=>?_)
 ·refine jl (v:=I x.kind) rfl (jeq (jgtt (λh1=>?_) (λh1=>?_)))
  ·refine jl (v:=I x.top) rfl (jne (hK' _ _ _ (h1▸and2_t) (by rw[h1,Bool.true_and])))
  ·exact hK' _ _ _ (h1▸and2_f) (by rw[h1,Bool.false_and])
 simp only[List.map,lc,ln,lj,and_true] at he
 simp only[he]
 rw[ho]
 refine jif (λh=>fin ?_) (λh=>?_)
 ·symm
  rw[Bool.eq_false_iff]
  intro hk
  simp only[Bool.and_eq_true,beq_iff_eq,bne_iff_ne] at h
  exact (key.1 hk).1.2.2.2.2.2.2.2.2 h
 have k9:¬ (x.kind = 1∧x.top≠16 * r):=λhh=>by
  rw[show (x.kind == 1) = true from beq_iff_eq.2 hh.1,show (x.top != 16 * r) = true from bne_iff_ne.2 hh.2] at h
  cases h
 refine jl (v:=I x.kind) rfl (jeq (jif (λh2=>?_) (λh2=>?_)))
 ·have h2:=eq_of_beq h2
  refine jan [] ((decide (x.owner≥0)) && (decide (x.owner≤3))) (λK' hK'=>?_) (λe c u ho he=>?_)
  ·refine jl (v:=I x.owner) rfl (jge (jgtt (λh1=>?_) (λh1=>?_)))
   ·refine jl (v:=I x.owner) rfl (jle (hK' _ _ _ (h1▸and2_t) (by rw[h1,Bool.true_and])))
   ·exact hK' _ _ _ (h1▸and2_f) (by rw[h1,Bool.false_and])
  simp only[List.map,lc,ln,lj,and_true] at he
  simp only[he]
  rw[ho]
  refine fin ?_
  rw[Bool.eq_iff_iff,key,if_pos h2]
  simp only[Bool.and_eq_true,decide_eq_true_eq]
  exact⟨λh=>⟨⟨k1,k2,k3,k4,k5,k6,k7,k8,k9⟩,h⟩,λh=>h.2⟩
 ·have h2:=ne_of_beq_false h2
  refine jl (v:=I x.owner) rfl (jeq (fin ?_))
  rw[Bool.eq_iff_iff,key,if_neg h2]
  exact⟨λh=>⟨⟨k1,k2,k3,k4,k5,k6,k7,k8,k9⟩,eq_of_beq h⟩,λh=>beq_iff_eq.2 h.2⟩
end Go.Lf
end
section
namespace Go.Lf
open Go Sm
theorem p_i_edge:Pu F_i_edge [] (.agg (eRg edge).toArray):=by
 intro R
 refine s_i_edge λF=>?_
 unfold c_i_edge
 refine ja λb=>jbd (cs:=eRg edge) rfl rfl (js (cs':=eRg edge) rfl rfl (by exact Nat.le_refl 5) rfl (jla (l:=eRg edge) (by exact Nat.le_refl 5) rfl ?_))
 exact jret (A:=[]) (RM.le.refl R) rfl
theorem p_i_free (r:Int):Pu F_i_free [I r] (.agg (eRg ⟨1,-1,regionBase r,regionBase r,0⟩).toArray):=by
 intro R
 refine s_i_free λF=>?_
 unfold c_i_free
 refine ja λb=>jp (p_i_RegionBase r) (jbd (cs:=eRg ⟨1,-1,regionBase r,regionBase r,0⟩) rfl rfl (js (cs':=eRg ⟨1,-1,regionBase r,regionBase r,0⟩) rfl rfl (by exact Nat.le_refl 5) rfl (jla (l:=eRg ⟨1,-1,regionBase r,regionBase r,0⟩) (by exact Nat.le_refl 5) rfl ?_)))
 exact jret (A:=[]) (RM.le.refl R) rfl
theorem MpI.iff {o:Obj} {q q' : Int→Prop} (h:MpI o q) (e:∀x,q x↔q' x):MpI o q':=by
 have:q = q':=funext λx=>propext (e x)
 rw[← this];exact h
section
variable {R:RM} {D:Chs} {t:List Rg} {sp:List Value} {b cap:Nat}
set_option maxHeartbeats 1000000 in
theorem r_i_TableOk (hl:t.length < 1000000) [a:At D b (C T_Region (rowsE eRg t ++ sp))]:Ro F_i_TableOk [.slice (some ⟨b,0,none⟩) t.length cap] (.bool (tableOk t)) R D:=by
 refine s_i_TableOk λF=>?_
 unfold c_i_TableOk
 have nok:(TOk t→False)→Value.bool false = Value.bool (tableOk t):=λh=>by
  cases hh:tableOk t
  ·rfl
  ·exact (h (tableOk_iff.1 hh)).elim
 refine jcutq (λvs R' D'=>R' = R∧D' = D ++ F∧vs = [.slice (some ⟨b,0,none⟩) t.length cap,.bool ((decide ((t.length:Int) < 2) || decide ((t.length:Int) > 12)) || !(rv t 0 == edge))]) (λK hK=>?_) ?_
 ·refine jor [.slice (some ⟨b,0,none⟩) t.length cap] ((decide ((t.length:Int) < 2)) || (decide ((t.length:Int) > 12))) (λK' hK'=>?_) (λe c u ho he=>?_)
  ·refine jln (jlt (jgtf (λh1=>?_) (λh1=>?_)))
   ·refine jln (jgr (hK' _ _ _ (h1▸or2_f) (by rw[h1,Bool.false_or])))
   ·exact hK' _ _ _ (h1▸or2_t) (by rw[h1,Bool.true_or])
  simp only[List.map,lc,ln,lj,and_true] at he
  simp only[he]
  refine jcutq (λvs R' D'=>R' = R∧D' = D ++ F∧(((decide ((t.length:Int) < 2) || decide ((t.length:Int) > 12)) = false∧∃h:0 < t.length,vs = [.slice (some ⟨b,0,none⟩) t.length cap,.bool false,.pointer (some ⟨b,0 + (0:Int).toNat * 5,none⟩),.agg (eRg (t[0])).toArray])∨((decide ((t.length:Int) < 2) || decide ((t.length:Int) > 12)) = true∧vs = [.slice (some ⟨b,0,none⟩) t.length cap,.bool true,U,U]))) (λK2 hK2=>?_) ?_
  ·rw[ho]
   refine jgtf (λh1=>?_) (λh1=>?_)
   ·have h1':=h1
    simp only[Bool.or_eq_false_iff,decide_eq_false_iff_not] at h1'
    have h0:0 < t.length:=by omega
    refine jia (by omega) (by omega) ?_
    refine jla (l:=eRg (t[0])) (row_len h0) (rowsE_get (f:=eRg) (w:=5) (λ_=>rfl) h0) ?_
    exact hK2 _ _ _ ⟨rfl,rfl,.inl ⟨h1,h0,by rw[h1]⟩⟩
   ·exact hK2 _ _ _ ⟨rfl,rfl,.inr ⟨h1,by rw[h1]⟩⟩
  rintro e2 R2 D2 ⟨hR,hD,h⟩
  subst hR
  rw[hD];clear hD
  rcases h with ⟨h1,h0,he⟩ | ⟨h1,he⟩
  ·simp only[List.map,lc,ln,lj,and_true] at he
   simp only[he]
   refine jff (jp p_i_edge (jand (jla (l:=eRg (t[0])) (row_len h0) (rowsE_get (f:=eRg) (w:=5) (λ_=>rfl) h0) jev) ?_))
   refine @jxrg (t[0]) edge _ _ _ _ _ (jpkf ?_)
   refine hK _ _ _ ⟨rfl,rfl,?_⟩
   rw[h1,Bool.false_or,show rv t 0 = t[0] from rv_at h0]
  ·simp only[List.map,lc,ln,lj,and_true] at he
   simp only[he]
   refine jtf (jand jev (jpkt ?_))
   refine hK _ _ _ ⟨rfl,rfl,?_⟩
   rw[h1,Bool.true_or]
 rintro e R2 D2 ⟨hR,hD,he⟩
 subst hR
 rw[hD];clear hD
 simp only[List.map,lc,ln,lj,and_true] at he
 simp only[he]
 refine jif (λh0=>?_) (λh0=>?_)
 ·refine ro_ret (nok λT=>?_)
  have n0:=T.n0
  have n1:=T.n1
  have e:=T.e
  simp only[Bool.or_eq_true,decide_eq_true_eq,Bool.not_eq_true',beq_eq_false_iff_ne] at h0
  rcases h0 with (h | h) | h
  ·omega
  ·omega
  ·exact h e
 simp only[Bool.or_eq_false_iff,decide_eq_false_iff_not,Bool.not_eq_false',beq_iff_eq] at h0
 obtain⟨⟨n0,n1⟩,hedge⟩:=h0
 refine @jmap _ _ _ λmb o hm=>jln ?_
 refine jlp (λn vs R' D'=>R' = R2∧∃(i:Nat) (o:Obj),D' = (mb,o) :: (D ++ F)∧i≤t.length∧vs = [.map (some mb),.slice (some ⟨b,0,none⟩) t.length cap,I t.length,I i]∧n = t.length - i∧MpI o (λy=>∃k:Nat,1≤k∧k < i∧(rv t k).owner = y)∧(∀k:Nat,1≤k→k < i→RowP k (rv t k)∧∀m:Nat,1≤m→m < k→0≤(rv t k).owner→(rv t m).owner≠(rv t k).owner))
  (n:=t.length) ⟨rfl,0,o,rfl,by omega,rfl,rfl,hm.iff λx=>⟨λh=>h.elim,λ⟨k,_,h,_⟩=>by omega⟩,λk h1 h2=>by omega⟩ ?_
 clear hm
 rintro n e R' D' K ⟨hR,i,o,hD,hi,he,hn,hm,hinv⟩ hK
 subst hR
 rw[hD];clear hD
 simp only[List.map,lc,ln,lj,and_true] at he
 simp only[he]
 refine jlt (jif (λhc=>?_) (λhc=>?_))
 rotate_left
 ·have hc:=of_decide_eq_false hc
  refine jpart [] (G:=D ++ F) (ro_ret ?_)
  rw[tableOk_iff.2 ⟨by omega,by omega,hedge,λq q0 q1=>?_,λq s q0 q1 s0 s1 hoo heq=>?_⟩]
  ·have:=(hinv q.toNat (by omega) (by omega)).1
   rwa [show ((q.toNat:Nat):Int) = q from by omega] at this
  ·have h1:=(hinv q.toNat (by omega) (by omega)).2 s.toNat (by omega)
   have h2:=(hinv s.toNat (by omega) (by omega)).2 q.toNat (by omega)
   rw[show ((q.toNat:Nat):Int) = q from by omega,show ((s.toNat:Nat):Int) = s from by omega] at h1 h2
   rcases Int.lt_trichotomy q s with c | c | c
   ·exact absurd heq (h2 (by omega) (by rw[← heq];exact hoo))
   ·exact c
   ·exact absurd heq.symm (h1 (by omega) hoo)
 have hc:=of_decide_eq_true hc
 have hil:i < t.length:=by omega
 have hrv:=rv_at hil
 refine jcutq (λvs R3 D3=>R3 = R'∧∃o',D3 = (mb,o') :: (D ++ F)∧MpI o' (λy=>∃k:Nat,1≤k∧k < i + 1∧(rv t k).owner = y)∧(∀k:Nat,1≤k→k < i + 1→RowP k (rv t k)∧∀m:Nat,1≤m→m < k→0≤(rv t k).owner→(rv t m).owner≠(rv t k).owner)∧vs = [.map (some mb),.slice (some ⟨b,0,none⟩) t.length cap,I t.length,I i]) (λK2 hK2=>?_) ?_
 rotate_left
 ·rintro e3 R3 D3 ⟨hR,o',hD,hm',hinv',he⟩
  subst hR
  rw[hD];clear hD
  simp only[List.map,lc,ln,lj,and_true] at he
  simp only[he]
  exact jadd ⟨by omega,by omega⟩ (hK (t.length - (i + 1)) _ _ _ (by omega) ⟨rfl,i + 1,o',rfl,by omega,rfl,rfl,hm',hinv'⟩)
 refine jcutq (λvs R3 D3=>R3 = R'∧∃o',D3 = (mb,o') :: (D ++ F)∧MpI o' (λy=>∃k:Nat,1≤k∧k < i + 1∧(rv t k).owner = y)∧(∀k:Nat,1≤k→k < i + 1→RowP k (rv t k)∧∀m:Nat,1≤m→m < k→0≤(rv t k).owner→(rv t m).owner≠(rv t k).owner)∧vs = [.map (some mb),.slice (some ⟨b,0,none⟩) t.length cap,I t.length,I i]) (λK3 hK3=>?_) ?_
 rotate_left
 ·rintro e3 R3 D3 ⟨hR,o',hD,hm',hinv',he⟩
  subst hR
  rw[hD];clear hD
  simp only[List.map,lc,ln,lj,and_true] at he
  simp only[he]
  exact hK2 _ _ _ ⟨rfl,o',rfl,hm',hinv',rfl⟩
 refine jian hil (jlrow hil ?_)
 refine ja λb13=>js (cs':=eRg (t[i])) rfl rfl (by exact Nat.le_refl 5) rfl (jeq (jif (λhz=>?_) (λhz=>?_)))
 ·have hz:=eq_of_beq hz
  have hz:i = 0:=by omega
  refine jk1 (F:=D ++ F) mb ?_
  refine hK3 _ _ _ ⟨rfl,o,rfl,hm.iff λy=>⟨λ⟨k,h1,h2,h3⟩=>by omega,λ⟨k,h1,h2,h3⟩=>by omega⟩,λk h1 h2=>by omega,rfl⟩
 have hz:=ne_of_beq_false hz
 have hi1:1≤i:=by omega
 obtain⟨sb,hsb⟩:∃sb:Bool,((∃k:Nat,1≤k∧k < i∧(rv t k).owner = (t[i]).owner)↔sb = true):=by
  by_cases h:∃k:Nat,1≤k∧k < i∧(rv t k).owner = (t[i]).owner
  ·exact⟨true,by simp[h]⟩
  ·exact⟨false,by simp[h]⟩
 refine jor [.map (some mb),.pointer (some ⟨b13,0,none⟩),.slice (some ⟨b,0,none⟩) t.length cap,I t.length,I i] (!rowOk i (t[i]) || (decide ((t[i]).owner≥0) && sb)) (λK' hK'=>?_) (λe c u ho he=>?_)
 ·refine jla (l:=eRg (t[i])) (by exact Nat.le_refl 5) rfl (jp (p_i_Region_ok (t[i]) (by omega) (by omega)) (jgtf (λh1=>?_) (λh1=>?_)))
  ·refine jl (v:=I (t[i]).owner) rfl (jge (jgtt (λh2=>?_) (λh2=>?_)))
   ·refine jl (v:=I (t[i]).owner) rfl ?_
    refine @jlk _ _ _ mb o _ _ sb _ hm hsb ?_
    rw[h2]
    exact jpkt (hK' _ _ _ (h1▸or2_f) (by rw[h1,h2];rfl))
   ·rw[h2]
    exact jpkf (hK' _ _ _ (h1▸or2_f) (by rw[h1,h2];rfl))
  ·exact hK' _ _ _ (h1▸or2_t) (by rw[h1];rfl)
 simp only[List.map,lc,ln,lj,and_true] at he
 simp only[he]
 rw[ho]
 refine jif (λhv=>?_) (λhv=>?_)
 ·refine jpart [] (G:=D ++ F) (ro_ret (nok λT=>?_))
  simp only[Bool.or_eq_true,Bool.not_eq_true',Bool.and_eq_true,decide_eq_true_eq] at hv
  rcases hv with hv | ⟨hv1,hv2⟩
  ·have:=(rowOk_iff (by omega) (by omega)).2 (T.row i (by omega) (by omega))
   rw[hrv,hv] at this
   cases this
  ·obtain⟨k,k1,k2,k3⟩:=hsb.2 hv2
   have:=T.own i k (by omega) (by omega) (by omega) (by omega) (by rw[hrv];exact hv1) (by rw[hrv,k3])
   omega
 ·simp only[Bool.or_eq_false_iff,Bool.not_eq_false',Bool.and_eq_false_iff,decide_eq_false_iff_not] at hv
  obtain⟨hv1,hv2⟩:=hv
  refine jl (v:=I (t[i]).owner) rfl ?_
  refine @jmu _ _ _ mb o _ _ _ _ hm λo' hm'=>?_
  refine jk1 (F:=D ++ F) mb ?_
  refine hK3 _ _ _ ⟨rfl,o',rfl,hm'.iff λy=>⟨?_,?_⟩,λk h1 h2=>?_,rfl⟩
  ·rintro (⟨k,h1,h2,h3⟩ | rfl)
   ·exact⟨k,h1,by omega,h3⟩
   ·exact⟨i,hi1,by omega,by rw[hrv]⟩
  ·rintro⟨k,h1,h2,h3⟩
   by_cases hk:k = i
   ·subst hk;rw[hrv] at h3;exact .inr h3.symm
   ·exact .inl ⟨k,h1,by omega,h3⟩
  ·by_cases hk:k = i
   ·subst hk
    rw[hrv]
    refine⟨(rowOk_iff (by omega) (by omega)).1 hv1,λm m1 m2 h0 heq=>?_⟩
    rcases hv2 with hv2 | hv2
    ·omega
    ·have:=hsb.1 ⟨m,m1,m2,heq⟩
     rw[hv2] at this;cases this
   ·exact hinv k h1 (by omega)
end
end Go.Lf
end
section
namespace Go.Lf
open Go Sm
theorem lay_set {cs:List Value} {o:Nat} {v:Value} (h:o < cs.length):lay cs o [v] = cs.set o v:=by
 unfold lay
 rw[List.set_eq_take_append_cons_drop,if_pos h]
 simp
theorem lay_in {cs:List Value} {o f n:Nat} (h:o + n≤cs.length) (hf:f < n) (v:Value):lay cs (o + f) [v] = lay cs o (((cs.drop o).take n).set f v):=by
 rw[lay_set (by omega)]
 unfold lay
 have hl:(((cs.drop o).take n).set f v).length = n:=by simp;omega
 apply List.ext_getElem?
 intro i
 rw[hl,List.getElem?_set,List.append_assoc]
 by_cases h1:i < o
 ·rw[List.getElem?_append_left (by simp;omega),List.getElem?_take,if_pos h1,if_neg (by omega)]
 ·rw[List.getElem?_append_right (by simp;omega)]
  have e:(cs.take o).length = o:=by simp;omega
  rw[e]
  by_cases h2:i < o + n
  ·rw[List.getElem?_append_left (by rw[hl];omega),List.getElem?_set,List.getElem?_take,List.getElem?_drop]
   by_cases h3:o + f = i
   ·rw[if_pos h3,if_pos (by omega),if_pos (by omega),if_pos (by simp;omega)]
   ·rw[if_neg h3,if_neg (by omega),if_pos (by omega)]
    congr 1;omega
  ·rw[List.getElem?_append_right (by rw[hl];omega),hl,List.getElem?_drop,if_neg (by omega)]
   congr 1;omega
section
variable {R:RM} {D:Chs} {t:List Rg} {sp:List Value} {b cap:Nat}
theorem jsf {k f:Nat} {x:Rg} {v:Value} {D' : Chs} {m:M} (hk:k < t.length) (hf:f < 5) (hx:eRg x = (eRg (t[k])).set f v) (hv:flat v = true) (h1:cl v = [v]) [a:At D b (C T_Region (rowsE eRg t ++ sp))] [u:Up D b (C T_Region (rowsE eRg t ++ sp)) (C T_Region (rowsE eRg (t.set k x) ++ sp)) D'] (H:J R D' m) :
  J R D (ST 1 (.pointer (some ⟨b,0 + k * 5 + f,none⟩)) v m):=by
 have hl:=row_len (sp:=sp) hk
 refine js (cs:=rowsE eRg t ++ sp) (cs':=rowsE eRg (t.set k x) ++ sp) (by rw[h1];rfl) (by rw[h1];simp[allFlat,hv]) (by omega) ?_ H
 rw[h1,Nat.zero_add,lay_in hl hf,rowsE_get (f:=eRg) (w:=5) (λ_=>rfl) hk,← hx]
 exact rowsE_set (f:=eRg) (w:=5) (λ_=>rfl) hk
end
theorem x_eqt (x y:Operand) (a:Addr) (n c:Nat) (w:World):(do eqGuard .eql 46 x y (.slice (some a) n c) (.slice none 0 0);binOp .eql 46 (.slice (some a) n c) (.slice none 0 0):Sem Value).run P w = .ok (.bool false) w:=by kernel_rfl
theorem jnilt {a:Addr} {n c:Nat} {x y:Operand} {R:RM} {D:Chs} {k:Value→M} (H1:J R D (k (.bool false))):J R D (X P (do eqGuard .eql 46 x y (.slice (some a) n c) (.slice none 0 0);binOp .eql 46 (.slice (some a) n c) (.slice none 0 0)) k):=by
 intro h hs w hw
 rw[x_eqt]
 subst hw
 exact⟨Same.refl _,H1 _ hs⟩
theorem jroF {f:Nat} {args:List Value} {v:Value} {R:RM} {D F:Chs} {k:Value→M} (hF:Ro f args v R D) (H:J R (D ++ F) (k v)):J R (D ++ F) (CA P f args k):=by
 intro h hs
 refine CA_mono ?_ (hF F h hs)
 rintro v' h' ⟨R',A',h1,h2,rfl,rfl⟩
 exact H h' (h2.le h1)
theorem p_i_TableTake_1 (x:Rg):Pu F_i_TableTake_1 [.agg (eRg x).toArray] (.bool (x.kind == 1)):=by
 intro R
 refine s_i_TableTake_1 λF=>?_
 unfold c_i_TableTake_1
 refine ja λb=>jl (v:=I x.kind) rfl (jeq ?_)
 exact jret (A:=[]) (RM.le.refl R) rfl
theorem ro_of {f:Nat} {args:List Value} {v:Value} {R:RM} {D:Chs} (h:Pu f args v):Ro f args v R D:=by
 intro F h' hs
 refine CA_mono ?_ (h R (D ++ F) h' hs)
 rintro v' h2 ⟨R',A',q1,q2,rfl⟩
 exact⟨R',D,q1,q2.drop,rfl,rfl⟩
theorem find0 {p:Rg→Bool} {t:List Rg} (h:tableOk t = true) (hp:p edge = false):findFrom p 0 t = findFrom p 1 t.tail:=by
 cases t with
 | nil=>rfl
 | cons e r=>
  have:e = edge:=(tableOk_iff.1 h).e
  subst this
  show (if p edge then ((0:Nat):Int) else findFrom p (0 + 1) r) = _
  rw[if_neg (by rw[hp];decide)];rfl
section
variable {R:RM} {D:Chs} {t:List Rg} {sp:List Value} {b cap:Nat}
theorem r_i_own_1 (x:Rg) {o:Int} {b3:Nat} [a:At D b3 (C 3 [I o])]:Ro F_i_own_1 [.agg (eRg x).toArray,.pointer (some ⟨b3,0,none⟩)] (.bool (x.kind == 2 && x.owner == o)) R D:=by
 refine s_i_own_1 λF=>?_
 unfold c_i_own_1
 refine ja λb4=>?_
 refine jan [] ((x.kind == 2) && (x.owner == o)) (λK' hK'=>?_) (λe c u ho he=>?_)
 ·refine jl (v:=I x.kind) rfl (jeq (jgtt (λh1=>?_) (λh1=>?_)))
  ·refine jl (v:=I x.owner) rfl (jl (v:=I o) rfl (jeq (hK' _ _ _ (h1▸and2_t) (by rw[h1,Bool.true_and]))))
  ·exact hK' _ _ _ (h1▸and2_f) (by rw[h1,Bool.false_and])
 simp only[List.map,lc,ln,lj,and_true] at he
 simp only[he]
 rw[ho]
 exact jpart [] (G:=D ++ F) (ro_ret rfl)
theorem r_IndexFunc {f:Nat} {cv:List Value} {p:Rg→Bool} (hf:okFn P f = true) (hp:∀x,Ro f (.agg (eRg x).toArray :: cv) (.bool (p x)) R D) (hl:t.length < 1000000) [a:At D b (C T_Region (rowsE eRg t ++ sp))] :
  Ro F_slices_IndexFunc [.slice (some ⟨b,0,none⟩) t.length cap,.func (.func f) #[] cv.toArray] (I (findFrom p 0 t)) R D:=by
 refine s_slices_IndexFunc λF=>?_
 unfold c_slices_IndexFunc
 refine jln ?_
 refine jlp (λn vs R' D'=>R' = R∧D' = D ++ F∧∃i:Nat,i≤t.length∧vs = [.slice (some ⟨b,0,none⟩) t.length cap,.func (.func f) #[] cv.toArray,I t.length,I i]∧n = t.length - i∧findFrom p 0 t = findFrom p i (t.drop i)) (n:=t.length) ⟨rfl,rfl,0,by omega,rfl,rfl,by rw[List.drop_zero]⟩ ?_
 rintro n e R' D' K ⟨hR,hD,i,hi,he,hn,hinv⟩ hK
 subst hR
 rw[hD];clear hD
 simp only[List.map,lc,ln,lj,and_true] at he
 simp only[he]
 refine jlt (jif (λhc=>?_) (λhc=>?_))
 rotate_left
 ·have hc:=of_decide_eq_false hc
  refine ro_ret ?_
  rw[hinv,List.drop_eq_nil_of_le (by omega)];rfl
 have hc:=of_decide_eq_true hc
 have hil:i < t.length:=by omega
 refine jian hil (jlrow hil ?_)
 have hcv:∀k:Value→M,J R' (D ++ F) (k (.bool (p (t[i]))))→J R' (D ++ F) (CV P (.func (.func f) #[] cv.toArray) [.agg (eRg (t[i])).toArray] k):=λk hk h hs=>⟨hf,jroF (hp (t[i])) hk h hs⟩
 refine hcv _ ?_
 have ed:t.drop i = t[i] :: t.drop (i + 1):=List.drop_eq_getElem_cons hil
 rw[ed] at hinv
 simp only[findFrom] at hinv
 refine jif (λhq=>?_) (λhq=>?_)
 ·rw[if_pos hq] at hinv
  exact ro_ret (by rw[hinv])
 ·rw[if_neg (by rw[hq];decide)] at hinv
  exact jadd ⟨by omega,by omega⟩ (hK (t.length - (i + 1)) _ _ _ (by omega) ⟨rfl,rfl,i + 1,by omega,rfl,rfl,hinv⟩)
theorem r_i_own (o:Int) (hok:tableOk t = true) [a:At D b (C T_Region (rowsE eRg t ++ sp))]:Ro F_i_own [.slice (some ⟨b,0,none⟩) t.length cap,I o] (I (own t o)) R D:=by
 refine s_i_own λF=>?_
 unfold c_i_own
 have n1:=(tableOk_iff.1 hok).n1
 refine ja λb3=>?_
 refine jro (r_IndexFunc (D:=(b3,C 3 [I o]) :: (D ++ F)) (p:=λx=>x.kind == 2 && x.owner == o) (cv:=[.pointer (some ⟨b3,0,none⟩)]) (by kernel_rfl) (λx=>r_i_own_1 x) (by omega)) ?_
 refine jpart [] (G:=D ++ F) (ro_ret ?_)
 rw[find0 hok rfl];rfl
theorem r_i_hasRegion (r:Int) (hl:t.length < 1000000) [a:At D b (C T_Region (rowsE eRg t ++ sp))]:Ro F_i_hasRegion [.slice (some ⟨b,0,none⟩) t.length cap,I r] (.bool ((tableOk t && decide (r≥1)) && decide (r < t.length))) R D:=by
 refine s_i_hasRegion λF=>?_
 unfold c_i_hasRegion
 refine jan [.slice (some ⟨b,0,none⟩) t.length cap,I r] ((tableOk t) && (decide (r≥1))) (λK' hK'=>?_) (λe c u ho he=>?_)
 ·refine jro (r_i_TableOk hl) (jgtt (λh1=>?_) (λh1=>?_))
  ·refine jge (hK' _ _ _ (h1▸and2_t) (by rw[h1,Bool.true_and]))
  ·exact hK' _ _ _ (h1▸and2_f) (by rw[h1,Bool.false_and])
 simp only[List.map,lc,ln,lj,and_true] at he
 simp only[he]
 refine jan [] ((tableOk t && decide (r≥1)) && (decide (r < t.length))) (λK' hK'=>?_) (λe c u ho he=>?_)
 ·rw[ho]
  refine jgtt (λh1=>?_) (λh1=>?_)
  ·refine jln (jlt (hK' _ _ _ (h1▸and2_t) (by rw[h1,Bool.true_and])))
  ·exact hK' _ _ _ (h1▸and2_f) (by rw[h1,Bool.false_and])
 simp only[List.map,lc,ln,lj,and_true] at he
 simp only[he]
 rw[ho]
 exact ro_ret rfl
theorem m_i_Clone (hl:t.length < 1000000) [a:At D b (C T_Region (rowsE eRg t ++ sp))]:Mk F_slices_Clone_55 [.slice (some ⟨b,0,none⟩) t.length cap] R D (OwnT t):=by
 refine s_slices_Clone_55 λF=>?_
 unfold c_slices_Clone_55
 have hsz:=rowsE_size (f:=eRg) (w:=5) (λ_=>rfl) t
 refine @jnilt _ _ _ _ _ _ _ _ (jiff ?_)
 refine jbs (cs:=[]) rfl rfl λb0=>?_
 have hr:Reads R ((b0,C 52 []) :: (D ++ F)) (some ⟨b,0,none⟩) (t.length * 5) (rowsE eRg t):=by
  have:=Reads.held (R:=R) (D:=(b0,C 52 []) :: (D ++ F)) (b:=b) (o:=0) (n:=t.length * 5) (t:=T_Region) (cs:=rowsE eRg t ++ sp) (by simp[hsz])
  rw[List.drop_zero,List.take_append_of_le_length (by omega),← hsz,List.take_length] at this
  rw[← hsz];exact this
 refine jap0 (new:=rowsE eRg t) hr (by decide) (by omega) (λ_=>rfl) (λh0=>?_) (λb' c hc=>?_)
 ·have ht:t = []:=List.length_eq_zero_iff.1 h0
  subst ht
  exact mk_ret [(b0,C 52 [])] ⟨b0,0,[],Nat.le_refl _,rfl,rfl⟩
 ·exact mk_ret [(b',C 52 (rowsE eRg t ++ (List.replicate (c - t.length) (cl z52)).flatten))] ⟨b',c,_,hc,rfl,rfl⟩
theorem m_i_TableClose (r:Int) (hl:t.length < 1000000) [a:At D b (C T_Region (rowsE eRg t ++ sp))]:Mk F_i_TableClose [.slice (some ⟨b,0,none⟩) t.length cap,I r] R D (QDrop (tableClose t r)):=by
 refine s_i_TableClose λF=>?_
 unfold c_i_TableClose
 refine jor [.slice (some ⟨b,0,none⟩) t.length cap,I r] (!((tableOk t && decide (r≥1)) && decide (r < t.length)) || ((rv t r).kind != 2)) (λK' hK'=>?_) (λe c u ho he=>?_)
 ·refine jro (r_i_hasRegion r hl) (jgtf (λh1=>?_) (λh1=>?_))
  ·have h1':=h1
   simp only[Bool.not_eq_false',Bool.and_eq_true,decide_eq_true_eq] at h1'
   obtain⟨⟨_,h2⟩,h3⟩:=h1'
   obtain⟨k,rfl⟩:∃k:Nat,r = k:=⟨r.toNat,by omega⟩
   have hk:k < t.length:=by omega
   refine jian hk ?_
   refine jl (v:=I t[k].kind) (by rw[Nat.zero_add];exact row_cell (f:=0) hk rfl) ?_
   exact jne (hK' _ _ _ (h1▸or2_f) (by rw[h1,Bool.false_or,rv_at hk]))
  ·exact hK' _ _ _ (h1▸or2_t) (by rw[h1,Bool.true_or])
 simp only[List.map,lc,ln,lj,and_true] at he
 simp only[he]
 rw[ho]
 refine jif (λh0=>?_) (λh0=>?_)
 ·refine mk_ret [] ?_
  have:tableClose t r = none:=by
   unfold tableClose
   split
   ·rename_i hh
    simp only[Bool.or_eq_true,Bool.not_eq_true',Bool.and_eq_false_iff,decide_eq_false_iff_not,decide_eq_true_eq,Bool.and_eq_true,bne_iff_ne,ne_eq] at h0 hh
    by_cases c:r < t.length
    ·rw[idx_rv (by omega) c]
     simp only
     rw[if_neg]
     intro h2
     rcases h0 with ((h | h) | h) | h
     ·rw[hh.1] at h;cases h
     ·omega
     ·omega
     ·exact h (by simpa using h2)
    ·unfold idx
     rw[if_pos (by omega),List.getElem?_eq_none (by omega)]
   ·rfl
  rw[this];exact⟨rfl,rfl⟩
 simp only[Bool.or_eq_false_iff,Bool.not_eq_false',Bool.and_eq_true,decide_eq_true_eq,bne_eq_false_iff_eq] at h0
 obtain⟨⟨⟨hok,h2⟩,h3⟩,h4⟩:=h0
 obtain⟨k,rfl⟩:∃k:Nat,r = k:=⟨r.toNat,by omega⟩
 have hk:k < t.length:=by omega
 refine jmk (m_i_Clone hl) ?_
 rintro _ _ ⟨b',c',sp',hc',rfl,rfl⟩
 refine jian hk (jsf (f:=0) (x:={ t[k] with kind:=3 }) hk (by decide) rfl rfl rfl ?_)
 have hl' : ∀x:Rg,(t.set k x).length = t.length:=λx=>by simp
 have hk' : k < (t.set k { t[k] with kind:=3 }).length:=by simpa using hk
 refine jian hk ?_
 refine jsf (f:=1) (t:=t.set k { t[k] with kind:=3 }) (x:={ t[k] with kind:=3,owner:=-1 }) hk' (by decide) (by rw[List.getElem_set_self];rfl) rfl rfl ?_
 rw[List.set_set]
 refine mk_ret [(b',C T_Region (rowsE eRg (t.set k { t[k] with kind:=3,owner:=-1 }) ++ sp'))] ?_
 have:tableClose t k = some (seti t k { t[k] with kind:=3,owner:=-1 }):=by
  unfold tableClose
  rw[if_pos (by simp[hok];omega),idx_rv (by omega) (by omega),rv_at hk]
  simp only
  rw[rv_at hk] at h4
  rw[if_pos (by simpa using h4)]
 rw[this]
 exact⟨_,⟨b',c',sp',by simpa [seti] using hc',rfl,by simp[seti]⟩,by simp⟩
theorem m_i_TableDrop (r:Int) (hl:t.length < 1000000) [a:At D b (C T_Region (rowsE eRg t ++ sp))]:Mk F_i_TableDrop [.slice (some ⟨b,0,none⟩) t.length cap,I r] R D (QDrop (tableDrop t r)):=by
 refine s_i_TableDrop λF=>?_
 unfold c_i_TableDrop
 refine jor [.slice (some ⟨b,0,none⟩) t.length cap,I r] (!((tableOk t && decide (r≥1)) && decide (r < t.length)) || ((rv t r).kind == 1)) (λK' hK'=>?_) (λe c u ho he=>?_)
 ·refine jro (r_i_hasRegion r hl) (jgtf (λh1=>?_) (λh1=>?_))
  ·have h1':=h1
   simp only[Bool.not_eq_false',Bool.and_eq_true,decide_eq_true_eq] at h1'
   obtain⟨⟨_,h2⟩,h3⟩:=h1'
   obtain⟨k,rfl⟩:∃k:Nat,r = k:=⟨r.toNat,by omega⟩
   have hk:k < t.length:=by omega
   refine jian hk ?_
   refine jl (v:=I t[k].kind) (by rw[Nat.zero_add];exact row_cell (f:=0) hk rfl) ?_
   exact jeq (hK' _ _ _ (h1▸or2_f) (by rw[h1,Bool.false_or,rv_at hk]))
  ·exact hK' _ _ _ (h1▸or2_t) (by rw[h1,Bool.true_or])
 simp only[List.map,lc,ln,lj,and_true] at he
 simp only[he]
 rw[ho]
 refine jif (λh0=>?_) (λh0=>?_)
 ·refine mk_ret [] ?_
  have:tableDrop t r = none:=by
   unfold tableDrop
   split
   ·rename_i hh
    simp only[Bool.or_eq_true,Bool.not_eq_true',Bool.and_eq_false_iff,decide_eq_false_iff_not,decide_eq_true_eq,Bool.and_eq_true,beq_iff_eq] at h0 hh
    by_cases c:r < t.length
    ·rw[idx_rv (by omega) c]
     simp only
     rcases h0 with ((h | h) | h) | h
     ·rw[hh.1] at h;cases h
     ·omega
     ·omega
     ·rw[if_pos (by simpa using h)]
    ·unfold idx
     rw[if_pos (by omega),List.getElem?_eq_none (by omega)]
   ·rfl
  rw[this];exact⟨rfl,rfl⟩
 simp only[Bool.or_eq_false_iff,Bool.not_eq_false',Bool.and_eq_true,decide_eq_true_eq,beq_eq_false_iff_ne] at h0
 obtain⟨⟨⟨hok,h2⟩,h3⟩,h4⟩:=h0
 obtain⟨k,rfl⟩:∃k:Nat,r = k:=⟨r.toNat,by omega⟩
 have hk:k < t.length:=by omega
 refine jmk (m_i_Clone hl) ?_
 rintro _ _ ⟨b',c',sp',hc',rfl,rfl⟩
 refine jp (p_i_free k) ?_
 refine jian hk ?_
 refine jsrow (x:=free k) hk ?_
 refine mk_ret [(b',C T_Region (rowsE eRg (t.set k (free k)) ++ sp'))] ?_
 have:tableDrop t k = some (seti t k (free k)):=by
  unfold tableDrop
  rw[if_pos (by simp[hok];omega),idx_rv (by omega) (by omega)]
  simp only
  rw[if_neg (by simpa using h4)]
 rw[this]
 exact⟨_,⟨b',c',sp',by simpa [seti] using hc',rfl,by simp[seti]⟩,by simp⟩
theorem m_i_TableTake (owner:Int) (hl:t.length < 1000000) [a:At D b (C T_Region (rowsE eRg t ++ sp))]:Mk F_i_TableTake [.slice (some ⟨b,0,none⟩) t.length cap,I owner] R D (QTake (tableTake t owner)):=by
 refine s_i_TableTake λF=>?_
 unfold c_i_TableTake
 refine jor [.slice (some ⟨b,0,none⟩) t.length cap,I owner] ((!tableOk t) || (decide (owner < 0))) (λK' hK'=>?_) (λe c u ho he=>?_)
 ·refine jro (r_i_TableOk hl) (jgtf (λh1=>?_) (λh1=>?_))
  ·refine jlt (hK' _ _ _ (h1▸or2_f) (by rw[h1,Bool.false_or]))
  ·exact hK' _ _ _ (h1▸or2_t) (by rw[h1,Bool.true_or])
 simp only[List.map,lc,ln,lj,and_true] at he
 simp only[he]
 refine jor [.slice (some ⟨b,0,none⟩) t.length cap,I owner] ((!tableOk t || decide (owner < 0)) || (decide (owner > 3))) (λK' hK'=>?_) (λe c u ho he=>?_)
 ·rw[ho]
  refine jgtf (λh1=>?_) (λh1=>?_)
  ·refine jgr (hK' _ _ _ (h1▸or2_f) (by rw[h1,Bool.false_or]))
  ·exact hK' _ _ _ (h1▸or2_t) (by rw[h1,Bool.true_or])
 simp only[List.map,lc,ln,lj,and_true] at he
 simp only[he]
 have hok1:((!tableOk t || decide (owner < 0)) || decide (owner > 3)) = false→tableOk t = true:=λh=>by
  simp only[Bool.or_eq_false_iff,Bool.not_eq_false'] at h
  exact h.1.1
 refine jor [.slice (some ⟨b,0,none⟩) t.length cap,I owner] (((!tableOk t || decide (owner < 0)) || decide (owner > 3)) || (decide (own t owner≥0))) (λK' hK'=>?_) (λe c u ho he=>?_)
 ·rw[ho]
  refine jgtf (λh1=>?_) (λh1=>?_)
  ·refine jro (r_i_own owner (hok1 h1)) (jge (hK' _ _ _ (h1▸or2_f) (by rw[h1,Bool.false_or])))
  ·exact hK' _ _ _ (h1▸or2_t) (by rw[h1,Bool.true_or])
 simp only[List.map,lc,ln,lj,and_true] at he
 simp only[he]
 rw[ho]
 refine jif (λh0=>?_) (λh0=>?_)
 ·refine mk_ret [] ?_
  have:tableTake t owner = none:=by
   unfold tableTake
   rw[if_neg]
   intro hh
   simp only[Bool.or_eq_true,Bool.not_eq_true',decide_eq_true_eq,Bool.and_eq_true] at h0 hh
   rcases h0 with ((h | h) | h) | h
   ·rw[hh.1.1.1] at h;cases h
   ·omega
   ·omega
   ·omega
  rw[this];exact⟨rfl,rfl⟩
 simp only[Bool.or_eq_false_iff,Bool.not_eq_false',decide_eq_false_iff_not] at h0
 obtain⟨⟨⟨hok,h2⟩,h3⟩,h4⟩:=h0
 have n1:=(tableOk_iff.1 hok).n1
 have eq:tableTake t owner = (let i:=findFrom (λx=>x.kind == 1) 1 t.tail;if i < 0 then none else some (seti t i ⟨2,owner,regionBase i,regionBase i,0⟩,i)):=by
  unfold tableTake
  rw[if_pos (by simp[hok];omega)]
 refine jro (r_IndexFunc (p:=λx=>x.kind == 1) (cv:=[]) (by kernel_rfl) (λx=>ro_of (p_i_TableTake_1 x)) hl) ?_
 rw[find0 hok rfl]
 have hfr:=find_row (λx=>x.kind == 1) t
 generalize findFrom (λx=>x.kind == 1) 1 t.tail = r at eq hfr
 refine jlt (jif (λh=>?_) (λh=>?_))
 ·have h:=of_decide_eq_true h
  refine mk_ret [] ?_
  rw[eq]
  simp only
  rw[if_pos h];exact⟨rfl,rfl⟩
 have h:=of_decide_eq_false h
 rcases hfr with ⟨h5,_⟩ | ⟨h5,h6,h7⟩
 ·omega
 obtain⟨k,rfl⟩:∃k:Nat,r = k:=⟨r.toNat,by omega⟩
 have hk:k < t.length:=by omega
 refine jmk (m_i_Clone hl) ?_
 rintro _ _ ⟨b',c',sp',hc',rfl,rfl⟩
 refine jp (p_i_free k) (jian hk (jsrow (x:=⟨1,-1,regionBase k,regionBase k,0⟩) hk ?_))
 have hk1:k < (t.set k ⟨1,-1,regionBase k,regionBase k,0⟩).length:=by simpa using hk
 refine jian hk (jsf (f:=0) (t:=t.set k ⟨1,-1,regionBase k,regionBase k,0⟩) (x:=⟨2,-1,regionBase k,regionBase k,0⟩) hk1 (by decide) (by rw[List.getElem_set_self];rfl) rfl rfl ?_)
 rw[List.set_set]
 have hk2:k < (t.set k ⟨2,-1,regionBase k,regionBase k,0⟩).length:=by simpa using hk
 refine jian hk (jsf (f:=1) (t:=t.set k ⟨2,-1,regionBase k,regionBase k,0⟩) (x:=⟨2,owner,regionBase k,regionBase k,0⟩) hk2 (by decide) (by rw[List.getElem_set_self];rfl) rfl rfl ?_)
 rw[List.set_set]
 refine mk_ret [(b',C T_Region (rowsE eRg (t.set k ⟨2,owner,regionBase k,regionBase k,0⟩) ++ sp'))] ?_
 rw[eq]
 simp only
 rw[if_neg (by omega)]
 exact⟨_,⟨b',c',sp',by simpa [seti] using hc',rfl,by simp[seti]⟩,by simp⟩
end
end Go.Lf
end
section
namespace Go.Lf
open Go Sm
section
variable {R:RM} {D:Chs} {t:List Rg} {sp:List Value} {b cap:Nat}
set_option maxHeartbeats 1000000 in
theorem m_i_TableRoom (owner size:Int) (hl:t.length < 1000000) [a:At D b (C T_Region (rowsE eRg t ++ sp))]:Mk F_i_TableRoom [.slice (some ⟨b,0,none⟩) t.length cap,I owner,I size] R D (QTake (tableRoom t owner size)):=by
 refine s_i_TableRoom λF=>?_
 unfold c_i_TableRoom
 refine jor [.slice (some ⟨b,0,none⟩) t.length cap,I owner,I size] ((!tableOk t) || (decide (owner < 0))) (λK' hK'=>?_) (λe c u ho he=>?_)
 ·refine jro (r_i_TableOk hl) (jgtf (λh1=>?_) (λh1=>?_))
  ·refine jlt (hK' _ _ _ (h1▸or2_f) (by rw[h1,Bool.false_or]))
  ·exact hK' _ _ _ (h1▸or2_t) (by rw[h1,Bool.true_or])
 simp only[List.map,lc,ln,lj,and_true] at he
 simp only[he]
 refine jor [.slice (some ⟨b,0,none⟩) t.length cap,I owner,I size] ((!tableOk t || decide (owner < 0)) || (decide (owner > 3))) (λK' hK'=>?_) (λe c u ho he=>?_)
 ·rw[ho]
  refine jgtf (λh1=>?_) (λh1=>?_)
  ·refine jgr (hK' _ _ _ (h1▸or2_f) (by rw[h1,Bool.false_or]))
  ·exact hK' _ _ _ (h1▸or2_t) (by rw[h1,Bool.true_or])
 simp only[List.map,lc,ln,lj,and_true] at he
 simp only[he]
 refine jor [.slice (some ⟨b,0,none⟩) t.length cap,I owner,I size] (((!tableOk t || decide (owner < 0)) || decide (owner > 3)) || (decide (size < 1))) (λK' hK'=>?_) (λe c u ho he=>?_)
 ·rw[ho]
  refine jgtf (λh1=>?_) (λh1=>?_)
  ·refine jlt (hK' _ _ _ (h1▸or2_f) (by rw[h1,Bool.false_or]))
  ·exact hK' _ _ _ (h1▸or2_t) (by rw[h1,Bool.true_or])
 simp only[List.map,lc,ln,lj,and_true] at he
 simp only[he]
 refine jor [.slice (some ⟨b,0,none⟩) t.length cap,I owner,I size] ((((!tableOk t || decide (owner < 0)) || decide (owner > 3)) || decide (size < 1)) || (decide (size > 16))) (λK' hK'=>?_) (λe c u ho he=>?_)
 ·rw[ho]
  refine jgtf (λh1=>?_) (λh1=>?_)
  ·refine jgr (hK' _ _ _ (h1▸or2_f) (by rw[h1,Bool.false_or]))
  ·exact hK' _ _ _ (h1▸or2_t) (by rw[h1,Bool.true_or])
 simp only[List.map,lc,ln,lj,and_true] at he
 simp only[he]
 rw[ho]
 refine jif (λh0=>?_) (λh0=>?_)
 ·refine mk_ret [] ?_
  have:tableRoom t owner size = none:=by
   unfold tableRoom
   rw[if_neg]
   intro hh
   simp only[Bool.or_eq_true,Bool.not_eq_true',decide_eq_true_eq,Bool.and_eq_true] at h0 hh
   rcases h0 with (((h | h) | h) | h) | h
   ·rw[hh.1.1.1.1] at h;cases h
   ·omega
   ·omega
   ·omega
   ·omega
  rw[this];exact⟨rfl,rfl⟩
 simp only[Bool.or_eq_false_iff,Bool.not_eq_false',decide_eq_false_iff_not] at h0
 obtain⟨⟨⟨⟨hok,h2⟩,h3⟩,h4⟩,h5⟩:=h0
 have n1:=(tableOk_iff.1 hok).n1
 have T:=tableOk_iff.1 hok
 have eq:tableRoom t owner size = (match (if 0≤own t owner then idx t (own t owner) else none) with
  | some x=>if x.top + size≤regionBase (own t owner) + 16 then some (t,x.top) else
    (match tableTake ((tableClose t (own t owner)).getD []) owner with | some (u,n)=>some (u,regionBase n) | none=>none)
  | none=>(match tableTake t owner with | some (u,n)=>some (u,regionBase n) | none=>none)):=by
  unfold tableRoom
  rw[if_pos (by simp[hok];omega)]
  rfl
 have tail:∀(t2:List Rg) (D2:Chs) (b2 c2:Nat) (sp2:List Value) [At D2 b2 (C T_Region (rowsE eRg t2 ++ sp2))] [Sf D2 (D ++ F)],t2.length < 1000000→tableRoom t owner size = (match tableTake t2 owner with | some (u,n)=>some (u,regionBase n) | none=>none)→
   J R D2 (CA P 23 [.slice (some ⟨b2,0,none⟩) t2.length c2,I owner] λx24=>EX 0 x24 λx25=>EX 1 x24 λx26=>EX 2 x24 λx27=>NT x27 λx28=>IF x28 (POST R F (λv _ A=>∃N,A = N ++ D∧QTake (tableRoom t owner size) v N) (.tuple #[(.slice none 0 0),(I 0),(.bool false)])) (CA P 64 [x26] λx29=>POST R F (λv _ A=>∃N,A = N ++ D∧QTake (tableRoom t owner size) v N) (.tuple #[x25,x29,(.bool true)]))):=by
  intro t2 D2 b2 c2 sp2 _ _ hl2 he2
  refine jmk (m_i_TableTake owner hl2) ?_
  intro v N hq
  cases hr:tableTake t2 owner with
  | none=>
   rw[hr] at hq he2
   obtain⟨rfl,rfl⟩:=hq
   refine jex rfl (jex rfl (jex rfl (jift (mk_ret [] ?_))))
   rw[he2];exact⟨rfl,rfl⟩
  | some un=>
   obtain⟨u,n⟩:=un
   rw[hr] at hq he2
   obtain⟨sv,⟨b3,c3,sp3,hc3,rfl,rfl⟩,rfl⟩:=hq
   refine jex rfl (jex rfl (jex rfl (jiff (jp (p_i_RegionBase n) (mk_ret [(b3,C T_Region (rowsE eRg u ++ sp3))] ?_)))))
   rw[he2]
   exact⟨_,⟨b3,c3,sp3,hc3,rfl,rfl⟩,rfl⟩
 refine jro (r_i_own owner hok) ?_
 have hfr:=find_row (λx=>x.kind == 2 && x.owner == owner) t
 rw[show findFrom (λx=>x.kind == 2 && x.owner == owner) 1 t.tail = own t owner from rfl] at hfr
 generalize own t owner = r at eq hfr
 rcases hfr with ⟨h6,_⟩ | ⟨h6,h7,h8⟩
 ·subst h6
  rw[if_neg (by decide)] at eq
  refine jcutq (λvs R' D'=>R' = R∧D' = D ++ F∧vs = [.slice (some ⟨b,0,none⟩) t.length cap,I owner,I (-1),.bool false]) (λK hK=>?_) ?_
  ·refine jcutq (λvs R' D'=>R' = R∧D' = D ++ F∧vs = [.slice (some ⟨b,0,none⟩) t.length cap,I owner,I (-1),.bool false,U,U,U,U]) (λK2 hK2=>?_) ?_
   ·exact jge (jft (hK2 _ _ _ ⟨rfl,rfl,rfl⟩))
   rintro e R2 D2 ⟨hR,hD,he⟩
   subst hR
   rw[hD];clear hD
   simp only[List.map,lc,ln,lj,and_true] at he
   simp only[he]
   exact jft (jpkf (jand jev (hK _ _ _ ⟨rfl,rfl,rfl⟩)))
  rintro e R2 D2 ⟨hR,hD,he⟩
  subst hR
  rw[hD];clear hD
  simp only[List.map,lc,ln,lj,and_true] at he
  simp only[he]
  refine jiff ?_
  refine jcutq (λvs R' D'=>R' = R2∧D' = D ++ F∧vs = [.slice (some ⟨b,0,none⟩) t.length cap,I owner]) (λK hK=>?_) ?_
  ·exact jge (jiff (hK _ _ _ ⟨rfl,rfl,rfl⟩))
  rintro e R3 D3 ⟨hR,hD,he⟩
  subst hR
  rw[hD];clear hD
  simp only[List.map,lc,ln,lj,and_true] at he
  simp only[he]
  exact tail t (D ++ F) b cap sp hl eq
 obtain⟨k,rfl⟩:∃k:Nat,r = k:=⟨r.toNat,by omega⟩
 have hk:k < t.length:=by omega
 rw[if_pos (by omega),idx_rv (by omega) (by omega),rv_at hk] at eq
 simp only at eq
 rw[rv_at hk] at h8
 simp only[Bool.and_eq_true,beq_iff_eq] at h8
 have Rk:=T.row k (by omega) (by omega)
 rw[rv_at hk] at Rk
 have rt0:=Rk.t0
 have rt1:=Rk.t1
 have hb:=base_eq (r:=(k:Int)) (by omega) (by omega)
 refine jcutq (λvs R' D'=>R' = R∧D' = D ++ F∧vs = [.slice (some ⟨b,0,none⟩) t.length cap,I owner,I k,.bool (decide ((t[k]).top + size≤regionBase k + 16))]) (λK hK=>?_) ?_
 ·refine jcutq (λvs R' D'=>R' = R∧D' = D ++ F∧vs = [.slice (some ⟨b,0,none⟩) t.length cap,I owner,I k,.bool true,.pointer (some ⟨b,0 + k * 5 + 2,none⟩),I (t[k]).top,I ((t[k]).top + size),I k]) (λK2 hK2=>?_) ?_
  ·refine jge ?_
   rw[show decide ((k:Int)≥0) = true from decide_eq_true (by omega)]
   refine jtt (jian hk ?_)
   refine jl (v:=I (t[k]).top) (by rw[Nat.zero_add];exact row_cell (f:=2) hk rfl) ?_
   exact jadd ⟨by omega,by omega⟩ (hK2 _ _ _ ⟨rfl,rfl,rfl⟩)
  rintro e R2 D2 ⟨hR,hD,he⟩
  subst hR
  rw[hD];clear hD
  simp only[List.map,lc,ln,lj,and_true] at he
  simp only[he]
  refine jtt (jp (p_i_RegionBase k) (jadd ⟨by omega,by omega⟩ (jle (jpkt (jand ?_ (hK _ _ _ ⟨rfl,rfl,rfl⟩))))))
  exact jl (v:=I (t[k]).top) (by rw[Nat.zero_add];exact row_cell (f:=2) hk rfl) jev
 rintro e R2 D2 ⟨hR,hD,he⟩
 subst hR
 rw[hD];clear hD
 simp only[List.map,lc,ln,lj,and_true] at he
 simp only[he]
 refine jif (λhc=>?_) (λhc=>?_)
 ·have hc:=of_decide_eq_true hc
  rw[if_pos hc] at eq
  refine jian hk ?_
  refine jl (v:=I (t[k]).top) (by rw[Nat.zero_add];exact row_cell (f:=2) hk rfl) ?_
  refine jmk (m_i_Clone hl) ?_
  rintro _ _ ⟨b',c',sp',hc',rfl,rfl⟩
  refine jand (jl (v:=I (t[k]).top) (by rw[Nat.zero_add];exact row_cell (f:=2) hk rfl) jev) (jand (jl (v:=I (t[k]).top) (by rw[Nat.zero_add];exact row_cell (f:=2) hk rfl) jev) ?_)
  refine mk_ret [(b',C T_Region (rowsE eRg t ++ sp'))] ?_
  rw[eq]
  exact⟨_,⟨b',c',sp',hc',rfl,rfl⟩,rfl⟩
 ·have hc:=of_decide_eq_false hc
  rw[if_neg hc] at eq
  have ecl:tableClose t k = some (seti t k { t[k] with kind:=3,owner:=-1 }):=by
   unfold tableClose
   rw[if_pos (by simp[hok];omega),idx_rv (by omega) (by omega),rv_at hk]
   simp only
   rw[if_pos (by simpa using h8.1)]
  rw[ecl] at eq
  have hl2:(seti t k { t[k] with kind:=3,owner:=-1 }).length = t.length:=by simp[seti]
  refine jcutq (λvs R' D'=>R' = R2∧∃b' c' sp',D' = (b',C T_Region (rowsE eRg (seti t k { t[k] with kind:=3,owner:=-1 }) ++ sp')) :: (D ++ F)∧vs = [.slice (some ⟨b',0,none⟩) (seti t k { t[k] with kind:=3,owner:=-1 }).length c',I owner]) (λK hK=>?_) ?_
  ·refine jge ?_
   rw[show decide ((k:Int)≥0) = true from decide_eq_true (by omega)]
   refine jift (jmk (m_i_TableClose k hl) ?_)
   rw[ecl]
   rintro _ _ ⟨sv,⟨b',c',sp',hc',rfl,rfl⟩,rfl⟩
   exact jex rfl (jex rfl (hK _ _ _ ⟨rfl,b',c',sp',rfl,rfl⟩))
  rintro e R3 D3 ⟨hR,b',c',sp',hD,he⟩
  subst hR
  rw[hD];clear hD
  simp only[List.map,lc,ln,lj,and_true] at he
  simp only[he]
  exact tail _ _ b' c' sp' (by rw[hl2];exact hl) eq
end
end Go.Lf
end
section
namespace Go.Lf
open Go Sm
theorem room_in {t:List Rg} {o z:Int} {u:List Rg} {a:Int} (h:tableRoom t o z = some (u,a)):tableOk t = true∧0≤o∧o≤3∧1≤z∧z≤16:=by
 unfold tableRoom at h
 split at h
 ·rename_i hh
  simp only[Bool.and_eq_true,decide_eq_true_eq] at hh
  exact⟨hh.1.1.1.1,hh.1.1.1.2,hh.1.1.2,hh.1.2,hh.2⟩
 ·cases h
theorem room_twice {t:List Rg} {o z:Int} {u:List Rg} {a:Int} (h:tableRoom t o z = some (u,a)):u.length = t.length∧tableRoom u o z = some (u,a):=by
 obtain⟨h0,h1,h2,h3,h4⟩:=room_in h
 rcases room_spec (tableOk_iff.1 h0) h1 h2 h3 h4 with hn | ⟨t',d,he,hr⟩
 ·rw[hn] at h;cases h
 rw[he] at h
 cases h
 refine⟨hr.len,?_⟩
 have T:=hr.ok
 have n1:=T.n1
 have hd:=hr.d0
 have hlt:a / 16 < u.length:=by
  by_cases c:a / 16 < u.length
  ·exact c
  ·have:=hr.dk
   rw[rv_out (by omega) (by omega)] at this
   cases this
 unfold tableRoom
 rw[if_pos (by simp[tableOk_iff.2 T];omega)]
 have ho:own u o = a / 16:=by
  rcases find_row (λx=>x.kind == 2 && x.owner == o) u with ⟨_,q⟩ | ⟨q1,q2,q3⟩
  ·have:=q (a / 16) (by omega) hlt
   rw[hr.dk,hr.do_] at this
   simp at this
  ·rw[show findFrom (λx=>x.kind == 2 && x.owner == o) 1 u.tail = own u o from rfl] at q1 q2 q3
   simp only[Bool.and_eq_true,beq_iff_eq] at q3
   exact T.own _ _ q1 q2 (by omega) hlt (by rw[q3.2];exact h1) (by rw[q3.2,hr.do_])
 simp only[ho]
 rw[if_pos (by omega),idx_rv (by omega) hlt]
 simp only
 have hb:=base_eq (r:=a / 16) (by omega) (by omega)
 have hf:=hr.fit
 rw[if_pos (by rw[hr.dt,hb];exact hf),hr.dt]
set_option maxHeartbeats 1000000 in
theorem w_RoomTwice {R:RM} {v:Value} (hc:Cod R v):Fn P F_w_FnRoomTwice [v] R [] (λx _ A=>x = .bool true∧A = []):=by
 refine s_w_FnRoomTwice λF=>?_
 unfold c_w_FnRoomTwice
 have hsl:∃a c n,v = .slice a n c:=by
  obtain⟨n,hf⟩:=hc
  obtain⟨a,c,e⟩:=hf.sl
  exact⟨a,c,n,e⟩
 obtain⟨ca,cc,cn,hv⟩:=hsl
 refine jln_ ⟨ca,cc,hv⟩ (jgr (jif (λ_=>jret (A:=[]) (RM.le.refl R) ⟨rfl,rfl⟩) (λ_=>?_)))
 refine jc (A:=[]) (d_DrawTableRoom hc) ?_
 rintro _ R1 _ hR1 ⟨t,tb,tc,tsp,o,z,rfl,t0,t1,t2,o0,o1,z0,z1,rfl⟩
 refine jex rfl (jex rfl (jex rfl ?_))
 refine jperm (D':=(tb,C T_Region (rowsE eRg t ++ tsp)) :: F) (List.Perm.refl _) ?_
 refine jmk (m_i_TableRoom o z (by omega)) ?_
 intro x N hq
 cases hr:tableRoom t o z with
 | none=>
  rw[hr] at hq
  obtain⟨rfl,rfl⟩:x = .tuple #[.slice none 0 0,I 0,.bool false]∧N = []:=hq
  refine jex rfl (jex rfl (jex rfl ?_))
  refine jmk (m_TableRoom o z (by omega)) ?_
  intro x' N' hq'
  rw[hr] at hq'
  obtain⟨rfl,rfl⟩:x' = .tuple #[.slice none 0 0,I 0,.bool false]∧N' = []:=hq'
  refine jex rfl (jex rfl (jex rfl ?_))
  refine jperm (D':=(tb,C T_Region (rowsE eRg t ++ tsp)) :: F) (List.Perm.refl _) ?_
  refine jor [I o,I z,.slice none 0 0,I 0,.bool false] false (λK' hK'=>?_) (λe c u ho he=>?_)
  ·exact @jxb _ _ _ _ _ _ _ (jff (jne (hK' _ _ _ or2_f rfl)))
  simp only[List.map,lc,ln,lj,and_true] at he
  simp only[he]
  rw[ho]
  exact jiff (jift (jln (jeq (jret (A:=[]) hR1 ⟨rfl,rfl⟩))))
 | some ua=>
  obtain⟨u,a⟩:=ua
  obtain⟨hul,htw⟩:=room_twice hr
  rw[hr] at hq
  obtain⟨_,⟨ub,uc,usp,huc,rfl,rfl⟩,rfl⟩:=hq
  refine jex rfl (jex rfl (jex rfl ?_))
  refine jmk (m_TableRoom (t:=t) (sp:=tsp) (b:=tb) (cap:=tc) o z (by omega)) ?_
  intro x' N' hq'
  rw[hr] at hq'
  obtain⟨_,⟨wb,wc,wsp,hwc,rfl,rfl⟩,rfl⟩:=hq'
  refine jex rfl (jex rfl (jex rfl ?_))
  refine jk1 (F:=F) ub ?_
  refine jor [I o,I z,.slice (some ⟨ub,0,none⟩) u.length uc,I a,.bool true] false (λK' hK'=>?_) (λe c u' ho he=>?_)
  ·exact @jxb _ _ _ _ _ _ _ (jff (jne (hK' _ _ _ or2_f (by simp))))
  simp only[List.map,lc,ln,lj,and_true] at he
  simp only[he]
  rw[ho]
  refine jiff (jiff ?_)
  refine jmk (m_i_TableRoom o z (by omega)) ?_
  intro x3 N3 hq3
  rw[htw] at hq3
  obtain⟨_,⟨vb,vc,vsp,hvc,rfl,rfl⟩,rfl⟩:=hq3
  refine jex rfl (jex rfl (jex rfl ?_))
  refine jperm (D':=(vb,C T_Region (rowsE eRg u ++ vsp)) :: (ub,C T_Region (rowsE eRg u ++ usp)) :: F) (List.Perm.refl _) ?_
  refine jcutq (λvs R' D'=>R' = R1∧D' = (vb,C T_Region (rowsE eRg u ++ vsp)) :: (ub,C T_Region (rowsE eRg u ++ usp)) :: F∧vs = [I a,I a,.bool true]) (λK hK=>?_) ?_
  ·refine jcutq (λvs R' D'=>R' = R1∧D' = (vb,C T_Region (rowsE eRg u ++ vsp)) :: (ub,C T_Region (rowsE eRg u ++ usp)) :: F∧vs = [I a,I a,.bool true]) (λK2 hK2=>?_) ?_
   ·refine jlp (λn vs R' D'=>R' = R1∧D' = (vb,C T_Region (rowsE eRg u ++ vsp)) :: (ub,C T_Region (rowsE eRg u ++ usp)) :: F∧∃i:Nat,i≤u.length∧n = u.length - i∧vs = [.slice (some ⟨ub,0,none⟩) u.length uc,I a,.slice (some ⟨vb,0,none⟩) u.length vc,I a,.bool true,I i]) (n:=u.length) ⟨rfl,rfl,0,by omega,rfl,rfl⟩ ?_
    rintro n e R3 D3 K3 ⟨hR,hD,i,hi,hn,he⟩ hK3
    subst hR
    rw[hD];clear hD
    simp only[List.map,lc,ln,lj,and_true] at he
    simp only[he]
    refine jan [.slice (some ⟨ub,0,none⟩) u.length uc,I a,.slice (some ⟨vb,0,none⟩) u.length vc,I a,.bool true,I i] (decide ((i:Int) < u.length)) (λK' hK'=>?_) (λe c u' ho he=>?_)
    ·exact jtt (jln (jlt (hK' _ _ _ and2_t rfl)))
    simp only[List.map,lc,ln,lj,and_true] at he
    simp only[he]
    rw[ho]
    refine jif (λhc=>?_) (λhc=>hK2 _ _ _ ⟨rfl,rfl,rfl⟩)
    have hc:=of_decide_eq_true hc
    have hiu:i < u.length:=by omega
    refine jian hiu (jlrow (sp:=vsp) hiu (jian hiu (jlrow (sp:=usp) hiu ?_)))
    refine @jxrg (u[i]) (u[i]) _ _ _ _ _ ?_
    rw[beq_self_eq_true]
    exact jiff (jadd ⟨by omega,by omega⟩ (hK3 (u.length - (i + 1)) _ _ _ (by omega) ⟨rfl,rfl,i + 1,by omega,rfl,rfl⟩))
   rintro e R3 D3 ⟨hR,hD,he⟩
   subst hR
   rw[hD];clear hD
   simp only[List.map,lc,ln,lj,and_true] at he
   simp only[he]
   exact hK _ _ _ ⟨rfl,rfl,rfl⟩
  rintro e R3 D3 ⟨hR,hD,he⟩
  subst hR
  rw[hD];clear hD
  simp only[List.map,lc,ln,lj,and_true] at he
  simp only[he]
  refine jan [] true (λK' hK'=>?_) (λe c u' ho he=>?_)
  ·exact jtt (jeq (hK' _ _ _ and2_t (by simp)))
  simp only[List.map,lc,ln,lj,and_true] at he
  simp only[he]
  rw[ho]
  exact jret (A:=[]) hR1 ⟨rfl,rfl⟩
end Go.Lf
end
section
namespace Go.Lf
open Go Sm
theorem seti_get {t:List Rg} {k i:Nat} {x:Rg} (h:i < t.length) (h' : i < (seti t k x).length):(seti t (k:Int) x)[i] = if i = k then x else t[i]:=by
 unfold seti
 simp only[Int.toNat_natCast]
 rw[List.getElem_set]
 by_cases e:k = i
 ·rw[if_pos e,if_pos e.symm]
 ·rw[if_neg e,if_neg (λh=>e h.symm)]
theorem keeps {t:List Rg} {o r:Int} {u:List Rg} (h:tableTake t o = some (u,r)):∃k:Nat,r = k∧k < t.length∧u.length = t.length∧(∀i (_:i < t.length) (_:i < u.length),i≠k→u[i] = t[i])∧
  ∃v w,tableClose u k = some v∧tableDrop v k = some w∧v.length = t.length∧w.length = t.length∧tableOk v = true∧tableOk w = true∧(∀h:k < v.length,(v[k]).kind = 3∧(v[k]).owner = -1)∧∀i (_:i < t.length) (_:i < w.length),(w[i]).kind = (t[i]).kind∧(i≠k→w[i] = t[i]):=by
 have hh:tableOk t = true∧0≤o∧o≤3∧own t o < 0:=by
  unfold tableTake at h
  split at h
  ·rename_i hh
   simp only[Bool.and_eq_true,decide_eq_true_eq] at hh
   exact⟨hh.1.1.1,hh.1.1.2,hh.1.2,hh.2⟩
  ·cases h
 obtain⟨h0,h1,h2,h3⟩:=hh
 have T:=tableOk_iff.1 h0
 have n1:=T.n1
 have Tu:TOk u:=by
  rcases take_spec (size:=1) T h1 h2 h3 (by decide) with hn | ⟨t',d,he,hr⟩
  ·rw[hn] at h;cases h
  ·rw[he] at h;cases h;exact hr.ok
 unfold tableTake at h
 rw[if_pos (by simp[h0];omega)] at h
 simp only at h
 rcases find_row (λx=>x.kind == 1) t with ⟨q,_⟩ | ⟨q1,q2,q3⟩
 ·rw[q] at h;cases h
 generalize findFrom (λx=>x.kind == 1) 1 t.tail = f at h q1 q2 q3
 rw[if_neg (by omega)] at h
 cases h
 obtain⟨k,rfl⟩:∃k:Nat,r = k:=⟨r.toNat,by omega⟩
 have hk:k < t.length:=by omega
 have hul:(seti t k ⟨2,o,regionBase k,regionBase k,0⟩).length = t.length:=by simp[seti]
 have hku:k < (seti t k ⟨2,o,regionBase k,regionBase k,0⟩).length:=by omega
 have eu:rv (seti t k ⟨2,o,regionBase k,regionBase k,0⟩) k = ⟨2,o,regionBase k,regionBase k,0⟩:=by
  rw[rv_set (by omega) (by omega) (by omega),if_pos rfl]
 have q3:(t[k]).kind = 1:=by rw[rv_at hk] at q3;simpa using q3
 refine⟨k,rfl,hk,hul,λi hi hi' hne=>by rw[seti_get hi,if_neg hne],?_⟩
 have Ru:=Tu.row k (by omega) (by omega)
 rw[eu] at Ru
 have hvl:(seti (seti t k ⟨2,o,regionBase k,regionBase k,0⟩) k ⟨3,-1,regionBase k,regionBase k,0⟩).length = t.length:=by simp[seti]
 have Tv:TOk (seti (seti t k ⟨2,o,regionBase k,regionBase k,0⟩) k ⟨3,-1,regionBase k,regionBase k,0⟩):=by
  refine Tu.set (by omega) (by omega) ⟨by show (1:Int)≤3;decide,by show (3:Int)≤4;decide,Ru.t0,Ru.t1,Ru.s0,Ru.s1,Ru.l0,Ru.l1,λh=>absurd h (by show ¬ (3:Int) = 1;decide),?_,by show (-1:Int)≤-1;decide,by show (-1:Int)≤3;decide⟩ λs _ _ _ ho=>absurd ho (by show ¬ (0:Int)≤-1;decide)
  show (3:Int) = 2↔(0:Int)≤-1
  decide
 have ev:rv (seti (seti t k ⟨2,o,regionBase k,regionBase k,0⟩) k ⟨3,-1,regionBase k,regionBase k,0⟩) k = ⟨3,-1,regionBase k,regionBase k,0⟩:=by
  rw[rv_set (by omega) (by omega) (by omega),if_pos rfl]
 obtain⟨d1,d2⟩:=drop_spec Tv (r:=k) (by omega) (by omega) (by rw[ev];show ¬ (3:Int) = 1;decide)
 refine⟨_,_,?_,d1,hvl,by simp[seti],tableOk_iff.2 Tv,tableOk_iff.2 d2,λh=>?_,λi hi hi'=>?_⟩
 ·unfold tableClose
  rw[if_pos (by simp[tableOk_iff.2 Tu];omega),idx_rv (by omega) (by omega),eu]
  rfl
 ·rw[← rv_at h,ev];exact⟨rfl,rfl⟩
 ·have e1:=seti_get (t:=seti (seti t k ⟨2,o,regionBase k,regionBase k,0⟩) k ⟨3,-1,regionBase k,regionBase k,0⟩) (k:=k) (i:=i) (x:=free k) (by omega) hi'
  have e2:=seti_get (t:=seti t k ⟨2,o,regionBase k,regionBase k,0⟩) (k:=k) (i:=i) (x:=⟨3,-1,regionBase k,regionBase k,0⟩) (by omega) (by omega)
  have e3:=seti_get (t:=t) (k:=k) (i:=i) (x:=⟨2,o,regionBase k,regionBase k,0⟩) hi (by omega)
  rw[e1,e2,e3]
  by_cases c:i = k
  ·subst c
   rw[if_pos rfl,q3]
   exact⟨rfl,λh=>(h rfl).elim⟩
  ·rw[if_neg c,if_neg c,if_neg c]
   exact⟨rfl,λ_=>rfl⟩
set_option maxHeartbeats 2000000 in
theorem w_TableKeeps {R:RM} {v:Value} (hc:Cod R v):Fn P F_w_FnTableKeeps [v] R [] (λx _ A=>x = .bool true∧A = []):=by
 refine s_w_FnTableKeeps λF=>?_
 unfold c_w_FnTableKeeps
 have hsl:∃a c n,v = .slice a n c:=by
  obtain⟨n,hf⟩:=hc
  obtain⟨a,c,e⟩:=hf.sl
  exact⟨a,c,n,e⟩
 obtain⟨ca,cc,cn,hv⟩:=hsl
 refine jln_ ⟨ca,cc,hv⟩ (jgr (jif (λ_=>jret (A:=[]) (RM.le.refl R) ⟨rfl,rfl⟩) (λ_=>?_)))
 refine jc (A:=[]) (d_DrawTableTake hc) ?_
 rintro _ R1 _ hR1 ⟨t,tb,tc,tsp,o,rfl,t0,t1,t2,o0,o1,rfl⟩
 refine jex rfl (jex rfl ?_)
 refine jperm (D':=(tb,C T_Region (rowsE eRg t ++ tsp)) :: F) (List.Perm.refl _) ?_
 refine jmk (m_i_TableTake o (by omega)) ?_
 intro x N hq
 cases hr:tableTake t o with
 | none=>
  rw[hr] at hq
  obtain⟨rfl,rfl⟩:x = .tuple #[.slice none 0 0,I 0,.bool false]∧N = []:=hq
  refine jex rfl (jex rfl (jex rfl ?_))
  refine jmk (m_TableTake o (by omega)) ?_
  intro x' N' hq'
  rw[hr] at hq'
  obtain⟨rfl,rfl⟩:x' = .tuple #[.slice none 0 0,I 0,.bool false]∧N' = []:=hq'
  refine jex rfl (jex rfl (jex rfl ?_))
  refine jperm (D':=(tb,C T_Region (rowsE eRg t ++ tsp)) :: F) (List.Perm.refl _) ?_
  refine jor [.slice (some ⟨tb,0,none⟩) t.length tc,.slice none 0 0,I 0,.bool false,.slice none 0 0] false (λK' hK'=>?_) (λe c u ho he=>?_)
  ·exact @jxb _ _ _ _ _ _ _ (jff (jne (hK' _ _ _ or2_f rfl)))
  simp only[List.map,lc,ln,lj,and_true] at he
  simp only[he]
  refine jor [.slice (some ⟨tb,0,none⟩) t.length tc,.slice none 0 0,I 0,.bool false,.slice none 0 0] false (λK' hK'=>?_) (λe c u ho he=>?_)
  ·rw[ho]
   exact jff (jln (jln (jne (hK' _ _ _ or2_f rfl))))
  simp only[List.map,lc,ln,lj,and_true] at he
  simp only[he]
  rw[ho]
  refine jiff (jift ?_)
  refine jan [] true (λK' hK'=>?_) (λe c u ho he=>?_)
  ·exact jln (jeq (jtt (jeq (hK' _ _ _ and2_t rfl))))
  simp only[List.map,lc,ln,lj,and_true] at he
  simp only[he]
  rw[ho]
  exact jret (A:=[]) hR1 ⟨rfl,rfl⟩
 | some ur=>
  obtain⟨u,r⟩:=ur
  obtain⟨k,hrk,hk,hul,hut,v,w,hcl,hdr,hvl,hwl,okv,okw,hvk,hwt⟩:=keeps hr
  subst hrk
  rw[hr] at hq
  obtain⟨_,⟨ub,uc,usp,huc,rfl,rfl⟩,rfl⟩:=hq
  refine jex rfl (jex rfl (jex rfl ?_))
  refine jmk (m_TableTake (t:=t) (sp:=tsp) (b:=tb) (cap:=tc) o (by omega)) ?_
  intro x' N' hq'
  rw[hr] at hq'
  obtain⟨_,⟨wb,wc,wsp,hwc,rfl,rfl⟩,rfl⟩:=hq'
  refine jex rfl (jex rfl (jex rfl ?_))
  refine jperm (D':=(wb,C T_Region (rowsE eRg u ++ wsp)) :: (ub,C T_Region (rowsE eRg u ++ usp)) :: (tb,C T_Region (rowsE eRg t ++ tsp)) :: F) (List.Perm.refl _) ?_
  refine jor [.slice (some ⟨tb,0,none⟩) t.length tc,.slice (some ⟨ub,0,none⟩) u.length uc,I k,.bool true,.slice (some ⟨wb,0,none⟩) u.length wc] false (λK' hK'=>?_) (λe c u' ho he=>?_)
  ·exact @jxb _ _ _ _ _ _ _ (jff (jne (hK' _ _ _ or2_f (by simp))))
  simp only[List.map,lc,ln,lj,and_true] at he
  simp only[he]
  refine jor [.slice (some ⟨tb,0,none⟩) t.length tc,.slice (some ⟨ub,0,none⟩) u.length uc,I k,.bool true,.slice (some ⟨wb,0,none⟩) u.length wc] false (λK' hK'=>?_) (λe c u' ho he=>?_)
  ·rw[ho]
   exact jff (jln (jln (jne (hK' _ _ _ or2_f (by simp)))))
  simp only[List.map,lc,ln,lj,and_true] at he
  simp only[he]
  rw[ho]
  refine jiff (jiff ?_)
  refine jcutq (λvs R' D'=>R' = R1∧D' = (wb,C T_Region (rowsE eRg u ++ wsp)) :: (ub,C T_Region (rowsE eRg u ++ usp)) :: (tb,C T_Region (rowsE eRg t ++ tsp)) :: F∧vs = [.slice (some ⟨tb,0,none⟩) t.length tc,.slice (some ⟨ub,0,none⟩) u.length uc,I k]) (λK hK=>?_) ?_
  ·refine jcutq (λvs R' D'=>R' = R1∧D' = (wb,C T_Region (rowsE eRg u ++ wsp)) :: (ub,C T_Region (rowsE eRg u ++ usp)) :: (tb,C T_Region (rowsE eRg t ++ tsp)) :: F∧vs = [.slice (some ⟨tb,0,none⟩) t.length tc,.slice (some ⟨ub,0,none⟩) u.length uc,I k]) (λK2 hK2=>?_) ?_
   ·refine jlp (λn vs R' D'=>R' = R1∧D' = (wb,C T_Region (rowsE eRg u ++ wsp)) :: (ub,C T_Region (rowsE eRg u ++ usp)) :: (tb,C T_Region (rowsE eRg t ++ tsp)) :: F∧∃i:Nat,i≤u.length∧n = u.length - i∧vs = [.slice (some ⟨tb,0,none⟩) t.length tc,.slice (some ⟨ub,0,none⟩) u.length uc,I k,.slice (some ⟨wb,0,none⟩) u.length wc,I i]) (n:=u.length) ⟨rfl,rfl,0,by omega,rfl,rfl⟩ ?_
    rintro n e R3 D3 K3 ⟨hR,hD,i,hi,hn,he⟩ hK3
    subst hR
    rw[hD];clear hD
    simp only[List.map,lc,ln,lj,and_true] at he
    simp only[he]
    refine jln (jlt (jif (λhc=>?_) (λhc=>hK2 _ _ _ ⟨rfl,rfl,rfl⟩)))
    have hc:=of_decide_eq_true hc
    have hiu:i < u.length:=by omega
    have hit:i < t.length:=by omega
    refine jcutq (λvs R' D'=>R' = R3∧D' = (wb,C T_Region (rowsE eRg u ++ wsp)) :: (ub,C T_Region (rowsE eRg u ++ usp)) :: (tb,C T_Region (rowsE eRg t ++ tsp)) :: F∧vs = [.slice (some ⟨tb,0,none⟩) t.length tc,.slice (some ⟨ub,0,none⟩) u.length uc,I k,.slice (some ⟨wb,0,none⟩) u.length wc,I i,.bool false]) (λK4 hK4=>?_) ?_
    rotate_left
    ·rintro e R4 D4 ⟨hR,hD,he⟩
     subst hR
     rw[hD];clear hD
     simp only[List.map,lc,ln,lj,and_true] at he
     simp only[he]
     exact jiff (jadd ⟨by omega,by omega⟩ (hK3 (u.length - (i + 1)) _ _ _ (by omega) ⟨rfl,rfl,i + 1,by omega,rfl,rfl⟩))
    refine jian hiu (jlrow (sp:=usp) hiu (jian hiu (jlrow (sp:=wsp) hiu ?_)))
    refine @jxrg (u[i]) (u[i]) _ _ _ _ _ ?_
    rw[beq_self_eq_true]
    refine jcutq (λvs R' D'=>R' = R3∧D' = (wb,C T_Region (rowsE eRg u ++ wsp)) :: (ub,C T_Region (rowsE eRg u ++ usp)) :: (tb,C T_Region (rowsE eRg t ++ tsp)) :: F∧((i≠k∧vs = [.slice (some ⟨tb,0,none⟩) t.length tc,.slice (some ⟨ub,0,none⟩) u.length uc,I k,.slice (some ⟨wb,0,none⟩) u.length wc,I i,.bool false,.bool true,.agg (eRg (t[i])).toArray,.agg (eRg (t[i])).toArray])∨vs = [.slice (some ⟨tb,0,none⟩) t.length tc,.slice (some ⟨ub,0,none⟩) u.length uc,I k,.slice (some ⟨wb,0,none⟩) u.length wc,I i,.bool false,.bool false,U,U])) (λK5 hK5=>?_) ?_
    ·refine jff (jne ?_)
     by_cases c:i = k
     ·rw[show ((i:Int) != k) = false from bne_eq_false_iff_eq.2 (by omega)]
      exact jft (hK5 _ _ _ ⟨rfl,rfl,.inr rfl⟩)
     ·rw[show ((i:Int) != k) = true from bne_iff_ne.2 (by omega)]
      refine jtt (jian hiu (jlrow (sp:=usp) hiu (jian hit (jlrow (sp:=tsp) hit ?_))))
      rw[hut i hit hiu c]
      exact hK5 _ _ _ ⟨rfl,rfl,.inl ⟨c,rfl⟩⟩
    rintro e R4 D4 ⟨hR,hD,he⟩
    subst hR
    rw[hD];clear hD
    rcases he with ⟨_,he⟩ | he
    ·simp only[List.map,lc,ln,lj,and_true] at he
     simp only[he]
     refine jtt ?_
     refine @jxrg (t[i]) (t[i]) _ _ _ _ _ ?_
     rw[beq_self_eq_true]
     refine jor [.slice (some ⟨tb,0,none⟩) t.length tc,.slice (some ⟨ub,0,none⟩) u.length uc,I k,.slice (some ⟨wb,0,none⟩) u.length wc,I i] false (λK' hK'=>?_) (λe c u' ho he=>?_)
     ·exact jff (jpkt (hK' _ _ _ or2_f rfl))
     simp only[List.map,lc,ln,lj,and_true] at he
     simp only[he]
     rw[ho]
     exact hK4 _ _ _ ⟨rfl,rfl,rfl⟩
    ·simp only[List.map,lc,ln,lj,and_true] at he
     simp only[he]
     refine jft ?_
     refine jor [.slice (some ⟨tb,0,none⟩) t.length tc,.slice (some ⟨ub,0,none⟩) u.length uc,I k,.slice (some ⟨wb,0,none⟩) u.length wc,I i] false (λK' hK'=>?_) (λe c u' ho he=>?_)
     ·exact jff (jpkf (hK' _ _ _ or2_f rfl))
     simp only[List.map,lc,ln,lj,and_true] at he
     simp only[he]
     rw[ho]
     exact hK4 _ _ _ ⟨rfl,rfl,rfl⟩
   rintro e R3 D3 ⟨hR,hD,he⟩
   subst hR
   rw[hD];clear hD
   simp only[List.map,lc,ln,lj,and_true] at he
   simp only[he]
   exact hK _ _ _ ⟨rfl,rfl,rfl⟩
  rintro e R3 D3 ⟨hR,hD,he⟩
  subst hR
  rw[hD];clear hD
  simp only[List.map,lc,ln,lj,and_true] at he
  simp only[he]
  refine jmk (m_i_TableClose (t:=u) (sp:=usp) (b:=ub) (cap:=uc) k (by omega)) ?_
  rw[hcl]
  rintro _ _ ⟨_,⟨vb,vc,vsp,hvc,rfl,rfl⟩,rfl⟩
  refine jex rfl (jex rfl ?_)
  refine jmk (m_i_TableDrop (t:=v) (sp:=vsp) (b:=vb) (cap:=vc) k (by omega)) ?_
  rw[hdr]
  rintro _ _ ⟨_,⟨xb,xc,xsp,hxc,rfl,rfl⟩,rfl⟩
  refine jex rfl (jex rfl ?_)
  refine jk3 (F:=F) xb vb tb ?_
  have hkv:k < v.length:=by omega
  obtain⟨hv1,hv2⟩:=hvk hkv
  refine jor [.slice (some ⟨tb,0,none⟩) t.length tc,I k,.slice (some ⟨vb,0,none⟩) v.length vc,.slice (some ⟨xb,0,none⟩) w.length xc] false (λK' hK'=>?_) (λe c u' ho he=>?_)
  ·exact jff (hK' _ _ _ or2_f rfl)
  simp only[List.map,lc,ln,lj,and_true] at he
  simp only[he]
  refine jor [.slice (some ⟨tb,0,none⟩) t.length tc,I k,.slice (some ⟨vb,0,none⟩) v.length vc,.slice (some ⟨xb,0,none⟩) w.length xc] false (λK' hK'=>?_) (λe c u' ho he=>?_)
  ·rw[ho]
   refine jff (jian hkv (jl (v:=I (v[k]).kind) (by rw[Nat.zero_add];exact row_cell (f:=0) hkv rfl) (jne (hK' _ _ _ or2_f ?_))))
   rw[hv1];rfl
  simp only[List.map,lc,ln,lj,and_true] at he
  simp only[he]
  refine jor [.slice (some ⟨tb,0,none⟩) t.length tc,I k,.slice (some ⟨vb,0,none⟩) v.length vc,.slice (some ⟨xb,0,none⟩) w.length xc] false (λK' hK'=>?_) (λe c u' ho he=>?_)
  ·rw[ho]
   refine jff (jian hkv (jl (v:=I (v[k]).owner) (by rw[Nat.zero_add];exact row_cell (f:=1) hkv rfl) (jne (hK' _ _ _ or2_f ?_))))
   rw[hv2];rfl
  simp only[List.map,lc,ln,lj,and_true] at he
  simp only[he]
  refine jor [.slice (some ⟨tb,0,none⟩) t.length tc,I k,.slice (some ⟨xb,0,none⟩) w.length xc] false (λK' hK'=>?_) (λe c u' ho he=>?_)
  ·rw[ho]
   refine jff (jro (r_i_TableOk (t:=v) (sp:=vsp) (b:=vb) (cap:=vc) (by omega)) (hK' _ _ _ or2_f ?_))
   rw[okv];rfl
  simp only[List.map,lc,ln,lj,and_true] at he
  simp only[he]
  refine jor [.slice (some ⟨tb,0,none⟩) t.length tc,I k,.slice (some ⟨xb,0,none⟩) w.length xc] false (λK' hK'=>?_) (λe c u' ho he=>?_)
  ·rw[ho]
   refine jff (jro (r_i_TableOk (t:=w) (sp:=xsp) (b:=xb) (cap:=xc) (by omega)) (hK' _ _ _ or2_f ?_))
   rw[okw];rfl
  simp only[List.map,lc,ln,lj,and_true] at he
  simp only[he]
  rw[ho]
  refine jiff ?_
  refine jlp (λn vs R' D'=>R' = R3∧D' = (xb,C T_Region (rowsE eRg w ++ xsp)) :: (vb,C T_Region (rowsE eRg v ++ vsp)) :: (tb,C T_Region (rowsE eRg t ++ tsp)) :: F∧∃i:Nat,i≤w.length∧n = w.length - i∧vs = [.slice (some ⟨tb,0,none⟩) t.length tc,I k,.slice (some ⟨xb,0,none⟩) w.length xc,I i]) (n:=w.length) ⟨rfl,rfl,0,by omega,rfl,rfl⟩ ?_
  rintro n e R4 D4 K3 ⟨hR,hD,i,hi,hn,he⟩ hK3
  subst hR
  rw[hD];clear hD
  simp only[List.map,lc,ln,lj,and_true] at he
  simp only[he]
  refine jln (jlt (jif (λhc=>?_) (λhc=>jret (A:=[]) hR1 ⟨rfl,rfl⟩)))
  have hc:=of_decide_eq_true hc
  have hiw:i < w.length:=by omega
  have hit:i < t.length:=by omega
  obtain⟨w1,w2⟩:=hwt i hit hiw
  refine jcutq (λvs R' D'=>R' = R4∧D' = (xb,C T_Region (rowsE eRg w ++ xsp)) :: (vb,C T_Region (rowsE eRg v ++ vsp)) :: (tb,C T_Region (rowsE eRg t ++ tsp)) :: F∧vs = [.slice (some ⟨tb,0,none⟩) t.length tc,I k,.slice (some ⟨xb,0,none⟩) w.length xc,I i,.bool false]) (λK4 hK4=>?_) ?_
  rotate_left
  ·rintro e R5 D5 ⟨hR,hD,he⟩
   subst hR
   rw[hD];clear hD
   simp only[List.map,lc,ln,lj,and_true] at he
   simp only[he]
   exact jiff (jadd ⟨by omega,by omega⟩ (hK3 (w.length - (i + 1)) _ _ _ (by omega) ⟨rfl,rfl,i + 1,by omega,rfl,rfl⟩))
  refine jcutq (λvs R' D'=>R' = R4∧D' = (xb,C T_Region (rowsE eRg w ++ xsp)) :: (vb,C T_Region (rowsE eRg v ++ vsp)) :: (tb,C T_Region (rowsE eRg t ++ tsp)) :: F∧(vs = [.slice (some ⟨tb,0,none⟩) t.length tc,I k,.slice (some ⟨xb,0,none⟩) w.length xc,I i,.bool false,.bool true,.agg (eRg (t[i])).toArray,.agg (eRg (t[i])).toArray]∨vs = [.slice (some ⟨tb,0,none⟩) t.length tc,I k,.slice (some ⟨xb,0,none⟩) w.length xc,I i,.bool false,.bool false,U,U])) (λK5 hK5=>?_) ?_
  ·refine jian hiw (jl (v:=I (w[i]).kind) (by rw[Nat.zero_add];exact row_cell (f:=0) hiw rfl) ?_)
   refine jian hit (jl (v:=I (t[i]).kind) (by rw[Nat.zero_add];exact row_cell (f:=0) hit rfl) (jne ?_))
   rw[show ((w[i]).kind != (t[i]).kind) = false from bne_eq_false_iff_eq.2 w1]
   refine jff (jne ?_)
   by_cases c:i = k
   ·rw[show ((i:Int) != k) = false from bne_eq_false_iff_eq.2 (by omega)]
    exact jft (hK5 _ _ _ ⟨rfl,rfl,.inr rfl⟩)
   ·rw[show ((i:Int) != k) = true from bne_iff_ne.2 (by omega)]
    refine jtt (jian hiw (jlrow (sp:=xsp) hiw (jian hit (jlrow (sp:=tsp) hit ?_))))
    rw[w2 c]
    exact hK5 _ _ _ ⟨rfl,rfl,.inl rfl⟩
  rintro e R5 D5 ⟨hR,hD,he⟩
  subst hR
  rw[hD];clear hD
  rcases he with he | he
  ·simp only[List.map,lc,ln,lj,and_true] at he
   simp only[he]
   refine jtt ?_
   refine @jxrg (t[i]) (t[i]) _ _ _ _ _ ?_
   rw[beq_self_eq_true]
   refine jor [.slice (some ⟨tb,0,none⟩) t.length tc,I k,.slice (some ⟨xb,0,none⟩) w.length xc,I i] false (λK' hK'=>?_) (λe c u' ho he=>?_)
   ·exact jff (jpkt (hK' _ _ _ or2_f rfl))
   simp only[List.map,lc,ln,lj,and_true] at he
   simp only[he]
   rw[ho]
   exact hK4 _ _ _ ⟨rfl,rfl,rfl⟩
  ·simp only[List.map,lc,ln,lj,and_true] at he
   simp only[he]
   refine jft ?_
   refine jor [.slice (some ⟨tb,0,none⟩) t.length tc,I k,.slice (some ⟨xb,0,none⟩) w.length xc,I i] false (λK' hK'=>?_) (λe c u' ho he=>?_)
   ·exact jff (jpkf (hK' _ _ _ or2_f rfl))
   simp only[List.map,lc,ln,lj,and_true] at he
   simp only[he]
   rw[ho]
   exact hK4 _ _ _ ⟨rfl,rfl,rfl⟩
end Go.Lf
end
section
namespace Go.Lf
open Go Sm
structure Blk (w w' : World):Prop where
 same:Same w w'
 block:∀k,k < w.heap.size→w'.heap[k]? = w.heap[k]?
theorem Blk.frame {W w' : World} (h:Blk W w') (may:MemPlace→Prop):W.keptBut w' may:=by
 refine⟨h.same.1,h.same.2,λi hi=>?_⟩
 rw[h.block i hi]
 split<;>simp_all
theorem Blk.at_ {W w' : World} (h:Blk W w') {p:MemPlace} (hp:p.block < W.heap.size):W.sameAt w' p:=by
 cases p with
 | cell b o=>exact World.cell?_of_block (w:=W) (h.block b hp)
 | map b=>exact h.block b hp
def IsRow (w:World) (a:Option Addr) (len cap:Nat) (zs:List Int):Prop:=
 (a = none∧len = 0∧cap = 0∧zs = [])∨
 ∃x,a = some x∧len≤cap∧zs.length = cap∧(∀i,i < zs.length→w.cell? (x.add i) = some (.int .u8 (zs.getD i 0)))∧∀n∈zs,(Lit.int .u8 n).wf = true
theorem cod_of {w:World} {a:Option Addr} {len cap:Nat} {zs:List Int} (h:IsRow w a len cap zs):Cod (λb=>w.heap[b]?) (.slice a len cap):=by
 rcases h with ⟨rfl,rfl,rfl,rfl⟩ | ⟨x,rfl,hl,hz,hcell,hwz⟩
 ·exact⟨0,none,0,rfl,Nat.le_refl _,.inl rfl⟩
 ·by_cases h0:len = 0
  ·exact⟨len,some x,cap,rfl,hl,.inl h0⟩
  ·obtain⟨b,off,spot⟩:=x
   have hc:=hcell 0 (by omega)
   have hspot:spot = none:=by simpa [Addr.add] using World.cell?_spot hc
   subst hspot
   refine⟨len,_,cap,rfl,hl,.inr ⟨b,off,rfl,λi hi=>?_⟩⟩
   have hi' : i < zs.length:=by omega
   have hc:=hcell i hi'
   have hw:=hwz (zs.getD i 0) (by simp[List.getD,hi'])
   rw[show (⟨b,off,none⟩:Addr).add i = ⟨b,off + i,none⟩ by simp[Addr.add],hc_eq] at hc
   unfold Go.Lf.hc at hc
   split at hc
   ·rename_i cs t fz hb
    refine⟨t,cs,fz,_,hb,hc,?_⟩
    have hr:∀n:Int,(Lit.int .u8 n).wf = true→0≤n∧n < 256:=λn hn=>by
     have h2:(decide (0≤n) && decide (n≤255)) = true:=hn
     simp only[Bool.and_eq_true,decide_eq_true_eq] at h2
     omega
    exact hr _ hw
   ·cases hc
theorem law_walk {f:Nat} (hw:∀(R:RM) (v:Value),Cod R v→Fn P f [v] R [] (λx _ A=>x = .bool true∧A = [])) {w:World} {a:Option Addr} {len cap:Nat} {zs:List Int} (h:IsRow w a len cap zs) :
  Calls P f #[.slice a len cap] w λe w'=>e = .returned (.bool true)∧Blk w w':=by
 have h1:=hw _ _ (cod_of h) [] w.heap ⟨λb o hb=>hb,(λb o hm=>by cases hm),List.nodup_nil⟩ w rfl
 refine h1.mono ?_
 rintro e w' ⟨v,rfl,hs,R',A',h2,h3,rfl,h4⟩
 refine⟨rfl,hs,λk hk=>?_⟩
 have:=h3.rd k _ (h2 k _ (Array.getElem?_eq_getElem hk))
 rw[this,Array.getElem?_eq_getElem hk]
end Go.Lf
end
section
namespace Go.Proofs.YteefnapldidgcaaGreat.fnRoomTwice
open Go Go.Lf
open Go.ChangeShapes Go.WideShapes Go.ChangeAt Go.RowKit
set_option linter.unusedVariables false
theorem own:ownKnob Tryz.prog.godebug = none:=by kernel_rfl
theorem laidOut:laidOutB Tryz.prog = true:=by kernel_rfl
set_option maxRecDepth 100000 in
theorem lifted (os:Os) (started:os.Started) (H:Type) (enc:TypeId × Value→H) :
  ReturnsInHanded {} Tryz.checked os 7 .any (Rows.fnRoomTwiceSpec.pre6 enc Tryz.prog Tryz.f7 Rows.fnRoomTwiceRow.domain false) (Rows.fnRoomTwiceSpec.post enc Tryz.prog Tryz.f7 false true false false):=by
 refine returnsInHanded_of_change (C:=Tryz.checked) own started (by kernel_rfl) Tryz.func7
  (ChangeSpec.witness6 (enc:=enc) (C:=Tryz.checked) false ⟨#[],#[.slice none 0 0],[]⟩ 8 (by kernel_rfl) (by kernel_rfl) (by kernel_rfl) (by kernel_rfl)) ?_
 intro W base args ds gs before hval0 hW hcnd _
 have hval:∀(j:Nat) t v,Tryz.f7.params[j]? = some t→args[j]? = some v→Value.okWide Tryz.prog W .any base t v:=hval0
 have hW':=hW
 obtain⟨p,q,hA0,hV,rfl,hfz,hnd⟩:=hW
 have hA:DataW.TrodAll enc Tryz.prog W 0 (λ_=>true) true Tryz.f7.params.toList args.toList ds p:=hA0
 rw[Tryz.params7] at hA hval
 obtain⟨v0,vs0,d0,ds0,p0,q0,hargs,rfl,rfl,h0,r0⟩:=trodAll_cons hA
 obtain⟨rfl,rfl,rfl⟩:=trodAll_nil r0
 obtain rfl:args = #[v0]:=by cases args;simp_all
 obtain⟨rfl,rfl⟩:=trodVars_none hV
 obtain⟨a0,len0,cap0,rfl⟩:=okWide_slice Tryz.underlying22 (hval 0 22 v0 rfl rfl)
 have k0:=h0
 have lt0:∀x∈p0,x.block < W.heap.size:=by obtain⟨m,hm⟩:=k0;exact DataW.trod_lt m _ _ _ hm
 obtain⟨z0,w0⟩:∃zs,IsRow W a0 len0 cap0 zs:=by
  obtain⟨fuel,hf⟩:=h0
  rcases open_ints Tryz.underlying22 Tryz.underlying5 (by kernel_rfl) hf with ⟨hcs,_⟩ | ⟨x,l,c,zs,hcs,_,hl,hm,hz,_,hcell,hwz⟩
  ·simp[Value.cells] at hcs
   obtain⟨rfl,rfl,rfl⟩:=hcs
   exact⟨[],.inl ⟨rfl,rfl,rfl,rfl⟩⟩
  ·simp[Value.cells] at hcs
   obtain⟨rfl,rfl,rfl⟩:=hcs
   exact⟨zs,.inr ⟨_,rfl,hl,by simpa using hz,hcell,hwz⟩⟩
 clear hA0 hval0
 refine (law_walk (f:=7) (λR v h=>w_RoomTwice h) w0).mono λe W' ⟨he,bel⟩=>?_
 subst he
 have hst:DataW.Trod enc Tryz.prog W' 0 (λb=>decide (b < W.heap.size)) true 22 (Value.slice a0 len0 cap0) d0 p0:=WideElems.Trod_stays laidOut (by kernel_rfl) (of_decide_eq_true (by kernel_rfl)) k0 (λx hx=>bel.at_ (lt0 x hx)) (λx hx=>by simpa using lt0 x hx)
 exact⟨_,rfl,_,_,_,[],_,[],hW',trodAll_mk1 (shut_bool Tryz.underlying4 _),trodAll_mk1 hst,rfl,bel.frame _,λh=>by cases h⟩
theorem over:Rows.fnRoomTwiceRow.holds Tryz.pinned (OpenSpec.ofChange Rows.fnRoomTwiceSpec):=
 OpenClaim.holds_of_wide 7 Tryz.f7 rfl rfl rfl rfl rfl rfl rfl ⟨rfl,rfl,rfl,rfl,rfl⟩ rfl rfl rfl rfl rfl (by kernel_rfl) Tryz.func7 (by kernel_rfl)
  (of_decide_eq_true (by kernel_rfl)) (by unfold Func.isWrapper;rw[if_neg (of_decide_eq_false (by kernel_rfl))];exact⟨rfl,rfl⟩)
  (λos started H enc _=>lifted os started H enc)
theorem proved:Rows.FnRoomTwiceSaid:=over
#print axioms proved
end Go.Proofs.YteefnapldidgcaaGreat.fnRoomTwice
end
