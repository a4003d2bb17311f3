/- A part of the proof of the given row: the walk of the law and of all that it calls. Conditions: none. -/
import Derived.Test.YtoajhnhjmhdfdaaGreatVM
set_option linter.unusedVariables false
set_option linter.unusedSimpArgs false
section
namespace Go.Lf
open Go Sm
set_option maxHeartbeats 4000000 in
theorem t_l7Full {R:RM} {s s' : Sm.State} {wv tv mv thv ov pv:Value} (h:StC R s wv tv mv thv ov pv) (hw:s.words.length≤1000) (ht0:2≤s.table.length) (ht1:s.table.length≤12) (hth:s.threads.length < 1000000) (hrl:∀t∈s.threads,t.roots.length < 1000000)
  (hpl:s.pins.length < 1000000) (hp:∀a∈s.pins,regionOf a≤9223372036854775807) (hS:fullS s = some s') :
  Fn P F_s_l7Full [.agg (eSt s wv tv mv thv ov pv).toArray] R [] (λv R' A=>∃bw wsp cw bt tsp ct bm thv' pv',s'.words.length = s.words.length∧s'.table.length = s.table.length∧s'.marks.length = s.words.length∧s'.words.length≤cw∧s'.table.length≤ct∧Ths R' thv' s'.threads∧Ints R' pv' s'.pins∧
   A = [(bw,C T_int (s'.words.map I ++ wsp)),(bt,C T_Region (rowsE eRg s'.table ++ tsp)),(bm,C T_bool (s'.marks.map Value.bool))]∧
   v = .agg (eSt s' (.slice (some ⟨bw,0,none⟩) s'.words.length cw) (.slice (some ⟨bt,0,none⟩) s'.table.length ct) (.slice (some ⟨bm,0,none⟩) s'.marks.length s'.marks.length) thv' (.slice none 0 0) pv').toArray):=by
 refine s_s_l7Full λF=>?_
 unfold c_s_l7Full
 unfold fullS at hS
 obtain⟨live0,hreach,hS⟩:=bind_some hS
 obtain⟨⟨w1,t1⟩,hstay,hS⟩:=bind_some hS
 obtain⟨⟨t2,to_⟩,hslide,hS⟩:=bind_some hS
 obtain⟨w2,hmove,hS⟩:=bind_some hS
 obtain⟨ths,hths,hS⟩:=bind_some hS
 obtain⟨fulls,hful,hS⟩:=bind_some hS
 simp only[Option.some.injEq] at hS
 refine ja λb1=>?_
 rw[show cl (.agg (eSt s wv tv mv thv ov pv).toArray) = eSt s wv tv mv thv ov pv from rfl]
 refine ja λb2=>?_
 refine jla (l:=eSt s wv tv mv thv ov pv) (by exact z_n 13) rfl ?_
 refine jc (A:=[]) (t_l6Things h (by omega) (by omega)) ?_
 rintro v R1 _ hR1 ⟨rfl,hq⟩
 have hl0:∃lv ok,v = .tuple #[lv,.bool ok]∧Tgs R1 lv ((stThings s).getD []):=by
  cases hst:stThings s with
  | none=>rw[hst] at hq;exact⟨_,_,hq,[],Rw.nil,.inl ⟨rfl,rfl,rfl⟩⟩
  | some l=>rw[hst] at hq;obtain⟨lv,h1,h2⟩:=hq;exact⟨lv,true,h2,h1⟩
 have htb:TB ((stThings s).getD [])∧((stThings s).getD []).length≤16 * s.table.length:=by
  cases hst:stThings s with
  | none=>exact⟨λt ht=>(by cases ht),by simp⟩
  | some l=>
   unfold stThings at hst
   have:=all_tb (by omega) hst
   rw[List.length_tail] at this
   exact⟨this.1,by simp;omega⟩
 generalize (stThings s).getD [] = l at hl0 htb hreach hstay hslide hmove hths
 obtain⟨lv,okb,rfl,hlv⟩:=hl0
 obtain⟨htb,hll⟩:=htb
 have hlen0:=reached_len hreach
 refine jex rfl (jex rfl ?_)
 refine jla (l:=eSt s wv tv mv thv ov pv) (by exact z_n 13) rfl ?_
 have h1:=h.le hR1
 refine jc (A:=[]) (t_l7Reached h1 hlv (by omega) hreach hth (λt ht=>by have:=hrl t ht;omega) hpl (λt ht=>by have:=(htb t ht).2.2.1;omega)) ?_
 rintro v8 R2 A8 hR2 so8
 refine jfso so8 λR3 hR3 hi8=>?_
 refine jc (A:=[]) (t_l7Sorted hi8 (by omega)) ?_
 rintro v9 R4 A9 hR4 ⟨hRR,so9⟩
 subst hRR
 refine jfso so9 λR5 hR5 hi9=>?_
 have hR35:=(hR2.trans hR3).trans hR5
 have h5:=h1.le hR35
 have hlv5:=hlv.le hR35
 have hslen:(sorted live0).length = live0.length:=by have:=sorted_len live0 [];simpa [sorted] using this
 generalize hlive:sorted live0 = live at hslide hmove hths hi9 hslen
 refine jl (v:=tv) rfl (jln_ h5.t.sl ?_)
 refine jmk (m_TableNew (s.table.length:Int)) ?_
 intro v13 N hq13
 unfold QNew at hq13
 have htn:(tableNew (s.table.length:Int)).length = s.table.length:=by
  unfold tableNew
  rw[if_neg (by omega)];simp;omega
 rw[if_neg (by intro hn;rw[hn] at htn;simp at htn;omega)] at hq13
 obtain⟨sv,⟨bt,ct,tsp,hct,rfl,rfl⟩,rfl⟩:=hq13
 refine jex rfl (jex rfl ?_)
 refine jl (v:=wv) rfl (jln_ h5.w.sl ?_)
 refine jms (by omega) (by omega) (by omega) λbw=>?_
 rw[Int.toNat_natCast]
 have htk:(List.replicate s.words.length (cl z3)).flatten = (List.replicate s.words.length (0:Int)).map I ++ []:=by
  rw[show cl z3 = [I 0] from rfl];simp[List.flatten_replicate_singleton]
 rw[htk]
 refine jla (l:=eSt s wv tv mv thv ov pv) (by exact z_n 13) rfl ?_
 have hstay':=t_l7Stay (cw:=s.words.length) (ct:=ct) (bw:=bw) (bt:=bt) (wsp:=[]) (tsp:=tsp) h5 hlv5 htb (by omega) hp hpl hstay
 rw[List.length_replicate] at hstay'
 refine jc (A:=[(bw,C T_int ((List.replicate s.words.length (0:Int)).map I ++ [])),(bt,C T_Region (rowsE eRg (tableNew (s.table.length:Int)) ++ tsp))]) hstay' ?_
 rintro _ R6 _ hR6 ⟨hRR6,hwl,htl,rfl⟩
 subst hRR6
 rw[htn] at htl ⊢
 generalize hE:(b2,C T_State (cl z58)) :: (b1,C T_State (eSt s wv tv mv thv ov pv)) :: ([] ++ F) = E
 have ea1:At E b1 (C T_State (eSt s wv tv mv thv ov pv)):=by rw[← hE];exact inferInstance
 have slen:∀{r t0 to0},slide s.pins l [] t0 r to0 = some (t2,to_)→t0 = t2∧to0 = to_:=λh=>by
  unfold slide at h
  simpa using h
 refine jperm (D':=[] ++ ((bw,C T_int (w1.map I ++ [])) :: (bt,C T_Region (rowsE eRg t1 ++ tsp)) :: E)) (by rw[← hE];exact List.Perm.refl _) ?_
 refine jcutq (λvs R' D'=>R' = R6∧t2.length = s.table.length∧to_.length = live.length∧∃(v:Value) (A:Chs),SO to_ v A∧D' = A ++ ((bw,C T_int (w1.map I ++ [])) :: (bt,C T_Region (rowsE eRg t2 ++ tsp)) :: E)∧vs = [.pointer (some ⟨b1,0,none⟩),.pointer (some ⟨b2,0,none⟩),lv,v9,.slice (some ⟨bt,0,none⟩) s.table.length ct,.slice (some ⟨bw,0,none⟩) s.words.length s.words.length,v]) (λK hK=>?_) ?_
 ·refine jcutq (λvs R' D'=>R' = R6∧t2.length = s.table.length∧to_.length = live.length∧∃(v:Value) (A:Chs),SO to_ v A∧D' = A ++ ((bw,C T_int (w1.map I ++ [])) :: (bt,C T_Region (rowsE eRg t2 ++ tsp)) :: E)∧vs = [.pointer (some ⟨b1,0,none⟩),.pointer (some ⟨b2,0,none⟩),lv,v9,.slice (some ⟨bt,0,none⟩) s.table.length ct,.slice (some ⟨bw,0,none⟩) s.words.length s.words.length,v]) (λK2 hK2=>?_) ?_
  rotate_left
  ·rintro e R7 D7 ⟨hR,ht2,hto,v,A,so,hD,he⟩
   rw[hD];clear hD
   simp only[List.map,lc,ln,lj,z_t] at he
   simp only[he]
   exact hK _ _ _ ⟨hR,ht2,hto,v,A,so,rfl,rfl⟩
  refine jlp (λm vs R' D'=>R' = R6∧∃(i:Nat) (r:Int) (t0:List Rg) (to0:List Int) (v:Value) (A:Chs),i≤live.length∧1≤r∧r≤12∧t0.length = s.table.length∧to0.length = i∧slide s.pins l (live.drop i) t0 r to0 = some (t2,to_)∧SO to0 v A∧D' = A ++ ((bw,C T_int (w1.map I ++ [])) :: (bt,C T_Region (rowsE eRg t0 ++ tsp)) :: E)∧vs = [.pointer (some ⟨b1,0,none⟩),.pointer (some ⟨b2,0,none⟩),lv,v9,.slice (some ⟨bt,0,none⟩) s.table.length ct,.slice (some ⟨bw,0,none⟩) s.words.length s.words.length,v,I r,I i]∧m = live.length - i)
   (n:=live.length) ⟨rfl,0,1,t1,[],.slice none 0 0,[],by omega,by omega,by omega,htl,rfl,hslide,.inl ⟨rfl,rfl,rfl⟩,rfl,rfl,by omega⟩ ?_
  rintro m e R7 D7 K3 ⟨hR,i,r,t0,to0,v,A,hi,hr1,hr2,ht0l,htol,hsl,so,hD,he,hm⟩ hK3
  subst hR
  rw[hD];clear hD
  simp only[List.map,lc,ln,lj,z_t] at he
  simp only[he]
  refine jln_ hi9.sl (jlt (jif (λhc=>?_) (λhc=>?_)))
  rotate_left
  ·have hc:=z_g hc
   rw[List.drop_eq_nil_of_le (by omega)] at hsl
   obtain⟨rfl,rfl⟩:=slen hsl
   exact hK2 _ _ _ ⟨rfl,ht0l,by omega,v,A,so,rfl,rfl⟩
  have hc:i < live.length:=by have:=z_f hc;omega
  rw[List.drop_eq_getElem_cons hc] at hsl
  unfold slide at hsl
  obtain⟨x,hx,hsl⟩:=bind_some hsl
  obtain⟨k,hk,hkp,rfl⟩:=fpos_of hx
  have hat:(l[k]).at_ = live[i]:=by
   have:=List.find?_some hx
   exact eq_of_beq this
  obtain⟨a0,a1,-,-⟩:=htb _ (List.getElem_mem hk)
  have hreg:regionOf live[i]≤9223372036854775807:=by unfold regionOf;split<;>omega
  refine jcutq (λvs R' D'=>R' = R7∧∃(r:Int) (t0:List Rg) (to0:List Int) (v:Value) (A:Chs),1≤r∧r≤12∧t0.length = s.table.length∧to0.length = i + 1∧slide s.pins l (live.drop (i + 1)) t0 r to0 = some (t2,to_)∧SO to0 v A∧D' = A ++ ((bw,C T_int (w1.map I ++ [])) :: (bt,C T_Region (rowsE eRg t0 ++ tsp)) :: E)∧vs = [.pointer (some ⟨b1,0,none⟩),.pointer (some ⟨b2,0,none⟩),lv,v9,.slice (some ⟨bt,0,none⟩) s.table.length ct,.slice (some ⟨bw,0,none⟩) s.words.length s.words.length,v,I r,I i]) (λK4 hK4=>?_) ?_
  rotate_left
  ·rintro e R8 D8 ⟨hR,r,t0,to0,v,A,q1,q2,q3,q4,q5,so,hD,he⟩
   subst hR
   rw[hD];clear hD
   simp only[List.map,lc,ln,lj,z_t] at he
   simp only[he]
   refine jadd ⟨by omega,by omega⟩ ?_
   exact hK3 (live.length - (i + 1)) _ _ _ (by omega) ⟨rfl,i + 1,r,t0,to0,v,A,by omega,q1,q2,q3,q4,q5,so,rfl,rfl,rfl⟩
  refine jcutq (λvs R' D'=>R' = R7∧∃(r:Int) (t0:List Rg) (to0:List Int) (v:Value) (A:Chs),1≤r∧r≤12∧t0.length = s.table.length∧to0.length = i + 1∧slide s.pins l (live.drop (i + 1)) t0 r to0 = some (t2,to_)∧SO to0 v A∧D' = A ++ ((bw,C T_int (w1.map I ++ [])) :: (bt,C T_Region (rowsE eRg t0 ++ tsp)) :: E)∧vs = [.pointer (some ⟨b1,0,none⟩),.pointer (some ⟨b2,0,none⟩),lv,v9,.slice (some ⟨bt,0,none⟩) s.table.length ct,.slice (some ⟨bw,0,none⟩) s.words.length s.words.length,v,I r,I i]) (λK5 hK5=>?_) ?_
  rotate_left
  ·rintro e R8 D8 ⟨hR,r,t0,to0,v,A,q1,q2,q3,q4,q5,so,hD,he⟩
   rw[hD];clear hD
   simp only[List.map,lc,ln,lj,z_t] at he
   simp only[he]
   exact hK4 _ _ _ ⟨hR,r,t0,to0,v,A,q1,q2,q3,q4,q5,so,rfl,rfl⟩
  refine jfz1 hi9 (by omega) (by omega) ?_
  rw[getElem_congr_idx (Int.toNat_natCast i)]
  refine jro (r_l6Find _ hlv5 (by omega)) ?_
  rw[hkp]
  refine jtg hlv5 hk λb3 o3 ty3 cs3 rv nv hrv hnv hb3 ho3 hrow3=>?_
  have g2:(cs3.drop (o3 + 2)).take 2 = [I (l[k]).sh.refs,I (l[k]).sh.nums]:=by
   have:=congrArg (λx=>(x.drop 2).take 2) hrow3
   simp only[List.drop_take,List.drop_drop,List.take_take] at this
   simpa [eTh] using this
  refine jfo (jlar hb3 (by omega) g2 (jp (p_ShapeSize (l[k]).sh) ?_))
  obtain⟨sz0,sz1⟩:=size_rng (l[k]).sh
  generalize shapeSize (l[k]).sh = size at hsl sz0 sz1 ⊢
  refine jla (t:=T_State) (cs:=eSt s wv tv mv thv ov pv) (l:=eSt s wv tv mv thv ov pv) (by exact z_n 13) rfl ?_
  refine jfz1 hi9 (by omega) (by omega) ?_
  rw[getElem_congr_idx (Int.toNat_natCast i)]
  refine jp (p_RegionOf _ hreg) (jand (jla (t:=T_State) (cs:=eSt s wv tv mv thv ov pv) (l:=eSt s wv tv mv thv ov pv) (by exact z_n 13) rfl jev) ?_)
  refine jro (r_l7Held (regionOf live[i]) h5 hp hpl) (jif (λhh=>?_) (λhh=>?_))
  ·rw[if_pos hh] at hsl
   refine jfz1 hi9 (by omega) (by omega) ?_
   rw[getElem_congr_idx (Int.toNat_natCast i)]
   refine jbs (cs:=[I live[i]]) rfl rfl λb4=>?_
   refine jas1 (A:=A) so (by omega) λv' A' so'=>?_
   exact hK5 _ _ _ ⟨rfl,r,t0,_,v',A',hr1,hr2,ht0l,by rw[List.length_append,htol];rfl,hsl,so',rfl,rfl⟩
  rw[if_neg (by rw[hh];decide)] at hsl
  obtain⟨r2,hnx,hsl⟩:=bind_some hsl
  refine jcutq (λvs R' D'=>R' = R7∧D' = A ++ ((bw,C T_int (w1.map I ++ [])) :: (bt,C T_Region (rowsE eRg t0 ++ tsp)) :: E)∧vs = [.pointer (some ⟨b1,0,none⟩),.pointer (some ⟨b2,0,none⟩),lv,v9,.slice (some ⟨bt,0,none⟩) s.table.length ct,.slice (some ⟨bw,0,none⟩) s.words.length s.words.length,v,I r2,I i,I size]) (λK6 hK6=>?_) ?_
  ·refine jcutq (λvs R' D'=>R' = R7∧D' = A ++ ((bw,C T_int (w1.map I ++ [])) :: (bt,C T_Region (rowsE eRg t0 ++ tsp)) :: E)∧vs = [.pointer (some ⟨b1,0,none⟩),.pointer (some ⟨b2,0,none⟩),lv,v9,.slice (some ⟨bt,0,none⟩) s.table.length ct,.slice (some ⟨bw,0,none⟩) s.words.length s.words.length,v,I r2,I i,I size]) (λK7 hK7=>?_) ?_
   rotate_left
   ·rintro e R8 D8 ⟨hR,hD,he⟩
    rw[hD];clear hD
    simp only[List.map,lc,ln,lj,z_t] at he
    simp only[he]
    exact hK6 _ _ _ ⟨hR,rfl,rfl⟩
   refine jlp (λm vs R' D'=>R' = R7∧∃r:Int,1≤r∧r + m≤30∧nextR s.pins t0 size m r = some r2∧D' = A ++ ((bw,C T_int (w1.map I ++ [])) :: (bt,C T_Region (rowsE eRg t0 ++ tsp)) :: E)∧vs = [.pointer (some ⟨b1,0,none⟩),.pointer (some ⟨b2,0,none⟩),lv,v9,.slice (some ⟨bt,0,none⟩) s.table.length ct,.slice (some ⟨bw,0,none⟩) s.words.length s.words.length,v,I r,I i,I size])
    (n:=t0.length + 2) ⟨rfl,r,hr1,by omega,hnx,rfl,rfl⟩ ?_
   clear hnx
   rintro m2 e R8 D8 K8 ⟨hR,r,hr1,hrm,hnx,hD,he⟩ hK8
   subst hR
   rw[hD];clear hD
   simp only[List.map,lc,ln,lj,z_t] at he
   simp only[he]
   cases m2 with
   | zero=>cases hnx
   | succ m2=>
   unfold nextR at hnx
   refine jcutq (λvs R' D'=>R' = R8∧D' = A ++ ((bw,C T_int (w1.map I ++ [])) :: (bt,C T_Region (rowsE eRg t0 ++ tsp)) :: E)∧∃bn:Bool,(bn = true→nextR s.pins t0 size m2 (r + 1) = some r2)∧(bn = false→r = r2)∧vs = [.pointer (some ⟨b1,0,none⟩),.pointer (some ⟨b2,0,none⟩),lv,v9,.slice (some ⟨bt,0,none⟩) s.table.length ct,.slice (some ⟨bw,0,none⟩) s.words.length s.words.length,v,I r,I i,I size,.bool bn]) (λK9 hK9=>?_) ?_
   rotate_left
   ·rintro e R9 D9 ⟨hR,hD,bn,hb1,hb2,he⟩
    subst hR
    rw[hD];clear hD
    simp only[List.map,lc,ln,lj,z_t] at he
    simp only[he]
    cases bn with
    | true=>
     refine jift (jadd ⟨by omega,by omega⟩ ?_)
     exact hK8 m2 _ _ _ (by omega) ⟨rfl,r + 1,by omega,by omega,hb1 rfl,rfl,rfl⟩
    | false=>
     have:=hb2 rfl
     subst this
     exact jiff (hK7 _ _ _ ⟨rfl,rfl,rfl⟩)
   refine jla (t:=T_State) (cs:=eSt s wv tv mv thv ov pv) (l:=eSt s wv tv mv thv ov pv) (by exact z_n 13) rfl (jro (r_l7Held r h5 hp hpl) ?_)
   cases hhr:heldR s.pins r with
   | true=>
    rw[if_pos hhr] at hnx
    refine jcut (jtf (jend λe he=>?_))
    simp only[List.map,lc,ln,lj,z_t] at he
    simp only[he]
    refine jtf (jpkt (jand jev ?_))
    exact hK9 _ _ _ ⟨rfl,rfl,true,λ_=>hnx,(λh=>by cases h),rfl⟩
   | false=>
    rw[if_neg (by rw[hhr];decide)] at hnx
    obtain⟨row,hrow,hnx⟩:=bind_some hnx
    obtain⟨sum,hsum,hnx⟩:=bind_some hnx
    obtain⟨rfl,hin⟩:=plus_some hsum
    obtain⟨y0,y1,y2,y3⟩:=idx_some hrow
    obtain⟨k2,rfl⟩:∃k2:Nat,r = k2:=⟨r.toNat,by omega⟩
    have hk2:k2 < t0.length:=by omega
    have ey:t0[k2] = row:=by rw[← y3];exact getElem_congr_idx (by omega)
    have brr:0≤regionBase k2∧regionBase k2≤176:=by unfold regionBase;split<;>omega
    refine jcut (jff (jian (by omega) (jfo (jl (v:=I row.top) (by rw[Nat.zero_add];exact row_cell (f:=2) hk2 (by rw[ey];rfl)) (jadd hin (jend λe he=>?_))))))
    simp only[List.map,lc,ln,lj,z_t] at he
    simp only[he]
    refine jff (jp (p_RegionBase k2) (jadd ⟨by omega,by omega⟩ (jgr (jpkf (jand (jl (v:=I row.top) (by rw[Nat.zero_add];exact row_cell (f:=2) hk2 (by rw[ey];rfl)) jev) ?_)))))
    refine hK9 _ _ _ ⟨rfl,rfl,decide (row.top + size > regionBase k2 + 16),λhb=>?_,λhb=>?_,rfl⟩
    ·rw[if_pos (by have:=z_f hb;omega)] at hnx
     exact hnx
    ·rw[if_neg (by have:=z_g hb;omega)] at hnx
     simpa using hnx
  rintro e R8 D8 ⟨hR,hD,he⟩
  subst hR
  rw[hD];clear hD
  simp only[List.map,lc,ln,lj,z_t] at he
  simp only[he]
  obtain⟨row,hrow,hsl⟩:=bind_some hsl
  obtain⟨sum,hsum,hsl⟩:=bind_some hsl
  obtain⟨rfl,hin⟩:=plus_some hsum
  obtain⟨y0,y1,y2,y3⟩:=idx_some hrow
  have hr2k:1≤r2:=by
   have:∀(n:Nat) (r:Int),1≤r→nextR s.pins t0 size n r = some r2→1≤r2:=by
    intro n;induction n with
    | zero=>intro r _ h;cases h
    | succ n ih=>
     intro r hr h
     unfold nextR at h
     split at h
     ·exact ih _ (by omega) h
     ·obtain⟨_,_,h⟩:=bind_some h
      obtain⟨_,_,h⟩:=bind_some h
      split at h
      ·exact ih _ (by omega) h
      ·cases h;exact hr
   exact this _ _ hr1 hnx
  obtain⟨k2,rfl⟩:∃k2:Nat,r2 = k2:=⟨r2.toNat,by omega⟩
  have hk2:k2 < t0.length:=by omega
  have ey:t0[k2] = row:=by rw[← y3];exact getElem_congr_idx (by omega)
  refine jian (by omega) (jlrow hk2 ?_)
  rw[ey]
  refine ja λb5=>?_
  refine js (cs':=eRg row) rfl rfl (by simp) rfl ?_
  refine jfo (jl (v:=I row.top) rfl ?_)
  refine jbs (cs:=[I row.top]) rfl rfl λb4=>?_
  refine jas1 (A:=A) so (by omega) λv' A' so'=>?_
  refine js (cs':=eRg { row with kind:=3 }) rfl rfl (by simp) rfl ?_
  refine jfo (jl (v:=I row.top) rfl (jadd hin ?_))
  refine jfo (js (cs':=eRg { row with kind:=3,top:=row.top + size }) rfl rfl (by simp) rfl ?_)
  refine jfo (jl (v:=I (row.top + size)) rfl ?_)
  refine jfo (js (cs':=eRg { row with kind:=3,top:=row.top + size,tams:=row.top + size }) rfl rfl (by simp) rfl ?_)
  refine jla (l:=eRg { row with kind:=3,top:=row.top + size,tams:=row.top + size }) (by simp) rfl ?_
  refine jian (by omega) (jsrow (t:=t0) (x:={ row with kind:=3,top:=row.top + size,tams:=row.top + size }) hk2 ?_)
  refine jpart A' (G:=(bw,C T_int (w1.map I ++ [])) :: (bt,C T_Region (rowsE eRg (t0.set k2 { row with kind:=3,top:=row.top + size,tams:=row.top + size }) ++ tsp)) :: E) ?_
  exact hK5 _ _ _ ⟨rfl,k2,t0.set k2 { row with kind:=3,top:=row.top + size,tams:=row.top + size },_,v',A',by omega,by omega,by rw[List.length_set];exact ht0l,by rw[List.length_append,htol];rfl,by simpa [seti] using hsl,so',rfl,rfl⟩
 clear hslide slen
 rintro e R7 D7 ⟨hR,ht2,hto,v,A,so,hD,he⟩
 subst hR
 rw[hD];clear hD
 simp only[List.map,lc,ln,lj,z_t] at he
 simp only[he]
 refine jfso so λR8 hR8 hito=>?_
 have h8:=h5.le hR8
 have hlv8:=hlv5.le hR8
 have hi98:=hi9.le hR8
 refine jcutq (λvs R' D'=>R' = R8∧w2.length = s.words.length∧D' = (bw,C T_int (w2.map I ++ [])) :: (bt,C T_Region (rowsE eRg t2 ++ tsp)) :: E∧vs = [.pointer (some ⟨b1,0,none⟩),.pointer (some ⟨b2,0,none⟩),lv,v9,.slice (some ⟨bt,0,none⟩) s.table.length ct,.slice (some ⟨bw,0,none⟩) s.words.length s.words.length,v]) (λK hK=>?_) ?_
 ·refine jcutq (λvs R' D'=>R' = R8∧w2.length = s.words.length∧D' = (bw,C T_int (w2.map I ++ [])) :: (bt,C T_Region (rowsE eRg t2 ++ tsp)) :: E∧vs = [.pointer (some ⟨b1,0,none⟩),.pointer (some ⟨b2,0,none⟩),lv,v9,.slice (some ⟨bt,0,none⟩) s.table.length ct,.slice (some ⟨bw,0,none⟩) s.words.length s.words.length,v]) (λK2 hK2=>?_) ?_
  rotate_left
  ·rintro e R9 D9 ⟨hR,hl2,hD,he⟩
   rw[hD];clear hD
   simp only[List.map,lc,ln,lj,z_t] at he
   simp only[he]
   exact hK _ _ _ ⟨hR,hl2,rfl,rfl⟩
  refine jlp (λm vs R' D'=>R' = R8∧∃(i:Nat) (w:List Int),i≤live.length∧w.length = s.words.length∧moveW l live to_ (live.drop i) (to_.drop i) w = some w2∧D' = (bw,C T_int (w.map I ++ [])) :: (bt,C T_Region (rowsE eRg t2 ++ tsp)) :: E∧vs = [.pointer (some ⟨b1,0,none⟩),.pointer (some ⟨b2,0,none⟩),lv,v9,.slice (some ⟨bt,0,none⟩) s.table.length ct,.slice (some ⟨bw,0,none⟩) s.words.length s.words.length,v,I i]∧m = live.length - i)
   (n:=live.length) ⟨rfl,0,w1,by omega,hwl,hmove,rfl,rfl,by omega⟩ ?_
  rintro m e R9 D9 K3 ⟨hR,i,w,hi,hwl1,hmv,hD,he,hm⟩ hK3
  subst hR
  rw[hD];clear hD
  simp only[List.map,lc,ln,lj,z_t] at he
  simp only[he]
  refine jln_ hi98.sl (jlt (jif (λhc=>?_) (λhc=>?_)))
  rotate_left
  ·have hc:=z_g hc
   rw[List.drop_eq_nil_of_le (by omega)] at hmv
   have:w = w2:=by unfold moveW at hmv;simpa using hmv
   subst this
   exact hK2 _ _ _ ⟨rfl,hwl1,rfl,rfl⟩
  have hc:i < live.length:=by have:=z_f hc;omega
  rw[List.drop_eq_getElem_cons hc,List.drop_eq_getElem_cons (show i < to_.length by omega)] at hmv
  unfold moveW at hmv
  obtain⟨x,hx,hmv⟩:=bind_some hmv
  obtain⟨k,hk,hkp,rfl⟩:=fpos_of hx
  obtain⟨wa,hwa,hmv⟩:=bind_some hmv
  obtain⟨wb,hwb,hmv⟩:=bind_some hmv
  obtain⟨wc,hwc,hmv⟩:=bind_some hmv
  obtain⟨wd,hwd,hmv⟩:=bind_some hmv
  refine jcutq (λvs R' D'=>R' = R9∧wd.length = s.words.length∧D' = (bw,C T_int (wd.map I ++ [])) :: (bt,C T_Region (rowsE eRg t2 ++ tsp)) :: E∧vs = [.pointer (some ⟨b1,0,none⟩),.pointer (some ⟨b2,0,none⟩),lv,v9,.slice (some ⟨bt,0,none⟩) s.table.length ct,.slice (some ⟨bw,0,none⟩) s.words.length s.words.length,v,I i]) (λK4 hK4=>?_) ?_
  rotate_left
  ·rintro e R8 D8 ⟨hR,hld,hD,he⟩
   subst hR
   rw[hD];clear hD
   simp only[List.map,lc,ln,lj,z_t] at he
   simp only[he]
   refine jadd ⟨by omega,by omega⟩ ?_
   exact hK3 (live.length - (i + 1)) _ _ _ (by omega) ⟨rfl,i + 1,wd,by omega,hld,hmv,rfl,rfl,rfl⟩
  refine jcutq (λvs R' D'=>R' = R9∧wd.length = s.words.length∧D' = (bw,C T_int (wd.map I ++ [])) :: (bt,C T_Region (rowsE eRg t2 ++ tsp)) :: E∧vs = [.pointer (some ⟨b1,0,none⟩),.pointer (some ⟨b2,0,none⟩),lv,v9,.slice (some ⟨bt,0,none⟩) s.table.length ct,.slice (some ⟨bw,0,none⟩) s.words.length s.words.length,v,I i]) (λK5 hK5=>?_) ?_
  rotate_left
  ·rintro e R8 D8 ⟨hR,hld,hD,he⟩
   rw[hD];clear hD
   simp only[List.map,lc,ln,lj,z_t] at he
   simp only[he]
   exact hK4 _ _ _ ⟨hR,hld,rfl,rfl⟩
  obtain⟨y,hy⟩:∃y,to_[i]'(by omega) = y:=⟨_,rfl⟩
  rw[hy] at hwa hwb hwc hwd
  obtain⟨q1,q2,q3⟩:=wr_some hwa
  obtain⟨q4,q5,q6⟩:=wr_some hwb
  obtain⟨-,-,tr,tn⟩:=htb _ (List.getElem_mem hk)
  have hla:wa.length = w.length:=by rw[q3,List.length_set]
  have hlb:wb.length = wa.length:=by rw[q6,List.length_set]
  have ty:to_[((i:Nat):Int).toNat]'(by omega) = y:=by rw[← hy];exact getElem_congr_idx (Int.toNat_natCast i)
  refine jfz1 hi98 (by omega) (by omega) ?_
  rw[getElem_congr_idx (Int.toNat_natCast i)]
  refine jro (r_l6Find _ hlv8 (by omega)) ?_
  rw[hkp]
  refine jtg hlv8 hk λb3 o3 ty3 cs3 rv nv hrv hnv hb3 ho3 hrow3=>?_
  obtain⟨ra,rc,rfl⟩:=hrv.sl
  obtain⟨na,nc,rfl⟩:=hnv.sl
  refine jlar hb3 ho3 hrow3 (ja λb15=>?_)
  refine js (cs':=eTh l[k] (.slice ra l[k].refs.length rc) (.slice na l[k].nums.length nc)) rfl rfl (by exact z_n 6) rfl ?_
  refine jfz1 hito (by omega) (by omega) (jfz1 hito (by omega) (by omega) ?_)
  rw[ty]
  refine jia q1 (by omega) (jsi (l:=w) (sp:=[]) (by omega) ?_)
  rw[← q3]
  refine jfz2 hito (by omega) (by omega) λq hq=>hq _ _ ?_
  rw[ty] at hq ⊢
  refine jadd ⟨by omega,by omega⟩ (jfo (jla (t:=T_Thing) (cs:=eTh l[k] (.slice ra l[k].refs.length rc) (.slice na l[k].nums.length nc)) (l:=[I l[k].sh.refs,I l[k].sh.nums]) (by exact (by decide:4≤6)) rfl (jp (p_ShapeWord l[k].sh) ?_)))
  refine jia q4 (by omega) (jand (hq _ _ jev) (jsi (l:=wa) (sp:=[]) (by omega) ?_))
  rw[← q6]
  refine jcutq (λvs R' D'=>R' = R9∧wc.length = s.words.length∧D' = (b15,C T_Thing (eTh l[k] (.slice ra l[k].refs.length rc) (.slice na l[k].nums.length nc))) :: (bw,C T_int (wc.map I ++ [])) :: (bt,C T_Region (rowsE eRg t2 ++ tsp)) :: E∧vs = [.pointer (some ⟨b1,0,none⟩),.pointer (some ⟨b2,0,none⟩),lv,v9,.slice (some ⟨bt,0,none⟩) s.table.length ct,.slice (some ⟨bw,0,none⟩) s.words.length s.words.length,v,I i,.pointer (some ⟨b15,0,none⟩)]) (λK6 hK6=>?_) ?_
  ·refine jcutq (λvs R' D'=>R' = R9∧wc.length = s.words.length∧D' = (b15,C T_Thing (eTh l[k] (.slice ra l[k].refs.length rc) (.slice na l[k].nums.length nc))) :: (bw,C T_int (wc.map I ++ [])) :: (bt,C T_Region (rowsE eRg t2 ++ tsp)) :: E∧vs = [.pointer (some ⟨b1,0,none⟩),.pointer (some ⟨b2,0,none⟩),lv,v9,.slice (some ⟨bt,0,none⟩) s.table.length ct,.slice (some ⟨bw,0,none⟩) s.words.length s.words.length,v,I i,.pointer (some ⟨b15,0,none⟩)]) (λK7 hK7=>?_) ?_
   rotate_left
   ·rintro e R8 D8 ⟨hR,hlc,hD,he⟩
    rw[hD];clear hD
    simp only[List.map,lc,ln,lj,z_t] at he
    simp only[he]
    exact hK6 _ _ _ ⟨hR,hlc,rfl,rfl⟩
   refine jlp (λm vs R' D'=>R' = R9∧∃(j:Nat) (w5:List Int),j≤l[k].refs.length∧w5.length = s.words.length∧refsW l live to_ w5 (y + 2 + j) (l[k].refs.drop j) = some wc∧D' = (b15,C T_Thing (eTh l[k] (.slice ra l[k].refs.length rc) (.slice na l[k].nums.length nc))) :: (bw,C T_int (w5.map I ++ [])) :: (bt,C T_Region (rowsE eRg t2 ++ tsp)) :: E∧vs = [.pointer (some ⟨b1,0,none⟩),.pointer (some ⟨b2,0,none⟩),lv,v9,.slice (some ⟨bt,0,none⟩) s.table.length ct,.slice (some ⟨bw,0,none⟩) s.words.length s.words.length,v,I i,.pointer (some ⟨b15,0,none⟩),I j]∧m = l[k].refs.length - j)
    (n:=l[k].refs.length) ⟨rfl,0,wb,by omega,by omega,by simpa using hwc,rfl,rfl,by omega⟩ ?_
   rintro m5 e R8 D8 K8 ⟨hR,j,w5,hj,hl5,hrw5,hD,he,hm5⟩ hK8
   subst hR
   rw[hD];clear hD
   simp only[List.map,lc,ln,lj,z_t] at he
   simp only[he]
   refine jl (v:=.slice ra l[k].refs.length rc) rfl (jln (jlt (jif (λhd=>?_) (λhd=>?_))))
   rotate_left
   ·have hd:=z_g hd
    rw[List.drop_eq_nil_of_le (by omega)] at hrw5
    have:w5 = wc:=by unfold refsW at hrw5;simpa using hrw5
    subst this
    exact hK7 _ _ _ ⟨rfl,hl5,rfl,rfl⟩
   have hd:j < l[k].refs.length:=by have:=z_f hd;omega
   rw[List.drop_eq_getElem_cons hd] at hrw5
   unfold refsW at hrw5
   obtain⟨z,hz,hrw5⟩:=bind_some hrw5
   obtain⟨w6,hw6,hrw5⟩:=bind_some hrw5
   refine jcutq (λvs R' D'=>R' = R8∧w6.length = s.words.length∧D' = (b15,C T_Thing (eTh l[k] (.slice ra l[k].refs.length rc) (.slice na l[k].nums.length nc))) :: (bw,C T_int (w6.map I ++ [])) :: (bt,C T_Region (rowsE eRg t2 ++ tsp)) :: E∧vs = [.pointer (some ⟨b1,0,none⟩),.pointer (some ⟨b2,0,none⟩),lv,v9,.slice (some ⟨bt,0,none⟩) s.table.length ct,.slice (some ⟨bw,0,none⟩) s.words.length s.words.length,v,I i,.pointer (some ⟨b15,0,none⟩),I j]) (λK9 hK9=>?_) ?_
   rotate_left
   ·rintro e Rx D9 ⟨hR,hl6,hD,he⟩
    subst hR
    rw[hD];clear hD
    simp only[List.map,lc,ln,lj,z_t] at he
    simp only[he]
    refine jadd ⟨by omega,by omega⟩ ?_
    exact hK8 (l[k].refs.length - (j + 1)) _ _ _ (by omega) ⟨rfl,j + 1,w6,by omega,hl6,by rw[← hrw5];congr 1;omega,rfl,rfl,rfl⟩
   refine jcutq (λvs R' D'=>R' = R8∧w6.length = s.words.length∧D' = (b15,C T_Thing (eTh l[k] (.slice ra l[k].refs.length rc) (.slice na l[k].nums.length nc))) :: (bw,C T_int (w6.map I ++ [])) :: (bt,C T_Region (rowsE eRg t2 ++ tsp)) :: E∧vs = [.pointer (some ⟨b1,0,none⟩),.pointer (some ⟨b2,0,none⟩),lv,v9,.slice (some ⟨bt,0,none⟩) s.table.length ct,.slice (some ⟨bw,0,none⟩) s.words.length s.words.length,v,I i,.pointer (some ⟨b15,0,none⟩),I j]) (λK10 hK10=>?_) ?_
   rotate_left
   ·rintro e Rx D9 ⟨hR,hl6,hD,he⟩
    rw[hD];clear hD
    simp only[List.map,lc,ln,lj,z_t] at he
    simp only[he]
    exact hK9 _ _ _ ⟨hR,hl6,rfl,rfl⟩
   refine jl (v:=.slice ra l[k].refs.length rc) rfl (jfz1 hrv (by omega) (by omega) ?_)
   rw[getElem_congr_idx (Int.toNat_natCast j)]
   refine jro (r_l6Now hlv8 (by omega) hz) (jro (r_place z (Ints.rd hi98) (by omega)) (jge (jif (λh0=>?_) (λh0=>?_))))
   ·have h0:=z_f h0
    rw[if_pos (by omega)] at hw6
    obtain⟨u,hu,hw6⟩:=bind_some hw6
    obtain⟨u0,u1,u2,u3⟩:=idx_some hu
    obtain⟨p1,p2,p3⟩:=wr_some hw6
    refine jfz1 hito (by omega) (by omega) ?_
    rw[ty]
    refine jadd ⟨by omega,by omega⟩ (jadd ⟨by omega,by omega⟩ (jfz1 hito u0 u1 ?_))
    rw[u3]
    refine jia p1 (by omega) (jsi (l:=w5) (sp:=[]) (by omega) ?_)
    rw[← p3]
    exact hK10 _ _ _ ⟨rfl,by rw[p3,List.length_set];exact hl5,rfl,rfl⟩
   ·have h0:=z_g h0
    rw[if_neg (by omega)] at hw6
    have:w5 = w6:=by simpa using hw6
    subst this
    exact hK10 _ _ _ ⟨rfl,hl5,rfl,rfl⟩
  rintro e R8 D8 ⟨hR,hlc,hD,he⟩
  subst hR
  rw[hD];clear hD
  simp only[List.map,lc,ln,lj,z_t] at he
  simp only[he]
  refine jcutq (λvs R' D'=>R' = R8∧wd.length = s.words.length∧D' = (bw,C T_int (wd.map I ++ [])) :: (bt,C T_Region (rowsE eRg t2 ++ tsp)) :: E∧vs = [.pointer (some ⟨b1,0,none⟩),.pointer (some ⟨b2,0,none⟩),lv,v9,.slice (some ⟨bt,0,none⟩) s.table.length ct,.slice (some ⟨bw,0,none⟩) s.words.length s.words.length,v,I i]) (λK7 hK7=>?_) ?_
  rotate_left
  ·rintro e Rx D9 ⟨hR,hl6,hD,he⟩
   rw[hD];clear hD
   simp only[List.map,lc,ln,lj,z_t] at he
   simp only[he]
   exact hK5 _ _ _ ⟨hR,hl6,rfl,rfl⟩
  refine jlp (λm vs R' D'=>R' = R8∧∃(j:Nat) (w5:List Int),j≤l[k].nums.length∧w5.length = s.words.length∧wrs w5 (y + 2 + l[k].refs.length + j) (l[k].nums.drop j) = some wd∧D' = (b15,C T_Thing (eTh l[k] (.slice ra l[k].refs.length rc) (.slice na l[k].nums.length nc))) :: (bw,C T_int (w5.map I ++ [])) :: (bt,C T_Region (rowsE eRg t2 ++ tsp)) :: E∧vs = [.pointer (some ⟨b1,0,none⟩),.pointer (some ⟨b2,0,none⟩),lv,v9,.slice (some ⟨bt,0,none⟩) s.table.length ct,.slice (some ⟨bw,0,none⟩) s.words.length s.words.length,v,I i,.pointer (some ⟨b15,0,none⟩),I j]∧m = l[k].nums.length - j)
   (n:=l[k].nums.length) ⟨rfl,0,wc,by omega,by omega,by simpa using hwd,rfl,rfl,by omega⟩ ?_
  rintro m5 e Rx D9 K8 ⟨hR,j,w5,hj,hl5,hrw5,hD,he,hm5⟩ hK8
  subst hR
  rw[hD];clear hD
  simp only[List.map,lc,ln,lj,z_t] at he
  simp only[he]
  refine jfo (jl (v:=.slice na l[k].nums.length nc) rfl (jln (jlt (jif (λhd=>?_) (λhd=>?_)))))
  rotate_left
  ·have hd:=z_g hd
   rw[List.drop_eq_nil_of_le (by omega)] at hrw5
   have:w5 = wd:=by unfold wrs at hrw5;simpa using hrw5
   subst this
   exact jdrop (hK7 _ _ _ ⟨rfl,hl5,rfl,rfl⟩)
  have hd:j < l[k].nums.length:=by have:=z_f hd;omega
  rw[List.drop_eq_getElem_cons hd] at hrw5
  unfold wrs at hrw5
  obtain⟨w6,hw6,hrw5⟩:=bind_some hrw5
  obtain⟨p1,p2,p3⟩:=wr_some hw6
  refine jfz1 hito (by omega) (by omega) ?_
  rw[ty]
  refine jadd ⟨by omega,by omega⟩ (jfo (jl (v:=.slice ra l[k].refs.length rc) rfl (jln (jadd ⟨by omega,by omega⟩ (jadd ⟨by omega,by omega⟩ ?_)))))
  refine jfo (jl (v:=.slice na l[k].nums.length nc) rfl (jfz1 hnv (by omega) (by omega) ?_))
  rw[getElem_congr_idx (Int.toNat_natCast j)]
  refine jia p1 (by omega) (jsi (l:=w5) (sp:=[]) (by omega) (jadd ⟨by omega,by omega⟩ ?_))
  rw[← p3]
  exact hK8 (l[k].nums.length - (j + 1)) _ _ _ (by omega) ⟨rfl,j + 1,w6,by omega,by rw[p3,List.length_set];exact hl5,by rw[← hrw5];congr 1;omega,rfl,rfl,rfl⟩
 rintro e Rw D9 ⟨hRw,hl2,hD,he⟩
 subst hRw
 rw[hD];clear hD
 simp only[List.map,lc,ln,lj,z_t] at he
 simp only[he]
 obtain⟨rfl,hfin⟩:=plus_some hful
 refine jcutq (λvs R' D'=>Rw.le R'∧∃bm b19 pv',Ints R' pv' s.pins∧D' = (b19,C T_State (eSt s' (.slice (some ⟨bw,0,none⟩) s.words.length s.words.length) (.slice (some ⟨bt,0,none⟩) s.table.length ct) (.slice (some ⟨bm,0,none⟩) s.words.length s.words.length) (.slice none 0 0) (.slice none 0 0) (pv'))) :: (bm,C T_bool ((List.replicate s.words.length [Value.bool false]).flatten)) :: (bw,C T_int (w2.map I ++ [])) :: (bt,C T_Region (rowsE eRg t2 ++ tsp)) :: E∧vs = [.pointer (some ⟨b1,0,none⟩),.pointer (some ⟨b2,0,none⟩),lv,v9,v,.pointer (some ⟨b19,0,none⟩)]) (λK hK=>?_) ?_
 ·refine jln (jl (v:=.bool s.asked) rfl (jl (v:=pv) rfl (jl (v:=I s.cycles) rfl (jl (v:=I s.fulls) rfl (jadd hfin ?_)))))
  refine jall ?_ (jall ?_ (jall1 ?_))
  ·refine jms (by omega) (by omega) (by omega) λbm=>?_
   rw[Int.toNat_natCast]
   refine jand (jl (v:=.bool s.asked) rfl jev) (jand (jl (v:=pv) rfl jev) (jand (jl (v:=I s.cycles) rfl jev) (jand (jl (v:=I s.fulls) rfl jev) ?_)))
   refine jall ?_ (jall1 ?_)
   ·refine jc (A:=[]) (t_l5Ints h8.p hpl) ?_
    rintro _ Ry _ hRy ⟨bp,cp,spp,hcp,hspp,rfl,rfl⟩
    refine jfreeze (b:=bp) λRz hRz hbp=>jnil ?_
    have hpv:=ints_of (c:=cp) hbp hcp
    refine jbd (cs:=(eSt s' (.slice (some ⟨bw,0,none⟩) s.words.length s.words.length) (.slice (some ⟨bt,0,none⟩) s.table.length ct) (.slice (some ⟨bm,0,none⟩) s.words.length s.words.length) (.slice none 0 0) (.slice none 0 0) (.slice (some ⟨bp,0,none⟩) s.pins.length cp))) rfl (by rw[← hS];rfl) ?_
    refine jand (jl (v:=.bool s.asked) rfl jev) (jand (jl (v:=I s.cycles) rfl jev) (jand (jl (v:=I s.fulls) rfl jev) ?_))
    refine ja λb19=>?_
    refine jand (jl (v:=.bool s.asked) rfl jev) (jand (jl (v:=I s.cycles) rfl jev) (jand (jl (v:=I s.fulls) rfl jev) ?_))
    refine js (cs':=(eSt s' (.slice (some ⟨bw,0,none⟩) s.words.length s.words.length) (.slice (some ⟨bt,0,none⟩) s.table.length ct) (.slice (some ⟨bm,0,none⟩) s.words.length s.words.length) (.slice none 0 0) (.slice none 0 0) (.slice (some ⟨bp,0,none⟩) s.pins.length cp))) rfl rfl (by exact z_n 13) rfl ?_
    refine jpart [(b19,C T_State (eSt s' (.slice (some ⟨bw,0,none⟩) s.words.length s.words.length) (.slice (some ⟨bt,0,none⟩) s.table.length ct) (.slice (some ⟨bm,0,none⟩) s.words.length s.words.length) (.slice none 0 0) (.slice none 0 0) (.slice (some ⟨bp,0,none⟩) s.pins.length cp))),(bm,C T_bool ((List.replicate s.words.length [Value.bool false]).flatten))] (G:=(bw,C T_int (w2.map I ++ [])) :: (bt,C T_Region (rowsE eRg t2 ++ tsp)) :: E) ?_
    exact hK _ _ _ ⟨hRy.trans hRz,bm,b19,_,hpv,rfl,rfl⟩
   ·refine ja λb19=>?_
    refine jand (jl (v:=.bool s.asked) rfl jev) (jand (jl (v:=pv) rfl jev) (jand (jl (v:=I s.cycles) rfl jev) (jand (jl (v:=I s.fulls) rfl jev) ?_)))
    refine jc (A:=[]) (t_l5Ints h8.p hpl) ?_
    rintro _ Ry _ hRy ⟨bp,cp,spp,hcp,hspp,rfl,rfl⟩
    refine jfreeze (b:=bp) λRz hRz hbp=>jnil ?_
    have hpv:=ints_of (c:=cp) hbp hcp
    refine jbd (cs:=(eSt s' (.slice (some ⟨bw,0,none⟩) s.words.length s.words.length) (.slice (some ⟨bt,0,none⟩) s.table.length ct) (.slice (some ⟨bm,0,none⟩) s.words.length s.words.length) (.slice none 0 0) (.slice none 0 0) (.slice (some ⟨bp,0,none⟩) s.pins.length cp))) rfl (by rw[← hS];rfl) ?_
    refine jand (jl (v:=.bool s.asked) rfl jev) (jand (jl (v:=I s.cycles) rfl jev) (jand (jl (v:=I s.fulls) rfl jev) ?_))
    refine js (cs':=(eSt s' (.slice (some ⟨bw,0,none⟩) s.words.length s.words.length) (.slice (some ⟨bt,0,none⟩) s.table.length ct) (.slice (some ⟨bm,0,none⟩) s.words.length s.words.length) (.slice none 0 0) (.slice none 0 0) (.slice (some ⟨bp,0,none⟩) s.pins.length cp))) rfl rfl (by exact z_n 13) rfl ?_
    refine jpart [(b19,C T_State (eSt s' (.slice (some ⟨bw,0,none⟩) s.words.length s.words.length) (.slice (some ⟨bt,0,none⟩) s.table.length ct) (.slice (some ⟨bm,0,none⟩) s.words.length s.words.length) (.slice none 0 0) (.slice none 0 0) (.slice (some ⟨bp,0,none⟩) s.pins.length cp))),(bm,C T_bool ((List.replicate s.words.length [Value.bool false]).flatten))] (G:=(bw,C T_int (w2.map I ++ [])) :: (bt,C T_Region (rowsE eRg t2 ++ tsp)) :: E) ?_
    exact hK _ _ _ ⟨hRy.trans hRz,bm,b19,_,hpv,rfl,rfl⟩
  ·refine jc (A:=[]) (t_l5Ints h8.p hpl) ?_
   rintro _ Ry _ hRy ⟨bp,cp,spp,hcp,hspp,rfl,rfl⟩
   refine jfreeze (b:=bp) λRz hRz hbp=>jnil ?_
   have hpv:=ints_of (c:=cp) hbp hcp
   refine jand (jl (v:=.bool s.asked) rfl jev) (jand (jl (v:=I s.cycles) rfl jev) (jand (jl (v:=I s.fulls) rfl jev) ?_))
   refine jall ?_ (jall1 ?_)
   ·refine jms (by omega) (by omega) (by omega) λbm=>?_
    rw[Int.toNat_natCast]
    refine jbd (cs:=(eSt s' (.slice (some ⟨bw,0,none⟩) s.words.length s.words.length) (.slice (some ⟨bt,0,none⟩) s.table.length ct) (.slice (some ⟨bm,0,none⟩) s.words.length s.words.length) (.slice none 0 0) (.slice none 0 0) (.slice (some ⟨bp,0,none⟩) s.pins.length cp))) rfl (by rw[← hS];rfl) ?_
    refine jand (jl (v:=.bool s.asked) rfl jev) (jand (jl (v:=I s.cycles) rfl jev) (jand (jl (v:=I s.fulls) rfl jev) ?_))
    refine ja λb19=>?_
    refine jand (jl (v:=.bool s.asked) rfl jev) (jand (jl (v:=I s.cycles) rfl jev) (jand (jl (v:=I s.fulls) rfl jev) ?_))
    refine js (cs':=(eSt s' (.slice (some ⟨bw,0,none⟩) s.words.length s.words.length) (.slice (some ⟨bt,0,none⟩) s.table.length ct) (.slice (some ⟨bm,0,none⟩) s.words.length s.words.length) (.slice none 0 0) (.slice none 0 0) (.slice (some ⟨bp,0,none⟩) s.pins.length cp))) rfl rfl (by exact z_n 13) rfl ?_
    refine jpart [(b19,C T_State (eSt s' (.slice (some ⟨bw,0,none⟩) s.words.length s.words.length) (.slice (some ⟨bt,0,none⟩) s.table.length ct) (.slice (some ⟨bm,0,none⟩) s.words.length s.words.length) (.slice none 0 0) (.slice none 0 0) (.slice (some ⟨bp,0,none⟩) s.pins.length cp))),(bm,C T_bool ((List.replicate s.words.length [Value.bool false]).flatten))] (G:=(bw,C T_int (w2.map I ++ [])) :: (bt,C T_Region (rowsE eRg t2 ++ tsp)) :: E) ?_
    exact hK _ _ _ ⟨hRy.trans hRz,bm,b19,_,hpv,rfl,rfl⟩
   ·refine ja λb19=>?_
    refine jand (jl (v:=.bool s.asked) rfl jev) (jand (jl (v:=I s.cycles) rfl jev) (jand (jl (v:=I s.fulls) rfl jev) ?_))
    refine jms (by omega) (by omega) (by omega) λbm=>?_
    rw[Int.toNat_natCast]
    refine jbd (cs:=(eSt s' (.slice (some ⟨bw,0,none⟩) s.words.length s.words.length) (.slice (some ⟨bt,0,none⟩) s.table.length ct) (.slice (some ⟨bm,0,none⟩) s.words.length s.words.length) (.slice none 0 0) (.slice none 0 0) (.slice (some ⟨bp,0,none⟩) s.pins.length cp))) rfl (by rw[← hS];rfl) ?_
    refine jand (jl (v:=.bool s.asked) rfl jev) (jand (jl (v:=I s.cycles) rfl jev) (jand (jl (v:=I s.fulls) rfl jev) ?_))
    refine js (cs':=(eSt s' (.slice (some ⟨bw,0,none⟩) s.words.length s.words.length) (.slice (some ⟨bt,0,none⟩) s.table.length ct) (.slice (some ⟨bm,0,none⟩) s.words.length s.words.length) (.slice none 0 0) (.slice none 0 0) (.slice (some ⟨bp,0,none⟩) s.pins.length cp))) rfl rfl (by exact z_n 13) rfl ?_
    refine jpart [(b19,C T_State (eSt s' (.slice (some ⟨bw,0,none⟩) s.words.length s.words.length) (.slice (some ⟨bt,0,none⟩) s.table.length ct) (.slice (some ⟨bm,0,none⟩) s.words.length s.words.length) (.slice none 0 0) (.slice none 0 0) (.slice (some ⟨bp,0,none⟩) s.pins.length cp))),(bm,C T_bool ((List.replicate s.words.length [Value.bool false]).flatten))] (G:=(bw,C T_int (w2.map I ++ [])) :: (bt,C T_Region (rowsE eRg t2 ++ tsp)) :: E) ?_
    exact hK _ _ _ ⟨hRy.trans hRz,bm,b19,_,hpv,rfl,rfl⟩
  ·refine ja λb19=>?_
   refine jand (jl (v:=.bool s.asked) rfl jev) (jand (jl (v:=pv) rfl jev) (jand (jl (v:=I s.cycles) rfl jev) (jand (jl (v:=I s.fulls) rfl jev) ?_)))
   refine jall ?_ (jall1 ?_)
   ·refine jms (by omega) (by omega) (by omega) λbm=>?_
    rw[Int.toNat_natCast]
    refine jand (jl (v:=.bool s.asked) rfl jev) (jand (jl (v:=pv) rfl jev) (jand (jl (v:=I s.cycles) rfl jev) (jand (jl (v:=I s.fulls) rfl jev) ?_)))
    refine jc (A:=[]) (t_l5Ints h8.p hpl) ?_
    rintro _ Ry _ hRy ⟨bp,cp,spp,hcp,hspp,rfl,rfl⟩
    refine jfreeze (b:=bp) λRz hRz hbp=>jnil ?_
    have hpv:=ints_of (c:=cp) hbp hcp
    refine jbd (cs:=(eSt s' (.slice (some ⟨bw,0,none⟩) s.words.length s.words.length) (.slice (some ⟨bt,0,none⟩) s.table.length ct) (.slice (some ⟨bm,0,none⟩) s.words.length s.words.length) (.slice none 0 0) (.slice none 0 0) (.slice (some ⟨bp,0,none⟩) s.pins.length cp))) rfl (by rw[← hS];rfl) ?_
    refine jand (jl (v:=.bool s.asked) rfl jev) (jand (jl (v:=I s.cycles) rfl jev) (jand (jl (v:=I s.fulls) rfl jev) ?_))
    refine js (cs':=(eSt s' (.slice (some ⟨bw,0,none⟩) s.words.length s.words.length) (.slice (some ⟨bt,0,none⟩) s.table.length ct) (.slice (some ⟨bm,0,none⟩) s.words.length s.words.length) (.slice none 0 0) (.slice none 0 0) (.slice (some ⟨bp,0,none⟩) s.pins.length cp))) rfl rfl (by exact z_n 13) rfl ?_
    refine jpart [(b19,C T_State (eSt s' (.slice (some ⟨bw,0,none⟩) s.words.length s.words.length) (.slice (some ⟨bt,0,none⟩) s.table.length ct) (.slice (some ⟨bm,0,none⟩) s.words.length s.words.length) (.slice none 0 0) (.slice none 0 0) (.slice (some ⟨bp,0,none⟩) s.pins.length cp))),(bm,C T_bool ((List.replicate s.words.length [Value.bool false]).flatten))] (G:=(bw,C T_int (w2.map I ++ [])) :: (bt,C T_Region (rowsE eRg t2 ++ tsp)) :: E) ?_
    exact hK _ _ _ ⟨hRy.trans hRz,bm,b19,_,hpv,rfl,rfl⟩
   ·refine jc (A:=[]) (t_l5Ints h8.p hpl) ?_
    rintro _ Ry _ hRy ⟨bp,cp,spp,hcp,hspp,rfl,rfl⟩
    refine jfreeze (b:=bp) λRz hRz hbp=>jnil ?_
    have hpv:=ints_of (c:=cp) hbp hcp
    refine jand (jl (v:=.bool s.asked) rfl jev) (jand (jl (v:=I s.cycles) rfl jev) (jand (jl (v:=I s.fulls) rfl jev) ?_))
    refine jms (by omega) (by omega) (by omega) λbm=>?_
    rw[Int.toNat_natCast]
    refine jbd (cs:=(eSt s' (.slice (some ⟨bw,0,none⟩) s.words.length s.words.length) (.slice (some ⟨bt,0,none⟩) s.table.length ct) (.slice (some ⟨bm,0,none⟩) s.words.length s.words.length) (.slice none 0 0) (.slice none 0 0) (.slice (some ⟨bp,0,none⟩) s.pins.length cp))) rfl (by rw[← hS];rfl) ?_
    refine jand (jl (v:=.bool s.asked) rfl jev) (jand (jl (v:=I s.cycles) rfl jev) (jand (jl (v:=I s.fulls) rfl jev) ?_))
    refine js (cs':=(eSt s' (.slice (some ⟨bw,0,none⟩) s.words.length s.words.length) (.slice (some ⟨bt,0,none⟩) s.table.length ct) (.slice (some ⟨bm,0,none⟩) s.words.length s.words.length) (.slice none 0 0) (.slice none 0 0) (.slice (some ⟨bp,0,none⟩) s.pins.length cp))) rfl rfl (by exact z_n 13) rfl ?_
    refine jpart [(b19,C T_State (eSt s' (.slice (some ⟨bw,0,none⟩) s.words.length s.words.length) (.slice (some ⟨bt,0,none⟩) s.table.length ct) (.slice (some ⟨bm,0,none⟩) s.words.length s.words.length) (.slice none 0 0) (.slice none 0 0) (.slice (some ⟨bp,0,none⟩) s.pins.length cp))),(bm,C T_bool ((List.replicate s.words.length [Value.bool false]).flatten))] (G:=(bw,C T_int (w2.map I ++ [])) :: (bt,C T_Region (rowsE eRg t2 ++ tsp)) :: E) ?_
    exact hK _ _ _ ⟨hRy.trans hRz,bm,b19,_,hpv,rfl,rfl⟩
 rintro e Ry D9 ⟨hRy,bm,b19,pv',hpv',hD,he⟩
 rw[hD];clear hD
 have es1:s'.words = w2:=by rw[← hS]
 have es2:s'.table = t2:=by rw[← hS]
 have es3:s'.pins = s.pins:=by rw[← hS]
 have es4:s'.threads = ths:=by rw[← hS]
 have es5:s'.marks = List.replicate w2.length false:=by rw[← hS]
 have hths8:newThs l live to_ s.threads = some s'.threads:=by rw[es4];exact hths
 rw[← hE]
 have ew:s.words.length = s'.words.length:=by rw[es1];exact hl2.symm
 have et:s.table.length = s'.table.length:=by rw[es2];exact ht2.symm
 have em:(List.replicate s.words.length [Value.bool false]).flatten = s'.marks.map Value.bool:=by rw[es5,hl2];simp
 have el:s'.marks.length = s'.words.length:=by rw[es5,es1,List.length_replicate]
 rw[em,← es1,← es2,ew,et]
 refine jpart [(b19,C T_State (eSt s' (.slice (some ⟨bw,0,none⟩) s'.words.length s'.words.length) (.slice (some ⟨bt,0,none⟩) s'.table.length ct) (.slice (some ⟨bm,0,none⟩) s'.words.length s'.words.length) (.slice none 0 0) (.slice none 0 0) pv')),(b2,C T_State (cl z58)),(b1,C T_State (eSt s wv tv mv thv ov pv)),(bw,C T_int (s'.words.map I ++ [])),(bt,C T_Region (rowsE eRg s'.table ++ tsp)),(bm,C T_bool (s'.marks.map Value.bool))] (G:=F) ?_
 have hRR:=hR1.trans (hR2.trans (hR3.trans (hR5.trans (hR8.trans hRy))))
 have hpf:=Fz.flat hpv'
 change J Ry _ (l7d e _)
 refine l7d_ok (E:=(b1,C T_State (eSt s wv tv mv thv ov pv)) :: (bw,C T_int (s'.words.map I ++ [])) :: (bt,C T_Region (rowsE eRg s'.table ++ tsp)) :: (bm,C T_bool (s'.marks.map Value.bool)) :: F) (h8.le hRy) (hlv8.le hRy) (by omega) (hi98.le hRy) (by omega) (hito.le hRy) hths8 hth hrl inferInstance he (λx hx=>?_) (λR' x hR' hx=>?_)
 ·show (true && (true && (true && (true && (true && (true && (true && (true && (flat x && (true && (flat pv' && (true && (true && true))))))))))))) = true
  rw[hx,hpf];rfl
 ·refine jret (A:=[(bw,C T_int (s'.words.map I ++ [])),(bt,C T_Region (rowsE eRg s'.table ++ tsp)),(bm,C T_bool (s'.marks.map Value.bool))]) (hRR.trans hR') ⟨bw,[],s'.words.length,bt,tsp,ct,bm,x,pv',by omega,by omega,by omega,by omega,by omega,hx,?_,rfl,?_⟩
  ·rw[es3];exact hpv'.le hR'
  ·rw[el]
end Go.Lf
end
section
namespace Go.Lf
open Go Sm
theorem rgs_of {R:RM} {b c:Nat} {l:List Rg} {sp:List Value} (h:R b = some (C T_Region (rowsE eRg l ++ sp))) (hc:l.length≤c):Rgs R (.slice (some ⟨b,0,none⟩) l.length c) l:=by
 have e:=rowsE_size (f:=eRg) (w:=5) (λ_=>rfl) l
 exact .inr ⟨b,0,c,T_Region,_,rfl,h,by rw[List.length_append,e];omega,by rw[List.drop_zero,← e,List.take_left],hc⟩
theorem bls_of {R:RM} {b c:Nat} {l:List Bool} {sp:List Value} (h:R b = some (C T_bool (l.map Value.bool ++ sp))) (hc:l.length≤c):Bls R (.slice (some ⟨b,0,none⟩) l.length c) l:=by
 have e:(l.map Value.bool).length = l.length * 1:=by simp
 exact .inr ⟨b,0,c,T_bool,_,rfl,h,by rw[List.length_append,e];omega,by rw[List.drop_zero,← e,List.take_left],hc⟩
theorem newThs_len {l:List Thing} {live to_:List Int}:∀{ts r:List Th},newThs l live to_ ts = some r→r.length = ts.length
 | [],r,h=>by unfold newThs at h;cases h;rfl
 | t :: ts,r,h=>by
  obtain⟨roots,rest,_,h2,rfl⟩:=newTh_cons h
  rw[List.length_cons,List.length_cons,newThs_len h2]
theorem fullS_ths {s s' : Sm.State} (h:fullS s = some s'):s'.threads.length = s.threads.length∧s'.old = []:=by
 unfold fullS at h
 obtain⟨_,_,h⟩:=bind_some h
 obtain⟨⟨_,_⟩,_,h⟩:=bind_some h
 obtain⟨⟨_,_⟩,_,h⟩:=bind_some h
 obtain⟨_,_,h⟩:=bind_some h
 obtain⟨_,hths,h⟩:=bind_some h
 obtain⟨_,_,h⟩:=bind_some h
 simp only[Option.some.injEq] at h
 subst h
 exact⟨newThs_len hths,rfl⟩
theorem t_pause_f {p n:Nat} {S S' : Sim} {g:Img} {R:RM} (hok:Ok R S g) (hp:Pr S) (hT:TOk S.table) (hf:S.full = true) (hS:S.pause n = some S') :
  Fn P F_Sim_pause [.pointer (some ⟨p,0,none⟩)] R (simD p S g) (SimQ p S' λ_=>True):=by
 refine s_Sim_pause λF=>?_
 unfold c_Sim_pause
 unfold Sim.pause at hS
 split at hS
 ·cases hS
 rename_i hz
 have hz:S.sz = true:=by simpa using hz
 obtain⟨s,hs,hS⟩:=bind_some hS
 simp only[Option.some.injEq] at hS
 have hze:=sz_ev hz
 have hhl:=hok.hl
 refine jl (v:=.bool S.full) rfl ?_
 rw[hf]
 refine jift ?_
 refine jc (A:=simD p S g) (t_view hok hz) ?_
 rintro _ R1 _ hR1 ⟨-,rfl,thv,hths,rfl⟩
 have ok1:=hok.le hR1
 unfold simD
 refine jfreeze (b:=g.wb) λR2 hR2 hbw=>jfreeze (b:=g.tb) λR3 hR3 hbt=>jfreeze (b:=g.mb) λR4 hR4 hbm=>?_
 have hR14:=(hR2.trans hR3).trans hR4
 have ok4:=ok1.le hR14
 have hst:StC R4 S.view (wS S g) (tS S g) (mS S g) thv g.old g.pins:=⟨ints_of (hR4 _ _ (hR3 _ _ hbw)) hok.wk,rgs_of (hR4 _ _ hbt) hok.tk,bls_of hbm hok.mk_,hths.le hR14,ok4.old,ok4.pins⟩
 have hvl:S.view.threads.length = S.th.length:=by simp[Sim.view]
 obtain⟨hsl,hold⟩:=fullS_ths hs
 refine jc (A:=[]) (t_l7Full hst hok.wl hT.n0 hT.n1 (by omega) (λt ht=>?_) hze.2.2.2.1 hp.2 hs) ?_
 ·obtain⟨t',ht',rfl⟩:=List.mem_map.1 ht
  exact hze.2.2.2.2 _ ht'
 rintro _ R5 _ hR5 ⟨bw,wsp,cw,bt,tsp,ct,bm,thv',pv',w1,w2,w3,w4,w5,hths',hpv',rfl,rfl⟩
 have ok5:=ok4.le hR5
 obtain⟨ta,tc,htv⟩:=hths'.sl
 have hpf:=Fz.flat hpv'
 have w1:s.words.length = S.words.length:=w1
 have w2:s.table.length = S.table.length:=w2
 have w3:s.marks.length = S.words.length:=w3
 have hwl:=hok.wl
 have htl:=hok.tl
 refine js (cs':=eSim { S with words:=s.words,table:=s.table,marks:=s.marks,phase:=s.phase,stop:=s.stop,full:=s.full,old:=s.old,pins:=s.pins,cycles:=s.cycles,fulls:=s.fulls } { g with wb:=bw,wc:=cw,wsp:=wsp,tb:=bt,tc:=ct,tsp:=tsp,mb:=bm,mc:=s.marks.length,msp:=[],asked:=.bool s.asked,want:=I s.want,threads:=thv',old:=.slice none 0 0,pins:=pv' }) rfl ?_ (by show 4 + 13≤35;omega) rfl ?_
 ·subst htv
  show (true && (true && (true && (true && (true && (true && (true && (true && (true && (true && (flat pv' && (true && (true && true))))))))))))) = true
  rw[hpf];rfl
 refine jl (v:=.bool s.asked) rfl ?_
 refine jbd (cs:=eCol (col0 s.asked 0) (.slice none 0 0)) rfl rfl ?_
 generalize hS3:({ S with words:=s.words,table:=s.table,marks:=s.marks,phase:=s.phase,stop:=s.stop,full:=s.full,old:=s.old,pins:=s.pins,cycles:=s.cycles,fulls:=s.fulls,col:=col0 s.asked 0 }:Sim) = S3
 generalize hg3:({ g with wb:=bw,wc:=cw,wsp:=wsp,tb:=bt,tc:=ct,tsp:=tsp,mb:=bm,mc:=s.marks.length,msp:=[],asked:=.bool s.asked,want:=I s.want,threads:=thv',old:=.slice none 0 0,pins:=pv',stack:=.slice none 0 0 }:Img) = g3
 have eth:S3.th = S.th:=by rw[← hS3]
 have ethv:g3.threads = thv':=by rw[← hg3]
 have ok3:Ok R5 S3 g3:=by
  subst hS3 hg3 htv
  exact { ok5 with old:=.inl ⟨rfl,by rw[hold];rfl,by rw[hold];rfl⟩,pins:=hpv',stack:=.inl ⟨rfl,rfl,rfl⟩,wl:=by show s.words.length≤1000;omega,tl:=by show s.table.length≤1000;omega,ml:=by show s.marks.length≤1000;omega,fl:=⟨rfl,rfl,rfl⟩,wk:=w4,tk:=w5,mk_:=z_n _ }
 refine js (cs':=eSim S3 g3) rfl rfl (by exact Nat.le_of_ble_eq_true rfl) (by rw[← hS3,← hg3];rfl) ?_
 refine jperm (D':=simD p S3 g3 ++ F) (by
  have e:simD p S3 g3 = (p,C T_l8Sim (eSim S3 g3)) :: (bw,C T_int (s.words.map I ++ wsp)) :: (bt,C T_Region (rowsE eRg s.table ++ tsp)) :: (bm,C T_bool (s.marks.map Value.bool ++ [])) :: (g.hb,C T_l8Thread (eThs S.th g.rv ++ g.hsp)) :: evD S g:=by rw[← hS3,← hg3];rfl
  rw[e,List.append_nil]
  exact List.perm_middle (l₁:=[(bw,C T_int (s.words.map I ++ wsp)),(bt,C T_Region (rowsE eRg s.table ++ tsp)),(bm,C T_bool (s.marks.map Value.bool))])) ?_
 have hSe:S' = { S3 with th:=s.threads.map λt=>thr0 t.roots t.next t.tried }:=by rw[← hS3,← hS]
 clear hS hS3 hg3 hst
 generalize hT' : (s.threads.map λt=>thr0 t.roots t.next t.tried) = T' at hSe
 have hTl:T'.length = S.th.length:=by rw[← hT',List.length_map];omega
 have hTg:∀k (h:k < T'.length) (h' : k < s.threads.length),T'[k] = thr0 (s.threads[k]).roots (s.threads[k]).next (s.threads[k]).tried:=λk h h'=>by simp only[← hT',List.getElem_map]
 rw[← eth] at hTl hhl hvl
 rw[hvl] at hsl
 subst hSe
 refine jlp (λm vs R' D'=>R' = R5∧∃(k:Nat) (g4:Img),k≤S3.th.length∧g4.threads = thv'∧Ok R5 { S3 with th:=T'.take k ++ S3.th.drop k } g4∧D' = simD p { S3 with th:=T'.take k ++ S3.th.drop k } g4 ++ F∧vs = [.pointer (some ⟨p,0,none⟩),I k]∧m = S3.th.length - k)
  (n:=S3.th.length) ⟨rfl,0,g3,by omega,ethv,ok3,rfl,rfl,by omega⟩ ?_
 rintro m e R6 D6 K ⟨hR,k,g4,hk,e4,ok4,hD,he,hm⟩ hK
 subst hR
 rw[hD];clear hD
 simp only[List.map,lc,ln,lj,z_t] at he
 simp only[he]
 have hul:=upto_len (k:=k) hTl
 refine jl (v:=.slice (some ⟨g4.hb,0,none⟩) (T'.take k ++ S3.th.drop k).length g4.hc) rfl (jln (jlt (jif (λhc=>?_) (λhc=>?_))))
 rotate_left
 ·have hc:S3.th.length≤k:=by have:=z_g hc;omega
  have ee:T'.take k ++ S3.th.drop k = T':=by rw[List.take_of_length_le (by omega),List.drop_eq_nil_of_le (by omega),List.append_nil]
  rw[ee] at ok4 ⊢
  exact jretS (hR1.trans (hR14.trans hR5)) trivial rfl ok4
 have hc:k < S3.th.length:=by have:=z_f hc;omega
 have hcs:k < s.threads.length:=by omega
 refine jl (v:=g4.threads) rfl ?_
 rw[e4]
 refine jtr hths' hcs λb3 o3 ty cs rv hrv hb3 ho3 hrow3=>?_
 refine jlar hb3 ho3 hrow3 ?_
 obtain⟨ra,rc,hrve⟩:=hrv.sl
 subst hrve
 refine ja λb30=>?_
 refine js (cs':=[.slice ra (s.threads[k]).roots.length rc,I (s.threads[k]).next,.bool (s.threads[k]).busy,I (s.threads[k]).tried]) rfl rfl (by exact z_n 4) rfl ?_
 refine jl (v:=.slice (some ⟨g4.hb,0,none⟩) (T'.take k ++ S3.th.drop k).length g4.hc) rfl ?_
 refine jl (v:=.slice ra (s.threads[k]).roots.length rc) rfl (jl (v:=I (s.threads[k]).next) rfl (jl (v:=I (s.threads[k]).tried) rfl ?_))
 refine jbd (cs:=eThr (thr0 (s.threads[k]).roots (s.threads[k]).next (s.threads[k]).tried) (.slice ra (s.threads[k]).roots.length rc)) rfl rfl ?_
 refine jian (by omega) ?_
 refine jst (p:=p) (S:={ S3 with th:=T'.take k ++ S3.th.drop k }) (g:=g4) _ _ (by show k < (T'.take k ++ S3.th.drop k).length;omega) ok4.rvl (Fz.flat hrv) rfl rfl ?_
 refine jadd ⟨by omega,by omega⟩ ?_
 have hset:(T'.take k ++ S3.th.drop k).set k (thr0 (s.threads[k]).roots (s.threads[k]).next (s.threads[k]).tried) = T'.take (k + 1) ++ S3.th.drop (k + 1):=by
  rw[← hTg k (by omega) hcs]
  exact upto_set hTl hc
 have ok5':=ok4.setT (i:=k) (t:=thr0 (s.threads[k]).roots (s.threads[k]).next (s.threads[k]).tried) (v:=.slice ra (s.threads[k]).roots.length rc) hrv
 dsimp only at ok5' ⊢
 rw[hset] at ok5' ⊢
 refine jpart (simD p { S3 with th:=T'.take (k + 1) ++ S3.th.drop (k + 1) } { g4 with rv:=g4.rv.set k (.slice ra (s.threads[k]).roots.length rc) }) (G:=F) ?_
 exact hK (S3.th.length - (k + 1)) _ _ _ (by omega) ⟨rfl,k + 1,{ g4 with rv:=g4.rv.set k (.slice ra (s.threads[k]).roots.length rc) },by omega,e4,ok5',rfl,rfl,rfl⟩
theorem t_pause {p n:Nat} {S S' : Sim} {g:Img} {R:RM} (hok:Ok R S g) (hp:Pr S) (hT:TOk S.table) (hS:S.pause n = some S') :
  Fn P F_Sim_pause [.pointer (some ⟨p,0,none⟩)] R (simD p S g) (SimQ p S' λ_=>True):=by
 cases hf:S.full with
 | true=>exact t_pause_f hok hp hT hf hS
 | false=>exact t_pause_nf hok hp hT hf hS
end Go.Lf
end
section
namespace Go.Lf
open Go Sm
theorem x_conv (x:Int) (w:World):(Go.convert 5 3 (.int .u8 x):Sem Value).run P w = .ok (.int .i64 (IntKind.i64.wrap x)) w:=by
 kernel_rfl
def Bsl (R:RM) (v:Value) (n:Nat):Prop:=∃a cap,v = .slice a n cap∧n≤cap∧(n = 0∨∃b o,a = some ⟨b,o,none⟩∧∀i,i < n→∃t cs fz x,R b = some (.cells cs t fz)∧cs[o + i]? = some (.int .u8 x)∧0≤x∧x < 256)
theorem Bsl.le {R R' : RM} {v:Value} {n:Nat} (h:R.le R') (H:Bsl R v n):Bsl R' v n:=by
 obtain⟨a,cap,h1,h2,h3 | ⟨b,o,h3,h4⟩⟩:=H
 ·exact⟨a,cap,h1,h2,.inl h3⟩
 ·exact⟨a,cap,h1,h2,.inr ⟨b,o,h3,λi hi=>by obtain⟨t,cs,fz,x,q1,q2⟩:=h4 i hi;exact⟨t,cs,fz,x,h _ _ q1,q2⟩⟩⟩
section rules
variable {R:RM} {D:Chs} {k:Value→M}
theorem jcv {x:Int} (h:inR x) (H:J R D (k (I x))):J R D (X P (Go.convert 5 3 (.int .u8 x)) k):=by
 intro h' hs w hw
 rw[x_conv,wrap_i64 h]
 subst hw
 exact⟨Same.refl _,H _ hs⟩
theorem jxor {x y:Int} (hx:0≤x∧x < 4611686018427387904) (hy:0≤y∧y < 4611686018427387904) (H:∀z:Int,0≤z→z < 4611686018427387904→J R D (k (I z))):J R D (BO .xor (I x) (I y) k):=by
 have e:BO .xor (I x) (I y) k = k (.int .i64 (IntKind.i64.wrap (BitVec.ofInt 64 x ^^^ BitVec.ofInt 64 y).toNat)):=rfl
 have h1:(BitVec.ofInt 64 x ^^^ BitVec.ofInt 64 y).toNat < 2 ^ 62:=by
  rw[BitVec.toNat_xor]
  have hb:∀z:Int,0≤z∧z < 4611686018427387904→(BitVec.ofInt 64 z).toNat < 2 ^ 62:=λz hz=>by
   rw[BitVec.toNat_ofInt];omega
  exact Nat.xor_lt_two_pow (hb x hx) (hb y hy)
 rw[e,wrap_i64 ⟨by omega,by omega⟩]
 exact H _ (by omega) (by omega)
theorem jbyte {v:Value} {n:Nat} {i:Int} (h:Bsl R v n) (h0:0≤i) (h1:i < n)
  (H:∀(q:Value) (x:Int),0≤x→x < 256→(∀(D' : Chs) (k' : Value→M),J R D' (k' (.int .u8 x))→J R D' (L1 q k'))→J R D (k q)):J R D (IA 1 v (I i) k):=by
 obtain⟨a,cap,rfl,hn,h2 | ⟨b,o,rfl,hc⟩⟩:=h
 ·omega
 ·obtain⟨t,cs,fz,x,hb,hx,x0,x1⟩:=hc i.toNat (by omega)
  refine jia h0 (by omega) (H _ x x0 x1 λD' k' hk=>?_)
  rw[Nat.mul_one]
  intro h hs
  exact⟨.int .u8 x,by simp only[Go.Lf.hc,hs.rd b _ hb];exact hx,hk h hs⟩
end rules
def Byt (R:RM) (v:Value):Prop:=∃a n cap,v = .slice a n cap∧Bsl R v n∧n≤1000000
theorem Byt.le {R R' : RM} {v:Value} (h:R.le R') (H:Byt R v):Byt R' v:=by
 obtain⟨a,n,cap,h1,h2,h3⟩:=H
 exact⟨a,n,cap,h1,h2.le h,h3⟩
@[reducible] def rdO (v:Value) (m:Int):Obj:=C 54 [v,I m]
theorem d_pick {R:RM} {rb:Nat} {v:Value} {n m:Int} (hb:Byt R v) (hm:0≤m∧m < 1000000000) :
  Fn P F_s_l1Rd_pick [.pointer (some ⟨rb,0,none⟩),I n] R [(rb,rdO v m)] (λv' R' A=>R' = R∧A = [(rb,rdO v (m + 1))]∧∃x,v' = I x∧0≤x∧(x < n∨x = 0)):=by
 refine s_s_l1Rd_pick λF=>?_
 unfold c_s_l1Rd_pick
 obtain⟨a,l,cap,rfl,hf,hl⟩:=hb
 refine jl (v:=I m) rfl (jadd ⟨by omega,by omega⟩ (js (cs':=[.slice a l cap,I (m + 1)]) rfl rfl (by simp) rfl ?_))
 refine jor [.pointer (some ⟨rb,0,none⟩),I n] (decide (n < 1) || ((l:Int) == 0)) (λK' hK'=>?_) (λe c u ho he=>?_)
 ·refine jlt (jgtf (λh1=>?_) (λh1=>?_))
  ·refine jl (v:=.slice a l cap) rfl (jln (jeq (hK' _ _ _ (h1▸or2_f) (by rw[h1,Bool.false_or]))))
  ·exact hK' _ _ _ (h1▸or2_t) (by rw[h1,Bool.true_or])
 simp only[List.map,lc,ln,lj,z_t] at he
 simp only[he]
 rw[ho]
 have fin:∀x:Int,0≤x→(x < n∨x = 0)→J R ((rb,C 54 [.slice a l cap,I (m + 1)]) :: F) (POST R F (λv' R' A=>R' = R∧A = [(rb,rdO (.slice a l cap) (m + 1))]∧∃x,v' = I x∧0≤x∧(x < n∨x = 0)) (I x)):=λx x0 x1=>
  jret (A:=[(rb,rdO (.slice a l cap) (m + 1))]) (RM.le.refl R) ⟨rfl,rfl,x,rfl,x0,x1⟩
 refine jif (λh0=>fin 0 (by omega) (.inr rfl)) (λh0=>?_)
 simp only[Bool.or_eq_false_iff,decide_eq_false_iff_not,beq_eq_false_iff_ne] at h0
 obtain⟨n1,l1⟩:=h0
 have tm:∀x y:Int,0≤x→0 < y→0≤x.tmod y∧x.tmod y < y:=λx y hx hy=>⟨Int.tmod_nonneg y hx,Int.tmod_lt_of_pos x hy⟩
 refine jl (v:=I (m + 1)) rfl (jsub ⟨by omega,by omega⟩ ?_)
 rw[show m + 1 - 1 = m from by omega]
 refine jl (v:=.slice a l cap) rfl (jln (jlt (jif (λh1=>?_) (λh1=>?_))))
 ·have h1:=z_f h1
  refine jl (v:=.slice a l cap) rfl (jbyte hf hm.1 h1 λq x x0 x1 hq=>?_)
  refine hq _ _ ?_
  refine @jcv _ _ _ _ ⟨by omega,by omega⟩ (jrem (by omega) ?_)
  obtain⟨t0,t1⟩:=tm x n x0 (by omega)
  exact fin _ t0 (.inl t1)
 ·refine jcutq (λvs R' D'=>R' = R∧D' = (rb,C 54 [.slice a l cap,I (m + 1)]) :: F∧∃x:Int,0≤x∧x < 1000000000000∧vs = [I n,I x]) (λK hK=>?_) ?_
  ·obtain⟨k0,k1⟩:=tm m l hm.1 (by omega)
   obtain⟨k2,k3⟩:=tm (m * 7 + 3) l (by omega) (by omega)
   have q0:0≤m.tdiv l:=Int.tdiv_nonneg hm.1 (by omega)
   have q1:m.tdiv l≤m:=by
    rw[Int.tdiv_eq_ediv_of_nonneg hm.1]
    exact Int.ediv_le_self _ hm.1
   refine jl (v:=.slice a l cap) rfl ?_
   refine jl (v:=.slice a l cap) rfl (jln ?_)
   refine jrem (by omega) ?_
   refine jbyte hf k0 k1 λqa x x0 x1 hqa=>?_
   refine hqa _ _ ?_
   refine jl (v:=.slice a l cap) rfl (jmul ⟨by omega,by omega⟩ (jadd ⟨by omega,by omega⟩ (jl (v:=.slice a l cap) rfl (jln (jrem (by omega) (jbyte hf k2 k3 λqb y y0 y1 hqb=>?_))))))
   refine hqb _ _ ?_
   refine jmul ⟨by omega,by omega⟩ (jl (v:=.slice a l cap) rfl (jln (jquo (by omega) ⟨by omega,by omega⟩ (jmul ⟨by omega,by omega⟩ ?_))))
   refine jall ?_ (jall1 ?_)
   ·refine @jcv _ _ _ _ ⟨by omega,by omega⟩ (jmul ⟨by omega,by omega⟩ ?_)
    refine jand (jl (v:=.slice a l cap) rfl jev) (jand (jl (v:=.slice a l cap) rfl jev) (jand (hqb _ _ jev) (jand (jl (v:=.slice a l cap) rfl jev) ?_)))
    refine @jcv _ _ _ _ ⟨by omega,by omega⟩ (jmul ⟨by omega,by omega⟩ (jadd ⟨by omega,by omega⟩ (jadd ⟨by omega,by omega⟩ (jadd ⟨by omega,by omega⟩ ?_))))
    refine jand (jl (v:=.slice a l cap) rfl jev) ?_
    exact hK _ _ _ ⟨rfl,rfl,_,by omega,by omega,rfl⟩
   ·refine @jcv _ _ _ _ ⟨by omega,by omega⟩ (jmul ⟨by omega,by omega⟩ ?_)
    refine jand (jl (v:=.slice a l cap) rfl jev) (jand (jl (v:=.slice a l cap) rfl jev) (jand (hqa _ _ jev) (jand (jl (v:=.slice a l cap) rfl jev) ?_)))
    refine @jcv _ _ _ _ ⟨by omega,by omega⟩ (jmul ⟨by omega,by omega⟩ (jadd ⟨by omega,by omega⟩ (jadd ⟨by omega,by omega⟩ (jadd ⟨by omega,by omega⟩ ?_))))
    refine jand (jl (v:=.slice a l cap) rfl jev) ?_
    exact hK _ _ _ ⟨rfl,rfl,_,by omega,by omega,rfl⟩
  rintro e R1 D1 ⟨hR,hD,x,x0,x1,he⟩
  subst hR
  rw[hD];clear hD
  simp only[List.map,lc,ln,lj,z_t] at he
  simp only[he]
  have e1:x.tdiv 64 = x / 64:=Int.tdiv_eq_ediv_of_nonneg x0
  refine jquo (by decide) (by rw[e1];constructor<;>omega) ?_
  rw[e1]
  refine jxor ⟨x0,by omega⟩ ⟨by omega,by omega⟩ λz z0 z1=>jrem (by omega) ?_
  obtain⟨t0,t1⟩:=tm z n z0 (by omega)
  exact fin _ t0 (.inl t1)
theorem jpk {R:RM} {D E:Chs} {rb:Nat} {v:Value} {n m:Int} {k:Value→M} (hb:Byt R v) (hm:0≤m∧m < 1000000000) [t:Tk D rb (rdO v m) E] (H:∀x,0≤x→(x < n∨x = 0)→J R ((rb,rdO v (m + 1)) :: E) (k (I x))) :
  J R D (CA P F_s_l1Rd_pick [.pointer (some ⟨rb,0,none⟩),I n] k):=by
 refine jc (A:=[(rb,rdO v m)]) (F:=E) (s:=⟨t.p⟩) (d_pick hb hm) ?_
 rintro _ _ _ _ ⟨rfl,rfl,x,rfl,x0,x1⟩
 exact H x x0 x1
end Go.Lf
end
section
namespace Go.Lf
open Go Sm
theorem ig_pr {P0:List (List Sm.Op)} {S:Sim} {gh:Gh} (I:IG P0 S gh):Pr S∧TOk S.table:=by
 refine⟨⟨⟨by have:=I.rs.1;omega,by have:=I.rs.2;omega⟩,λa ha=>?_⟩,I.sh.g.ok⟩
 have h1:=I.sh.pl a ha
 have h2:=I.sh.g.inn (I.sh.lb a h1.1)
 have h3:=I.wl
 obtain⟨h4,_,_,_,_,h5,h6,_⟩:=h2
 have h5:a + sz S.words a≤S.words.length:=h5
 have h6:2≤sz S.words a:=h6
 unfold regionOf
 split<;>omega
theorem ig_sz {P0:List (List Sm.Op)} {S:Sim} {gh:Gh} {c:Nat} (I:IG P0 S gh) (B:Bd c S) (hc:c < 900000):S.sz = true:=I.szok rfl B hc
theorem t_pickI {P0:List (List Sm.Op)} {p c:Nat} {S:Sim} {gh:Gh} {a:Int} (i0:IG P0 S gh) (B:Bd c S) (hc:c + 5 < 900000) (ha:inR a) :
  ∃S' gh',IG P0 S' gh'∧Bd (c + 5) S'∧S.pick a = some S'∧∀R g,Ok R S g→Fn P F_Sim_pick [.pointer (some ⟨p,0,none⟩),I a] R (simD p S g) (SimQ p S' λ_=>True):=by
 obtain⟨S',gh',e,I',B'⟩:=pick_ok (p:=a) hc i0 B
 exact⟨S',gh',I',B',e,λR g hok=>t_pick hok ha (λR g S1 ok hp=>t_pause ok (ig_pr i0).1 (ig_pr i0).2 hp) e⟩
theorem picks_take {P0:List (List Sm.Op)}:∀(ps:List Int) (i c:Nat) (S:Sim) (gh:Gh),c + 5 * ps.length < 900000→IG P0 S gh→Bd c S→∀S1,Sim.picks (ps.take i) S = some S1→∃gh1,IG P0 S1 gh1:=by
 intro ps i c S gh hc I B S1 h
 have hl:(ps.take i).length≤ps.length:=by simp;omega
 obtain⟨S2,g2,e2,I2,_⟩:=picks_ok (ps.take i) c S gh (by omega) I B
 rw[h] at e2
 cases e2
 exact⟨g2,I2⟩
theorem storyOk_iff {c:Cfg} {progs:List (List Sm.Op)} {picks:List Int} (h:storyOk c progs picks = true):configOk c = true∧(progs.length:Int) = c.threads∧picks.length≤4000∧∀p∈progs,p.length≤40:=by
 unfold storyOk at h
 simp only[z_b,z_d,List.all_eq_true] at h
 exact⟨h.1.1.1,h.1.1.2,h.1.2,h.2⟩
theorem t_play {c0:Cfg} {progs:List (List Sm.Op)} {picks:List Int} (hok:storyOk c0 progs picks = true) (ha:∀a∈picks,inR a) :
  ∃S' gh,IG progs S' gh∧Bd 20000 S'∧Sim.picks picks (Sm.start c0 progs) = some S'∧∀R pv kv,Progs R pv progs→Ints R kv picks→Fn P F_s_StoryPlay [.agg #[I c0.regions,I c0.threads,I c0.reserve],pv,kv] R [] (λv R' A=>∃p g rows thv A',Ok R' S' g∧Rw (ThrC R') rows S'.view.threads∧SW 78 4 rows thv A'∧A = A' ++ simD p S' g∧
   v = .tuple #[.agg (eSt S'.view (wS S' g) (tS S' g) (mS S' g) thv g.old g.pins).toArray,evV S' g]):=by
 obtain⟨h1,h2,h3,h4⟩:=storyOk_iff hok
 obtain⟨g0,I0,B0⟩:=start_ok h1 h2 h4
 obtain⟨S',gh,e,I',B'⟩:=picks_ok picks 0 _ g0 (by omega) I0 B0
 refine⟨S',gh,I',B'.mono (by omega),e,λR pv kv hp hk=>t_StoryPlay hp hk hok ha e (ig_sz I' B' (by omega)) λi S hS p R g S1 ok hpz=>?_⟩
 obtain⟨gh1,I1⟩:=picks_take picks i 0 _ g0 (by omega) I0 B0 S hS
 exact t_pause ok (ig_pr I1).1 (ig_pr I1).2 hpz
end Go.Lf
end
section
namespace Go.Lf
open Go Sm
def sel (l:List Int) (x:Int):Int:=l.getD x.toNat 0
theorem sel_get (l:List Int) {x:Int} (h0:0≤x) (h1:x < l.length):(l.map I)[0 + x.toNat * 1]? = some (I (sel l x)):=by
 have:x.toNat < l.length:=by omega
 simp[sel,this]
theorem sel_in {l:List Int} {x:Int} (h0:0≤x) (h1:x < l.length):sel l x∈l:=by
 have:x.toNat < l.length:=by omega
 simp[sel,this]
theorem jsb {R:RM} {D:Chs} {v:Value} {w n:Nat} {u:Int} {k:Value→M} (h:Bsl R v n) (h0:0≤u) (h1:u≤n) (H:∀v',Bsl R v' u.toNat→J R D (k v')):J R D (SL w v none (some (I u)) k):=by
 obtain⟨a,cap,rfl,hn,h2⟩:=h
 intro h' hs
 refine⟨⟨h0,by omega⟩,H _ ⟨a,cap,rfl,by omega,?_⟩ h' hs⟩
 rcases h2 with h3 | ⟨b,o,h2,h3⟩
 ·exact .inl (by omega)
 ·exact .inr ⟨b,o,h2,λi hi=>h3 i (by omega)⟩
theorem Bsl.sl {R:RM} {v:Value} {n:Nat} (h:Bsl R v n):∃a c,v = .slice a n c:=by obtain⟨a,c,h1,_⟩:=h;exact⟨a,c,h1⟩
theorem jslf {R:RM} {D:Chs} {v:Value} {w n:Nat} {cells:List Value} {u:Int} {k:Value→M} (h:Fz R v w n cells) (h0:0≤u) (h1:u≤n) (H:∀v',Fz R v' w u.toNat (cells.take (u.toNat * w))→J R D (k v')):J R D (SL w v none (some (I u)) k):=by
 rcases h with ⟨rfl,h2,h3⟩ | ⟨b,o,cap,t,cs,rfl,h2,h3,h4,h5⟩
 ·intro h' hs
  refine⟨⟨h0,by omega⟩,H _ ?_ h' hs⟩
  have:u = 0:=by omega
  subst this
  exact .inl ⟨rfl,rfl,by simp⟩
 ·intro h' hs
  refine⟨⟨h0,by omega⟩,H _ ?_ h' hs⟩
  have hm:u.toNat * w≤n * w:=Nat.mul_le_mul_right w (by omega)
  exact .inr ⟨b,o,cap,t,cs,rfl,h2,by omega,by rw[← h4,List.take_take];congr 1;omega,by omega⟩
def Dr (f:Nat) (args:List Value) (R:RM) (rb:Nat) (v:Value) (m c:Int) (q:Value→RM→Prop):Prop:=
 Fn P f args R [(rb,rdO v m)] (λx R' A=>R.le R'∧q x R'∧∃m',m≤m'∧m'≤m + c∧A = [(rb,rdO v m')])
theorem jdr {R:RM} {D E:Chs} {f rb:Nat} {args:List Value} {v:Value} {m c:Int} {q:Value→RM→Prop} {k:Value→M} (hF:Dr f args R rb v m c q) [t:Tk D rb (rdO v m) E] (H:∀x R' m',R.le R'→q x R'→m≤m'→m'≤m + c→J R' ((rb,rdO v m') :: E) (k x)) :
  J R D (CA P f args k):=by
 refine jc (A:=[(rb,rdO v m)]) (F:=E) (s:=⟨t.p⟩) hF ?_
 rintro x R' _ _ ⟨h1,h2,m',h3,h4,rfl⟩
 exact H x R' m' h1 h2 h3 h4
theorem dr_ret {R R' : RM} {D E F:Chs} {rb:Nat} {v x:Value} {m c:Int} {q:Value→RM→Prop} (m' : Int) [t:Tk D rb (rdO v m') E] [s:Sf E F] (h1:R.le R') (h2:q x R') (h3:m≤m') (h4:m'≤m + c) :
  J R' D (POST R F (λx R' A=>R.le R'∧q x R'∧∃m',m≤m'∧m'≤m + c∧A = [(rb,rdO v m')]) x):=by
 intro h hs
 exact jret (D:=(rb,rdO v m') :: E) (A:=[(rb,rdO v m')]) h1 ⟨h1,h2,m',h3,h4,rfl⟩ h (hs.perm t.p)
theorem jk1 {R:RM} {D G F:Chs} {o:Obj} {m:M} (b:Nat) [t:Tk D b o G] [s:Sf G F] (H:J R ((b,o) :: F) m):J R D m:=by
 intro h hs
 obtain⟨X,hX⟩:=s.p
 subst hX
 exact H h (((hs.perm t.p).perm List.perm_middle.symm).drop)
theorem jk2 {R:RM} {D E G F:Chs} {o o' : Obj} {m:M} (b c:Nat) [t:Tk D b o E] [u:Tk E c o' G] [s:Sf G F] (H:J R ((b,o) :: (c,o') :: F) m):J R D m:=by
 intro h hs
 have h1:=(hs.perm t.p).perm (u.p.cons _)
 obtain⟨X,hX⟩:=s.p
 subst hX
 have:=List.perm_append_comm (l₁:=[(b,o),(c,o')]) (l₂:=X)
 have:=this.append_right F
 exact H h (h1.perm (by simpa using this)).drop
theorem jk3 {R:RM} {D E G H' F:Chs} {o o' o2:Obj} {m:M} (b c d:Nat) [t:Tk D b o E] [u:Tk E c o' G] [w:Tk G d o2 H'] [s:Sf H' F] (H:J R ((b,o) :: (c,o') :: (d,o2) :: F) m):J R D m:=by
 intro h hs
 have h1:=((hs.perm t.p).perm (u.p.cons _)).perm ((w.p.cons _).cons _)
 obtain⟨X,hX⟩:=s.p
 subst hX
 have:=List.perm_append_comm (l₁:=[(b,o),(c,o'),(d,o2)]) (l₂:=X)
 have:=this.append_right F
 exact H h (h1.perm (by simpa using this)).drop
theorem d_l1Open {R:RM} {v:Value} {n:Nat} (h:Bsl R v n) :
  Fn P F_s_l1Open [v] R [] (λx R' A=>R' = R∧∃rb v',x = .pointer (some ⟨rb,0,none⟩)∧A = [(rb,rdO v' 0)]∧Byt R v'):=by
 refine s_s_l1Open λF=>?_
 unfold c_s_l1Open
 obtain⟨a,cap,hv⟩:=h.sl
 refine jcutq (λvs R' D'=>R' = R∧D' = [] ++ F∧∃v',Byt R v'∧vs = [v']) (λK hK=>?_) ?_
 ·refine jln_ h.sl (jgr (jif (λh1=>?_) (λh1=>?_)))
  ·have h1:=z_f h1
   refine jsb h (by omega) (by omega) λv' hv'=>?_
   refine hK _ _ _ ⟨rfl,rfl,v',?_,rfl⟩
   obtain⟨a',c',e⟩:=hv'.sl
   exact⟨a',_,c',e,hv',by decide⟩
  ·have h1:=z_g h1
   exact hK _ _ _ ⟨rfl,rfl,v,⟨a,n,cap,hv,h,by omega⟩,rfl⟩
 rintro e R1 D1 ⟨hR,hD,v',hv',he⟩
 subst hR
 rw[hD];clear hD
 simp only[List.map,lc,ln,lj,z_t] at he
 simp only[he]
 obtain⟨a',n',c',hv2,-⟩:=id hv'
 subst hv2
 refine jbd (cs:=[.slice a' n' c',I 0]) rfl rfl ?_
 refine ja λb=>?_
 exact jret (A:=[(b,rdO (.slice a' n' c') 0)]) (RM.le.refl _) ⟨rfl,b,_,rfl,rfl,hv'⟩
section draws
variable {R:RM} {rb:Nat} {v:Value} {m:Int}
set_option maxHeartbeats 4000000 in
theorem d_l20Shape (hb:Byt R v) (hm:0≤m∧m < 500000000):Dr F_s_l20Shape [.pointer (some ⟨rb,0,none⟩)] R rb v m 3 (λx R'=>R' = R∧∃sh:Shp,x = eSh sh):=by
 refine s_s_l20Shape λF=>?_
 unfold c_s_l20Shape
 refine ja λb=>?_
 refine jpk hb ⟨by omega,by omega⟩ λx1 _ _=>jeq (jif (λ_=>?_) (λ_=>?_))
 ·refine jcutq (λvs R' D'=>R' = R∧(∃r n m',m≤m'∧m'≤m + 3∧D' = (b,C 92 [I r,I n]) :: (rb,rdO v m') :: F)∧vs = [.pointer (some ⟨b,0,none⟩)]) (λK hK=>?_) ?_
  rotate_left
  ·rintro e R1 D1 ⟨hR,⟨r,n,m',h1,h2,hD⟩,he⟩
   subst hR
   rw[hD];clear hD
   simp only[List.map,lc,ln,lj,z_t] at he
   simp only[he]
   refine jla (l:=[I r,I n]) (by exact z_n 2) rfl ?_
   exact dr_ret m' (RM.le.refl _) ⟨rfl,⟨r,n⟩,rfl⟩ h1 h2
  have fin:∀(r n m' : Int),m≤m'→m'≤m + 3→J R ((b,C 92 [I r,I n]) :: (rb,rdO v m') :: F) (K [.pointer (some ⟨b,0,none⟩)]):=λr n m' h1 h2=>hK _ _ _ ⟨rfl,⟨r,n,m',h1,h2,rfl⟩,rfl⟩
  clear hK
  refine jall ?_ ?_
  ·refine jbs (cs:=[I 4,I 5,I (-1),I 0]) rfl rfl λb6=>?_
   refine jall ?_ ?_
   ·refine jpk hb ⟨by omega,by omega⟩ λx7 _ _=>?_
    refine jia (by omega) (by omega) ?_
    refine jl (sel_get [4,5,-1,0] (by omega) (by show _ < (4:Int);omega)) ?_
    refine jall ?_ ?_
    ·refine jbs (cs:=[I 4,I 5,I (-1),I 0]) rfl rfl λb10=>?_
     refine jand (jl (sel_get [4,5,-1,0] (by omega) (by show _ < (4:Int);omega)) jev) ?_
     refine jpk hb ⟨by omega,by omega⟩ λx12 _ _=>?_
     refine jia (by omega) (by omega) ?_
     refine jl (sel_get [4,5,-1,0] (by omega) (by show _ < (4:Int);omega)) ?_
     refine jbd (cs:=[I _,I _]) rfl rfl ?_
     refine jand (jl (sel_get [4,5,-1,0] (by omega) (by show _ < (4:Int);omega)) jev) ?_
     refine js (cs':=[I _,I _]) rfl rfl (by exact z_n 2) rfl ?_
     refine jk2 (F:=F) b rb ?_
     exact fin _ _ _ (by omega) (by omega)
    refine jall1 ?_
    refine jpk hb ⟨by omega,by omega⟩ λx17 _ _=>?_
    refine jand (jl (sel_get [4,5,-1,0] (by omega) (by show _ < (4:Int);omega)) jev) ?_
    refine jbs (cs:=[I 4,I 5,I (-1),I 0]) rfl rfl λb19=>?_
    refine jia (by omega) (by omega) ?_
    refine jl (sel_get [4,5,-1,0] (by omega) (by show _ < (4:Int);omega)) ?_
    refine jbd (cs:=[I _,I _]) rfl rfl ?_
    refine jand (jl (sel_get [4,5,-1,0] (by omega) (by show _ < (4:Int);omega)) jev) ?_
    refine js (cs':=[I _,I _]) rfl rfl (by exact z_n 2) rfl ?_
    refine jk2 (F:=F) b rb ?_
    exact fin _ _ _ (by omega) (by omega)
   refine jall1 ?_
   refine jbs (cs:=[I 4,I 5,I (-1),I 0]) rfl rfl λb24=>?_
   refine jpk hb ⟨by omega,by omega⟩ λx25 _ _=>?_
   refine jia (by omega) (by omega) ?_
   refine jl (sel_get [4,5,-1,0] (by omega) (by show _ < (4:Int);omega)) ?_
   refine jpk hb ⟨by omega,by omega⟩ λx28 _ _=>?_
   refine jia (by omega) (by omega) ?_
   refine jl (sel_get [4,5,-1,0] (by omega) (by show _ < (4:Int);omega)) ?_
   refine jbd (cs:=[I _,I _]) rfl rfl ?_
   refine jand (jl (sel_get [4,5,-1,0] (by omega) (by show _ < (4:Int);omega)) jev) ?_
   refine js (cs':=[I _,I _]) rfl rfl (by exact z_n 2) rfl ?_
   refine jk2 (F:=F) b rb ?_
   exact fin _ _ _ (by omega) (by omega)
  refine jall ?_ ?_
  ·refine jpk hb ⟨by omega,by omega⟩ λx33 _ _=>?_
   refine jall ?_ ?_
   ·refine jbs (cs:=[I 4,I 5,I (-1),I 0]) rfl rfl λb34=>?_
    refine jia (by omega) (by omega) ?_
    refine jl (sel_get [4,5,-1,0] (by omega) (by show _ < (4:Int);omega)) ?_
    refine jall ?_ ?_
    ·refine jbs (cs:=[I 4,I 5,I (-1),I 0]) rfl rfl λb37=>?_
     refine jand (jl (sel_get [4,5,-1,0] (by omega) (by show _ < (4:Int);omega)) jev) ?_
     refine jpk hb ⟨by omega,by omega⟩ λx39 _ _=>?_
     refine jia (by omega) (by omega) ?_
     refine jl (sel_get [4,5,-1,0] (by omega) (by show _ < (4:Int);omega)) ?_
     refine jbd (cs:=[I _,I _]) rfl rfl ?_
     refine jand (jl (sel_get [4,5,-1,0] (by omega) (by show _ < (4:Int);omega)) jev) ?_
     refine js (cs':=[I _,I _]) rfl rfl (by exact z_n 2) rfl ?_
     refine jk2 (F:=F) b rb ?_
     exact fin _ _ _ (by omega) (by omega)
    refine jall1 ?_
    refine jpk hb ⟨by omega,by omega⟩ λx44 _ _=>?_
    refine jand (jl (sel_get [4,5,-1,0] (by omega) (by show _ < (4:Int);omega)) jev) ?_
    refine jbs (cs:=[I 4,I 5,I (-1),I 0]) rfl rfl λb46=>?_
    refine jia (by omega) (by omega) ?_
    refine jl (sel_get [4,5,-1,0] (by omega) (by show _ < (4:Int);omega)) ?_
    refine jbd (cs:=[I _,I _]) rfl rfl ?_
    refine jand (jl (sel_get [4,5,-1,0] (by omega) (by show _ < (4:Int);omega)) jev) ?_
    refine js (cs':=[I _,I _]) rfl rfl (by exact z_n 2) rfl ?_
    refine jk2 (F:=F) b rb ?_
    exact fin _ _ _ (by omega) (by omega)
   refine jall ?_ ?_
   ·refine jbs (cs:=[I 4,I 5,I (-1),I 0]) rfl rfl λb51=>?_
    refine jall ?_ ?_
    ·refine jbs (cs:=[I 4,I 5,I (-1),I 0]) rfl rfl λb52=>?_
     refine jia (by omega) (by omega) ?_
     refine jl (sel_get [4,5,-1,0] (by omega) (by show _ < (4:Int);omega)) ?_
     refine jpk hb ⟨by omega,by omega⟩ λx55 _ _=>?_
     refine jia (by omega) (by omega) ?_
     refine jl (sel_get [4,5,-1,0] (by omega) (by show _ < (4:Int);omega)) ?_
     refine jbd (cs:=[I _,I _]) rfl rfl ?_
     refine jand (jl (sel_get [4,5,-1,0] (by omega) (by show _ < (4:Int);omega)) jev) ?_
     refine js (cs':=[I _,I _]) rfl rfl (by exact z_n 2) rfl ?_
     refine jk2 (F:=F) b rb ?_
     exact fin _ _ _ (by omega) (by omega)
    refine jall1 ?_
    refine jpk hb ⟨by omega,by omega⟩ λx60 _ _=>?_
    refine jia (by omega) (by omega) ?_
    refine jl (sel_get [4,5,-1,0] (by omega) (by show _ < (4:Int);omega)) ?_
    refine jbs (cs:=[I 4,I 5,I (-1),I 0]) rfl rfl λb63=>?_
    refine jia (by omega) (by omega) ?_
    refine jl (sel_get [4,5,-1,0] (by omega) (by show _ < (4:Int);omega)) ?_
    refine jbd (cs:=[I _,I _]) rfl rfl ?_
    refine jand (jl (sel_get [4,5,-1,0] (by omega) (by show _ < (4:Int);omega)) jev) ?_
    refine js (cs':=[I _,I _]) rfl rfl (by exact z_n 2) rfl ?_
    refine jk2 (F:=F) b rb ?_
    exact fin _ _ _ (by omega) (by omega)
   refine jall1 ?_
   refine jpk hb ⟨by omega,by omega⟩ λx68 _ _=>?_
   refine jall ?_ ?_
   ·refine jbs (cs:=[I 4,I 5,I (-1),I 0]) rfl rfl λb69=>?_
    refine jia (by omega) (by omega) ?_
    refine jl (sel_get [4,5,-1,0] (by omega) (by show _ < (4:Int);omega)) ?_
    refine jbs (cs:=[I 4,I 5,I (-1),I 0]) rfl rfl λb72=>?_
    refine jia (by omega) (by omega) ?_
    refine jl (sel_get [4,5,-1,0] (by omega) (by show _ < (4:Int);omega)) ?_
    refine jbd (cs:=[I _,I _]) rfl rfl ?_
    refine jand (jl (sel_get [4,5,-1,0] (by omega) (by show _ < (4:Int);omega)) jev) ?_
    refine js (cs':=[I _,I _]) rfl rfl (by exact z_n 2) rfl ?_
    refine jk2 (F:=F) b rb ?_
    exact fin _ _ _ (by omega) (by omega)
   refine jall1 ?_
   refine jbs (cs:=[I 4,I 5,I (-1),I 0]) rfl rfl λb77=>?_
   refine jia (by omega) (by omega) ?_
   refine jl (sel_get [4,5,-1,0] (by omega) (by show _ < (4:Int);omega)) ?_
   refine jbs (cs:=[I 4,I 5,I (-1),I 0]) rfl rfl λb80=>?_
   refine jia (by omega) (by omega) ?_
   refine jl (sel_get [4,5,-1,0] (by omega) (by show _ < (4:Int);omega)) ?_
   refine jbd (cs:=[I _,I _]) rfl rfl ?_
   refine jand (jl (sel_get [4,5,-1,0] (by omega) (by show _ < (4:Int);omega)) jev) ?_
   refine js (cs':=[I _,I _]) rfl rfl (by exact z_n 2) rfl ?_
   refine jk2 (F:=F) b rb ?_
   exact fin _ _ _ (by omega) (by omega)
  refine jall1 ?_
  refine jbs (cs:=[I 4,I 5,I (-1),I 0]) rfl rfl λb85=>?_
  refine jall ?_ ?_
  ·refine jbs (cs:=[I 4,I 5,I (-1),I 0]) rfl rfl λb86=>?_
   refine jpk hb ⟨by omega,by omega⟩ λx87 _ _=>?_
   refine jia (by omega) (by omega) ?_
   refine jl (sel_get [4,5,-1,0] (by omega) (by show _ < (4:Int);omega)) ?_
   refine jpk hb ⟨by omega,by omega⟩ λx90 _ _=>?_
   refine jia (by omega) (by omega) ?_
   refine jl (sel_get [4,5,-1,0] (by omega) (by show _ < (4:Int);omega)) ?_
   refine jbd (cs:=[I _,I _]) rfl rfl ?_
   refine jand (jl (sel_get [4,5,-1,0] (by omega) (by show _ < (4:Int);omega)) jev) ?_
   refine js (cs':=[I _,I _]) rfl rfl (by exact z_n 2) rfl ?_
   refine jk2 (F:=F) b rb ?_
   exact fin _ _ _ (by omega) (by omega)
  refine jall1 ?_
  refine jpk hb ⟨by omega,by omega⟩ λx95 _ _=>?_
  refine jall ?_ ?_
  ·refine jbs (cs:=[I 4,I 5,I (-1),I 0]) rfl rfl λb96=>?_
   refine jia (by omega) (by omega) ?_
   refine jl (sel_get [4,5,-1,0] (by omega) (by show _ < (4:Int);omega)) ?_
   refine jpk hb ⟨by omega,by omega⟩ λx99 _ _=>?_
   refine jia (by omega) (by omega) ?_
   refine jl (sel_get [4,5,-1,0] (by omega) (by show _ < (4:Int);omega)) ?_
   refine jbd (cs:=[I _,I _]) rfl rfl ?_
   refine jand (jl (sel_get [4,5,-1,0] (by omega) (by show _ < (4:Int);omega)) jev) ?_
   refine js (cs':=[I _,I _]) rfl rfl (by exact z_n 2) rfl ?_
   refine jk2 (F:=F) b rb ?_
   exact fin _ _ _ (by omega) (by omega)
  refine jall1 ?_
  refine jpk hb ⟨by omega,by omega⟩ λx104 _ _=>?_
  refine jia (by omega) (by omega) ?_
  refine jl (sel_get [4,5,-1,0] (by omega) (by show _ < (4:Int);omega)) ?_
  refine jbs (cs:=[I 4,I 5,I (-1),I 0]) rfl rfl λb107=>?_
  refine jia (by omega) (by omega) ?_
  refine jl (sel_get [4,5,-1,0] (by omega) (by show _ < (4:Int);omega)) ?_
  refine jbd (cs:=[I _,I _]) rfl rfl ?_
  refine jand (jl (sel_get [4,5,-1,0] (by omega) (by show _ < (4:Int);omega)) jev) ?_
  refine js (cs':=[I _,I _]) rfl rfl (by exact z_n 2) rfl ?_
  refine jk2 (F:=F) b rb ?_
  exact fin _ _ _ (by omega) (by omega)
 ·refine jpk hb ⟨by omega,by omega⟩ λx2 _ _=>jpk hb ⟨by omega,by omega⟩ λx3 _ _=>?_
  refine jbd (cs:=[I x2,I x3]) rfl rfl (js (cs':=[I x2,I x3]) rfl rfl (by simp) rfl ?_)
  refine jla (l:=[I x2,I x3]) (by exact z_n 2) rfl ?_
  exact dr_ret _ (RM.le.refl _) ⟨rfl,⟨x2,x3⟩,rfl⟩ (by omega) (by omega)
theorem d_l20Config (hb:Byt R v) (hm:0≤m∧m < 500000000):Dr F_s_l20Config [.pointer (some ⟨rb,0,none⟩)] R rb v m 3 (λx R'=>R' = R∧∃c:Cfg,x = .agg #[I c.regions,I c.threads,I c.reserve]∧configOk c = true):=by
 refine s_s_l20Config λF=>?_
 unfold c_s_l20Config
 refine ja λb=>?_
 refine jpk hb ⟨by omega,by omega⟩ λx1 _ _=>jadd ⟨by omega,by omega⟩ (jpk hb ⟨by omega,by omega⟩ λx2 _ _=>jadd ⟨by omega,by omega⟩ ?_)
 refine jbs (cs:=[I 16,I 32,I 0,I 8,I 100]) rfl rfl λb6=>?_
 refine jpk hb ⟨by omega,by omega⟩ λx3 _ _=>jia (by omega) (by omega) ?_
 have h3:=sel_in (l:=[16,32,0,8,100]) (x:=x3) (by omega) (by show _ < (5:Int);omega)
 refine jl (sel_get [16,32,0,8,100] (by omega) (by show _ < (5:Int);omega)) ?_
 generalize sel [16,32,0,8,100] x3 = y at h3
 refine jbd (cs:=[I (4 + x1),I (1 + x2),I y]) rfl rfl (js (cs':=[I (4 + x1),I (1 + x2),I y]) rfl rfl (by simp) rfl ?_)
 refine jla (l:=[I (4 + x1),I (1 + x2),I y]) (by exact z_n 3) rfl ?_
 refine dr_ret _ (RM.le.refl _) ⟨rfl,⟨4 + x1,1 + x2,y⟩,rfl,?_⟩ (by omega) (by omega)
 simp only[List.mem_cons,List.not_mem_nil,or_false] at h3
 simp only[configOk,z_b,z_d]
 omega
end draws
end Go.Lf
end
section
namespace Go.Lf
open Go Sm
def OpB (b b1 rb:Nat) (v:Value) (m c:Int) (F D:Chs):Prop:=∃k a b2 c2 f w r n m',(m≤m'∧-9223372036854775808≤w∧w < 9223372036854775808)∧m'≤m + c∧D = (b,C 99 [I k,I a,I b2,I c2,I f,I w,I r,I n]) :: (b1,C 99 (cl z99)) :: (rb,rdO v m') :: F
section draws
variable {R:RM} {rb:Nat} {v:Value} {m:Int}
theorem d_l20Op {n:Int} (hn:0≤n∧n < 1000000) (hb:Byt R v) (hm:0≤m∧m < 400000000):Dr F_s_l20Op [.pointer (some ⟨rb,0,none⟩),I n] R rb v m 30 (λx R'=>R' = R∧∃o:Sm.Op,x = .agg (eOp o).toArray∧Rn o.v):=by
 refine s_s_l20Op λF=>?_
 unfold c_s_l20Op
 refine ja λb1=>jadd ⟨by omega,by omega⟩ (jpk hb ⟨by omega,by omega⟩ λx1 _ _=>jadd ⟨by omega,by omega⟩ (jpk hb ⟨by omega,by omega⟩ λx2 _ _=>jadd ⟨by omega,by omega⟩ (jpk hb ⟨by omega,by omega⟩ λx3 _ _=>?_)))
 refine jpk hb ⟨by omega,by omega⟩ λx4 _ _=>jpk hb ⟨by omega,by omega⟩ λx5 _ _=>jsub ⟨by omega,by omega⟩ ?_
 refine jbd (cs:=[I 0,I x1,I x2,I x3,I x4,I (x5 - 6),I 0,I 0]) rfl rfl (ja λb=>?_)
 refine js (cs':=[I 0,I x1,I x2,I x3,I x4,I (x5 - 6),I 0,I 0]) rfl rfl (by exact z_n 8) rfl ?_
 refine jcutq (λvs R' D'=>R' = R∧OpB b b1 rb v m 9 F D'∧vs = [.pointer (some ⟨rb,0,none⟩),.pointer (some ⟨b1,0,none⟩),.pointer (some ⟨b,0,none⟩)]) (λK hK=>?_) ?_
 ·refine jcutq (λvs R' D'=>R' = R∧OpB b b1 rb v m 6 F D'∧∃c u w,And2 c u w∧vs = [.pointer (some ⟨rb,0,none⟩),I n,.pointer (some ⟨b1,0,none⟩),.pointer (some ⟨b,0,none⟩),c,u]) (λK2 hK2=>?_) ?_
  ·refine jpk hb ⟨by omega,by omega⟩ λx6 _ _=>jgr (jgtt (λh1=>jgr ?_) (λh1=>?_))<;>refine jk3 (F:=F) b b1 rb ?_
   ·exact hK2 _ _ _ ⟨rfl,⟨_,_,_,_,_,_,_,_,_,by omega,by omega,rfl⟩,_,_,_,h1▸and2_t,rfl⟩
   ·exact hK2 _ _ _ ⟨rfl,⟨_,_,_,_,_,_,_,_,_,by omega,by omega,rfl⟩,_,_,_,h1▸and2_f,rfl⟩
  rintro e R1 D1 ⟨hR,⟨k,a,b2,c2,f,w,r,n',m',h1,h2,hD⟩,c,u,w',ho,he⟩
  subst hR
  rw[hD];clear hD
  simp only[List.map,lc,ln,lj,z_t] at he
  simp only[he]
  rw[ho]
  refine jif (λ_=>?_) (λ_=>?_)
  ·refine jpk hb ⟨by omega,by omega⟩ λy1 _ _=>js rfl rfl (Nat.le_of_ble_eq_true rfl) rfl ?_
   refine jpk hb ⟨by omega,by omega⟩ λy2 _ _=>js rfl rfl (Nat.le_of_ble_eq_true rfl) rfl ?_
   refine jpk hb ⟨by omega,by omega⟩ λy3 _ _=>js rfl rfl (Nat.le_of_ble_eq_true rfl) rfl ?_
   refine jk3 (F:=F) b b1 rb ?_
   exact hK _ _ _ ⟨rfl,⟨_,_,_,_,_,_,_,_,_,by omega,by omega,rfl⟩,rfl⟩
  ·exact hK _ _ _ ⟨rfl,⟨_,_,_,_,_,_,_,_,_,by omega,by omega,rfl⟩,rfl⟩
 rintro e R1 D1 ⟨hR,⟨k,a,b2,c2,f,w,r,n',m',h1,h2,hD⟩,he⟩
 subst hR
 rw[hD];clear hD
 simp only[List.map,lc,ln,lj,z_t] at he
 simp only[he]
 refine jpk hb ⟨by omega,by omega⟩ λz _ _=>?_
 refine jcutq (λvs R' D'=>R' = R1∧OpB b b1 rb v m 15 F D'∧vs = [.pointer (some ⟨rb,0,none⟩),.pointer (some ⟨b1,0,none⟩),.pointer (some ⟨b,0,none⟩)]) (λK hK=>?_) ?_
 ·refine jcutq (λvs R' D'=>R' = R1∧OpB b b1 rb v m 15 F D'∧vs = [.pointer (some ⟨rb,0,none⟩),.pointer (some ⟨b1,0,none⟩),.pointer (some ⟨b,0,none⟩)]) (λK2 hK2=>?_) ?_
  rotate_left
  ·rintro e R2 D2 ⟨hR,hD,he⟩
   simp only[List.map,lc,ln,lj,z_t] at he
   simp only[he]
   exact hK _ _ _ ⟨hR,hD,rfl⟩
  refine jlt (jif (λ_=>?_) (λ_=>jlt (jif (λ_=>?_) (λ_=>jlt (jif (λ_=>?_) (λ_=>jeq (jif (λ_=>?_) (λ_=>jeq (jif (λ_=>?_) (λ_=>jeq (jif (λ_=>?_) (λ_=>jeq (jif (λ_=>?_) (λ_=>jlt (jif (λ_=>?_) (λ_=>?_))))))))))))))))
  ·refine js rfl rfl (Nat.le_of_ble_eq_true rfl) rfl ?_
   refine jdr (d_l20Shape hb ⟨by omega,by omega⟩) ?_
   rintro _ R2 m2 - ⟨hR2,sh,rfl⟩ h3 h4
   subst hR2
   refine js rfl rfl (Nat.le_of_ble_eq_true rfl) rfl ?_
   refine jk3 (F:=F) b b1 rb ?_
   exact hK2 _ _ _ ⟨rfl,⟨_,_,_,_,_,_,_,_,_,by omega,by omega,rfl⟩,rfl⟩
  ·refine js rfl rfl (Nat.le_of_ble_eq_true rfl) rfl (jk3 (F:=F) b b1 rb ?_)
   exact hK2 _ _ _ ⟨rfl,⟨_,_,_,_,_,_,_,_,_,by omega,by omega,rfl⟩,rfl⟩
  ·refine js rfl rfl (Nat.le_of_ble_eq_true rfl) rfl (jk3 (F:=F) b b1 rb ?_)
   exact hK2 _ _ _ ⟨rfl,⟨_,_,_,_,_,_,_,_,_,by omega,by omega,rfl⟩,rfl⟩
  ·refine js rfl rfl (Nat.le_of_ble_eq_true rfl) rfl (jpk hb ⟨by omega,by omega⟩ λy _ _=>js rfl rfl (Nat.le_of_ble_eq_true rfl) rfl (jk3 (F:=F) b b1 rb ?_))
   exact hK2 _ _ _ ⟨rfl,⟨_,_,_,_,_,_,_,_,_,by omega,by omega,rfl⟩,rfl⟩
  ·refine js rfl rfl (Nat.le_of_ble_eq_true rfl) rfl (jpk hb ⟨by omega,by omega⟩ λy _ _=>js rfl rfl (Nat.le_of_ble_eq_true rfl) rfl (jk3 (F:=F) b b1 rb ?_))
   exact hK2 _ _ _ ⟨rfl,⟨_,_,_,_,_,_,_,_,_,by omega,by omega,rfl⟩,rfl⟩
  ·refine js rfl rfl (Nat.le_of_ble_eq_true rfl) rfl (jk3 (F:=F) b b1 rb ?_)
   exact hK2 _ _ _ ⟨rfl,⟨_,_,_,_,_,_,_,_,_,by omega,by omega,rfl⟩,rfl⟩
  ·refine js rfl rfl (Nat.le_of_ble_eq_true rfl) rfl (jk3 (F:=F) b b1 rb ?_)
   exact hK2 _ _ _ ⟨rfl,⟨_,_,_,_,_,_,_,_,_,by omega,by omega,rfl⟩,rfl⟩
  ·refine js rfl rfl (Nat.le_of_ble_eq_true rfl) rfl (jk3 (F:=F) b b1 rb ?_)
   exact hK2 _ _ _ ⟨rfl,⟨_,_,_,_,_,_,_,_,_,by omega,by omega,rfl⟩,rfl⟩
  ·refine jbs (cs:=[I 9,I 10,I 11]) rfl rfl λbt=>jpk hb ⟨by omega,by omega⟩ λy _ _=>jia (by omega) (by omega) (jl (sel_get [9,10,11] (by omega) (by show _ < (3:Int);omega)) ?_)
   refine js rfl rfl (Nat.le_of_ble_eq_true rfl) rfl (jk3 (F:=F) b b1 rb ?_)
   exact hK2 _ _ _ ⟨rfl,⟨_,_,_,_,_,_,_,_,_,by omega,by omega,rfl⟩,rfl⟩
 clear h1 h2 m'
 rintro e R2 D2 ⟨hR,⟨k,a,b2,c2,f,w,r,n',m',h1,h2,hD⟩,he⟩
 subst hR
 rw[hD];clear hD
 simp only[List.map,lc,ln,lj,z_t] at he
 simp only[he]
 refine jcutq (λvs R' D'=>R' = R2∧OpB b b1 rb v m 16 F D'∧vs = [.pointer (some ⟨rb,0,none⟩),.pointer (some ⟨b1,0,none⟩),.pointer (some ⟨b,0,none⟩)]) (λK hK=>?_) ?_
 ·refine jpk hb ⟨by omega,by omega⟩ λy _ _=>jeq (jif (λ_=>js rfl rfl (Nat.le_of_ble_eq_true rfl) rfl ?_) (λ_=>?_))<;>refine jk3 (F:=F) b b1 rb ?_
  ·exact hK _ _ _ ⟨rfl,⟨_,_,_,_,_,_,_,_,_,by omega,by omega,rfl⟩,rfl⟩
  ·exact hK _ _ _ ⟨rfl,⟨_,_,_,_,_,_,_,_,_,by omega,by omega,rfl⟩,rfl⟩
 clear h1 h2 m'
 rintro e R3 D3 ⟨hR,⟨k,a,b2,c2,f,w,r,n',m',h1,h2,hD⟩,he⟩
 subst hR
 rw[hD];clear hD
 simp only[List.map,lc,ln,lj,z_t] at he
 simp only[he]
 refine jcutq (λvs R' D'=>R' = R3∧OpB b b1 rb v m 20 F D'∧vs = [.pointer (some ⟨b1,0,none⟩),.pointer (some ⟨b,0,none⟩)]) (λK hK=>?_) ?_
 ·refine jpk hb ⟨by omega,by omega⟩ λy _ _=>?_
  refine jcutq (λvs R' D'=>R' = R3∧OpB b b1 rb v m 20 F D'∧vs = [.pointer (some ⟨b1,0,none⟩),.pointer (some ⟨b,0,none⟩)]) (λK2 hK2=>?_) ?_
  rotate_left
  ·rintro e R4 D4 ⟨hR,hD,he⟩
   simp only[List.map,lc,ln,lj,z_t] at he
   simp only[he]
   exact hK _ _ _ ⟨hR,hD,rfl⟩
  refine jeq (jif (λ_=>?_) (λ_=>jeq (jif (λ_=>?_) (λ_=>jeq (jif (λ_=>?_) (λ_=>?_))))))
  ·refine jbs (cs:=[I 0,I 12,I (-1)]) rfl rfl λbt=>jpk hb ⟨by omega,by omega⟩ λy _ _=>jia (by omega) (by omega) (jl (sel_get [0,12,-1] (by omega) (by show _ < (3:Int);omega)) ?_)
   refine js rfl rfl (Nat.le_of_ble_eq_true rfl) rfl (jk3 (F:=F) b b1 rb ?_)
   exact hK2 _ _ _ ⟨rfl,⟨_,_,_,_,_,_,_,_,_,by omega,by omega,rfl⟩,rfl⟩
  ·refine jbs (cs:=[I (-1),I 8,I 1099511627776]) rfl rfl λbt=>jpk hb ⟨by omega,by omega⟩ λy _ _=>jia (by omega) (by omega) (jl (sel_get [-1,8,1099511627776] (by omega) (by show _ < (3:Int);omega)) ?_)
   refine js rfl rfl (Nat.le_of_ble_eq_true rfl) rfl (jk3 (F:=F) b b1 rb ?_)
   exact hK2 _ _ _ ⟨rfl,⟨_,_,_,_,_,_,_,_,_,by omega,by omega,rfl⟩,rfl⟩
  ·refine jbs (cs:=[I (-1),I 4,I 1099511627776]) rfl rfl λbt=>jpk hb ⟨by omega,by omega⟩ λy _ _=>jia (by omega) (by omega) (jl (sel_get [-1,4,1099511627776] (by omega) (by show _ < (3:Int);omega)) ?_)
   refine js rfl rfl (Nat.le_of_ble_eq_true rfl) rfl (jk3 (F:=F) b b1 rb ?_)
   exact hK2 _ _ _ ⟨rfl,⟨_,_,_,_,_,_,_,_,_,by omega,by omega,rfl⟩,rfl⟩
  ·refine jk3 (F:=F) b b1 rb ?_
   exact hK2 _ _ _ ⟨rfl,⟨_,_,_,_,_,_,_,_,_,by omega,by omega,rfl⟩,rfl⟩
 clear h1 h2 m'
 rintro e R4 D4 ⟨hR,⟨k,a,b2,c2,f,w,r,n',m',h1,h2,hD⟩,he⟩
 subst hR
 rw[hD];clear hD
 simp only[List.map,lc,ln,lj,z_t] at he
 simp only[he]
 refine jla (l:=[I k,I a,I b2,I c2,I f,I w,I r,I n']) (by exact z_n 8) rfl ?_
 refine js rfl rfl (Nat.le_of_ble_eq_true rfl) rfl ?_
 refine jla (l:=[I k,I a,I b2,I c2,I f,I w,I r,I n']) (by exact z_n 8) rfl ?_
 exact dr_ret m' (RM.le.refl _) ⟨rfl,⟨k,a,b2,c2,f,w,⟨r,n'⟩⟩,rfl,h1.2⟩ (by omega) (by omega)
end draws
end Go.Lf
end
section
namespace Go.Lf
open Go Sm
theorem jawn {R:RM} {D D1 A E:Chs} {t w by_ b m cx:Nat} {rows:List (List Value)} {cs:List Value} {v:Value} {zs:List Value} {k:Value→M} (rows2:List (List Value)) (so:SW t w rows v A) [tk:Tk D b (C t cs) D1] [sp:Sp D1 A E] (hcs:cs = rows2.flatten)
  (hw:∀r∈rows,r.length = w) (hw2:∀r∈rows2,r.length = w) (hz:zs.length = w) (hf:allFlat rows2.flatten = true) (hm:m = rows2.length) (hb:by_≠0) (hl:by_ * (2 * (rows.length + rows2.length) + 200)≤2 ^ 48)
  (H:∀v' A',SW t w (rows ++ rows2) v' A'→J R (A' ++ E) (k v')):J R D (AP t w by_ zs v (.slice (some ⟨b,0,none⟩) m cx) k):=by
 subst hcs
 intro h hs
 have h1:=(hs.perm tk.p).perm ((sp.p.cons _).trans List.perm_middle.symm)
 refine jaw (E:=(b,C t rows2.flatten) :: E) so hw hw2 hz hf hm hb hl ?_ (λv' A' so'=>jperm List.perm_middle (jdrop (H v' A' so'))) h h1
 have:=Reads.held (R:=R) (D:=A ++ (b,C t rows2.flatten) :: E) (b:=b) (o:=0) (n:=m * w) (t:=t) (cs:=rows2.flatten) (a:=inferInstance) (by rw[flat_len hw2,hm];omega)
 rw[List.drop_zero,List.take_of_length_le (by rw[flat_len hw2,hm];omega)] at this
 exact this
theorem op_len {l:List Sm.Op}:∀r∈l.map eOp,r.length = 8:=by
 intro r hr;obtain⟨x,_,rfl⟩:=List.mem_map.1 hr;rfl
theorem jops {R:RM} {A E:Chs} {l:List Sm.Op} {v:Value} {m:M} (so:SW 99 8 (l.map eOp) v A) (H:∀R',R.le R'→Ops R' v l→J R' E m):J R (A ++ E) m:=by
 refine jfw so op_len λR' hR hfz=>H R' hR ?_
 rw[List.length_map] at hfz
 exact hfz
def Vs (l:List Sm.Op):Prop:=∀o∈l,Rn o.v
theorem Vs.app {l l' : List Sm.Op} (h:Vs l) (h' : Vs l'):Vs (l ++ l'):=λo ho=>(List.mem_append.1 ho).elim (h o) (h' o)
theorem Vs.nil:Vs []:=λo ho=>by cases ho
theorem Vs.one {o:Sm.Op} (h:Rn o.v):Vs [o]:=λx hx=>by rw[List.mem_singleton.1 hx];exact h
def OpP (b rb:Nat) (v:Value) (m c:Int) (F D:Chs):Prop:=∃k a b2 c2 f w r n m',(m≤m'∧-9223372036854775808≤w∧w < 9223372036854775808)∧m'≤m + c∧D = (b,C 99 [I k,I a,I b2,I c2,I f,I w,I r,I n]) :: (rb,rdO v m') :: F
section draws
variable {R:RM} {rb:Nat} {v:Value} {m:Int}
theorem d_l20Prog {n:Nat} (hn:n≤1000) (hb:Byt R v) (hm:0≤m∧m < 300000000):Dr F_s_l20Prog [.pointer (some ⟨rb,0,none⟩),I n] R rb v m (50 * n) (λx R'=>∃l:List Sm.Op,(l.length = n∧Vs l)∧Ops R' x l):=by
 refine s_s_l20Prog λF=>?_
 unfold c_s_l20Prog
 refine jcutq (λvs R' D'=>R' = R∧∃(l:List Sm.Op) (ov:Value) (A:Chs) (m' : Int),(l.length = n∧Vs l)∧SW 99 8 (l.map eOp) ov A∧m≤m'∧m'≤m + 50 * n∧D' = A ++ (rb,rdO v m') :: F∧vs = [ov]) (λK hK=>?_) ?_
 rotate_left
 ·rintro e R1 D1 ⟨hR,l,ov,A,m',hl,so,h1,h2,hD,he⟩
  subst hR
  rw[hD];clear hD
  simp only[List.map,lc,ln,lj,z_t] at he
  simp only[he]
  exact jops so λR2 hR2 ho=>dr_ret m' hR2 ⟨l,hl,ho⟩ h1 h2
 refine jcutq (λvs R' D'=>R' = R∧∃(l:List Sm.Op) (ov:Value) (A:Chs) (m' : Int),(l.length = n∧Vs l)∧SW 99 8 (l.map eOp) ov A∧m≤m'∧m'≤m + 50 * n∧D' = A ++ (rb,rdO v m') :: F∧vs = [ov]) (λK2 hK2=>?_) ?_
 rotate_left
 ·rintro e R1 D1 ⟨hR,l,ov,A,m',hl,so,h1,h2,hD,he⟩
  simp only[List.map,lc,ln,lj,z_t] at he
  simp only[he]
  exact hK _ _ _ ⟨hR,l,ov,A,m',hl,so,h1,h2,hD,rfl⟩
 refine jlp (λmm vs R' D'=>R' = R∧∃(i:Nat) (r:Int) (l:List Sm.Op) (ov:Value) (A:Chs) (m' : Int),i≤n∧(l.length = i∧Vs l)∧0≤r∧r≤i + 1∧SW 99 8 (l.map eOp) ov A∧m≤m'∧m'≤m + 50 * i∧D' = A ++ (rb,rdO v m') :: F∧vs = [.pointer (some ⟨rb,0,none⟩),I n,ov,I r,I i]∧mm = n - i)
  (n:=n) ⟨rfl,0,1,[],.slice none 0 0,[],m,by omega,⟨rfl,Vs.nil⟩,by omega,by omega,.inl ⟨rfl,rfl,rfl⟩,by omega,by omega,rfl,rfl,by omega⟩ ?_
 rintro mm e R1 D1 K3 ⟨hR,i,r,l,ov,A,m',hi,⟨hl,hvs⟩,r0,r1,so,h1,h2,hD,he,hmm⟩ hK3
 subst hR
 rw[hD];clear hD
 simp only[List.map,lc,ln,lj,z_t] at he
 simp only[he]
 refine jlt (jif (λhc=>?_) (λhc=>?_))
 rotate_left
 ·have hc:=z_g hc
  have:i = n:=by omega
  subst this
  exact hK2 _ _ _ ⟨rfl,l,ov,A,m',⟨hl,hvs⟩,so,h1,h2,rfl,rfl⟩
 have hc:i < n:=by have:=z_f hc;omega
 refine jdr (d_l20Op (n:=r) ⟨r0,by omega⟩ hb ⟨by omega,by omega⟩) ?_
 rintro _ R2 m2 - ⟨hR2,o,rfl,hov⟩ h3 h4
 subst hR2
 unfold Rn at hov
 refine ja λb=>js (cs':=eOp o) rfl rfl (by exact z_n 8) rfl ?_
 refine jcutq (λvs R' D'=>R' = R2∧OpP b rb v m2 4 (A ++ F) D'∧vs = [.pointer (some ⟨rb,0,none⟩),I n,ov,I r,I i,.pointer (some ⟨b,0,none⟩)]) (λK4 hK4=>?_) ?_
 ·refine jcutq (λvs R' D'=>R' = R2∧OpP b rb v m2 0 (A ++ F) D'∧∃c u w,And2 c u w∧vs = [.pointer (some ⟨rb,0,none⟩),I n,ov,I r,I i,.pointer (some ⟨b,0,none⟩),c,u]) (λK5 hK5=>?_) ?_
  ·refine jle (jgtt (λh=>jl (v:=I o.kind) rfl (jeq ?_)) (λh=>?_))
   ·exact hK5 _ _ _ ⟨rfl,⟨_,_,_,_,_,_,_,_,_,by omega,by omega,rfl⟩,_,_,_,h▸and2_t,rfl⟩
   ·exact hK5 _ _ _ ⟨rfl,⟨_,_,_,_,_,_,_,_,_,by omega,by omega,rfl⟩,_,_,_,h▸and2_f,rfl⟩
  rintro e Rx Dx ⟨hR,⟨k,a,b2,c2,f,w,r',n',m3,h5,h6,hD⟩,c,u,w',ho,he⟩
  subst hR
  rw[hD];clear hD
  simp only[List.map,lc,ln,lj,z_t] at he
  simp only[he]
  refine jcutq (λvs R' D'=>R' = Rx∧OpP b rb v m2 1 (A ++ F) D'∧∃c u w,And2 c u w∧vs = [.pointer (some ⟨rb,0,none⟩),I n,ov,I r,I i,.pointer (some ⟨b,0,none⟩),c,u]) (λK5 hK5=>?_) ?_
  ·rw[ho]
   refine jgtt (λh=>jpk hb ⟨by omega,by omega⟩ λy _ _=>jgr ?_) (λh=>?_)<;>refine jk2 (F:=A ++ F) b rb ?_
   ·exact hK5 _ _ _ ⟨rfl,⟨_,_,_,_,_,_,_,_,_,by omega,by omega,rfl⟩,_,_,_,h▸and2_t,rfl⟩
   ·exact hK5 _ _ _ ⟨rfl,⟨_,_,_,_,_,_,_,_,_,by omega,by omega,rfl⟩,_,_,_,h▸and2_f,rfl⟩
  clear h5 h6 m3 ho
  rintro e Ry Dy ⟨hR,⟨k,a,b2,c2,f,w,r',n',m3,h5,h6,hD⟩,c,u,w',ho,he⟩
  subst hR
  rw[hD];clear hD
  simp only[List.map,lc,ln,lj,z_t] at he
  simp only[he]
  rw[ho]
  refine jif (λh=>?_) (λh=>?_)
  ·refine jdr (d_l20Shape hb ⟨by omega,by omega⟩) ?_
   rintro _ R3 m4 - ⟨hR3,sh,rfl⟩ h7 h8
   subst hR3
   refine jbd (cs:=[I 1,I 0,I 0,I 0,I 0,I 0,I sh.refs,I sh.nums]) rfl rfl ?_
   refine js (cs':=[I 1,I 0,I 0,I 0,I 0,I 0,I sh.refs,I sh.nums]) rfl rfl (by exact z_n 8) rfl ?_
   refine jk2 (F:=A ++ F) b rb ?_
   exact hK4 _ _ _ ⟨rfl,⟨_,_,_,_,_,_,_,_,_,by omega,by omega,rfl⟩,rfl⟩
  ·exact hK4 _ _ _ ⟨rfl,⟨_,_,_,_,_,_,_,_,_,by omega,by omega,rfl⟩,rfl⟩
 rintro e Rx Dx ⟨hR,⟨k,a,b2,c2,f,w,r',n',m3,h5,h6,hD⟩,he⟩
 subst hR
 rw[hD];clear hD
 simp only[List.map,lc,ln,lj,z_t] at he
 simp only[he]
 refine jcutq (λvs R' D'=>R' = Rx∧OpP b rb v m2 4 (A ++ F) D'∧vs = [.pointer (some ⟨rb,0,none⟩),I n,ov,I r,I i,.pointer (some ⟨b,0,none⟩)]) (λK4 hK4=>?_) ?_
 ·refine jcutq (λvs R' D'=>R' = Rx∧OpP b rb v m2 4 (A ++ F) D'∧∃c u w,And2 c u w∧vs = [.pointer (some ⟨rb,0,none⟩),I n,ov,I r,I i,.pointer (some ⟨b,0,none⟩),c,u]) (λK5 hK5=>?_) ?_
  ·refine jge (jgtt (λh=>?_) (λh=>?_))
   ·have hu:∀w' : Bool,J Rx ((b,C 99 [I k,I a,I b2,I c2,I f,I w,I r',I n']) :: (rb,rdO v m3) :: (A ++ F)) (K5 [.pointer (some ⟨rb,0,none⟩),I n,ov,I r,I i,.pointer (some ⟨b,0,none⟩),.bool (decide (r≥7)),.bool w']):=λw'=>
     hK5 _ _ _ ⟨rfl,⟨_,_,_,_,_,_,_,_,_,by omega,by omega,rfl⟩,_,_,_,h▸and2_t,rfl⟩
    refine jl (v:=I k) rfl (jeq (jgtf (λh2=>?_) (λh2=>?_)))<;>rw[h2]
    ·refine jl (v:=I k) rfl (jeq (jpkf (jgtf (λh3=>?_) (λh3=>?_))))<;>rw[h3]
     ·exact jl (v:=I k) rfl (jeq (jpkf (hu _)))
     ·exact jpkt (hu _)
    ·exact jpkt (jtf (jpkt (hu _)))
   ·exact hK5 _ _ _ ⟨rfl,⟨_,_,_,_,_,_,_,_,_,by omega,by omega,rfl⟩,_,_,_,h▸and2_f,rfl⟩
  clear h5 h6 m3
  rintro e Ry Dy ⟨hR,⟨k,a,b2,c2,f,w,r',n',m3,h5,h6,hD⟩,c,u,w',ho,he⟩
  subst hR
  rw[hD];clear hD
  simp only[List.map,lc,ln,lj,z_t] at he
  simp only[he]
  rw[ho]
  refine jif (λh=>?_) (λh=>?_)
  ·refine jbd (cs:=[I 8,I 0,I 0,I 0,I 0,I 0,I 0,I 0]) rfl rfl ?_
   refine js (cs':=[I 8,I 0,I 0,I 0,I 0,I 0,I 0,I 0]) rfl rfl (by exact z_n 8) rfl ?_
   exact hK4 _ _ _ ⟨rfl,⟨_,_,_,_,_,_,_,_,_,by omega,by omega,rfl⟩,rfl⟩
  ·exact hK4 _ _ _ ⟨rfl,⟨_,_,_,_,_,_,_,_,_,by omega,by omega,rfl⟩,rfl⟩
 clear h5 h6 m3
 rintro e Ry Dy ⟨hR,⟨k,a,b2,c2,f,w,r',n',m3,h5,h6,hD⟩,he⟩
 subst hR
 rw[hD];clear hD
 simp only[List.map,lc,ln,lj,z_t] at he
 simp only[he]
 refine jcutq (λvs R' D'=>R' = Ry∧D' = (b,C 99 [I k,I a,I b2,I c2,I f,I w,I r',I n']) :: (rb,rdO v m3) :: (A ++ F)∧∃r2:Int,0≤r2∧r2≤r + 1∧vs = [.pointer (some ⟨rb,0,none⟩),I n,ov,I r2,I i,.pointer (some ⟨b,0,none⟩)]) (λK6 hK6=>?_) ?_
 ·refine jl (v:=I k) rfl ?_
  refine jcutq (λvs R' D'=>R' = Ry∧D' = (b,C 99 [I k,I a,I b2,I c2,I f,I w,I r',I n']) :: (rb,rdO v m3) :: (A ++ F)∧∃r2:Int,0≤r2∧r2≤r + 1∧vs = [.pointer (some ⟨rb,0,none⟩),I n,ov,I r2,I i,.pointer (some ⟨b,0,none⟩)]) (λK7 hK7=>?_) ?_
  rotate_left
  ·rintro e Rz Dz ⟨hR,hD,r2,q0,q1,he⟩
   simp only[List.map,lc,ln,lj,z_t] at he
   simp only[he]
   exact hK6 _ _ _ ⟨hR,hD,r2,q0,q1,rfl⟩
  refine jcutq (λvs R' D'=>R' = Ry∧D' = (b,C 99 [I k,I a,I b2,I c2,I f,I w,I r',I n']) :: (rb,rdO v m3) :: (A ++ F)∧∃w' : Bool,vs = [.pointer (some ⟨rb,0,none⟩),I n,ov,I r,I i,.pointer (some ⟨b,0,none⟩),I k,.bool w']) (λK8 hK8=>?_) ?_
  ·refine jeq (jif (λh=>?_) (λh=>jeq (jif (λh=>?_) (λh=>jeq ?_))))<;>exact hK8 _ _ _ ⟨rfl,rfl,_,rfl⟩
  rintro e Rz Dz ⟨hR,hD,w',he⟩
  subst hR
  rw[hD];clear hD
  simp only[List.map,lc,ln,lj,z_t] at he
  simp only[he]
  refine jif (λh=>jadd ⟨by omega,by omega⟩ ?_) (λh=>jeq (jif (λh=>jgr (jif (λh=>jsub ⟨by omega,by omega⟩ ?_) (λh=>?_))) (λh=>?_)))
  ·exact hK7 _ _ _ ⟨rfl,rfl,r + 1,by omega,by omega,rfl⟩
  ·have h:=z_f h
   exact hK7 _ _ _ ⟨rfl,rfl,r - 1,by omega,by omega,rfl⟩
  ·exact hK7 _ _ _ ⟨rfl,rfl,r,by omega,by omega,rfl⟩
  ·exact hK7 _ _ _ ⟨rfl,rfl,r,by omega,by omega,rfl⟩
 rintro e Rz Dz ⟨hR,hD,r2,q0,q1,he⟩
 subst hR
 rw[hD];clear hD
 simp only[List.map,lc,ln,lj,z_t] at he
 simp only[he]
 refine jla (l:=[I k,I a,I b2,I c2,I f,I w,I r',I n']) (by exact z_n 8) rfl ?_
 refine jbs (cs:=[I k,I a,I b2,I c2,I f,I w,I r',I n']) rfl rfl λbs=>?_
 refine jawn [eOp ⟨k,a,b2,c2,f,w,⟨r',n'⟩⟩] so rfl op_len (λq hq=>by rw[List.mem_singleton.1 hq];rfl) rfl rfl rfl (by decide) (by rw[List.length_map,List.length_singleton];omega) λv' A' so'=>?_
 refine jadd ⟨by omega,by omega⟩ ?_
 refine jpart A' (G:=(rb,rdO v m3) :: F) ?_
 exact hK3 (n - (i + 1)) _ _ _ (by omega) ⟨rfl,i + 1,r2,l ++ [⟨k,a,b2,c2,f,w,⟨r',n'⟩⟩],v',A',m3,by omega,⟨by rw[List.length_append,hl];rfl,hvs.app (Vs.one (by exact h5.2))⟩,q0,by omega,by rw[List.map_append];exact so',by omega,by omega,rfl,rfl,rfl⟩
end draws
end Go.Lf
end
section
namespace Go.Lf
open Go Sm
theorem Progs.le {R R' : RM} {v:Value} {l:List (List Sm.Op)} (h:R.le R') (H:Progs R v l):Progs R' v l:=by
 obtain⟨vs,h1,h2,h3⟩:=H
 exact⟨vs,h1.le h,h2,λi hi=>by obtain⟨x,hx,ho⟩:=h3 i hi;exact⟨x,hx,ho.le h⟩⟩
def PrW (R:RM) (rows:List (List Value)) (l:List (List Sm.Op)):Prop:=Rw (λrow p=>∃x,row = [x]∧Ops R x p) rows l
theorem PrW.len {R:RM} {rows:List (List Value)} {l:List (List Sm.Op)} (h:PrW R rows l):∀r∈rows,r.length = 1:=h.all λ_ _ ⟨_,hx,_⟩=>by rw[hx];rfl
theorem PrW.le {R R' : RM} {rows:List (List Value)} {l:List (List Sm.Op)} (hr:R.le R') (h:PrW R rows l):PrW R' rows l:=h.mono λ_ _ ⟨x,h1,h2⟩=>⟨x,h1,h2.le hr⟩
theorem flat1:∀{rows:List (List Value)} (_:∀r∈rows,r.length = 1) (i:Nat) (h:i < rows.length),rows.flatten[i]? = (rows[i])[0]?
 | [],_,i,h=>absurd h (by simp)
 | a :: r,hw,i,h=>by
  have ha:a.length = 1:=hw a (by simp)
  rw[List.flatten_cons]
  cases i with
  | zero=>rw[List.getElem?_append_left (by omega)];rfl
  | succ i=>rw[List.getElem?_append_right (by omega),ha,Nat.add_sub_cancel,flat1 (λx hx=>hw x (by simp[hx])) i (by simpa using h)];rfl
theorem jprogs {R:RM} {A E:Chs} {t:Nat} {rows:List (List Value)} {l:List (List Sm.Op)} {v:Value} {m:M} (so:SW t 1 rows v A) (hp:PrW R rows l) (H:∀R',R.le R'→Progs R' v l→J R' E m):J R (A ++ E) m:=by
 refine jfw so hp.len λR' hR hfz=>H R' hR ⟨rows.flatten,?_,?_,λi hi=>?_⟩
 ·rw[← hp.1];exact hfz
 ·rw[flat_len hp.len,hp.1];omega
 ·have hi' : i < rows.length:=by rw[hp.1];exact hi
  obtain⟨x,h1,h2⟩:=hp.2 i hi' hi
  exact⟨x,by rw[flat1 hp.len i hi',h1];rfl,h2.le hR⟩
theorem ops_take:∀(q:List Sm.Op) (u:Nat),(rowsE eOp q).take (u * 8) = rowsE eOp (q.take u)
 | [],u=>by simp[rowsE]
 | x :: r,0=>by simp[rowsE]
 | x :: r,u + 1=>by
  have:=ops_take r u
  unfold rowsE at this ⊢
  rw[List.take_succ_cons,List.map_cons,List.map_cons,List.flatten_cons,List.flatten_cons,List.take_append,List.take_of_length_le (by show 8≤_;omega),← this]
  congr 2
  show (u + 1) * 8 - 8 = _;omega
section draws
variable {R:RM} {rb:Nat} {v:Value} {m:Int}
theorem d_l20Churn {n:Nat} (hn:n≤39) (hb:Byt R v) (hm:0≤m∧m < 300000000):Dr F_s_l20Churn [.pointer (some ⟨rb,0,none⟩),I n] R rb v m 1000 (λx R'=>∃l:List Sm.Op,(l.length≤40∧Vs l)∧Ops R' x l):=by
 refine s_s_l20Churn λF=>?_
 unfold c_s_l20Churn
 have fin:∀(l:List Sm.Op) (ov:Value) (A:Chs) (m' : Int),l.length≤40∧Vs l→SW 99 8 (l.map eOp) ov A→m≤m'→m'≤m + 1000→J R (A ++ (rb,rdO v m') :: F) (POST R F (λx R' A=>R.le R'∧(∃l:List Sm.Op,(l.length≤40∧Vs l)∧Ops R' x l)∧∃m',m≤m'∧m'≤m + 1000∧A = [(rb,rdO v m')]) ov):=λl ov A m' hl so h1 h2=>
  jops so λR2 hR2 ho=>dr_ret m' hR2 ⟨l,hl,ho⟩ h1 h2
 refine jcutq (λvs R' D'=>R' = R∧∃(l:List Sm.Op) (ov:Value) (A:Chs) (m' : Int),(l.length≤40∧Vs l)∧SW 99 8 (l.map eOp) ov A∧m≤m'∧m'≤m + 1000∧D' = A ++ (rb,rdO v m') :: F∧vs = [ov]) (λK hK=>?_) ?_
 rotate_left
 ·rintro e R1 D1 ⟨hR,l,ov,A,m',hl,so,h1,h2,hD,he⟩
  subst hR
  rw[hD];clear hD
  simp only[List.map,lc,ln,lj,z_t] at he
  simp only[he]
  exact fin l ov A m' hl so h1 h2
 refine jcutq (λvs R' D'=>R' = R∧∃(l:List Sm.Op) (ov:Value) (A:Chs) (m' : Int),(l.length≤40∧Vs l)∧SW 99 8 (l.map eOp) ov A∧m≤m'∧m'≤m + 1000∧D' = A ++ (rb,rdO v m') :: F∧vs = [ov]) (λK2 hK2=>?_) ?_
 rotate_left
 ·rintro e R1 D1 ⟨hR,l,ov,A,m',hl,so,h1,h2,hD,he⟩
  simp only[List.map,lc,ln,lj,z_t] at he
  simp only[he]
  exact hK _ _ _ ⟨hR,l,ov,A,m',hl,so,h1,h2,hD,rfl⟩
 refine jlp (λmm vs R' D'=>R' = R∧∃(l:List Sm.Op) (ov:Value) (A:Chs) (m' : Int),(l.length≤40∧Vs l)∧SW 99 8 (l.map eOp) ov A∧m≤m'∧m'≤m + 10 * l.length∧D' = A ++ (rb,rdO v m') :: F∧vs = [.pointer (some ⟨rb,0,none⟩),I n,ov]∧mm = 40 - l.length)
  (n:=40) ⟨rfl,[],.slice none 0 0,[],m,⟨by decide,Vs.nil⟩,.inl ⟨rfl,rfl,rfl⟩,by omega,by simp,rfl,rfl,rfl⟩ ?_
 rintro mm e R1 D1 K3 ⟨hR,l,ov,A,m',⟨hl,hv⟩,so,h1,h2,hD,he,hmm⟩ hK3
 subst hR
 rw[hD];clear hD
 simp only[List.map,lc,ln,lj,z_t] at he
 simp only[he]
 have hsl:=so.sl
 rw[List.length_map] at hsl
 refine jln_ hsl (jadd ⟨by omega,by omega⟩ (jlt (jif (λhc=>?_) (λhc=>?_))))
 rotate_left
 ·exact hK2 _ _ _ ⟨rfl,l,ov,A,m',⟨hl,hv⟩,so,h1,by omega,rfl,rfl⟩
 have hc:=z_f hc
 have hl32:l.length≤32:=by omega
 refine jpk hb ⟨by omega,by omega⟩ λy1 _ _=>jadd ⟨by omega,by omega⟩ (jpk hb ⟨by omega,by omega⟩ λy2 _ _=>?_)
 refine jbd (cs:=[I (1 + y1),I y2]) rfl rfl (jbd (cs:=[I 1,I 0,I 0,I 0,I 0,I 0,I (1 + y1),I y2]) rfl rfl ?_)
 refine jbs (cs:=[I 1,I 0,I 0,I 0,I 0,I 0,I (1 + y1),I y2]) rfl rfl λbs=>?_
 have app:∀{D:Chs} {b cx:Nat} {cs:List Value} {l1:List Sm.Op} {ov1:Value} {A1 E D1:Chs} {k:Value→M} (l2:List Sm.Op),SW 99 8 (l1.map eOp) ov1 A1→Tk D b (C 99 cs) D1→Sp D1 A1 E→cs = (l2.map eOp).flatten→l1.length + l2.length≤40→
   (∀ov2 A2,SW 99 8 ((l1 ++ l2).map eOp) ov2 A2→J R1 (A2 ++ E) (k ov2))→J R1 D (AP 99 8 64 (cl z99) ov1 (.slice (some ⟨b,0,none⟩) l2.length cx) k):=λ{D b cx cs l1 ov1 A1 E D1 k} l2 so1 tk sp hcs hlen H=>by
  refine jawn (tk:=tk) (sp:=sp) (l2.map eOp) so1 hcs op_len op_len rfl (flat_all λr hr=>?_) (by rw[List.length_map]) (by decide) (by rw[List.length_map,List.length_map];omega) λv' A' so'=>H v' A' (by rw[List.map_append];exact so')
  obtain⟨x,_,rfl⟩:=List.mem_map.1 hr;rfl
 refine app [⟨1,0,0,0,0,0,⟨1 + y1,y2⟩⟩] so inferInstance inferInstance rfl (by rw[List.length_singleton];omega) λov1 A1 so1=>?_
 generalize hl1:l ++ [(⟨1,0,0,0,0,0,⟨1 + y1,y2⟩⟩:Sm.Op)] = l1 at so1
 have hv1:Vs l1:=hl1▸hv.app (Vs.one (by exact Rn.zero))
 have hl1l:l1.length = l.length + 1:=by rw[← hl1];simp
 have hsl1:=so1.sl
 rw[List.length_map] at hsl1
 refine jcutq (λvs R' D'=>R' = R1∧∃(l2:List Sm.Op) (ov:Value) (A:Chs) (m2:Int),l.length < l2.length∧l2.length≤l.length + 7∧(l2.length≤39∧Vs l2)∧SW 99 8 (l2.map eOp) ov A∧m'≤m2∧m2≤m' + 6∧D' = A ++ (rb,rdO v m2) :: F∧vs = [.pointer (some ⟨rb,0,none⟩),I n,ov]) (λK4 hK4=>?_) ?_
 ·refine jpk hb ⟨by omega,by omega⟩ λy3 _ _=>?_
  refine jcutq (λvs R' D'=>R' = R1∧∃(l2:List Sm.Op) (ov:Value) (A:Chs) (m2:Int),l.length < l2.length∧l2.length≤l.length + 7∧(l2.length≤39∧Vs l2)∧SW 99 8 (l2.map eOp) ov A∧m'≤m2∧m2≤m' + 6∧D' = A ++ (rb,rdO v m2) :: F∧vs = [.pointer (some ⟨rb,0,none⟩),I n,ov]) (λK5 hK5=>?_) ?_
  rotate_left
  ·rintro e Rx Dx ⟨hR,l2,ov,A,m2,q1,q2,q3,so2,q4,q5,hD,he⟩
   simp only[List.map,lc,ln,lj,z_t] at he
   simp only[he]
   exact hK4 _ _ _ ⟨hR,l2,ov,A,m2,q1,q2,q3,so2,q4,q5,hD,rfl⟩
  refine jeq (jif (λ_=>?_) (λ_=>jeq (jif (λ_=>?_) (λ_=>jeq (jif (λ_=>?_) (λ_=>jeq (jif (λ_=>?_) (λ_=>jeq (jif (λ_=>?_) (λ_=>?_))))))))))
  ·refine jbd (cs:=[I 10,I 1,I 0,I 0,I 0,I 0,I 0,I 0]) rfl rfl (jbd (cs:=[I 3,I 1,I 0,I 0,I 0,I 0,I 0,I 0]) rfl rfl (jbd (cs:=[I 5,I 1,I 0,I 0,I 0,I 0,I 0,I 0]) rfl rfl (jbd (cs:=[I 11,I 1,I 0,I 0,I 0,I 0,I 0,I 0]) rfl rfl ?_)))
   refine jbs (cs:=(([⟨10,1,0,0,0,0,⟨0,0⟩⟩,⟨3,1,0,0,0,0,⟨0,0⟩⟩,⟨5,1,0,0,0,0,⟨0,0⟩⟩,⟨11,1,0,0,0,0,⟨0,0⟩⟩]:List Sm.Op).map eOp).flatten) rfl rfl λbt=>?_
   refine app [⟨10,1,0,0,0,0,⟨0,0⟩⟩,⟨3,1,0,0,0,0,⟨0,0⟩⟩,⟨5,1,0,0,0,0,⟨0,0⟩⟩,⟨11,1,0,0,0,0,⟨0,0⟩⟩] so1 inferInstance inferInstance rfl (by simp;omega) λov2 A2 so2=>?_
   exact hK5 _ _ _ ⟨rfl,_,ov2,A2,_,by simp;omega,by simp;omega,⟨by simp;omega,hv1.app (by simp[Vs,Rn]<;>omega)⟩,so2,by omega,by omega,rfl,rfl⟩
  ·refine jpk hb ⟨by omega,by omega⟩ λz1 _ _=>jbd (cs:=[I 3,I 0,I 1,I 0,I z1,I 0,I 0,I 0]) rfl rfl ?_
   refine jbs (cs:=[I 3,I 0,I 1,I 0,I z1,I 0,I 0,I 0]) rfl rfl λbt=>?_
   refine app [⟨3,0,1,0,z1,0,⟨0,0⟩⟩] so1 inferInstance inferInstance rfl (by simp;omega) λov2 A2 so2=>?_
   exact hK5 _ _ _ ⟨rfl,_,ov2,A2,_,by simp;omega,by simp;omega,⟨by simp;omega,hv1.app (by simp[Vs,Rn]<;>omega)⟩,so2,by omega,by omega,rfl,rfl⟩
  ·refine jpk hb ⟨by omega,by omega⟩ λz1 _ _=>jbd (cs:=[I 2,I 0,I 0,I 0,I z1,I 0,I 0,I 0]) rfl rfl (jbd (cs:=[I 3,I 1,I 2,I 0,I 0,I 0,I 0,I 0]) rfl rfl (jpk hb ⟨by omega,by omega⟩ λz2 _ _=>jbd (cs:=[I 3,I 0,I 1,I 0,I z2,I 0,I 0,I 0]) rfl rfl (jbd (cs:=[I 8,I 0,I 0,I 0,I 0,I 0,I 0,I 0]) rfl rfl ?_)))
   refine jbs (cs:=(([⟨2,0,0,0,z1,0,⟨0,0⟩⟩,⟨3,1,2,0,0,0,⟨0,0⟩⟩,⟨3,0,1,0,z2,0,⟨0,0⟩⟩,⟨8,0,0,0,0,0,⟨0,0⟩⟩]:List Sm.Op).map eOp).flatten) rfl rfl λbt=>?_
   refine app [⟨2,0,0,0,z1,0,⟨0,0⟩⟩,⟨3,1,2,0,0,0,⟨0,0⟩⟩,⟨3,0,1,0,z2,0,⟨0,0⟩⟩,⟨8,0,0,0,0,0,⟨0,0⟩⟩] so1 inferInstance inferInstance rfl (by simp;omega) λov2 A2 so2=>?_
   exact hK5 _ _ _ ⟨rfl,_,ov2,A2,_,by simp;omega,by simp;omega,⟨by simp;omega,hv1.app (by simp[Vs,Rn]<;>omega)⟩,so2,by omega,by omega,rfl,rfl⟩
  ·refine jpk hb ⟨by omega,by omega⟩ λz1 _ _=>jbd (cs:=[I 2,I 0,I 0,I 0,I z1,I 0,I 0,I 0]) rfl rfl (jbd (cs:=[I 7,I 0,I 2,I 1,I z1,I 0,I 0,I 0]) rfl rfl (jbd (cs:=[I 6,I 1,I 2,I 0,I 0,I 0,I 0,I 0]) rfl rfl (jbd (cs:=[I 8,I 0,I 0,I 0,I 0,I 0,I 0,I 0]) rfl rfl ?_)))
   refine jbs (cs:=(([⟨2,0,0,0,z1,0,⟨0,0⟩⟩,⟨7,0,2,1,z1,0,⟨0,0⟩⟩,⟨6,1,2,0,0,0,⟨0,0⟩⟩,⟨8,0,0,0,0,0,⟨0,0⟩⟩]:List Sm.Op).map eOp).flatten) rfl rfl λbt=>?_
   refine app [⟨2,0,0,0,z1,0,⟨0,0⟩⟩,⟨7,0,2,1,z1,0,⟨0,0⟩⟩,⟨6,1,2,0,0,0,⟨0,0⟩⟩,⟨8,0,0,0,0,0,⟨0,0⟩⟩] so1 inferInstance inferInstance rfl (by simp;omega) λov2 A2 so2=>?_
   exact hK5 _ _ _ ⟨rfl,_,ov2,A2,_,by simp;omega,by simp;omega,⟨by simp;omega,hv1.app (by simp[Vs,Rn]<;>omega)⟩,so2,by omega,by omega,rfl,rfl⟩
  ·refine jpk hb ⟨by omega,by omega⟩ λz1 _ _=>jbd (cs:=[I 2,I 0,I 0,I 0,I z1,I 0,I 0,I 0]) rfl rfl (jpk hb ⟨by omega,by omega⟩ λz2 _ _=>jbd (cs:=[I 4,I 2,I 0,I 0,I 0,I z2,I 0,I 0]) rfl rfl (jbd (cs:=[I 5,I 2,I 0,I 0,I 0,I 0,I 0,I 0]) rfl rfl (jbd (cs:=[I 2,I 2,I 0,I 0,I 0,I 0,I 0,I 0]) rfl rfl (jbd (cs:=[I 8,I 0,I 0,I 0,I 0,I 0,I 0,I 0]) rfl rfl (jbd (cs:=[I 8,I 0,I 0,I 0,I 0,I 0,I 0,I 0]) rfl rfl ?_)))))
   refine jbs (cs:=(([⟨2,0,0,0,z1,0,⟨0,0⟩⟩,⟨4,2,0,0,0,z2,⟨0,0⟩⟩,⟨5,2,0,0,0,0,⟨0,0⟩⟩,⟨2,2,0,0,0,0,⟨0,0⟩⟩,⟨8,0,0,0,0,0,⟨0,0⟩⟩,⟨8,0,0,0,0,0,⟨0,0⟩⟩]:List Sm.Op).map eOp).flatten) rfl rfl λbt=>?_
   refine app [⟨2,0,0,0,z1,0,⟨0,0⟩⟩,⟨4,2,0,0,0,z2,⟨0,0⟩⟩,⟨5,2,0,0,0,0,⟨0,0⟩⟩,⟨2,2,0,0,0,0,⟨0,0⟩⟩,⟨8,0,0,0,0,0,⟨0,0⟩⟩,⟨8,0,0,0,0,0,⟨0,0⟩⟩] so1 inferInstance inferInstance rfl (by simp;omega) λov2 A2 so2=>?_
   obtain⟨l3,hl3,so3⟩:∃l3:List Sm.Op,(l3.length = l1.length + 6∧Vs l3)∧SW 99 8 (l3.map eOp) ov2 A2:=⟨_,⟨by simp,hv1.app (by simp[Vs,Rn]<;>omega)⟩,so2⟩
   obtain⟨hl3,hv3⟩:=hl3
   have hsl2:=so3.sl
   rw[List.length_map] at hsl2
   refine jln_ hsl2 (jgr (jif (λhg=>?_) (λhg=>?_)))
   ·have hg:=z_f hg
    refine jops so3 λR2 hR2 ho=>jslf ho (by decide) (by omega) λv' hv'=>dr_ret _ hR2 ⟨l3.take 38,⟨by rw[List.length_take];omega,λo ho=>hv3 o (List.mem_of_mem_take ho)⟩,?_⟩ (by omega) (by omega)
    unfold Ops
    rw[List.length_take,Nat.min_eq_left (by omega),← ops_take]
    exact hv'
   ·have hg:=z_g hg
    exact hK5 _ _ _ ⟨rfl,l3,ov2,A2,_,by omega,by omega,⟨by omega,hv3⟩,so3,by omega,by omega,rfl,rfl⟩
  ·refine jpart A1 (G:=(rb,rdO v (m' + 1 + 1 + 1)) :: F) ?_
   exact hK5 _ _ _ ⟨rfl,l1,ov1,A1,_,by omega,by omega,⟨by omega,hv1⟩,so1,by omega,by omega,rfl,rfl⟩
 rintro e Rx Dx ⟨hR,l2,ov,A,m2,q1,q2,⟨q3,hv2⟩,so2,q4,q5,hD,he⟩
 subst hR
 rw[hD];clear hD
 simp only[List.map,lc,ln,lj,z_t] at he
 simp only[he]
 refine jbd (cs:=[I 8,I 0,I 0,I 0,I 0,I 0,I 0,I 0]) rfl rfl (jbs (cs:=[I 8,I 0,I 0,I 0,I 0,I 0,I 0,I 0]) rfl rfl λbt=>?_)
 refine app [⟨8,0,0,0,0,0,⟨0,0⟩⟩] so2 inferInstance inferInstance rfl (by simp;omega) λov2 A2 so3=>?_
 exact hK3 (40 - (l2.length + 1)) _ _ _ (by omega) ⟨rfl,_,ov2,A2,_,⟨by simp;omega,hv2.app (Vs.one (by exact Rn.zero))⟩,so3,by omega,by simp;omega,rfl,rfl,by simp⟩
end draws
end Go.Lf
end
