/- A part of the proof of the given row: the walk of the law and of all that it calls. Conditions: none. -/
import Derived.Test.YtoajhnhjmhdfdaaGreatVL
set_option linter.unusedVariables false
set_option linter.unusedSimpArgs false
section
namespace Go.Lf
open Go Sm
theorem jall1 {R:RM} {D:Chs} {a:M} (h:J R D a):J R D (ALL [a]):=h
theorem jall {R:RM} {D:Chs} {a b:M} {r:List M} (h:J R D a) (h2:J R D (ALL (b :: r))):J R D (ALL (a :: b :: r)):=λh' hs=>⟨h h' hs,h2 h' hs⟩
def eNw (w:Value) (tv:Value) (m:Value) (thv:Value):List Value:=[w,tv,m,I 0,.bool false,.bool false,.bool false,I 0,thv,.slice none 0 0,.slice none 0 0,I 0,I 0]
def startW (c:Cfg):List Int:=(thingMake (List.replicate (c.regions.toNat * 16) 0) 16 hall).1
theorem start_fits {c:Cfg} (h:configOk c = true):(thingMake (List.replicate (c.regions.toNat * 16) 0) 16 hall).2 = true∧(startW c).length = c.regions.toNat * 16:=by
 unfold configOk at h
 simp only[z_b,z_d] at h
 have hf:fits (c.regions.toNat * 16) 16 (shapeSize hall) = true:=by
  have e:shapeSize hall = 8:=by decide
  rw[e]
  unfold fits wordsOk regionOf
  simp only[z_b,z_d,beq_iff_eq]
  refine⟨⟨⟨⟨⟨⟨⟨by omega,by omega⟩,by omega⟩,by omega⟩,by omega⟩,by omega⟩,by omega⟩,by decide⟩
 unfold startW thingMake
 rw[List.length_replicate,if_pos hf]
 refine⟨rfl,?_⟩
 unfold Sm.put
 have:hall.refs.toNat + hall.nums.toNat = 6:=by decide
 simp only[List.length_append,List.length_take,List.length_replicate,List.length_drop,List.length_cons,List.length_nil,this]
 omega
theorem t_StateNew {R:RM} {c:Cfg} (hc:configOk c = true) :
  Fn P F_s_StateNew [.agg #[I c.regions,I c.threads,I c.reserve]] R [] (λv R' A=>∃bw cw wsp bt ct tsp bm thv,(startW c).length≤cw∧(tableNew c.regions).length≤ct∧Ths R' thv (List.replicate c.threads.toNat ⟨[16],0,false,0⟩)∧
   A = [(bw,C T_int ((startW c).map I ++ wsp)),(bt,C T_Region (rowsE eRg (seti (tableNew c.regions) 1 ⟨3,-1,24,24,0⟩) ++ tsp)),(bm,C T_bool ((List.replicate (c.regions.toNat * 16) false).map Value.bool))]∧
   v = .tuple #[.agg (eNw (.slice (some ⟨bw,0,none⟩) (startW c).length cw) (.slice (some ⟨bt,0,none⟩) (tableNew c.regions).length ct) (.slice (some ⟨bm,0,none⟩) (c.regions.toNat * 16) (c.regions.toNat * 16)) thv).toArray,.bool true]):=by
 refine s_s_StateNew λF=>?_
 unfold c_s_StateNew
 have hcc:=hc
 unfold configOk at hc
 simp only[z_b,z_d] at hc
 refine ja λb1=>?_
 rw[show cl (.agg #[I c.regions,I c.threads,I c.reserve]) = [I c.regions,I c.threads,I c.reserve] from rfl]
 refine ja λb2=>?_
 refine jla (l:=[I c.regions,I c.threads,I c.reserve]) (by simp) rfl ?_
 refine jp (p_ConfigOk c) ?_
 rw[hcc]
 refine jiff (jfo (jl (v:=I c.regions) rfl ?_))
 refine jmk (m_TableNew c.regions) ?_
 intro v N hq
 unfold QNew at hq
 have htl:(tableNew c.regions).length = c.regions.toNat:=by
  unfold tableNew
  rw[if_neg (by omega)];simp;omega
 rw[if_neg (by intro hn;rw[hn] at htl;simp at htl;omega)] at hq
 obtain⟨sv,⟨bt,ct,tsp,hct,rfl,rfl⟩,rfl⟩:=hq
 refine jex rfl (jex rfl ?_)
 have e16:(c.regions * 16).toNat = c.regions.toNat * 16:=by omega
 refine jcutq (λvs R' D'=>R' = R∧∃bw bm b6,D' = (b6,C T_State (eNw (.slice (some ⟨bw,0,none⟩) (c.regions.toNat * 16) (c.regions.toNat * 16)) (.slice (some ⟨bt,0,none⟩) (tableNew c.regions).length ct) (.slice (some ⟨bm,0,none⟩) (c.regions.toNat * 16) (c.regions.toNat * 16)) (.slice none 0 0))) ::
   (bw,C T_int ((List.replicate (c.regions.toNat * 16) [I 0]).flatten)) :: (bm,C T_bool ((List.replicate (c.regions.toNat * 16) [Value.bool false]).flatten)) ::
   (bt,C T_Region (rowsE eRg (tableNew c.regions) ++ tsp)) :: (b2,C T_State (cl z58)) :: (b1,C 67 [I c.regions,I c.threads,I c.reserve]) :: F∧vs = [.pointer (some ⟨b1,0,none⟩),.pointer (some ⟨b2,0,none⟩),.pointer (some ⟨b6,0,none⟩)]) (λK hK=>?_) ?_
 ·refine jfo (jl (v:=I c.regions) rfl (jmul ⟨by omega,by omega⟩ (jfo (jl (v:=I c.regions) rfl (jmul ⟨by omega,by omega⟩ ?_)))))
  refine jall ?_ (jall ?_ (jall1 ?_))
  ·refine jms (by omega) (by omega) (by omega) λbw=>?_
   rw[e16]
   refine jand (jl (v:=I c.regions) rfl jev) ?_
   refine jall ?_ (jall1 ?_)
   ·refine jms (by omega) (by omega) (by omega) λbm=>?_
    rw[e16]
    refine jbd (cs:=(eNw (.slice (some ⟨bw,0,none⟩) (c.regions.toNat * 16) (c.regions.toNat * 16)) (.slice (some ⟨bt,0,none⟩) (tableNew c.regions).length ct) (.slice (some ⟨bm,0,none⟩) (c.regions.toNat * 16) (c.regions.toNat * 16)) (.slice none 0 0))) rfl rfl ?_
    refine ja λb6=>?_
    refine js (cs':=(eNw (.slice (some ⟨bw,0,none⟩) (c.regions.toNat * 16) (c.regions.toNat * 16)) (.slice (some ⟨bt,0,none⟩) (tableNew c.regions).length ct) (.slice (some ⟨bm,0,none⟩) (c.regions.toNat * 16) (c.regions.toNat * 16)) (.slice none 0 0))) rfl rfl (by exact z_n 13) rfl ?_
    refine jpart [(b6,C T_State (eNw (.slice (some ⟨bw,0,none⟩) (c.regions.toNat * 16) (c.regions.toNat * 16)) (.slice (some ⟨bt,0,none⟩) (tableNew c.regions).length ct) (.slice (some ⟨bm,0,none⟩) (c.regions.toNat * 16) (c.regions.toNat * 16)) (.slice none 0 0))),(bw,C T_int ((List.replicate (c.regions.toNat * 16) [I 0]).flatten)),(bm,C T_bool ((List.replicate (c.regions.toNat * 16) [Value.bool false]).flatten))] (G:=[(bt,C T_Region (rowsE eRg (tableNew c.regions) ++ tsp))] ++ (b2,C T_State (cl z58)) :: (b1,C 67 [I c.regions,I c.threads,I c.reserve]) :: ([] ++ F)) ?_
    exact hK _ _ _ ⟨rfl,bw,bm,b6,rfl,rfl⟩
   ·refine ja λb6=>?_
    refine jand (jl (v:=I c.regions) rfl jev) ?_
    refine jms (by omega) (by omega) (by omega) λbm=>?_
    rw[e16]
    refine jbd (cs:=(eNw (.slice (some ⟨bw,0,none⟩) (c.regions.toNat * 16) (c.regions.toNat * 16)) (.slice (some ⟨bt,0,none⟩) (tableNew c.regions).length ct) (.slice (some ⟨bm,0,none⟩) (c.regions.toNat * 16) (c.regions.toNat * 16)) (.slice none 0 0))) rfl rfl ?_
    refine js (cs':=(eNw (.slice (some ⟨bw,0,none⟩) (c.regions.toNat * 16) (c.regions.toNat * 16)) (.slice (some ⟨bt,0,none⟩) (tableNew c.regions).length ct) (.slice (some ⟨bm,0,none⟩) (c.regions.toNat * 16) (c.regions.toNat * 16)) (.slice none 0 0))) rfl rfl (by exact z_n 13) rfl ?_
    refine jpart [(b6,C T_State (eNw (.slice (some ⟨bw,0,none⟩) (c.regions.toNat * 16) (c.regions.toNat * 16)) (.slice (some ⟨bt,0,none⟩) (tableNew c.regions).length ct) (.slice (some ⟨bm,0,none⟩) (c.regions.toNat * 16) (c.regions.toNat * 16)) (.slice none 0 0))),(bw,C T_int ((List.replicate (c.regions.toNat * 16) [I 0]).flatten)),(bm,C T_bool ((List.replicate (c.regions.toNat * 16) [Value.bool false]).flatten))] (G:=[(bt,C T_Region (rowsE eRg (tableNew c.regions) ++ tsp))] ++ (b2,C T_State (cl z58)) :: (b1,C 67 [I c.regions,I c.threads,I c.reserve]) :: ([] ++ F)) ?_
    exact hK _ _ _ ⟨rfl,bw,bm,b6,rfl,rfl⟩
  ·refine jms (by omega) (by omega) (by omega) λbm=>?_
   rw[e16]
   refine jand (jl (v:=I c.regions) rfl jev) ?_
   refine jall ?_ (jall1 ?_)
   ·refine jms (by omega) (by omega) (by omega) λbw=>?_
    rw[e16]
    refine jbd (cs:=(eNw (.slice (some ⟨bw,0,none⟩) (c.regions.toNat * 16) (c.regions.toNat * 16)) (.slice (some ⟨bt,0,none⟩) (tableNew c.regions).length ct) (.slice (some ⟨bm,0,none⟩) (c.regions.toNat * 16) (c.regions.toNat * 16)) (.slice none 0 0))) rfl rfl ?_
    refine ja λb6=>?_
    refine js (cs':=(eNw (.slice (some ⟨bw,0,none⟩) (c.regions.toNat * 16) (c.regions.toNat * 16)) (.slice (some ⟨bt,0,none⟩) (tableNew c.regions).length ct) (.slice (some ⟨bm,0,none⟩) (c.regions.toNat * 16) (c.regions.toNat * 16)) (.slice none 0 0))) rfl rfl (by exact z_n 13) rfl ?_
    refine jpart [(b6,C T_State (eNw (.slice (some ⟨bw,0,none⟩) (c.regions.toNat * 16) (c.regions.toNat * 16)) (.slice (some ⟨bt,0,none⟩) (tableNew c.regions).length ct) (.slice (some ⟨bm,0,none⟩) (c.regions.toNat * 16) (c.regions.toNat * 16)) (.slice none 0 0))),(bw,C T_int ((List.replicate (c.regions.toNat * 16) [I 0]).flatten)),(bm,C T_bool ((List.replicate (c.regions.toNat * 16) [Value.bool false]).flatten))] (G:=[(bt,C T_Region (rowsE eRg (tableNew c.regions) ++ tsp))] ++ (b2,C T_State (cl z58)) :: (b1,C 67 [I c.regions,I c.threads,I c.reserve]) :: ([] ++ F)) ?_
    exact hK _ _ _ ⟨rfl,bw,bm,b6,rfl,rfl⟩
   ·refine ja λb6=>?_
    refine jand (jl (v:=I c.regions) rfl jev) ?_
    refine jms (by omega) (by omega) (by omega) λbw=>?_
    rw[e16]
    refine jbd (cs:=(eNw (.slice (some ⟨bw,0,none⟩) (c.regions.toNat * 16) (c.regions.toNat * 16)) (.slice (some ⟨bt,0,none⟩) (tableNew c.regions).length ct) (.slice (some ⟨bm,0,none⟩) (c.regions.toNat * 16) (c.regions.toNat * 16)) (.slice none 0 0))) rfl rfl ?_
    refine js (cs':=(eNw (.slice (some ⟨bw,0,none⟩) (c.regions.toNat * 16) (c.regions.toNat * 16)) (.slice (some ⟨bt,0,none⟩) (tableNew c.regions).length ct) (.slice (some ⟨bm,0,none⟩) (c.regions.toNat * 16) (c.regions.toNat * 16)) (.slice none 0 0))) rfl rfl (by exact z_n 13) rfl ?_
    refine jpart [(b6,C T_State (eNw (.slice (some ⟨bw,0,none⟩) (c.regions.toNat * 16) (c.regions.toNat * 16)) (.slice (some ⟨bt,0,none⟩) (tableNew c.regions).length ct) (.slice (some ⟨bm,0,none⟩) (c.regions.toNat * 16) (c.regions.toNat * 16)) (.slice none 0 0))),(bw,C T_int ((List.replicate (c.regions.toNat * 16) [I 0]).flatten)),(bm,C T_bool ((List.replicate (c.regions.toNat * 16) [Value.bool false]).flatten))] (G:=[(bt,C T_Region (rowsE eRg (tableNew c.regions) ++ tsp))] ++ (b2,C T_State (cl z58)) :: (b1,C 67 [I c.regions,I c.threads,I c.reserve]) :: ([] ++ F)) ?_
    exact hK _ _ _ ⟨rfl,bw,bm,b6,rfl,rfl⟩
  ·refine ja λb6=>?_
   refine jand (jl (v:=I c.regions) rfl jev) (jand (jl (v:=I c.regions) rfl jev) ?_)
   refine jall ?_ (jall1 ?_)
   ·refine jms (by omega) (by omega) (by omega) λbw=>?_
    rw[e16]
    refine jand (jl (v:=I c.regions) rfl jev) ?_
    refine jms (by omega) (by omega) (by omega) λbm=>?_
    rw[e16]
    refine jbd (cs:=(eNw (.slice (some ⟨bw,0,none⟩) (c.regions.toNat * 16) (c.regions.toNat * 16)) (.slice (some ⟨bt,0,none⟩) (tableNew c.regions).length ct) (.slice (some ⟨bm,0,none⟩) (c.regions.toNat * 16) (c.regions.toNat * 16)) (.slice none 0 0))) rfl rfl ?_
    refine js (cs':=(eNw (.slice (some ⟨bw,0,none⟩) (c.regions.toNat * 16) (c.regions.toNat * 16)) (.slice (some ⟨bt,0,none⟩) (tableNew c.regions).length ct) (.slice (some ⟨bm,0,none⟩) (c.regions.toNat * 16) (c.regions.toNat * 16)) (.slice none 0 0))) rfl rfl (by exact z_n 13) rfl ?_
    refine jpart [(b6,C T_State (eNw (.slice (some ⟨bw,0,none⟩) (c.regions.toNat * 16) (c.regions.toNat * 16)) (.slice (some ⟨bt,0,none⟩) (tableNew c.regions).length ct) (.slice (some ⟨bm,0,none⟩) (c.regions.toNat * 16) (c.regions.toNat * 16)) (.slice none 0 0))),(bw,C T_int ((List.replicate (c.regions.toNat * 16) [I 0]).flatten)),(bm,C T_bool ((List.replicate (c.regions.toNat * 16) [Value.bool false]).flatten))] (G:=[(bt,C T_Region (rowsE eRg (tableNew c.regions) ++ tsp))] ++ (b2,C T_State (cl z58)) :: (b1,C 67 [I c.regions,I c.threads,I c.reserve]) :: ([] ++ F)) ?_
    exact hK _ _ _ ⟨rfl,bw,bm,b6,rfl,rfl⟩
   ·refine jms (by omega) (by omega) (by omega) λbm=>?_
    rw[e16]
    refine jand (jl (v:=I c.regions) rfl jev) ?_
    refine jms (by omega) (by omega) (by omega) λbw=>?_
    rw[e16]
    refine jbd (cs:=(eNw (.slice (some ⟨bw,0,none⟩) (c.regions.toNat * 16) (c.regions.toNat * 16)) (.slice (some ⟨bt,0,none⟩) (tableNew c.regions).length ct) (.slice (some ⟨bm,0,none⟩) (c.regions.toNat * 16) (c.regions.toNat * 16)) (.slice none 0 0))) rfl rfl ?_
    refine js (cs':=(eNw (.slice (some ⟨bw,0,none⟩) (c.regions.toNat * 16) (c.regions.toNat * 16)) (.slice (some ⟨bt,0,none⟩) (tableNew c.regions).length ct) (.slice (some ⟨bm,0,none⟩) (c.regions.toNat * 16) (c.regions.toNat * 16)) (.slice none 0 0))) rfl rfl (by exact z_n 13) rfl ?_
    refine jpart [(b6,C T_State (eNw (.slice (some ⟨bw,0,none⟩) (c.regions.toNat * 16) (c.regions.toNat * 16)) (.slice (some ⟨bt,0,none⟩) (tableNew c.regions).length ct) (.slice (some ⟨bm,0,none⟩) (c.regions.toNat * 16) (c.regions.toNat * 16)) (.slice none 0 0))),(bw,C T_int ((List.replicate (c.regions.toNat * 16) [I 0]).flatten)),(bm,C T_bool ((List.replicate (c.regions.toNat * 16) [Value.bool false]).flatten))] (G:=[(bt,C T_Region (rowsE eRg (tableNew c.regions) ++ tsp))] ++ (b2,C T_State (cl z58)) :: (b1,C 67 [I c.regions,I c.threads,I c.reserve]) :: ([] ++ F)) ?_
    exact hK _ _ _ ⟨rfl,bw,bm,b6,rfl,rfl⟩
 rintro e Rz D1 ⟨hR,bw0,bm,b6,hD,he⟩
 subst hR
 rw[hD];clear hD
 simp only[List.map,lc,ln,lj,z_t] at he
 simp only[he]
 have htk:(List.replicate (c.regions.toNat * 16) [I 0]).flatten = (List.replicate (c.regions.toNat * 16) (0:Int)).map I ++ []:=by simp[List.flatten_replicate_singleton]
 have hmk:(List.replicate (c.regions.toNat * 16) [Value.bool false]).flatten = (List.replicate (c.regions.toNat * 16) false).map Value.bool:=by simp[List.flatten_replicate_singleton]
 rw[htk,hmk]
 refine jfreeze (b:=bw0) λR2 hR2 hb0=>?_
 have hw0:Ints R2 (.slice (some ⟨bw0,0,none⟩) (c.regions.toNat * 16) (c.regions.toNat * 16)) (List.replicate (c.regions.toNat * 16) 0):=by
  have:=ints_of (c:=c.regions.toNat * 16) hb0 (by simp)
  rw[List.length_replicate] at this;exact this
 refine jbd (cs:=[I 4,I 2]) rfl rfl (ja λb7=>?_)
 refine js (cs':=[I 4,I 2]) rfl rfl (by simp) rfl ?_
 refine jfo (jl (v:=.slice (some ⟨bw0,0,none⟩) (c.regions.toNat * 16) (c.regions.toNat * 16)) rfl ?_)
 refine jla (l:=[I 4,I 2]) (by simp) rfl ?_
 refine jc (A:=[]) (t_ThingMake 16 hall hw0 (by rw[List.length_replicate];omega)) ?_
 rintro v3 R3 A3 hR3 ⟨hRR,hq⟩
 subst hRR
 obtain⟨sf1,sf2⟩:=start_fits hcc
 unfold QMk at hq
 rw[if_pos sf1] at hq
 obtain⟨sv,⟨bw,cw,wsp,hcw,hwsp,rfl,rfl⟩,rfl⟩:=hq
 refine jex rfl (jex rfl ?_)
 refine jfo (js (cs':=eNw (.slice (some ⟨bw,0,none⟩) (startW c).length cw) (.slice (some ⟨bt,0,none⟩) (tableNew c.regions).length ct) (.slice (some ⟨bm,0,none⟩) (c.regions.toNat * 16) (c.regions.toNat * 16)) (.slice none 0 0)) rfl rfl (by simp[eNw]) rfl ?_)
 refine jla (l:=[I 4,I 2]) (by simp) rfl (jp (p_ShapeSize hall) (jadd ⟨by decide,by decide⟩ ?_))
 rw[show (16:Int) + shapeSize hall = 24 by decide]
 refine jfo (jl (v:=.slice (some ⟨bt,0,none⟩) (tableNew c.regions).length ct) rfl ?_)
 refine jbd (cs:=eRg ⟨3,-1,24,24,0⟩) rfl rfl ?_
 refine jian (r:=1) (by omega) (jsrow (t:=tableNew c.regions) (sp:=tsp) (x:=⟨3,-1,24,24,0⟩) (by omega) ?_)
 refine jperm (D':=(bw,C T_int ((startW c).map I ++ wsp)) :: (b7,C 92 [I 4,I 2]) :: (b6,C T_State (eNw (.slice (some ⟨bw,0,none⟩) (startW c).length cw) (.slice (some ⟨bt,0,none⟩) (tableNew c.regions).length ct) (.slice (some ⟨bm,0,none⟩) (c.regions.toNat * 16) (c.regions.toNat * 16)) (.slice none 0 0))) :: (bm,C T_bool ((List.replicate (c.regions.toNat * 16) false).map Value.bool)) :: (bt,C T_Region (rowsE eRg (seti (tableNew c.regions) 1 ⟨3,-1,24,24,0⟩) ++ tsp)) :: (b2,C T_State (cl z58)) :: (b1,C 67 [I c.regions,I c.threads,I c.reserve]) :: F) (List.Perm.refl _) ?_
 refine jpart [(b6,C T_State (eNw (.slice (some ⟨bw,0,none⟩) (startW c).length cw) (.slice (some ⟨bt,0,none⟩) (tableNew c.regions).length ct) (.slice (some ⟨bm,0,none⟩) (c.regions.toNat * 16) (c.regions.toNat * 16)) (.slice none 0 0))),(b1,C 67 [I c.regions,I c.threads,I c.reserve]),(b2,C T_State (cl z58)),(bw,C T_int ((startW c).map I ++ wsp)),(bt,C T_Region (rowsE eRg (seti (tableNew c.regions) 1 ⟨3,-1,24,24,0⟩) ++ tsp)),(bm,C T_bool ((List.replicate (c.regions.toNat * 16) false).map Value.bool))] (G:=F) ?_
 generalize hE:(b1,C 67 [I c.regions,I c.threads,I c.reserve]) :: (b2,C T_State (cl z58)) :: ([(bw,C T_int ((startW c).map I ++ wsp)),(bt,C T_Region (rowsE eRg (seti (tableNew c.regions) 1 ⟨3,-1,24,24,0⟩) ++ tsp)),(bm,C T_bool ((List.replicate (c.regions.toNat * 16) false).map Value.bool))] ++ F) = E
 have ea1:At E b1 (C 67 [I c.regions,I c.threads,I c.reserve]):=by rw[← hE];exact inferInstance
 refine jperm (D':=(b6,C T_State (eNw (.slice (some ⟨bw,0,none⟩) (startW c).length cw) (.slice (some ⟨bt,0,none⟩) (tableNew c.regions).length ct) (.slice (some ⟨bm,0,none⟩) (c.regions.toNat * 16) (c.regions.toNat * 16)) (.slice none 0 0))) :: E) (by rw[← hE];exact List.Perm.refl _) ?_
 obtain⟨n,hn⟩:∃n:Nat,c.threads = n:=⟨c.threads.toNat,by omega⟩
 refine jcutq (λvs R' D'=>Rz.le R'∧∃rows v A,Rw (ThrC R') rows (List.replicate n ⟨[16],0,false,0⟩)∧SW 78 4 rows v A∧D' = A ++ (b6,C T_State (eNw (.slice (some ⟨bw,0,none⟩) (startW c).length cw) (.slice (some ⟨bt,0,none⟩) (tableNew c.regions).length ct) (.slice (some ⟨bm,0,none⟩) (c.regions.toNat * 16) (c.regions.toNat * 16)) v)) :: E∧vs = [.pointer (some ⟨b2,0,none⟩),.pointer (some ⟨b6,0,none⟩)]) (λK hK=>?_) ?_
 ·refine jcutq (λvs R' D'=>Rz.le R'∧∃rows v A,Rw (ThrC R') rows (List.replicate n ⟨[16],0,false,0⟩)∧SW 78 4 rows v A∧D' = A ++ (b6,C T_State (eNw (.slice (some ⟨bw,0,none⟩) (startW c).length cw) (.slice (some ⟨bt,0,none⟩) (tableNew c.regions).length ct) (.slice (some ⟨bm,0,none⟩) (c.regions.toNat * 16) (c.regions.toNat * 16)) v)) :: E∧vs = [.pointer (some ⟨b2,0,none⟩),.pointer (some ⟨b6,0,none⟩)]) (λK2 hK2=>?_) ?_
  rotate_left
  ·rintro e R1 D1 ⟨hR,rows,v,A,hrw,so,hD,he⟩
   rw[hD];clear hD
   simp only[List.map,lc,ln,lj,z_t] at he
   simp only[he]
   exact hK _ _ _ ⟨hR,rows,v,A,hrw,so,rfl,rfl⟩
  refine jlp (λm vs R' D'=>Rz.le R'∧∃(i:Nat) (rows:List (List Value)) (v:Value) (A:Chs),i≤n∧Rw (ThrC R') rows (List.replicate i ⟨[16],0,false,0⟩)∧SW 78 4 rows v A∧D' = A ++ (b6,C T_State (eNw (.slice (some ⟨bw,0,none⟩) (startW c).length cw) (.slice (some ⟨bt,0,none⟩) (tableNew c.regions).length ct) (.slice (some ⟨bm,0,none⟩) (c.regions.toNat * 16) (c.regions.toNat * 16)) v)) :: E∧vs = [.pointer (some ⟨b1,0,none⟩),.pointer (some ⟨b2,0,none⟩),.pointer (some ⟨b6,0,none⟩),I i]∧m = n - i)
   (n:=n) ⟨hR2,0,[],.slice none 0 0,[],by omega,Rw.nil,.inl ⟨rfl,rfl,rfl⟩,rfl,rfl,by omega⟩ ?_
  rintro m e R1 D1 K3 ⟨hR,i,rows,v,A,hi,hrw,so,hD,he,hm⟩ hK3
  rw[hD];clear hD
  simp only[List.map,lc,ln,lj,z_t] at he
  simp only[he]
  refine jfo (jl (v:=I c.threads) rfl (jlt (jif (λhd=>?_) (λhd=>?_))))
  rotate_left
  ·have hd:i = n:=by have:=z_g hd;omega
   subst hd
   exact hK2 _ _ _ ⟨hR,rows,v,A,hrw,so,rfl,rfl⟩
  have hd:i < n:=by have:=z_f hd;omega
  obtain⟨sa,sc,hsl⟩:=so.sl
  subst hsl
  refine jfo (jl (v:=.slice sa rows.length sc) rfl ?_)
  refine jbs (cs:=[I 16]) rfl rfl λb8=>?_
  refine jfreeze (b:=b8) λR3 hR3 hb8=>?_
  have hv2:Ints R3 (.slice (some ⟨b8,0,none⟩) 1 1) [16]:=ints_of (l:=[16]) (sp:=[]) (c:=1) hb8 (by simp)
  refine jbd (cs:=[.slice (some ⟨b8,0,none⟩) 1 1,I 0,.bool false,I 0]) rfl rfl ?_
  refine jbs (cs:=[.slice (some ⟨b8,0,none⟩) 1 1,I 0,.bool false,I 0]) rfl rfl λb9=>?_
  refine jpart A (G:=(b9,C 78 [.slice (some ⟨b8,0,none⟩) 1 1,I 0,.bool false,I 0]) :: (b6,C T_State (eNw (.slice (some ⟨bw,0,none⟩) (startW c).length cw) (.slice (some ⟨bt,0,none⟩) (tableNew c.regions).length ct) (.slice (some ⟨bm,0,none⟩) (c.regions.toNat * 16) (c.regions.toNat * 16)) (.slice sa rows.length sc))) :: E) ?_
  have hx:Reads R3 (A ++ ((b9,C 78 [.slice (some ⟨b8,0,none⟩) 1 1,I 0,.bool false,I 0]) :: (b6,C T_State (eNw (.slice (some ⟨bw,0,none⟩) (startW c).length cw) (.slice (some ⟨bt,0,none⟩) (tableNew c.regions).length ct) (.slice (some ⟨bm,0,none⟩) (c.regions.toNat * 16) (c.regions.toNat * 16)) (.slice sa rows.length sc))) :: E)) (some ⟨b9,0,none⟩) (1 * 4) [[.slice (some ⟨b8,0,none⟩) 1 1,I 0,.bool false,I 0]].flatten:=Reads.held (t:=78) (cs:=[.slice (some ⟨b8,0,none⟩) 1 1,I 0,.bool false,I 0]) (o:=0) (n:=1 * 4) (z_n 4)
  have hrl:=hrw.1
  rw[List.length_replicate] at hrl
  refine jaw so (hrw.all λ_ _=>ThrC.len) (by intro r hr;rw[List.mem_singleton.1 hr];rfl) rfl rfl rfl (by decide) (by rw[List.length_singleton];omega) hx λv' A' so'=>?_
  obtain⟨sa',sc',hsl'⟩:=so'.sl
  subst hsl'
  refine jfo (js (cs':=eNw (.slice (some ⟨bw,0,none⟩) (startW c).length cw) (.slice (some ⟨bt,0,none⟩) (tableNew c.regions).length ct) (.slice (some ⟨bm,0,none⟩) (c.regions.toNat * 16) (c.regions.toNat * 16)) (.slice sa' (rows ++ [[.slice (some ⟨b8,0,none⟩) 1 1,I 0,.bool false,I 0]]).length sc')) rfl rfl (by simp[eNw]) rfl ?_)
  refine jadd ⟨by omega,by omega⟩ ?_
  refine jpart A' (G:=(b6,C T_State (eNw (.slice (some ⟨bw,0,none⟩) (startW c).length cw) (.slice (some ⟨bt,0,none⟩) (tableNew c.regions).length ct) (.slice (some ⟨bm,0,none⟩) (c.regions.toNat * 16) (c.regions.toNat * 16)) (.slice sa' (rows ++ [[.slice (some ⟨b8,0,none⟩) 1 1,I 0,.bool false,I 0]]).length sc'))) :: E) ?_
  refine hK3 (n - (i + 1)) _ _ _ (by omega) ⟨hR.trans hR3,i + 1,_,_,A',by omega,?_,so',rfl,rfl,rfl⟩
  rw[List.replicate_succ']
  exact (hrw.mono λ_ _=>ThrC.le hR3).app (Rw.one ⟨_,rfl,hv2⟩)
 rintro e R1 D1 ⟨hR,rows,v,A,hrw,so,hD,he⟩
 rw[hD];clear hD
 simp only[List.map,lc,ln,lj,z_t] at he
 simp only[he]
 obtain⟨sa,sc,hsl⟩:=so.sl
 subst hsl
 refine jfw so (hrw.all λ_ _=>ThrC.len) λR3 hR3 hfz=>?_
 subst hE
 refine jla (l:=eNw (.slice (some ⟨bw,0,none⟩) (startW c).length cw) (.slice (some ⟨bt,0,none⟩) (tableNew c.regions).length ct) (.slice (some ⟨bm,0,none⟩) (c.regions.toNat * 16) (c.regions.toNat * 16)) (.slice sa rows.length sc)) (by exact z_n 13) rfl ?_
 refine js (cs':=eNw (.slice (some ⟨bw,0,none⟩) (startW c).length cw) (.slice (some ⟨bt,0,none⟩) (tableNew c.regions).length ct) (.slice (some ⟨bm,0,none⟩) (c.regions.toNat * 16) (c.regions.toNat * 16)) (.slice sa rows.length sc)) rfl rfl (by exact z_n 13) rfl ?_
 refine jla (l:=eNw (.slice (some ⟨bw,0,none⟩) (startW c).length cw) (.slice (some ⟨bt,0,none⟩) (tableNew c.regions).length ct) (.slice (some ⟨bm,0,none⟩) (c.regions.toNat * 16) (c.regions.toNat * 16)) (.slice sa rows.length sc)) (by exact z_n 13) rfl ?_
 refine jret (A:=[(bw,C T_int ((startW c).map I ++ wsp)),(bt,C T_Region (rowsE eRg (seti (tableNew c.regions) 1 ⟨3,-1,24,24,0⟩) ++ tsp)),(bm,C T_bool ((List.replicate (c.regions.toNat * 16) false).map Value.bool))]) (hR.trans hR3) ⟨bw,cw,wsp,bt,ct,tsp,bm,.slice sa rows.length sc,hcw,hct,⟨rows,?_,hfz⟩,rfl,rfl⟩
 rw[hn,Int.toNat_natCast]
 exact hrw.mono λ_ _=>ThrC.le hR3
end Go.Lf
end
section
namespace Go.Lf
open Go Sm
theorem zip_rep {α β γ:Type} {f:α→β→γ} {a:α}:∀(l:List β),List.zipWith f (List.replicate l.length a) l = l.map (f a)
 | []=>rfl
 | b :: r=>by rw[List.length_cons,List.replicate_succ,List.zipWith_cons_cons,zip_rep r,List.map_cons]
def eBg (c:Cfg) (pv w tv m thv v:Value):List Value:=I c.regions :: I c.threads :: I c.reserve :: pv :: (eNw w tv m thv ++ v :: (eCol (col0 false 0) (.slice none 0 0) ++ [.slice none 0 0,.bool false]))
theorem t_l8Start {R:RM} {c:Cfg} {pv:Value} {progs:List (List Sm.Op)} (hc:configOk c = true) (hp:Progs R pv progs) :
  Fn P F_s_l8Start [.agg #[I c.regions,I c.threads,I c.reserve],pv] R [] (λv R' A=>∃p g,v = .pointer (some ⟨p,0,none⟩)∧A = simD p (Sm.start c progs) g∧Ok R' (Sm.start c progs) g):=by
 refine s_s_l8Start λF=>?_
 unfold c_s_l8Start
 have hcc:=hc
 unfold configOk at hc
 simp only[z_b,z_d] at hc
 obtain⟨pvs,hpf,-,-⟩:=id hp
 obtain⟨pa,pc,hpv⟩:=hpf.sl
 refine ja λb1=>?_
 rw[show cl (.agg #[I c.regions,I c.threads,I c.reserve]) = [I c.regions,I c.threads,I c.reserve] from rfl]
 refine jla (l:=[I c.regions,I c.threads,I c.reserve]) (by simp) rfl ?_
 refine jc (A:=[]) (t_StateNew hcc) ?_
 rintro v1 R1 A1 hR1 ⟨bw,cw,wsp,bt,ct,tsp,bm,thv,hcw,hctn,hths,rfl,rfl⟩
 obtain⟨ha,hcap,htv⟩:=hths.sl
 subst hpv htv
 refine jex rfl (jex rfl (ja λb2=>?_))
 refine js (cs':=eNw (.slice (some ⟨bw,0,none⟩) (startW c).length cw) (.slice (some ⟨bt,0,none⟩) (tableNew c.regions).length ct) (.slice (some ⟨bm,0,none⟩) (c.regions.toNat * 16) (c.regions.toNat * 16)) (.slice ha (List.replicate c.threads.toNat (⟨[16],0,false,0⟩:Th)).length hcap)) rfl rfl (by exact z_n 13) rfl ?_
 refine jla (l:=[I c.regions,I c.threads,I c.reserve]) (by simp) rfl ?_
 refine jla (l:=eNw (.slice (some ⟨bw,0,none⟩) (startW c).length cw) (.slice (some ⟨bt,0,none⟩) (tableNew c.regions).length ct) (.slice (some ⟨bm,0,none⟩) (c.regions.toNat * 16) (c.regions.toNat * 16)) (.slice ha (List.replicate c.threads.toNat (⟨[16],0,false,0⟩:Th)).length hcap)) (by exact z_n 13) rfl ?_
 refine jbd (cs:=eBg c (.slice pa progs.length pc) (.slice (some ⟨bw,0,none⟩) (startW c).length cw) (.slice (some ⟨bt,0,none⟩) (tableNew c.regions).length ct) (.slice (some ⟨bm,0,none⟩) (c.regions.toNat * 16) (c.regions.toNat * 16)) (.slice ha (List.replicate c.threads.toNat (⟨[16],0,false,0⟩:Th)).length hcap) (.slice none 0 0)) rfl rfl ?_
 refine ja λp=>?_
 generalize hE:(b2,C T_State (eNw (.slice (some ⟨bw,0,none⟩) (startW c).length cw) (.slice (some ⟨bt,0,none⟩) (tableNew c.regions).length ct) (.slice (some ⟨bm,0,none⟩) (c.regions.toNat * 16) (c.regions.toNat * 16)) (.slice ha (List.replicate c.threads.toNat (⟨[16],0,false,0⟩:Th)).length hcap))) :: ([(bw,C T_int ((startW c).map I ++ wsp)),(bt,C T_Region (rowsE eRg (seti (tableNew c.regions) 1 ⟨3,-1,24,24,0⟩) ++ tsp)),(bm,C T_bool ((List.replicate (c.regions.toNat * 16) false).map Value.bool))] ++ (b1,C 67 [I c.regions,I c.threads,I c.reserve]) :: ([] ++ F)) = E
 have ea1:At E b1 (C 67 [I c.regions,I c.threads,I c.reserve]):=by rw[← hE];exact inferInstance
 have ea2:At E b2 (C T_State (eNw (.slice (some ⟨bw,0,none⟩) (startW c).length cw) (.slice (some ⟨bt,0,none⟩) (tableNew c.regions).length ct) (.slice (some ⟨bm,0,none⟩) (c.regions.toNat * 16) (c.regions.toNat * 16)) (.slice ha (List.replicate c.threads.toNat (⟨[16],0,false,0⟩:Th)).length hcap))):=by rw[← hE];exact inferInstance
 refine jperm (D':=(p,C T_l8Sim (eBg c (.slice pa progs.length pc) (.slice (some ⟨bw,0,none⟩) (startW c).length cw) (.slice (some ⟨bt,0,none⟩) (tableNew c.regions).length ct) (.slice (some ⟨bm,0,none⟩) (c.regions.toNat * 16) (c.regions.toNat * 16)) (.slice ha (List.replicate c.threads.toNat (⟨[16],0,false,0⟩:Th)).length hcap) (.slice none 0 0))) :: E) (by rw[← hE]) ?_
 obtain⟨n,hn⟩:∃n:Nat,c.threads = n:=⟨c.threads.toNat,by omega⟩
 have e17:∀(l:List Value),∀r∈l.map (eThr (thr0 [16] 0 0)),r.length = 17:=λl r hr=>by
  obtain⟨x,_,rfl⟩:=List.mem_map.1 hr
  rfl
 refine jcutq (λvs R' D'=>R1.le R'∧∃(rvs:List Value) (v:Value) (A:Chs),rvs.length = n∧(∀x∈rvs,Ints R' x [16])∧SW 106 17 (rvs.map (eThr (thr0 [16] 0 0))) v A∧D' = A ++ (p,C T_l8Sim (eBg c (.slice pa progs.length pc) (.slice (some ⟨bw,0,none⟩) (startW c).length cw) (.slice (some ⟨bt,0,none⟩) (tableNew c.regions).length ct) (.slice (some ⟨bm,0,none⟩) (c.regions.toNat * 16) (c.regions.toNat * 16)) (.slice ha (List.replicate c.threads.toNat (⟨[16],0,false,0⟩:Th)).length hcap) v)) :: E∧vs = [.pointer (some ⟨p,0,none⟩)]) (λK hK=>?_) ?_
 ·refine jcutq (λvs R' D'=>R1.le R'∧∃(rvs:List Value) (v:Value) (A:Chs),rvs.length = n∧(∀x∈rvs,Ints R' x [16])∧SW 106 17 (rvs.map (eThr (thr0 [16] 0 0))) v A∧D' = A ++ (p,C T_l8Sim (eBg c (.slice pa progs.length pc) (.slice (some ⟨bw,0,none⟩) (startW c).length cw) (.slice (some ⟨bt,0,none⟩) (tableNew c.regions).length ct) (.slice (some ⟨bm,0,none⟩) (c.regions.toNat * 16) (c.regions.toNat * 16)) (.slice ha (List.replicate c.threads.toNat (⟨[16],0,false,0⟩:Th)).length hcap) v)) :: E∧vs = [.pointer (some ⟨p,0,none⟩)]) (λK2 hK2=>?_) ?_
  rotate_left
  ·rintro e R2 D1 ⟨hR,rvs,v,A,hl,hrv,so,hD,he⟩
   rw[hD];clear hD
   simp only[List.map,lc,ln,lj,z_t] at he
   simp only[he]
   exact hK _ _ _ ⟨hR,rvs,v,A,hl,hrv,so,rfl,rfl⟩
  refine jlp (λm vs R' D'=>∃i:Nat,i≤n∧m = n - i∧R1.le R'∧∃(rvs:List Value) (v:Value) (A:Chs),rvs.length = i∧(∀x∈rvs,Ints R' x [16])∧SW 106 17 (rvs.map (eThr (thr0 [16] 0 0))) v A∧D' = A ++ (p,C T_l8Sim (eBg c (.slice pa progs.length pc) (.slice (some ⟨bw,0,none⟩) (startW c).length cw) (.slice (some ⟨bt,0,none⟩) (tableNew c.regions).length ct) (.slice (some ⟨bm,0,none⟩) (c.regions.toNat * 16) (c.regions.toNat * 16)) (.slice ha (List.replicate c.threads.toNat (⟨[16],0,false,0⟩:Th)).length hcap) v)) :: E∧vs = [.pointer (some ⟨b1,0,none⟩),.pointer (some ⟨b2,0,none⟩),.pointer (some ⟨p,0,none⟩),I i])
   (n:=n) ⟨0,by omega,by omega,RM.le.refl R1,[],.slice none 0 0,[],rfl,(λx hx=>by cases hx),.inl ⟨rfl,rfl,rfl⟩,rfl,rfl⟩ ?_
  rintro m e R2 D1 K3 ⟨i,hi,hm,hR,rvs,v,A,hl,hrv,so,hD,he⟩ hK3
  rw[hD];clear hD
  simp only[List.map,lc,ln,lj,z_t] at he
  simp only[he]
  refine jfo (jl (v:=I c.threads) rfl (jlt (jif (λhd=>?_) (λhd=>?_))))
  rotate_left
  ·have hd:i = n:=by have:=z_g hd;omega
   subst hd
   exact hK2 _ _ _ ⟨hR,rvs,v,A,hl,hrv,so,rfl,rfl⟩
  have hd:i < n:=by have:=z_f hd;omega
  obtain⟨sa,sc,hsl⟩:=so.sl
  subst hsl
  rw[List.length_map]
  refine jnc (jfo (jl (v:=.slice sa rvs.length sc) rfl ?_))
  refine jfo (jl (v:=.slice ha (List.replicate c.threads.toNat (⟨[16],0,false,0⟩:Th)).length hcap) rfl ?_)
  refine jtr (hths.le hR) (by rw[List.length_replicate];omega) λb3 o3 ty cs rv hrv3 hb3 ho3 hrow3=>?_
  rw[List.getElem_replicate] at hrv3 hrow3
  refine jfo (jlr (v:=rv) hb3 (cell_of hrow3 (f:=0) rfl) ?_)
  refine jc (A:=[]) (t_l5Ints hrv3 (by decide)) ?_
  rintro _ R3 _ hR3 ⟨b8,c8,sp8,hc8,hsp8,rfl,rfl⟩
  refine jfreeze (b:=b8) λR4 hR4 hb8=>?_
  have hv2:Ints R4 (.slice (some ⟨b8,0,none⟩) 1 c8) [16]:=ints_of (l:=[16]) (c:=c8) hb8 hc8
  refine jbd (cs:=(eThr (thr0 [16] 0 0) (.slice (some ⟨b8,0,none⟩) 1 c8))) rfl rfl ?_
  refine jand (jl (v:=.slice sa rvs.length sc) rfl jev) ?_
  refine jbs (cs:=(eThr (thr0 [16] 0 0) (.slice (some ⟨b8,0,none⟩) 1 c8))) rfl rfl λb9=>?_
  refine jand (jl (v:=.slice sa rvs.length sc) rfl jev) ?_
  refine jperm (D':=(b9,C 106 (eThr (thr0 [16] 0 0) (.slice (some ⟨b8,0,none⟩) 1 c8))) :: (A ++ (p,C T_l8Sim (eBg c (.slice pa progs.length pc) (.slice (some ⟨bw,0,none⟩) (startW c).length cw) (.slice (some ⟨bt,0,none⟩) (tableNew c.regions).length ct) (.slice (some ⟨bm,0,none⟩) (c.regions.toNat * 16) (c.regions.toNat * 16)) (.slice ha (List.replicate c.threads.toNat (⟨[16],0,false,0⟩:Th)).length hcap) (.slice sa rvs.length sc))) :: E)) (List.Perm.refl _) ?_
  refine jpart A (G:=(b9,C 106 (eThr (thr0 [16] 0 0) (.slice (some ⟨b8,0,none⟩) 1 c8))) :: (p,C T_l8Sim (eBg c (.slice pa progs.length pc) (.slice (some ⟨bw,0,none⟩) (startW c).length cw) (.slice (some ⟨bt,0,none⟩) (tableNew c.regions).length ct) (.slice (some ⟨bm,0,none⟩) (c.regions.toNat * 16) (c.regions.toNat * 16)) (.slice ha (List.replicate c.threads.toNat (⟨[16],0,false,0⟩:Th)).length hcap) (.slice sa rvs.length sc))) :: E) ?_
  have hx:Reads R4 (A ++ ((b9,C 106 (eThr (thr0 [16] 0 0) (.slice (some ⟨b8,0,none⟩) 1 c8))) :: (p,C T_l8Sim (eBg c (.slice pa progs.length pc) (.slice (some ⟨bw,0,none⟩) (startW c).length cw) (.slice (some ⟨bt,0,none⟩) (tableNew c.regions).length ct) (.slice (some ⟨bm,0,none⟩) (c.regions.toNat * 16) (c.regions.toNat * 16)) (.slice ha (List.replicate c.threads.toNat (⟨[16],0,false,0⟩:Th)).length hcap) (.slice sa rvs.length sc))) :: E)) (some ⟨b9,0,none⟩) (1 * 17) [(eThr (thr0 [16] 0 0) (.slice (some ⟨b8,0,none⟩) 1 c8))].flatten:=Reads.held (t:=106) (cs:=(eThr (thr0 [16] 0 0) (.slice (some ⟨b8,0,none⟩) 1 c8))) (o:=0) (n:=1 * 17) (z_n 17)
  rw[List.length_map] at so
  refine jaw so (e17 _) (by intro r hr;rw[List.mem_singleton.1 hr];rfl) rfl rfl rfl (by decide) (by rw[List.length_singleton,List.length_map];omega) hx λv' A' so'=>?_
  obtain⟨sa',sc',hsl'⟩:=so'.sl
  have em:rvs.map (eThr (thr0 [16] 0 0)) ++ [(eThr (thr0 [16] 0 0) (.slice (some ⟨b8,0,none⟩) 1 c8))] = (rvs ++ [Value.slice (some ⟨b8,0,none⟩) 1 c8]).map (eThr (thr0 [16] 0 0)):=by rw[List.map_append];rfl
  rw[em] at so' hsl'
  subst hsl'
  refine jnc (jfo (js (cs':=eBg c (.slice pa progs.length pc) (.slice (some ⟨bw,0,none⟩) (startW c).length cw) (.slice (some ⟨bt,0,none⟩) (tableNew c.regions).length ct) (.slice (some ⟨bm,0,none⟩) (c.regions.toNat * 16) (c.regions.toNat * 16)) (.slice ha (List.replicate c.threads.toNat (⟨[16],0,false,0⟩:Th)).length hcap) (.slice sa' ((rvs ++ [Value.slice (some ⟨b8,0,none⟩) 1 c8]).map (eThr (thr0 [16] 0 0))).length sc')) rfl rfl (by simp[eBg,eNw,eCol]) rfl ?_))
  refine jadd ⟨by omega,by omega⟩ ?_
  refine jpart A' (G:=(p,C T_l8Sim (eBg c (.slice pa progs.length pc) (.slice (some ⟨bw,0,none⟩) (startW c).length cw) (.slice (some ⟨bt,0,none⟩) (tableNew c.regions).length ct) (.slice (some ⟨bm,0,none⟩) (c.regions.toNat * 16) (c.regions.toNat * 16)) (.slice ha (List.replicate c.threads.toNat (⟨[16],0,false,0⟩:Th)).length hcap) (.slice sa' ((rvs ++ [Value.slice (some ⟨b8,0,none⟩) 1 c8]).map (eThr (thr0 [16] 0 0))).length sc'))) :: E) ?_
  refine hK3 (n - (i + 1)) _ _ _ (by omega) ⟨i + 1,by omega,rfl,(hR.trans hR3).trans hR4,rvs ++ [Value.slice (some ⟨b8,0,none⟩) 1 c8],_,A',by rw[List.length_append,hl];rfl,?_,so',rfl,rfl⟩
  intro x hx
  rcases List.mem_append.1 hx with hx | hx
  ·exact (hrv x hx).le (hR3.trans hR4)
  ·rw[List.mem_singleton.1 hx];exact hv2
 rintro e R2 D1 ⟨hR,rvs,v,A,hl,hrv,so,hD,he⟩
 rw[hD];clear hD
 simp only[List.map,lc,ln,lj,z_t] at he
 simp only[he]
 rcases so with ⟨h1,_,_⟩ | ⟨hb,hc2,hsp,hcc2,hhsp,rfl,rfl⟩
 ·have:=congrArg List.length h1
  rw[List.length_map,List.length_nil] at this;omega
 rw[List.length_map] at hcc2 ⊢
 subst hE
 let g:Img:={ progs:=.slice pa progs.length pc,wb:=bw,wc:=cw,wsp:=wsp,tb:=bt,tc:=ct,tsp:=tsp,mb:=bm,mc:=c.regions.toNat * 16,msp:=[],asked:=.bool false,want:=I 0,threads:=.slice ha (List.replicate c.threads.toNat (⟨[16],0,false,0⟩:Th)).length hcap,old:=.slice none 0 0,pins:=.slice none 0 0,hb:=hb,hc:=hc2,hsp:=hsp,rv:=rvs,stack:=.slice none 0 0,ev:=none,esp:=[] }
 have hth:(Sm.start c progs).th = List.replicate rvs.length (thr0 [16] 0 0):=by
  rw[hl];show List.replicate c.threads.toNat _ = _
  rw[hn,Int.toNat_natCast]
 have ezs:eThs (Sm.start c progs).th rvs = (rvs.map (eThr (thr0 [16] 0 0))).flatten:=by
  rw[hth];unfold eThs;rw[zip_rep]
 have etl:(seti (tableNew c.regions) 1 (⟨3,-1,24,24,0⟩:Rg)).length = (tableNew c.regions).length:=by simp[seti]
 have htl:(tableNew c.regions).length = c.regions.toNat:=by
  unfold tableNew
  rw[if_neg (by omega)];simp;omega
 have esim:eSim (Sm.start c progs) g = eBg c (.slice pa progs.length pc) (.slice (some ⟨bw,0,none⟩) (startW c).length cw) (.slice (some ⟨bt,0,none⟩) (tableNew c.regions).length ct) (.slice (some ⟨bm,0,none⟩) (c.regions.toNat * 16) (c.regions.toNat * 16)) (.slice ha (List.replicate c.threads.toNat (⟨[16],0,false,0⟩:Th)).length hcap) (.slice (some ⟨hb,0,none⟩) rvs.length hc2):=by
  have e1:(Sm.start c progs).th.length = rvs.length:=by rw[hth,List.length_replicate]
  have e2:(Sm.start c progs).table.length = (tableNew c.regions).length:=etl
  have e3:(Sm.start c progs).marks.length = c.regions.toNat * 16:=by show (List.replicate _ _).length = _;rw[List.length_replicate]
  unfold eSim
  rw[e1,e2,e3]
  rfl
 have esd:simD p (Sm.start c progs) g = (p,C T_l8Sim (eBg c (.slice pa progs.length pc) (.slice (some ⟨bw,0,none⟩) (startW c).length cw) (.slice (some ⟨bt,0,none⟩) (tableNew c.regions).length ct) (.slice (some ⟨bm,0,none⟩) (c.regions.toNat * 16) (c.regions.toNat * 16)) (.slice ha (List.replicate c.threads.toNat (⟨[16],0,false,0⟩:Th)).length hcap) (.slice (some ⟨hb,0,none⟩) rvs.length hc2))) :: (bw,C T_int ((startW c).map I ++ wsp)) :: (bt,C T_Region (rowsE eRg (seti (tableNew c.regions) 1 ⟨3,-1,24,24,0⟩) ++ tsp)) :: (bm,C T_bool ((List.replicate (c.regions.toNat * 16) false).map Value.bool ++ [])) :: (hb,C T_l8Thread ((rvs.map (eThr (thr0 [16] 0 0))).flatten ++ hsp)) :: []:=by
  unfold simD
  rw[esim]
  show _ :: _ :: _ :: _ :: (hb,C T_l8Thread (eThs (Sm.start c progs).th rvs ++ hsp)) :: [] = _
  rw[ezs]
  rfl
 refine jpart [(p,C T_l8Sim (eBg c (.slice pa progs.length pc) (.slice (some ⟨bw,0,none⟩) (startW c).length cw) (.slice (some ⟨bt,0,none⟩) (tableNew c.regions).length ct) (.slice (some ⟨bm,0,none⟩) (c.regions.toNat * 16) (c.regions.toNat * 16)) (.slice ha (List.replicate c.threads.toNat (⟨[16],0,false,0⟩:Th)).length hcap) (.slice (some ⟨hb,0,none⟩) rvs.length hc2))),(bw,C T_int ((startW c).map I ++ wsp)),(bt,C T_Region (rowsE eRg (seti (tableNew c.regions) 1 ⟨3,-1,24,24,0⟩) ++ tsp)),(bm,C T_bool ((List.replicate (c.regions.toNat * 16) false).map Value.bool)),(hb,C T_l8Thread ((rvs.map (eThr (thr0 [16] 0 0))).flatten ++ hsp))] (G:=F) ?_
 refine jperm (D':=simD p (Sm.start c progs) g ++ F) (by rw[esd,List.append_nil]) ?_
 refine jret (A:=simD p (Sm.start c progs) g) (hR1.trans hR) ⟨p,g,rfl,rfl,?_⟩
 have hle:=hR1.trans hR
 refine⟨?_,.inl ⟨rfl,rfl,rfl⟩,.inl ⟨rfl,rfl,rfl⟩,.inl ⟨rfl,rfl,rfl⟩,?_,?_,λ_=>rfl,(λb c h=>by cases h),?_,?_,?_,?_,⟨rfl,rfl,rfl⟩,?_,?_,?_⟩
 ·obtain⟨vs,h1,h2,h3⟩:=hp
  exact⟨vs,h1.le hle,h2,λi hi=>by obtain⟨x,hx,ho⟩:=h3 i hi;exact⟨x,hx,ho.le hle⟩⟩
 ·rw[hth,List.length_replicate]
 ·intro i h h'
  have e:((Sm.start c progs).th[i]).roots = [16]:=by
   simp only[hth,List.getElem_replicate];rfl
  rw[e]
  exact hrv _ (List.getElem_mem h')
 ·show (startW c).length≤1000
  rw[(start_fits hcc).2];omega
 ·show (seti (tableNew c.regions) 1 (⟨3,-1,24,24,0⟩:Rg)).length≤1000
  omega
 ·show (List.replicate _ _).length≤1000
  rw[List.length_replicate];omega
 ·rw[hth,List.length_replicate];omega
 ·exact hcw
 ·show (seti (tableNew c.regions) 1 (⟨3,-1,24,24,0⟩:Rg)).length≤ct
  omega
 ·show (List.replicate _ _).length≤c.regions.toNat * 16
  simp
end Go.Lf
end
section
namespace Go.Lf
open Go Sm
theorem t_pause_nf {p n:Nat} {S S' : Sim} {g:Img} {R:RM} (hok:Ok R S g) (hp:Pr S) (hT:TOk S.table) (hf:S.full = false) (hS:S.pause n = some S') :
  Fn P F_Sim_pause [.pointer (some ⟨p,0,none⟩)] R (simD p S g) (SimQ p S' λ_=>True):=by
 refine s_Sim_pause λF=>?_
 unfold c_Sim_pause
 unfold Sim.pause at hS
 split at hS
 ·cases hS
 rename_i hz
 have hz:S.sz = true:=by simpa using hz
 rw[if_neg (by rw[hf];decide)] at hS
 dsimp only at hS
 have htl:=hok.tl
 have n1:=hT.n1
 refine jl (v:=.bool S.full) rfl ?_
 rw[hf]
 refine jiff ?_
 refine jss (p:=p) { S with stop:=false } g rfl rfl (by decide) (by rfl) (by rfl) ?_
 have ok1:Ok R { S with stop:=false } g:={ hok with }
 refine jl (v:=I S.col.want) rfl (jeq (jif (λh1=>?_) (λh1=>?_)))
 ·rw[if_pos (eq_of_beq h1)] at hS
  simp only[Option.some.injEq] at hS
  subst hS
  refine jcS (p:=p) (by exact t_snapshot ok1 hz) λ_ R2 g2 hR2 _ ok2=>?_
  exact jretS hR2 trivial rfl ok2
 rw[if_neg (ne_of_beq_false h1)] at hS
 refine jeq (jif (λh2=>?_) (λh2=>?_))
 ·rw[if_pos (eq_of_beq h2)] at hS
  refine jcS (p:=p) (by exact t_choose ok1 hp hS) λ_ R2 g2 hR2 _ ok2=>?_
  exact jretS hR2 trivial rfl ok2
 rw[if_neg (ne_of_beq_false h2)] at hS
 refine jeq (jif (λh3=>?_) (λh3=>?_))
 rotate_left
 ·rw[if_neg (ne_of_beq_false h3)] at hS
  refine jcS (p:=p) (by exact t_finish ok1 hz hT hS) λ_ R2 g2 hR2 _ ok2=>?_
  exact jretS hR2 trivial rfl ok2
 rw[if_pos (eq_of_beq h3)] at hS
 unfold Sim.update at hS
 obtain⟨_,-,hS⟩:=bind_some hS
 simp only[Option.some.injEq] at hS
 refine jss (p:=p) { S with stop:=false,phase:=3 } g rfl rfl (by decide) (by rfl) (by rfl) ?_
 generalize hfn:(λ(i:Int) (x:Rg)=>{ x with live:=x.top - regionBase i }) = f at hS
 have hfx:∀(k:Nat) (x:Rg),f k x = { x with live:=x.top - regionBase k }:=λk x=>by rw[← hfn]
 refine jcutq (λvs R' D'=>R' = R∧D' = simD p { S with stop:=false,phase:=3,table:=rows f S.table } g ++ F∧vs = [.pointer (some ⟨p,0,none⟩)]) (λK hK=>?_) ?_
 rotate_left
 ·rintro e R1 D1 ⟨hR,hD,he⟩
  subst hR
  rw[hD];clear hD
  simp only[List.map,lc,ln,lj,z_t] at he
  simp only[he]
  refine jl (v:=.bool S.col.asked) rfl (jl (v:=I S.col.want) rfl ?_)
  refine jbd (cs:=eCol { col0 S.col.asked S.col.want with pc:=6,r:=1,p:=16 } (.slice none 0 0)) rfl rfl ?_
  refine jss (p:=p) { S with stop:=false,phase:=3,table:=rows f S.table,col:={ col0 S.col.asked S.col.want with pc:=6,r:=1,p:=16 } } { g with stack:=.slice none 0 0 } rfl rfl (by decide) (by rfl) (by rfl) ?_
  subst hS
  refine jretS (RM.le.refl R1) trivial rfl ?_
  exact { ok1 with stack:=.inl ⟨rfl,rfl,rfl⟩,tl:=by simpa [rows] using hok.tl,tk:=by simpa [rows] using hok.tk }
 refine jcutq (λvs R' D'=>R' = R∧D' = simD p { S with stop:=false,phase:=3,table:=rows f S.table } g ++ F∧vs = [.pointer (some ⟨p,0,none⟩)]) (λK2 hK2=>?_) ?_
 rotate_left
 ·rintro e R1 D1 ⟨hR,hD,he⟩
  rw[hD];clear hD
  simp only[List.map,lc,ln,lj,z_t] at he
  simp only[he]
  exact hK _ _ _ ⟨hR,rfl,rfl⟩
 refine jlp (λm vs R' D'=>R' = R∧∃k:Nat,1≤k∧k≤S.table.length + 1∧D' = simD p { S with stop:=false,phase:=3,table:=rowsTo f k S.table } g ++ F∧vs = [.pointer (some ⟨p,0,none⟩),I k]∧m = S.table.length + 1 - k)
  (n:=S.table.length) ⟨rfl,1,z_n 1,by omega,by rw[rowsTo_one],rfl,by omega⟩ ?_
 rintro m e R4 D4 K3 ⟨hR4,k,k0,k1,hD,he,hm⟩ hK3
 subst hR4
 rw[hD];clear hD
 simp only[List.map,lc,ln,lj,z_t] at he
 simp only[he]
 refine jl (v:=.slice (some ⟨g.tb,0,none⟩) (rowsTo f k S.table).length g.tc) rfl (jln (jlt (jif (λhc=>?_) (λhc=>?_))))
 rotate_left
 ·have hc:S.table.length≤k:=by have:=z_g hc;rw[rowsTo_len] at this;omega
  refine hK2 _ _ _ ⟨rfl,?_,rfl⟩
  rw[rowsTo_all hc]
 have hc:k < S.table.length:=by have:=z_f hc;rw[rowsTo_len] at this;omega
 have RR:=hT.row k (by omega) (by omega)
 have t0:=RR.t0
 have t1:=RR.t1
 rw[rv_at hc] at t0 t1
 have hbase:=base_eq (r:=(k:Int)) (by omega) (by omega)
 refine jl (v:=.slice (some ⟨g.tb,0,none⟩) (rowsTo f k S.table).length g.tc) rfl (jian (by rw[rowsTo_len];exact hc) ?_)
 refine jlr_ (p:=p) (by simpa using hc) ?_
 rw[show ({ S with stop:=false,phase:=3,table:=rowsTo f k S.table }:Sim).table[k]'(by simpa using hc) = S.table[k] from rowsTo_get (f:=f) hc]
 refine ja λb5=>?_
 refine js (cs':=eRg (S.table[k])) rfl rfl (by simp) rfl ?_
 refine jfo (jl (v:=I (S.table[k]).top) rfl (jp (p_RegionBase k) (jsub ⟨by omega,by omega⟩ ?_)))
 refine jfo (jand (jl (v:=I (S.table[k]).top) rfl jev) ?_)
 refine js (cs':=eRg { S.table[k] with live:=(S.table[k]).top - regionBase k }) rfl rfl (by simp) rfl ?_
 refine jl (v:=.slice (some ⟨g.tb,0,none⟩) (rowsTo f k S.table).length g.tc) rfl ?_
 refine jla (l:=eRg { S.table[k] with live:=(S.table[k]).top - regionBase k }) (by simp) rfl ?_
 refine jian (by rw[rowsTo_len];exact hc) ?_
 refine jsr_ (p:=p) (x:={ S.table[k] with live:=(S.table[k]).top - regionBase k }) { S with stop:=false,phase:=3,table:=rowsTo f (k + 1) S.table } (by simpa using hc) (by rw[← rowsTo_set k0 hc,hfx]) ?_
 refine jadd ⟨by omega,by omega⟩ ?_
 refine jpart (simD p { S with stop:=false,phase:=3,table:=rowsTo f (k + 1) S.table } g) (G:=F) ?_
 exact hK3 (S.table.length + 1 - (k + 1)) _ _ _ (by omega) ⟨rfl,k + 1,by omega,by omega,rfl,rfl,rfl⟩
end Go.Lf
end
section
namespace Go.Lf
open Go Sm
theorem t_collector {p n:Nat} {S S' : Sim} {g:Img} {R:RM} (hok:Ok R S g) (hpz:∀R g S1,Ok R S g→S.pause n = some S1→Fn P F_Sim_pause [.pointer (some ⟨p,0,none⟩)] R (simD p S g) (SimQ p S1 λ_=>True)) (hS:S.collector n = some S') :
  Fn P F_Sim_collector [.pointer (some ⟨p,0,none⟩)] R (simD p S g) (SimQ p S' λ_=>True):=by
 refine s_Sim_collector λF=>?_
 unfold c_Sim_collector
 unfold Sim.collector at hS
 refine jl (v:=.bool S.stop) rfl (jif (λh0=>?_) (λh0=>?_))
 ·rw[if_pos h0] at hS
  refine jcS (p:=p) (by exact t_calm hok) λ_ R2 g2 hR2 hr ok2=>?_
  subst hr
  refine jif (λhc=>?_) (λhc=>?_)
  ·rw[if_pos hc] at hS
   refine jcS (p:=p) (by exact hpz R2 g2 S' ok2 hS) λ_ R3 g3 hR3 _ ok3=>?_
   exact jretS (hR2.trans hR3) trivial rfl ok3
  ·rw[if_neg (by rw[hc];decide)] at hS
   simp only[Option.some.injEq] at hS
   subst hS
   exact jretS hR2 trivial rfl ok2
 rw[if_neg (by rw[h0];decide)] at hS
 refine jl (v:=I S.phase) rfl (jeq (jif (λh1=>?_) (λh1=>?_)))
 ·rw[if_pos (eq_of_beq h1)] at hS
  refine jl (v:=.bool S.col.asked) rfl (jif (λh2=>?_) (λh2=>?_))
  ·rw[if_pos h2] at hS
   refine jopenC (p:=p) hok λb=>?_
   obtain⟨a,cap,hsv,-⟩:=Ints.reads (D:=[]) hok.stack
   have hst0:=hok.stack
   rw[hsv] at hst0 ⊢
   refine js (cs':=eCol { S.col with asked:=false } (.slice a S.col.stack.length cap)) rfl rfl (by simp[eCol]) rfl ?_
   refine js (cs':=eCol { S.col with asked:=false,want:=1 } (.slice a S.col.stack.length cap)) rfl rfl (by simp[eCol]) rfl ?_
   refine jputC (p:=p) { S with col:={ S.col with asked:=false,want:=1 } } (by exact hok) (by exact hst0) (by rfl) λg3 ok3=>?_
   refine jss (p:=p) { S with stop:=true,col:={ S.col with asked:=false,want:=1 } } g3 rfl rfl (by decide) (by rfl) (by rfl) ?_
   simp only[Option.some.injEq] at hS
   subst hS
   exact jretS (RM.le.refl R) trivial rfl { ok3 with }
  ·rw[if_neg (by rw[h2];decide)] at hS
   simp only[Option.some.injEq] at hS
   subst hS
   exact jretS (RM.le.refl R) trivial rfl hok
 ·rw[if_neg (ne_of_beq_false h1)] at hS
  refine jss (p:=p) { S with used:=false } g rfl rfl (by decide) (by rfl) (by rfl) ?_
  refine jlp (λm vs R' D'=>R.le R'∧∃S1 g1,Ok R' S1 g1∧Sim.cloop m S1 = some S'∧D' = simD p S1 g1 ++ F∧vs = [.pointer (some ⟨p,0,none⟩)])
   (n:=n) ⟨RM.le.refl R,{ S with used:=false },g,{ hok with },hS,rfl,rfl⟩ ?_
  rintro m e R1 D1 K3 ⟨hR1,S1,g1,ok1,hdr,hD,he⟩ hK3
  rw[hD];clear hD
  simp only[List.map,lc,ln,lj,z_t] at he
  simp only[he]
  cases m with
  | zero=>cases hdr
  | succ m=>
  unfold Sim.cloop at hdr
  refine jan [.pointer (some ⟨p,0,none⟩)] ((!S1.used) && (!S1.stop)) (λK' hK'=>?_) (λe c u ho he=>?_)
  ·refine jl (v:=.bool S1.used) rfl (jgtt (λh1=>?_) (λh1=>?_))
   ·refine jl (v:=.bool S1.stop) rfl (hK' _ _ _ (h1▸and2_t) (by rw[h1,Bool.true_and]))
   ·exact hK' _ _ _ (h1▸and2_f) (by rw[h1,Bool.false_and])
  simp only[List.map,lc,ln,lj,z_t] at he
  simp only[he]
  rw[ho]
  refine jif (λhc=>?_) (λhc=>?_)
  ·rw[if_pos hc] at hdr
   obtain⟨S2,h2,hdr⟩:=bind_some hdr
   refine jcS (p:=p) (by exact t_work ok1 h2) λ_ R2 g2 hR2 _ ok2=>?_
   exact hK3 m _ _ _ (by omega) ⟨hR1.trans hR2,S2,g2,ok2,hdr,rfl,rfl⟩
  ·rw[if_neg (by rw[hc];decide)] at hdr
   simp only[Option.some.injEq] at hdr
   subst hdr
   exact jretS hR1 trivial rfl ok1
theorem t_pick {p:Nat} {S S' : Sim} {g:Img} {a:Int} {R:RM} (hok:Ok R S g) (ha:inR a) (hpz:∀R g S1,Ok R S g→S.pause S.fuel = some S1→Fn P F_Sim_pause [.pointer (some ⟨p,0,none⟩)] R (simD p S g) (SimQ p S1 λ_=>True)) (hS:S.pick a = some S') :
  Fn P F_Sim_pick [.pointer (some ⟨p,0,none⟩),I a] R (simD p S g) (SimQ p S' λ_=>True):=by
 refine s_Sim_pick λF=>?_
 unfold c_Sim_pick
 unfold Sim.pick at hS
 have hhl:=hok.hl
 refine jl (v:=.slice (some ⟨g.hb,0,none⟩) S.th.length g.hc) rfl (jln ?_)
 refine jan [.pointer (some ⟨p,0,none⟩),I a,I S.th.length] ((decide (a≥0)) && (decide (a < S.th.length))) (λK' hK'=>?_) (λe c u ho he=>?_)
 ·refine jge (jgtt (λh1=>?_) (λh1=>?_))
  ·refine jlt (hK' _ _ _ (h1▸and2_t) (by rw[h1,Bool.true_and]))
  ·exact hK' _ _ _ (h1▸and2_f) (by rw[h1,Bool.false_and])
 simp only[List.map,lc,ln,lj,z_t] at he
 simp only[he]
 rw[ho]
 refine jif (λhc=>?_) (λhc=>?_)
 ·simp only[z_b,z_d] at hc
  rw[if_pos ⟨by omega,by omega⟩] at hS
  refine jcS (p:=p) (by exact t_thread hok hS) λ_ R2 g2 hR2 _ ok2=>?_
  exact jretS hR2 trivial rfl ok2
 have hc:¬ (0≤a∧a < S.th.length):=by
  intro h
  simp[h.1,h.2] at hc
 rw[if_neg hc] at hS
 refine jeq (jif (λh1=>?_) (λh1=>?_))
 ·rw[if_pos (eq_of_beq h1)] at hS
  refine jcS (p:=p) (by exact t_collector hok hpz hS) λ_ R2 g2 hR2 _ ok2=>?_
  exact jretS hR2 trivial rfl ok2
 rw[if_neg (ne_of_beq_false h1)] at hS
 refine jadd ⟨by omega,by omega⟩ (jeq (jif (λh2=>?_) (λh2=>?_)))
 ·rw[if_pos (eq_of_beq h2)] at hS
  simp only[Option.some.injEq] at hS
  refine jss (p:=p) { S with col:={ S.col with asked:=true } } g rfl rfl (by decide) (by rfl) (by rfl) ?_
  subst hS
  exact jretS (RM.le.refl R) trivial rfl { hok with }
 ·rw[if_neg (ne_of_beq_false h2)] at hS
  simp only[Option.some.injEq] at hS
  subst hS
  exact jretS (RM.le.refl R) trivial rfl hok
end Go.Lf
end
section
namespace Go.Lf
open Go Sm
theorem jpg {R:RM} {D:Chs} {pv:Value} {progs:List (List Sm.Op)} {i:Nat} {k:Value→M} (hp:Progs R pv progs) (hi:i < progs.length) (H:∀x,Ops R x (progs[i])→J R D (k x)):J R D (IA 1 pv (I (i:Int)) λq=>L1 q k):=by
 obtain⟨vs,hf,hl,hall⟩:=hp
 obtain⟨x,hx,ho⟩:=hall i hi
 rcases hf with ⟨_,h2,_⟩ | ⟨b,o,cap,t,cs,rfl,h2,h3,h4,h5⟩
 ·omega
 ·refine jia (by omega) (by omega) ?_
  rw[Int.toNat_natCast,Nat.mul_one]
  exact jlr h2 (cell_of h4 hx) (H x ho)
theorem r_StoryOk {R:RM} {D:Chs} {c0:Cfg} {pv kv:Value} {progs:List (List Sm.Op)} {picks:List Int} (hp:Progs R pv progs) (hk:Ints R kv picks) :
  Ro F_s_StoryOk [.agg #[I c0.regions,I c0.threads,I c0.reserve],pv,kv] (.bool (storyOk c0 progs picks)) R D:=by
 refine s_s_StoryOk λF=>?_
 unfold c_s_StoryOk
 obtain⟨vs,hpf,-,-⟩:=id hp
 have hps:=hpf.sl
 refine ja λb=>?_
 rw[show cl (.agg #[I c0.regions,I c0.threads,I c0.reserve]) = [I c0.regions,I c0.threads,I c0.reserve] from rfl]
 refine jor [pv,kv] ((!configOk c0) || (((progs.length:Int) != c0.threads))) (λK' hK'=>?_) (λe c u ho he=>?_)
 ·refine jla (l:=[I c0.regions,I c0.threads,I c0.reserve]) (by simp) rfl (jp (p_ConfigOk c0) (jgtf (λh1=>?_) (λh1=>?_)))
  ·refine jln_ hps (jfo (jl (v:=I c0.threads) rfl (jne (hK' _ _ _ (h1▸or2_f) (by rw[h1,Bool.false_or])))))
  ·exact hK' _ _ _ (h1▸or2_t) (by rw[h1,Bool.true_or])
 simp only[List.map,lc,ln,lj,z_t] at he
 simp only[he]
 refine jor [pv] ((!configOk c0 || ((progs.length:Int) != c0.threads)) || (decide ((picks.length:Int) > 4000))) (λK' hK'=>?_) (λe c u ho he=>?_)
 ·rw[ho]
  refine jgtf (λh1=>?_) (λh1=>?_)
  ·refine jln_ hk.sl (jgr (hK' _ _ _ (h1▸or2_f) (by rw[h1,Bool.false_or])))
  ·exact hK' _ _ _ (h1▸or2_t) (by rw[h1,Bool.true_or])
 simp only[List.map,lc,ln,lj,z_t] at he
 simp only[he]
 rw[ho]
 refine jif (λh0=>?_) (λh0=>?_)
 ·refine ro_ret ?_
  have:storyOk c0 progs picks = false:=by
   unfold storyOk
   simp only[Bool.or_eq_true,Bool.not_eq_true',bne_iff_ne,ne_eq,z_d] at h0
   rcases h0 with (h0 | h0) | h0
   ·rw[h0];simp
   ·rw[decide_eq_false h0];simp
   ·rw[decide_eq_false (show ¬ picks.length≤4000 by omega)];simp
  rw[this]
 have e0:storyOk c0 progs picks = progs.all λp=>decide (p.length≤40):=by
  simp only[Bool.or_eq_false_iff,Bool.not_eq_false',bne_eq_false_iff_eq,decide_eq_false_iff_not] at h0
  unfold storyOk
  rw[h0.1.1,decide_eq_true h0.1.2,decide_eq_true (show picks.length≤4000 by omega)]
  simp
 rw[e0]
 have hpl:progs.length≤3:=by
  simp only[Bool.or_eq_false_iff,Bool.not_eq_false',bne_eq_false_iff_eq,decide_eq_false_iff_not] at h0
  have h1:=h0.1.1
  unfold configOk at h1
  simp only[z_b,z_d] at h1
  omega
 refine jlp (λm vs R' D'=>R' = R∧D' = (b,C 67 [I c0.regions,I c0.threads,I c0.reserve]) :: (D ++ F)∧∃i:Nat,i≤progs.length∧vs = [pv,I i]∧m = progs.length - i∧(progs.drop i).all (λp=>decide (p.length≤40)) = progs.all λp=>decide (p.length≤40))
  (n:=progs.length) ⟨rfl,rfl,0,by omega,rfl,by omega,by rw[List.drop_zero]⟩ ?_
 rintro m e R1 D1 K ⟨hR1,hD,i,hi,he,hm,hall⟩ hK
 subst hR1
 rw[hD];clear hD
 simp only[List.map,lc,ln,lj,z_t] at he
 simp only[he]
 refine jln_ hps (jlt (jif (λhc=>?_) (λhc=>?_)))
 ·have hc:i < progs.length:=by have:=z_f hc;omega
  rw[List.drop_eq_getElem_cons hc,List.all_cons] at hall
  refine jpg hp hc λx hx=>jln_ (Fz.sl hx) (jgr (jif (λhq=>?_) (λhq=>?_)))
  ·refine ro_ret ?_
   have hq:=z_f hq
   rw[← hall,decide_eq_false (by omega),Bool.false_and]
  ·have hq:=z_g hq
   rw[decide_eq_true (by omega),Bool.true_and] at hall
   refine jadd ⟨by omega,by omega⟩ ?_
   exact hK (progs.length - (i + 1)) _ _ _ (by omega) ⟨rfl,rfl,i + 1,by omega,rfl,rfl,hall⟩
 ·have hc:=z_g hc
  refine ro_ret ?_
  rw[← hall,List.drop_eq_nil_of_le (by omega)]
  rfl
end Go.Lf
end
section
namespace Go.Lf
open Go Sm
theorem picks_snoc:∀(l:List Int) (a:Int) {S S1 S2:Sim},Sim.picks l S = some S1→S1.pick a = some S2→Sim.picks (l ++ [a]) S = some S2
 | [],a,S,S1,S2,h1,h2=>by
  unfold Sim.picks at h1
  cases h1
  show (S.pick a >>= λx=>Sim.picks [] x) = _
  rw[h2];rfl
 | b :: l,a,S,S1,S2,h1,h2=>by
  unfold Sim.picks at h1
  obtain⟨S3,h3,h1⟩:=bind_some h1
  show (S.pick b >>= λx=>Sim.picks (l ++ [a]) x) = _
  rw[h3]
  exact picks_snoc l a h1 h2
theorem t_StoryPlay {R:RM} {c0:Cfg} {pv kv:Value} {progs:List (List Sm.Op)} {picks:List Int} {S' : Sim} (hp:Progs R pv progs) (hk:Ints R kv picks) (hok:storyOk c0 progs picks = true) (ha:∀a∈picks,inR a)
  (hS:Sim.picks picks (Sm.start c0 progs) = some S') (hz:S'.sz = true)
  (hpz:∀i S,Sim.picks (picks.take i) (Sm.start c0 progs) = some S→∀p R g S1,Ok R S g→S.pause S.fuel = some S1→Fn P F_Sim_pause [.pointer (some ⟨p,0,none⟩)] R (simD p S g) (SimQ p S1 λ_=>True)) :
  Fn P F_s_StoryPlay [.agg #[I c0.regions,I c0.threads,I c0.reserve],pv,kv] R [] (λv R' A=>∃p g rows thv A',Ok R' S' g∧Rw (ThrC R') rows S'.view.threads∧SW 78 4 rows thv A'∧A = A' ++ simD p S' g∧
   v = .tuple #[.agg (eSt S'.view (wS S' g) (tS S' g) (mS S' g) thv g.old g.pins).toArray,evV S' g]):=by
 refine s_s_StoryPlay λF=>?_
 unfold c_s_StoryPlay
 have hcf:configOk c0 = true:=by
  unfold storyOk at hok
  simp only[z_b] at hok
  exact hok.1.1.1
 have hpl:picks.length≤4000:=by
  unfold storyOk at hok
  simp only[z_b,z_d] at hok
  exact hok.1.2
 refine ja λb1=>?_
 rw[show cl (.agg #[I c0.regions,I c0.threads,I c0.reserve]) = [I c0.regions,I c0.threads,I c0.reserve] from rfl]
 refine ja λb2=>?_
 refine jla (l:=[I c0.regions,I c0.threads,I c0.reserve]) (by simp) rfl ?_
 refine jro (r_StoryOk hp hk) ?_
 rw[hok]
 refine jiff (jla (l:=[I c0.regions,I c0.threads,I c0.reserve]) (by simp) rfl ?_)
 refine jc (A:=[]) (t_l8Start hcf hp) ?_
 rintro _ R1 _ hR1 ⟨p,g,rfl,rfl,ok⟩
 refine jcutq (λvs R' D'=>R.le R'∧∃g1,Ok R' S' g1∧D' = simD p S' g1 ++ (b2,C T_State (cl z58)) :: F∧vs = [.pointer (some ⟨b2,0,none⟩),.pointer (some ⟨p,0,none⟩)]) (λK hK=>?_) ?_
 ·refine jcutq (λvs R' D'=>R.le R'∧∃g1,Ok R' S' g1∧D' = simD p S' g1 ++ (b2,C T_State (cl z58)) :: F∧vs = [.pointer (some ⟨b2,0,none⟩),.pointer (some ⟨p,0,none⟩)]) (λK2 hK2=>?_) ?_
  rotate_left
  ·rintro e R2 D2 ⟨hR,g1,ok1,hD,he⟩
   rw[hD];clear hD
   simp only[List.map,lc,ln,lj,z_t] at he
   simp only[he]
   exact hK _ _ _ ⟨hR,g1,ok1,rfl,rfl⟩
  refine jpart (simD p (Sm.start c0 progs) g) (G:=(b2,C T_State (cl z58)) :: (b1,C 67 [I c0.regions,I c0.threads,I c0.reserve]) :: ([] ++ F)) ?_
  refine jlp (λm vs R' D'=>R.le R'∧∃(i:Nat) (S1:Sim) (g1:Img),i≤picks.length∧Sim.picks (picks.take i) (Sm.start c0 progs) = some S1∧Sim.picks (picks.drop i) S1 = some S'∧Ok R' S1 g1∧D' = simD p S1 g1 ++ (b2,C T_State (cl z58)) :: (b1,C 67 [I c0.regions,I c0.threads,I c0.reserve]) :: ([] ++ F)∧vs = [kv,.pointer (some ⟨b2,0,none⟩),.pointer (some ⟨p,0,none⟩),I i]∧m = picks.length - i)
   (n:=picks.length) ⟨hR1,0,Sm.start c0 progs,g,by omega,rfl,by rw[List.drop_zero];exact hS,ok,rfl,rfl,by omega⟩ ?_
  rintro m e R2 D2 K3 ⟨hR,i,S1,g1,hi,hpk,hrest,ok1,hD,he,hm⟩ hK3
  rw[hD];clear hD
  simp only[List.map,lc,ln,lj,z_t] at he
  simp only[he]
  have hk2:=hk.le hR
  refine jln_ hk2.sl (jlt (jif (λhc=>?_) (λhc=>?_)))
  rotate_left
  ·have hc:=z_g hc
   rw[List.drop_eq_nil_of_le (by omega)] at hrest
   unfold Sim.picks at hrest
   cases hrest
   refine jperm (D':=(b1,C 67 [I c0.regions,I c0.threads,I c0.reserve]) :: (simD p S' g1 ++ (b2,C T_State (cl z58)) :: F)) ?_ (jdrop ?_)
   ·rw[ln]
    exact ((List.Perm.swap _ _ _).append_left _).trans List.perm_middle
   exact hK2 _ _ _ ⟨hR,g1,ok1,rfl,rfl⟩
  have hc:i < picks.length:=by have:=z_f hc;omega
  rw[List.drop_eq_getElem_cons hc] at hrest
  unfold Sim.picks at hrest
  obtain⟨S2,h2,hrest⟩:=bind_some hrest
  refine jfz1 hk2 (by omega) (by omega) ?_
  rw[getElem_congr_idx (Int.toNat_natCast i)]
  refine jcS (p:=p) (by exact t_pick ok1 (ha _ (List.getElem_mem hc)) (hpz i S1 hpk p) h2) λ_ R3 g3 hR3 _ ok3=>?_
  refine jadd ⟨by omega,by omega⟩ ?_
  refine hK3 (picks.length - (i + 1)) _ _ _ (by omega) ⟨hR.trans hR3,i + 1,S2,g3,by omega,?_,hrest,ok3,rfl,rfl,rfl⟩
  rw[List.take_succ_eq_append_getElem hc]
  exact picks_snoc _ _ hpk h2
 rintro e R2 D2 ⟨hR,g1,ok1,hD,he⟩
 rw[hD];clear hD
 simp only[List.map,lc,ln,lj,z_t] at he
 simp only[he]
 refine jl (v:=evV S' g1) rfl ?_
 refine jc (A:=simD p S' g1) (t_view_ ok1 hz) ?_
 rintro _ R3 _ hR3 ⟨rows,thv,A',hrw,so,rfl,rfl⟩
 obtain⟨ta,tc,htv⟩:=so.sl
 have hfl:flat thv = true:=by rw[htv];rfl
 have el:eSt S'.view (wS S' g1) (tS S' g1) (mS S' g1) thv g1.old g1.pins = eVw S' g1 (.bool S'.col.asked) (I S'.col.want) thv:=rfl
 rw[el,List.append_assoc]
 refine jand (jl (v:=evV S' g1) rfl jev) ?_
 refine js (cs':=eVw S' g1 (.bool S'.col.asked) (I S'.col.want) thv) rfl (eVw_flat ok1 rfl rfl hfl) (by exact z_n 13) rfl ?_
 refine jand (jl (v:=evV S' g1) rfl jev) ?_
 refine jla (l:=eVw S' g1 (.bool S'.col.asked) (I S'.col.want) thv) (by exact z_n 13) rfl ?_
 refine jperm (D':=(A' ++ simD p S' g1) ++ ((b2,C T_State (eVw S' g1 (.bool S'.col.asked) (I S'.col.want) thv)) :: F)) (by rw[List.append_assoc]) ?_
 exact jret (A:=A' ++ simD p S' g1) (hR.trans hR3) ⟨p,g1,rows,thv,A',ok1.le hR3,hrw,so,rfl,rfl⟩
end Go.Lf
end
section
namespace Go.Lf
open Go Sm
def l7d (e24:Env) (K:Value→M):M:=
 CUT [2,19] (λJe25=>CUT [2,19] (λJe28=>LP [1,2,3,5,9,19,20] (λKe29 e29=>FO 8 (e29 1) λx30=>L1 x30 λx31=>LN x31 λx32=>BO .lss (e29 20) x32 λx33=>IF x33 (FO 8 (e29 1) λx34=>L1 x34 λx35=>IA 4 x35 (e29 20) λx36=>FO 1 x36 λx37=>L1 x37 λx38=>FO 8 (e29 1) λx39=>L1 x39 λx40=>IA 4 x40 (e29 20) λx41=>FO 3 x41 λx42=>L1 x42 λx43=>BD (cl z78) [(1,1,x38),(3,1,x43)] λx44=>AL 78 z78 λx45=>AND (L1 x34 λx46=>EV x46 x35)<|AND (L1 x37 λx47=>EV x47 x38)<|AND (L1 x39 λx48=>EV x48 x40)<|AND (L1 x42 λx49=>EV x49 x43)<|ST 4 x45 x44<|CUT [1,2,3,5,9,19,20,21] (λJe50=>FO 3 x45 λx94=>L1 x94 λx95=>BO .eql x95 (I 1) λx96=>IF x96 (FO 3 x45 λx97=>ST 1 x97 (I 2)<|Je50 [(e29 1),(e29 2),(e29 3),(e29 5),(e29 9),(e29 19),(e29 20),x45]) (Je50 [(e29 1),(e29 2),(e29 3),(e29 5),(e29 9),(e29 19),(e29 20),x45])) λe50=>CUT [1,2,3,5,9,19,20,21] (λJe51=>CUT [1,2,3,5,9,19,20,21] (λJe59=>LP [1,2,3,5,9,19,20,21,22] (λKe60 e60=>FO 8 (e60 1) λx61=>L1 x61 λx62=>IA 4 x62 (e60 20) λx63=>FO 0 x63 λx64=>L1 x64 λx65=>LN x65 λx66=>BO .lss (e60 22) x66 λx67=>IF x67 (CUT [1,2,3,5,9,19,20,21,22] (λJe68=>CUT [1,2,3,5,9,19,20,21,22] (λJe70=>FO 8 (e60 1) λx71=>L1 x71 λx72=>IA 4 x72 (e60 20) λx73=>FO 0 x73 λx74=>L1 x74 λx75=>IA 1 x75 (e60 22) λx76=>L1 x76 λx77=>CA P 121 [(e60 3),x77] λx78=>CA P 120 [(e60 5),x78] λx79=>BO .lss x79 (I 0) λx80=>IF x80 (FO 0 (e60 21) λx81=>L1 x81 λx82=>BS 3 1 (ZR 1 z3) [(0,1,(I 0))] λx83=>AP 3 1 8 (cl z3) x82 x83 λx84=>FO 0 (e60 21) λx85=>ST 1 x85 x84<|Je70 [(e60 1),(e60 2),(e60 3),(e60 5),(e60 9),(e60 19),(e60 20),(e60 21),(e60 22)]) (FO 0 (e60 21) λx86=>L1 x86 λx87=>IA 1 (e60 9) x79 λx88=>L1 x88 λx89=>BS 3 1 (ZR 1 z3) [(0,1,x89)] λx90=>AND (L1 x86 λx91=>EV x91 x87)<|AP 3 1 8 (cl z3) x87 x90 λx92=>FO 0 (e60 21) λx93=>ST 1 x93 x92<|Je70 [(e60 1),(e60 2),(e60 3),(e60 5),(e60 9),(e60 19),(e60 20),(e60 21),(e60 22)])) λe70=>Je68 [(e70 1),(e70 2),(e70 3),(e70 5),(e70 9),(e70 19),(e70 20),(e70 21),(e70 22)]) λe68=>BO .add (e68 22) (I 1) λx69=>Ke60 [(e68 1),(e68 2),(e68 3),(e68 5),(e68 9),(e68 19),(e68 20),(e68 21),x69]) (Je59 [(e60 1),(e60 2),(e60 3),(e60 5),(e60 9),(e60 19),(e60 20),(e60 21)])) [(e50 1),(e50 2),(e50 3),(e50 5),(e50 9),(e50 19),(e50 20),(e50 21),(I 0)]) λe59=>Je51 [(e59 1),(e59 2),(e59 3),(e59 5),(e59 9),(e59 19),(e59 20),(e59 21)]) λe51=>FO 8 (e51 19) λx52=>L1 x52 λx53=>LA 4 (e51 21) λx54=>BS 78 1 (ZR 1 z78) [(0,4,x54)] λx55=>AP 78 4 48 (cl z78) x53 x55 λx56=>FO 8 (e51 19) λx57=>ST 1 x57 x56<|BO .add (e51 20) (I 1) λx58=>Ke29 [(e51 1),(e51 2),(e51 3),(e51 5),(e51 9),(e51 19),x58]) (Je28 [(e29 2),(e29 19)])) [(e24 1),(e24 2),(e24 3),(e24 5),(e24 9),(e24 19),(I 0)]) λe28=>Je25 [(e28 2),(e28 19)]) λe25=>LA 13 (e25 19) λx26=>ST 13 (e25 2) x26<|LA 13 (e25 2) λx27=>K x27
theorem newTh_cons {l:List Thing} {live to_:List Int} {t:Th} {r ths:List Th} (h:newThs l live to_ (t :: r) = some ths):∃roots rest,newRoots l live to_ t.roots = some roots∧newThs l live to_ r = some rest∧ths = ⟨roots,t.next,false,if t.tried = 1 then 2 else t.tried⟩ :: rest:=by
 unfold newThs at h
 obtain⟨roots,h1,h⟩:=bind_some h
 obtain⟨rest,h2,h⟩:=bind_some h
 simp only[Option.some.injEq] at h
 exact⟨roots,rest,h1,h2,h.symm⟩
theorem newRoot_cons {l:List Thing} {live to_:List Int} {a:Int} {r out:List Int} (h:newRoots l live to_ (a :: r) = some out):∃z b rest,now l a = some z∧(if placeOf live z < 0 then some 0 else idx to_ (placeOf live z)) = some b∧newRoots l live to_ r = some rest∧out = b :: rest:=by
 unfold newRoots at h
 obtain⟨z,h1,h⟩:=bind_some h
 obtain⟨b,h2,h⟩:=bind_some h
 obtain⟨rest,h3,h⟩:=bind_some h
 simp only[Option.some.injEq] at h
 exact⟨z,b,rest,h1,h2,h3,h.symm⟩
theorem l7d_ok {R:RM} {E:Chs} {s s' : Sm.State} {wv tv mv thv ov pv lv v9 v w t m pv' : Value} {l:List Thing} {live to_:List Int} {ths:List Th} {b1 b2 b19:Nat} {e:Env} {K:Value→M}
  (h:StC R s wv tv mv thv ov pv) (hlv:Tgs R lv l) (hll:l.length < 1000000) (hlive:Ints R v9 live) (hlvl:live.length < 1000000) (hto:Ints R v to_) (hths:newThs l live to_ s.threads = some ths) (hn:s.threads.length < 1000000) (hrl:∀t∈s.threads,t.roots.length < 1000000)
  (ea1:At E b1 (C T_State (eSt s wv tv mv thv ov pv))) (he:[e 1,e 2,e 3,e 5,e 9,e 19] = [.pointer (some ⟨b1,0,none⟩),.pointer (some ⟨b2,0,none⟩),lv,v9,v,.pointer (some ⟨b19,0,none⟩)])
  (hf:∀x,flat x = true→allFlat (eSt s' w t m x (.slice none 0 0) pv') = true)
  (H:∀R' x,R.le R'→Ths R' x ths→J R' ((b19,C T_State (eSt s' w t m x (.slice none 0 0) pv')) :: (b2,C T_State (eSt s' w t m x (.slice none 0 0) pv')) :: E) (K (.agg (eSt s' w t m x (.slice none 0 0) pv').toArray))) :
  J R ((b19,C T_State (eSt s' w t m (.slice none 0 0) (.slice none 0 0) pv')) :: (b2,C T_State (cl z58)) :: E) (l7d e K):=by
 unfold l7d
 simp only[lj,z_t] at he
 simp only[he]
 refine jcutq (λvs R' D'=>R.le R'∧∃rows x A,Rw (ThrC R') rows ths∧SW 78 4 rows x A∧D' = A ++ (b19,C T_State (eSt s' w t m x (.slice none 0 0) pv')) :: (b2,C T_State (cl z58)) :: E∧vs = [.pointer (some ⟨b2,0,none⟩),.pointer (some ⟨b19,0,none⟩)]) (λK1 hK1=>?_) ?_
 rotate_left
 ·rintro e R1 D1 ⟨hR,rows,x,A,hrw,so,hD,he⟩
  rw[hD];clear hD
  simp only[List.map,lc,ln,lj,z_t] at he
  simp only[he]
  obtain⟨sa,sc,hsl⟩:=so.sl
  subst hsl
  refine jfw so (hrw.all λ_ _=>ThrC.len) λR3 hR3 hfz=>?_
  refine jla (l:=eSt s' w t m (.slice sa rows.length sc) (.slice none 0 0) pv') (by exact z_n 13) rfl ?_
  refine js (cs':=eSt s' w t m (.slice sa rows.length sc) (.slice none 0 0) pv') rfl (hf _ rfl) (by exact z_n 13) rfl ?_
  refine jla (l:=eSt s' w t m (.slice sa rows.length sc) (.slice none 0 0) pv') (by exact z_n 13) rfl ?_
  exact H R3 _ (hR.trans hR3) ⟨rows,hrw.mono λ_ _=>ThrC.le hR3,hfz⟩
 refine jcutq (λvs R' D'=>R.le R'∧∃rows x A,Rw (ThrC R') rows ths∧SW 78 4 rows x A∧D' = A ++ (b19,C T_State (eSt s' w t m x (.slice none 0 0) pv')) :: (b2,C T_State (cl z58)) :: E∧vs = [.pointer (some ⟨b2,0,none⟩),.pointer (some ⟨b19,0,none⟩)]) (λK2 hK2=>?_) ?_
 rotate_left
 ·rintro e R1 D1 ⟨hR,rows,x,A,hrw,so,hD,he⟩
  rw[hD];clear hD
  simp only[List.map,lc,ln,lj,z_t] at he
  simp only[he]
  exact hK1 _ _ _ ⟨hR,rows,x,A,hrw,so,rfl,rfl⟩
 refine jlp (λmm vs R' D'=>R.le R'∧∃(i:Nat) (done rest:List Th) (rows:List (List Value)) (x:Value) (A:Chs),i≤s.threads.length∧newThs l live to_ (s.threads.drop i) = some rest∧ths = done ++ rest∧done.length = i∧Rw (ThrC R') rows done∧SW 78 4 rows x A∧D' = A ++ (b19,C T_State (eSt s' w t m x (.slice none 0 0) pv')) :: (b2,C T_State (cl z58)) :: E∧vs = [.pointer (some ⟨b1,0,none⟩),.pointer (some ⟨b2,0,none⟩),lv,v9,v,.pointer (some ⟨b19,0,none⟩),I i]∧mm = s.threads.length - i)
  (n:=s.threads.length) ⟨RM.le.refl R,0,[],ths,[],.slice none 0 0,[],by omega,hths,rfl,rfl,Rw.nil,.inl ⟨rfl,rfl,rfl⟩,rfl,rfl,by omega⟩ ?_
 rintro mm e R1 D1 K3 ⟨hR,i,done,rest,rows,x,A,hi,hnt,hdr,hdl,hrw,so,hD,he,hm⟩ hK3
 rw[hD];clear hD
 simp only[List.map,lc,ln,lj,z_t] at he
 simp only[he]
 have h1:=h.le hR
 have hlv1:=hlv.le hR
 have hlive1:=hlive.le hR
 have hto1:=hto.le hR
 refine jl (v:=thv) rfl (jln_ h1.th.sl (jlt (jif (λhc=>?_) (λhc=>?_))))
 rotate_left
 ·have hc:=z_g hc
  rw[List.drop_eq_nil_of_le (by omega)] at hnt
  have:rest = []:=by unfold newThs at hnt;simpa using hnt.symm
  subst this
  rw[List.append_nil] at hdr
  subst hdr
  exact hK2 _ _ _ ⟨hR,rows,x,A,hrw,so,rfl,rfl⟩
 have hc:i < s.threads.length:=by have:=z_f hc;omega
 rw[List.drop_eq_getElem_cons hc] at hnt
 obtain⟨roots,rest2,hroots,hrest2,rfl⟩:=newTh_cons hnt
 have hri:=hrl _ (List.getElem_mem hc)
 refine jl (v:=thv) rfl (jtr h1.th hc λb3 o3 ty cs rv hrv hb3 ho3 hrow3=>?_)
 refine jfo (jlr (v:=I (s.threads[i]).next) hb3 (cell_of hrow3 (f:=1) rfl) ?_)
 refine jl (v:=thv) rfl (jtr h1.th hc λb4 o4 ty4 cs4 rv4 hrv4 hb4 ho4 hrow4=>?_)
 refine jfo (jlr (v:=I (s.threads[i]).tried) hb4 (cell_of hrow4 (f:=3) rfl) ?_)
 refine jbd (cs:=[.slice none 0 0,I (s.threads[i]).next,.bool false,I (s.threads[i]).tried]) rfl rfl ?_
 refine ja λb21=>?_
 refine jand (jl (v:=thv) rfl jev) (jand (jlr (v:=I (s.threads[i]).next) hb3 (cell_of hrow3 (f:=1) rfl) jev) (jand (jl (v:=thv) rfl jev) (jand (jlr (v:=I (s.threads[i]).tried) hb4 (cell_of hrow4 (f:=3) rfl) jev) ?_)))
 refine js (cs':=[.slice none 0 0,I (s.threads[i]).next,.bool false,I (s.threads[i]).tried]) rfl rfl (by exact z_n 4) rfl ?_
 generalize htr:(if (s.threads[i]).tried = 1 then 2 else (s.threads[i]).tried) = tr at hrw hdr
 refine jcutq (λvs R' D'=>R' = R1∧D' = [] ++ (b21,C 78 [.slice none 0 0,I (s.threads[i]).next,.bool false,I tr]) :: (A ++ (b19,C T_State (eSt s' w t m x (.slice none 0 0) pv')) :: (b2,C T_State (cl z58)) :: E)∧vs = [.pointer (some ⟨b1,0,none⟩),.pointer (some ⟨b2,0,none⟩),lv,v9,v,.pointer (some ⟨b19,0,none⟩),I i,.pointer (some ⟨b21,0,none⟩)]) (λK4 hK4=>?_) ?_
 ·refine jfo (jl (v:=I (s.threads[i]).tried) rfl (jeq (jif (λh3=>?_) (λh3=>?_))))
  ·refine jfo (js (cs':=[.slice none 0 0,I (s.threads[i]).next,.bool false,I 2]) rfl rfl (by simp) rfl ?_)
   refine hK4 _ _ _ ⟨rfl,?_,rfl⟩
   rw[← htr,if_pos (eq_of_beq h3)];rfl
  ·refine hK4 _ _ _ ⟨rfl,?_,rfl⟩
   rw[← htr,if_neg (ne_of_beq_false h3)];rfl
 rintro e Rx D1 ⟨hRx,hD,he⟩
 subst hRx
 rw[hD];clear hD
 simp only[List.map,lc,ln,lj,z_t] at he
 simp only[he]
 refine jcutq (λvs R' D'=>R' = Rx∧∃rv A2,SO roots rv A2∧D' = A2 ++ (b21,C 78 [rv,I (s.threads[i]).next,.bool false,I tr]) :: (A ++ (b19,C T_State (eSt s' w t m x (.slice none 0 0) pv')) :: (b2,C T_State (cl z58)) :: E)∧vs = [.pointer (some ⟨b1,0,none⟩),.pointer (some ⟨b2,0,none⟩),lv,v9,v,.pointer (some ⟨b19,0,none⟩),I i,.pointer (some ⟨b21,0,none⟩)]) (λK5 hK5=>?_) ?_
 ·refine jcutq (λvs R' D'=>R' = Rx∧∃rv A2,SO roots rv A2∧D' = A2 ++ (b21,C 78 [rv,I (s.threads[i]).next,.bool false,I tr]) :: (A ++ (b19,C T_State (eSt s' w t m x (.slice none 0 0) pv')) :: (b2,C T_State (cl z58)) :: E)∧vs = [.pointer (some ⟨b1,0,none⟩),.pointer (some ⟨b2,0,none⟩),lv,v9,v,.pointer (some ⟨b19,0,none⟩),I i,.pointer (some ⟨b21,0,none⟩)]) (λK6 hK6=>?_) ?_
  rotate_left
  ·rintro e R2 D2 ⟨hR2,rv,A2,so2,hD,he⟩
   rw[hD];clear hD
   simp only[List.map,lc,ln,lj,z_t] at he
   simp only[he]
   exact hK5 _ _ _ ⟨hR2,rv,A2,so2,rfl,rfl⟩
  refine jlp (λmm vs R' D'=>R' = Rx∧∃(j:Nat) (done2 rest3:List Int) (rv:Value) (A2:Chs),j≤(s.threads[i]).roots.length∧newRoots l live to_ ((s.threads[i]).roots.drop j) = some rest3∧roots = done2 ++ rest3∧done2.length = j∧SO done2 rv A2∧D' = A2 ++ (b21,C 78 [rv,I (s.threads[i]).next,.bool false,I tr]) :: (A ++ (b19,C T_State (eSt s' w t m x (.slice none 0 0) pv')) :: (b2,C T_State (cl z58)) :: E)∧vs = [.pointer (some ⟨b1,0,none⟩),.pointer (some ⟨b2,0,none⟩),lv,v9,v,.pointer (some ⟨b19,0,none⟩),I i,.pointer (some ⟨b21,0,none⟩),I j]∧mm = (s.threads[i]).roots.length - j)
   (n:=(s.threads[i]).roots.length) ⟨rfl,0,[],roots,.slice none 0 0,[],by omega,hroots,rfl,rfl,.inl ⟨rfl,rfl,rfl⟩,rfl,rfl,by omega⟩ ?_
  rintro m5 e Ry D5 K7 ⟨hRy,j,done2,rest3,rv,A2,hj,hnr,hrr,hd2,so2,hD,he,hm5⟩ hK7
  subst hRy
  rw[hD];clear hD
  simp only[List.map,lc,ln,lj,z_t] at he
  simp only[he]
  refine jl (v:=thv) rfl (jtr h1.th hc λb5 o5 ty5 cs5 rv5 hrv5 hb5 ho5 hrow5=>?_)
  refine jfo (jlr (v:=rv5) hb5 (cell_of hrow5 (f:=0) rfl) (jln_ hrv5.sl (jlt (jif (λhd=>?_) (λhd=>?_)))))
  rotate_left
  ·have hd:=z_g hd
   rw[List.drop_eq_nil_of_le (by omega)] at hnr
   have:rest3 = []:=by unfold newRoots at hnr;simpa using hnr.symm
   subst this
   rw[List.append_nil] at hrr
   subst hrr
   exact hK6 _ _ _ ⟨rfl,rv,A2,so2,rfl,rfl⟩
  have hd:j < (s.threads[i]).roots.length:=by have:=z_f hd;omega
  rw[List.drop_eq_getElem_cons hd] at hnr
  obtain⟨z,bz,rest4,hz,hbz,hrest4,rfl⟩:=newRoot_cons hnr
  refine jcutq (λvs R' D'=>R' = Ry∧∃rv A2,SO (done2 ++ [bz]) rv A2∧D' = A2 ++ (b21,C 78 [rv,I (s.threads[i]).next,.bool false,I tr]) :: (A ++ (b19,C T_State (eSt s' w t m x (.slice none 0 0) pv')) :: (b2,C T_State (cl z58)) :: E)∧vs = [.pointer (some ⟨b1,0,none⟩),.pointer (some ⟨b2,0,none⟩),lv,v9,v,.pointer (some ⟨b19,0,none⟩),I i,.pointer (some ⟨b21,0,none⟩),I j]) (λK8 hK8=>?_) ?_
  rotate_left
  ·rintro e R2 D2 ⟨hR2,rv,A2,so2,hD,he⟩
   subst hR2
   rw[hD];clear hD
   simp only[List.map,lc,ln,lj,z_t] at he
   simp only[he]
   refine jadd ⟨by omega,by omega⟩ ?_
   exact hK7 ((s.threads[i]).roots.length - (j + 1)) _ _ _ (by omega) ⟨rfl,j + 1,done2 ++ [bz],rest4,rv,A2,by omega,hrest4,by rw[hrr];simp,by rw[List.length_append,hd2];rfl,so2,rfl,rfl,rfl⟩
  refine jcutq (λvs R' D'=>R' = Ry∧∃rv A2,SO (done2 ++ [bz]) rv A2∧D' = A2 ++ (b21,C 78 [rv,I (s.threads[i]).next,.bool false,I tr]) :: (A ++ (b19,C T_State (eSt s' w t m x (.slice none 0 0) pv')) :: (b2,C T_State (cl z58)) :: E)∧vs = [.pointer (some ⟨b1,0,none⟩),.pointer (some ⟨b2,0,none⟩),lv,v9,v,.pointer (some ⟨b19,0,none⟩),I i,.pointer (some ⟨b21,0,none⟩),I j]) (λK9 hK9=>?_) ?_
  rotate_left
  ·rintro e R2 D2 ⟨hR2,rv,A2,so2,hD,he⟩
   rw[hD];clear hD
   simp only[List.map,lc,ln,lj,z_t] at he
   simp only[he]
   exact hK8 _ _ _ ⟨hR2,rv,A2,so2,rfl,rfl⟩
  obtain⟨sa,sn,sc,rfl⟩:=so2.sl
  refine jl (v:=thv) rfl (jtr h1.th hc λb6 o6 ty6 cs6 rv6 hrv6 hb6 ho6 hrow6=>?_)
  refine jfo (jlr (v:=rv6) hb6 (cell_of hrow6 (f:=0) rfl) (jfz1 hrv6 (by omega) (by omega) ?_))
  rw[getElem_congr_idx (Int.toNat_natCast j)]
  refine jro (r_l6Now hlv1 (by omega) hz) (jro (r_place z (Ints.rd hlive1) (by omega)) (jlt (jif (λh0=>?_) (λh0=>?_))))
  ·rw[if_pos (z_f h0)] at hbz
   simp only[Option.some.injEq] at hbz
   subst hbz
   refine jfo (jl (v:=.slice sa sn sc) rfl ?_)
   refine jbs (cs:=[I 0]) rfl rfl λb7=>?_
   refine jas1 (A:=A2) so2 (by omega) λv' A' so'=>?_
   obtain⟨sa',sn',sc',rfl⟩:=so'.sl
   refine jfo (js (cs':=[.slice sa' sn' sc',I (s.threads[i]).next,.bool false,I tr]) rfl rfl (by simp) rfl ?_)
   exact hK9 _ _ _ ⟨rfl,_,A',so',rfl,rfl⟩
  ·rw[if_neg (z_g h0)] at hbz
   obtain⟨y0,y1,y2,y3⟩:=idx_some hbz
   refine jfo (jl (v:=.slice sa sn sc) rfl (jfz1 hto1 y0 y1 ?_))
   rw[y3]
   refine jbs (cs:=[I bz]) rfl rfl λb7=>?_
   refine jand (jl (v:=.slice sa sn sc) rfl jev) ?_
   refine jas1 (A:=A2) so2 (by omega) λv' A' so'=>?_
   obtain⟨sa',sn',sc',rfl⟩:=so'.sl
   refine jfo (js (cs':=[.slice sa' sn' sc',I (s.threads[i]).next,.bool false,I tr]) rfl rfl (by simp) rfl ?_)
   exact hK9 _ _ _ ⟨rfl,_,A',so',rfl,rfl⟩
 rintro e R2 D2 ⟨hR2,rv2,A2,so2,hD,he⟩
 subst hR2
 rw[hD];clear hD
 simp only[List.map,lc,ln,lj,z_t] at he
 simp only[he]
 refine jfso so2 λR3 hR3 hint=>?_
 obtain⟨ua,uc,rfl⟩:=hint.sl
 obtain⟨sa,sc,hsl⟩:=so.sl
 subst hsl
 refine jfo (jl (v:=(.slice sa rows.length sc)) rfl ?_)
 refine jla (l:=[.slice ua roots.length uc,I (s.threads[i]).next,.bool false,I tr]) (by exact z_n 4) rfl ?_
 refine jbs (cs:=[.slice ua roots.length uc,I (s.threads[i]).next,.bool false,I tr]) rfl rfl λb9=>?_
 refine jpart A (G:=(b9,C 78 [.slice ua roots.length uc,I (s.threads[i]).next,.bool false,I tr]) :: (b21,C 78 [.slice ua roots.length uc,I (s.threads[i]).next,.bool false,I tr]) :: ((b19,C T_State (eSt s' w t m (.slice sa rows.length sc) (.slice none 0 0) pv')) :: (b2,C T_State (cl z58)) :: E)) ?_
 have hx:Reads R3 (A ++ ((b9,C 78 [.slice ua roots.length uc,I (s.threads[i]).next,.bool false,I tr]) :: (b21,C 78 [.slice ua roots.length uc,I (s.threads[i]).next,.bool false,I tr]) :: ((b19,C T_State (eSt s' w t m (.slice sa rows.length sc) (.slice none 0 0) pv')) :: (b2,C T_State (cl z58)) :: E))) (some ⟨b9,0,none⟩) (1 * 4) [[.slice ua roots.length uc,I (s.threads[i]).next,.bool false,I tr]].flatten:=Reads.held (t:=78) (cs:=[.slice ua roots.length uc,I (s.threads[i]).next,.bool false,I tr]) (o:=0) (n:=1 * 4) (z_n 4)
 have hrl:=hrw.1
 refine jaw so (hrw.all λ_ _=>ThrC.len) (by intro r hr;rw[List.mem_singleton.1 hr];rfl) rfl rfl rfl (by decide) (by rw[List.length_singleton];omega) hx λv' A' so'=>?_
 obtain⟨sa',sc',hsl'⟩:=so'.sl
 subst hsl'
 refine jfo (js (cs':=eSt s' w t m (.slice sa' (rows ++ [[.slice ua roots.length uc,I (s.threads[i]).next,.bool false,I tr]]).length sc') (.slice none 0 0) pv') rfl rfl (by simp[eSt]) rfl ?_)
 refine jadd ⟨by omega,by omega⟩ ?_
 refine jpart A' (G:=(b19,C T_State (eSt s' w t m (.slice sa' (rows ++ [[.slice ua roots.length uc,I (s.threads[i]).next,.bool false,I tr]]).length sc') (.slice none 0 0) pv')) :: (b2,C T_State (cl z58)) :: E) ?_
 exact hK3 (s.threads.length - (i + 1)) _ _ _ (by omega) ⟨hR.trans hR3,i + 1,done ++ [⟨roots,(s.threads[i]).next,false,tr⟩],rest2,_,_,A',by omega,hrest2,by rw[hdr];simp,by rw[List.length_append,hdl];rfl,(hrw.mono λ_ _=>ThrC.le hR3).app (Rw.one ⟨_,rfl,hint⟩),so',rfl,rfl,rfl⟩
end Go.Lf
end
