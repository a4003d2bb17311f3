/- A part of the proof of the given row: the walk of the law and of all that it calls. Conditions: none. -/
import Derived.Test.YteefnapldidgcaaGreatTL
set_option linter.unusedVariables false
set_option linter.unusedSimpArgs false
section
namespace Go.Lf
open Go Sm
theorem zip_rep {α β γ:Type} {f:α→β→γ} {a:α}:∀(l:List β),List.zipWith f (List.replicate l.length a) l = l.map (f a)
 | []=>rfl
 | b :: r=>by rw[List.length_cons,List.replicate_succ,List.zipWith_cons_cons,zip_rep r,List.map_cons]
def eBg (c:Cfg) (pv w tv m thv v:Value):List Value:=I c.regions :: I c.threads :: I c.reserve :: pv :: (eNw w tv m thv ++ v :: (eCol (col0 false 0) (.slice none 0 0) ++ [.slice none 0 0,.bool false]))
theorem t_l8Start {R:RM} {c:Cfg} {pv:Value} {progs:List (List Sm.Op)} (hc:configOk c = true) (hp:Progs R pv progs) :
  Fn P F_s_l8Start [.agg #[I c.regions,I c.threads,I c.reserve],pv] R [] (λv R' A=>∃p g,v = .pointer (some ⟨p,0,none⟩)∧A = simD p (Sm.start c progs) g∧Ok R' (Sm.start c progs) g):=by
 refine s_s_l8Start λF=>?_
 unfold c_s_l8Start
 have hcc:=hc
 unfold configOk at hc
 simp only[Bool.and_eq_true,decide_eq_true_eq] at hc
 obtain⟨pvs,hpf,-,-⟩:=id hp
 obtain⟨pa,pc,hpv⟩:=hpf.sl
 refine ja λb1=>?_
 rw[show cl (.agg #[I c.regions,I c.threads,I c.reserve]) = [I c.regions,I c.threads,I c.reserve] from rfl]
 refine jla (l:=[I c.regions,I c.threads,I c.reserve]) (by simp) rfl ?_
 refine jc (A:=[]) (t_StateNew hcc) ?_
 rintro v1 R1 A1 hR1 ⟨bw,cw,wsp,bt,ct,tsp,bm,thv,hcw,hctn,hths,rfl,rfl⟩
 obtain⟨ha,hcap,htv⟩:=hths.sl
 subst hpv htv
 refine jex rfl (jex rfl (ja λb2=>?_))
 refine js (cs':=eNw (.slice (some ⟨bw,0,none⟩) (startW c).length cw) (.slice (some ⟨bt,0,none⟩) (tableNew c.regions).length ct) (.slice (some ⟨bm,0,none⟩) (c.regions.toNat * 16) (c.regions.toNat * 16)) (.slice ha (List.replicate c.threads.toNat (⟨[16],0,false,0⟩:Th)).length hcap)) rfl rfl (by exact Nat.le_refl 13) rfl ?_
 refine jla (l:=[I c.regions,I c.threads,I c.reserve]) (by simp) rfl ?_
 refine jla (l:=eNw (.slice (some ⟨bw,0,none⟩) (startW c).length cw) (.slice (some ⟨bt,0,none⟩) (tableNew c.regions).length ct) (.slice (some ⟨bm,0,none⟩) (c.regions.toNat * 16) (c.regions.toNat * 16)) (.slice ha (List.replicate c.threads.toNat (⟨[16],0,false,0⟩:Th)).length hcap)) (by exact Nat.le_refl 13) rfl ?_
 refine jbd (cs:=eBg c (.slice pa progs.length pc) (.slice (some ⟨bw,0,none⟩) (startW c).length cw) (.slice (some ⟨bt,0,none⟩) (tableNew c.regions).length ct) (.slice (some ⟨bm,0,none⟩) (c.regions.toNat * 16) (c.regions.toNat * 16)) (.slice ha (List.replicate c.threads.toNat (⟨[16],0,false,0⟩:Th)).length hcap) (.slice none 0 0)) rfl rfl ?_
 refine ja λp=>?_
 generalize hE:(b2,C T_State (eNw (.slice (some ⟨bw,0,none⟩) (startW c).length cw) (.slice (some ⟨bt,0,none⟩) (tableNew c.regions).length ct) (.slice (some ⟨bm,0,none⟩) (c.regions.toNat * 16) (c.regions.toNat * 16)) (.slice ha (List.replicate c.threads.toNat (⟨[16],0,false,0⟩:Th)).length hcap))) :: ([(bw,C T_int ((startW c).map I ++ wsp)),(bt,C T_Region (rowsE eRg (seti (tableNew c.regions) 1 ⟨3,-1,24,24,0⟩) ++ tsp)),(bm,C T_bool ((List.replicate (c.regions.toNat * 16) false).map Value.bool))] ++ (b1,C 92 [I c.regions,I c.threads,I c.reserve]) :: ([] ++ F)) = E
 have ea1:At E b1 (C 92 [I c.regions,I c.threads,I c.reserve]):=by rw[← hE];exact inferInstance
 have ea2:At E b2 (C T_State (eNw (.slice (some ⟨bw,0,none⟩) (startW c).length cw) (.slice (some ⟨bt,0,none⟩) (tableNew c.regions).length ct) (.slice (some ⟨bm,0,none⟩) (c.regions.toNat * 16) (c.regions.toNat * 16)) (.slice ha (List.replicate c.threads.toNat (⟨[16],0,false,0⟩:Th)).length hcap))):=by rw[← hE];exact inferInstance
 refine jperm (D':=(p,C T_l8Sim (eBg c (.slice pa progs.length pc) (.slice (some ⟨bw,0,none⟩) (startW c).length cw) (.slice (some ⟨bt,0,none⟩) (tableNew c.regions).length ct) (.slice (some ⟨bm,0,none⟩) (c.regions.toNat * 16) (c.regions.toNat * 16)) (.slice ha (List.replicate c.threads.toNat (⟨[16],0,false,0⟩:Th)).length hcap) (.slice none 0 0))) :: E) (by rw[← hE]) ?_
 obtain⟨n,hn⟩:∃n:Nat,c.threads = n:=⟨c.threads.toNat,by omega⟩
 have e17:∀(l:List Value),∀r∈l.map (eThr (thr0 [16] 0 0)),r.length = 17:=λl r hr=>by
  obtain⟨x,_,rfl⟩:=List.mem_map.1 hr
  rfl
 refine jcutq (λvs R' D'=>R1.le R'∧∃(rvs:List Value) (v:Value) (A:Chs),rvs.length = n∧(∀x∈rvs,Ints R' x [16])∧SW 128 17 (rvs.map (eThr (thr0 [16] 0 0))) v A∧D' = A ++ (p,C T_l8Sim (eBg c (.slice pa progs.length pc) (.slice (some ⟨bw,0,none⟩) (startW c).length cw) (.slice (some ⟨bt,0,none⟩) (tableNew c.regions).length ct) (.slice (some ⟨bm,0,none⟩) (c.regions.toNat * 16) (c.regions.toNat * 16)) (.slice ha (List.replicate c.threads.toNat (⟨[16],0,false,0⟩:Th)).length hcap) v)) :: E∧vs = [.pointer (some ⟨p,0,none⟩)]) (λK hK=>?_) ?_
 ·refine jcutq (λvs R' D'=>R1.le R'∧∃(rvs:List Value) (v:Value) (A:Chs),rvs.length = n∧(∀x∈rvs,Ints R' x [16])∧SW 128 17 (rvs.map (eThr (thr0 [16] 0 0))) v A∧D' = A ++ (p,C T_l8Sim (eBg c (.slice pa progs.length pc) (.slice (some ⟨bw,0,none⟩) (startW c).length cw) (.slice (some ⟨bt,0,none⟩) (tableNew c.regions).length ct) (.slice (some ⟨bm,0,none⟩) (c.regions.toNat * 16) (c.regions.toNat * 16)) (.slice ha (List.replicate c.threads.toNat (⟨[16],0,false,0⟩:Th)).length hcap) v)) :: E∧vs = [.pointer (some ⟨p,0,none⟩)]) (λK2 hK2=>?_) ?_
  rotate_left
  ·rintro e R2 D1 ⟨hR,rvs,v,A,hl,hrv,so,hD,he⟩
   rw[hD];clear hD
   simp only[List.map,lc,ln,lj,and_true] at he
   simp only[he]
   exact hK _ _ _ ⟨hR,rvs,v,A,hl,hrv,so,rfl,rfl⟩
  refine jlp (λm vs R' D'=>∃i:Nat,i≤n∧m = n - i∧R1.le R'∧∃(rvs:List Value) (v:Value) (A:Chs),rvs.length = i∧(∀x∈rvs,Ints R' x [16])∧SW 128 17 (rvs.map (eThr (thr0 [16] 0 0))) v A∧D' = A ++ (p,C T_l8Sim (eBg c (.slice pa progs.length pc) (.slice (some ⟨bw,0,none⟩) (startW c).length cw) (.slice (some ⟨bt,0,none⟩) (tableNew c.regions).length ct) (.slice (some ⟨bm,0,none⟩) (c.regions.toNat * 16) (c.regions.toNat * 16)) (.slice ha (List.replicate c.threads.toNat (⟨[16],0,false,0⟩:Th)).length hcap) v)) :: E∧vs = [.pointer (some ⟨b1,0,none⟩),.pointer (some ⟨b2,0,none⟩),.pointer (some ⟨p,0,none⟩),I i])
   (n:=n) ⟨0,by omega,by omega,RM.le.refl R1,[],.slice none 0 0,[],rfl,(λx hx=>by cases hx),.inl ⟨rfl,rfl,rfl⟩,rfl,rfl⟩ ?_
  rintro m e R2 D1 K3 ⟨i,hi,hm,hR,rvs,v,A,hl,hrv,so,hD,he⟩ hK3
  rw[hD];clear hD
  simp only[List.map,lc,ln,lj,and_true] at he
  simp only[he]
  refine jfo (jl (v:=I c.threads) rfl (jlt (jif (λhd=>?_) (λhd=>?_))))
  rotate_left
  ·have hd:i = n:=by have:=of_decide_eq_false hd;omega
   subst hd
   exact hK2 _ _ _ ⟨hR,rvs,v,A,hl,hrv,so,rfl,rfl⟩
  have hd:i < n:=by have:=of_decide_eq_true hd;omega
  obtain⟨sa,sc,hsl⟩:=so.sl
  subst hsl
  rw[List.length_map]
  refine jnc (jfo (jl (v:=.slice sa rvs.length sc) rfl ?_))
  refine jfo (jl (v:=.slice ha (List.replicate c.threads.toNat (⟨[16],0,false,0⟩:Th)).length hcap) rfl ?_)
  refine jtr (hths.le hR) (by rw[List.length_replicate];omega) λb3 o3 ty cs rv hrv3 hb3 ho3 hrow3=>?_
  rw[List.getElem_replicate] at hrv3 hrow3
  refine jfo (jlr (v:=rv) hb3 (cell_of hrow3 (f:=0) rfl) ?_)
  refine jc (A:=[]) (t_l5Ints hrv3 (by decide)) ?_
  rintro _ R3 _ hR3 ⟨b8,c8,sp8,hc8,hsp8,rfl,rfl⟩
  refine jfreeze (b:=b8) λR4 hR4 hb8=>?_
  have hv2:Ints R4 (.slice (some ⟨b8,0,none⟩) 1 c8) [16]:=ints_of (l:=[16]) (c:=c8) hb8 hc8
  refine jbd (cs:=(eThr (thr0 [16] 0 0) (.slice (some ⟨b8,0,none⟩) 1 c8))) rfl rfl ?_
  refine jand (jl (v:=.slice sa rvs.length sc) rfl jev) ?_
  refine jbs (cs:=(eThr (thr0 [16] 0 0) (.slice (some ⟨b8,0,none⟩) 1 c8))) rfl rfl λb9=>?_
  refine jand (jl (v:=.slice sa rvs.length sc) rfl jev) ?_
  refine jperm (D':=(b9,C 128 (eThr (thr0 [16] 0 0) (.slice (some ⟨b8,0,none⟩) 1 c8))) :: (A ++ (p,C T_l8Sim (eBg c (.slice pa progs.length pc) (.slice (some ⟨bw,0,none⟩) (startW c).length cw) (.slice (some ⟨bt,0,none⟩) (tableNew c.regions).length ct) (.slice (some ⟨bm,0,none⟩) (c.regions.toNat * 16) (c.regions.toNat * 16)) (.slice ha (List.replicate c.threads.toNat (⟨[16],0,false,0⟩:Th)).length hcap) (.slice sa rvs.length sc))) :: E)) (List.Perm.refl _) ?_
  refine jpart A (G:=(b9,C 128 (eThr (thr0 [16] 0 0) (.slice (some ⟨b8,0,none⟩) 1 c8))) :: (p,C T_l8Sim (eBg c (.slice pa progs.length pc) (.slice (some ⟨bw,0,none⟩) (startW c).length cw) (.slice (some ⟨bt,0,none⟩) (tableNew c.regions).length ct) (.slice (some ⟨bm,0,none⟩) (c.regions.toNat * 16) (c.regions.toNat * 16)) (.slice ha (List.replicate c.threads.toNat (⟨[16],0,false,0⟩:Th)).length hcap) (.slice sa rvs.length sc))) :: E) ?_
  have hx:Reads R4 (A ++ ((b9,C 128 (eThr (thr0 [16] 0 0) (.slice (some ⟨b8,0,none⟩) 1 c8))) :: (p,C T_l8Sim (eBg c (.slice pa progs.length pc) (.slice (some ⟨bw,0,none⟩) (startW c).length cw) (.slice (some ⟨bt,0,none⟩) (tableNew c.regions).length ct) (.slice (some ⟨bm,0,none⟩) (c.regions.toNat * 16) (c.regions.toNat * 16)) (.slice ha (List.replicate c.threads.toNat (⟨[16],0,false,0⟩:Th)).length hcap) (.slice sa rvs.length sc))) :: E)) (some ⟨b9,0,none⟩) (1 * 17) [(eThr (thr0 [16] 0 0) (.slice (some ⟨b8,0,none⟩) 1 c8))].flatten:=Reads.held (t:=128) (cs:=(eThr (thr0 [16] 0 0) (.slice (some ⟨b8,0,none⟩) 1 c8))) (o:=0) (n:=1 * 17) (Nat.le_refl 17)
  rw[List.length_map] at so
  refine jaw so (e17 _) (by intro r hr;rw[List.mem_singleton.1 hr];rfl) rfl rfl rfl (by decide) (by rw[List.length_singleton,List.length_map];omega) hx λv' A' so'=>?_
  obtain⟨sa',sc',hsl'⟩:=so'.sl
  have em:rvs.map (eThr (thr0 [16] 0 0)) ++ [(eThr (thr0 [16] 0 0) (.slice (some ⟨b8,0,none⟩) 1 c8))] = (rvs ++ [Value.slice (some ⟨b8,0,none⟩) 1 c8]).map (eThr (thr0 [16] 0 0)):=by rw[List.map_append];rfl
  rw[em] at so' hsl'
  subst hsl'
  refine jnc (jfo (js (cs':=eBg c (.slice pa progs.length pc) (.slice (some ⟨bw,0,none⟩) (startW c).length cw) (.slice (some ⟨bt,0,none⟩) (tableNew c.regions).length ct) (.slice (some ⟨bm,0,none⟩) (c.regions.toNat * 16) (c.regions.toNat * 16)) (.slice ha (List.replicate c.threads.toNat (⟨[16],0,false,0⟩:Th)).length hcap) (.slice sa' ((rvs ++ [Value.slice (some ⟨b8,0,none⟩) 1 c8]).map (eThr (thr0 [16] 0 0))).length sc')) rfl rfl (by simp[eBg,eNw,eCol]) rfl ?_))
  refine jadd ⟨by omega,by omega⟩ ?_
  refine jpart A' (G:=(p,C T_l8Sim (eBg c (.slice pa progs.length pc) (.slice (some ⟨bw,0,none⟩) (startW c).length cw) (.slice (some ⟨bt,0,none⟩) (tableNew c.regions).length ct) (.slice (some ⟨bm,0,none⟩) (c.regions.toNat * 16) (c.regions.toNat * 16)) (.slice ha (List.replicate c.threads.toNat (⟨[16],0,false,0⟩:Th)).length hcap) (.slice sa' ((rvs ++ [Value.slice (some ⟨b8,0,none⟩) 1 c8]).map (eThr (thr0 [16] 0 0))).length sc'))) :: E) ?_
  refine hK3 (n - (i + 1)) _ _ _ (by omega) ⟨i + 1,by omega,rfl,(hR.trans hR3).trans hR4,rvs ++ [Value.slice (some ⟨b8,0,none⟩) 1 c8],_,A',by rw[List.length_append,hl];rfl,?_,so',rfl,rfl⟩
  intro x hx
  rcases List.mem_append.1 hx with hx | hx
  ·exact (hrv x hx).le (hR3.trans hR4)
  ·rw[List.mem_singleton.1 hx];exact hv2
 rintro e R2 D1 ⟨hR,rvs,v,A,hl,hrv,so,hD,he⟩
 rw[hD];clear hD
 simp only[List.map,lc,ln,lj,and_true] at he
 simp only[he]
 rcases so with ⟨h1,_,_⟩ | ⟨hb,hc2,hsp,hcc2,hhsp,rfl,rfl⟩
 ·have:=congrArg List.length h1
  rw[List.length_map,List.length_nil] at this;omega
 rw[List.length_map] at hcc2 ⊢
 subst hE
 let g:Img:={ progs:=.slice pa progs.length pc,wb:=bw,wc:=cw,wsp:=wsp,tb:=bt,tc:=ct,tsp:=tsp,mb:=bm,mc:=c.regions.toNat * 16,msp:=[],asked:=.bool false,want:=I 0,threads:=.slice ha (List.replicate c.threads.toNat (⟨[16],0,false,0⟩:Th)).length hcap,old:=.slice none 0 0,pins:=.slice none 0 0,hb:=hb,hc:=hc2,hsp:=hsp,rv:=rvs,stack:=.slice none 0 0,ev:=none,esp:=[] }
 have hth:(Sm.start c progs).th = List.replicate rvs.length (thr0 [16] 0 0):=by
  rw[hl];show List.replicate c.threads.toNat _ = _
  rw[hn,Int.toNat_natCast]
 have ezs:eThs (Sm.start c progs).th rvs = (rvs.map (eThr (thr0 [16] 0 0))).flatten:=by
  rw[hth];unfold eThs;rw[zip_rep]
 have etl:(seti (tableNew c.regions) 1 (⟨3,-1,24,24,0⟩:Rg)).length = (tableNew c.regions).length:=by simp[seti]
 have htl:(tableNew c.regions).length = c.regions.toNat:=by
  unfold tableNew
  rw[if_neg (by omega)];simp;omega
 have esim:eSim (Sm.start c progs) g = eBg c (.slice pa progs.length pc) (.slice (some ⟨bw,0,none⟩) (startW c).length cw) (.slice (some ⟨bt,0,none⟩) (tableNew c.regions).length ct) (.slice (some ⟨bm,0,none⟩) (c.regions.toNat * 16) (c.regions.toNat * 16)) (.slice ha (List.replicate c.threads.toNat (⟨[16],0,false,0⟩:Th)).length hcap) (.slice (some ⟨hb,0,none⟩) rvs.length hc2):=by
  have e1:(Sm.start c progs).th.length = rvs.length:=by rw[hth,List.length_replicate]
  have e2:(Sm.start c progs).table.length = (tableNew c.regions).length:=etl
  have e3:(Sm.start c progs).marks.length = c.regions.toNat * 16:=by show (List.replicate _ _).length = _;rw[List.length_replicate]
  unfold eSim
  rw[e1,e2,e3]
  rfl
 have esd:simD p (Sm.start c progs) g = (p,C T_l8Sim (eBg c (.slice pa progs.length pc) (.slice (some ⟨bw,0,none⟩) (startW c).length cw) (.slice (some ⟨bt,0,none⟩) (tableNew c.regions).length ct) (.slice (some ⟨bm,0,none⟩) (c.regions.toNat * 16) (c.regions.toNat * 16)) (.slice ha (List.replicate c.threads.toNat (⟨[16],0,false,0⟩:Th)).length hcap) (.slice (some ⟨hb,0,none⟩) rvs.length hc2))) :: (bw,C T_int ((startW c).map I ++ wsp)) :: (bt,C T_Region (rowsE eRg (seti (tableNew c.regions) 1 ⟨3,-1,24,24,0⟩) ++ tsp)) :: (bm,C T_bool ((List.replicate (c.regions.toNat * 16) false).map Value.bool ++ [])) :: (hb,C T_l8Thread ((rvs.map (eThr (thr0 [16] 0 0))).flatten ++ hsp)) :: []:=by
  unfold simD
  rw[esim]
  show _ :: _ :: _ :: _ :: (hb,C T_l8Thread (eThs (Sm.start c progs).th rvs ++ hsp)) :: [] = _
  rw[ezs]
  rfl
 refine jpart [(p,C T_l8Sim (eBg c (.slice pa progs.length pc) (.slice (some ⟨bw,0,none⟩) (startW c).length cw) (.slice (some ⟨bt,0,none⟩) (tableNew c.regions).length ct) (.slice (some ⟨bm,0,none⟩) (c.regions.toNat * 16) (c.regions.toNat * 16)) (.slice ha (List.replicate c.threads.toNat (⟨[16],0,false,0⟩:Th)).length hcap) (.slice (some ⟨hb,0,none⟩) rvs.length hc2))),(bw,C T_int ((startW c).map I ++ wsp)),(bt,C T_Region (rowsE eRg (seti (tableNew c.regions) 1 ⟨3,-1,24,24,0⟩) ++ tsp)),(bm,C T_bool ((List.replicate (c.regions.toNat * 16) false).map Value.bool)),(hb,C T_l8Thread ((rvs.map (eThr (thr0 [16] 0 0))).flatten ++ hsp))] (G:=F) ?_
 refine jperm (D':=simD p (Sm.start c progs) g ++ F) (by rw[esd,List.append_nil]) ?_
 refine jret (A:=simD p (Sm.start c progs) g) (hR1.trans hR) ⟨p,g,rfl,rfl,?_⟩
 have hle:=hR1.trans hR
 refine⟨?_,.inl ⟨rfl,rfl,rfl⟩,.inl ⟨rfl,rfl,rfl⟩,.inl ⟨rfl,rfl,rfl⟩,?_,?_,λ_=>rfl,(λb c h=>by cases h),?_,?_,?_,?_,⟨rfl,rfl,rfl⟩,?_,?_,?_⟩
 ·obtain⟨vs,h1,h2,h3⟩:=hp
  exact⟨vs,h1.le hle,h2,λi hi=>by obtain⟨x,hx,ho⟩:=h3 i hi;exact⟨x,hx,ho.le hle⟩⟩
 ·rw[hth,List.length_replicate]
 ·intro i h h'
  have e:((Sm.start c progs).th[i]).roots = [16]:=by
   simp only[hth,List.getElem_replicate];rfl
  rw[e]
  exact hrv _ (List.getElem_mem h')
 ·show (startW c).length≤1000
  rw[(start_fits hcc).2];omega
 ·show (seti (tableNew c.regions) 1 (⟨3,-1,24,24,0⟩:Rg)).length≤1000
  omega
 ·show (List.replicate _ _).length≤1000
  rw[List.length_replicate];omega
 ·rw[hth,List.length_replicate];omega
 ·exact hcw
 ·show (seti (tableNew c.regions) 1 (⟨3,-1,24,24,0⟩:Rg)).length≤ct
  omega
 ·show (List.replicate _ _).length≤c.regions.toNat * 16
  simp
end Go.Lf
end
section
namespace Go.Lf
open Go Sm
theorem t_pause_nf {p n:Nat} {S S' : Sim} {g:Img} {R:RM} (hok:Ok R S g) (hp:Pr S) (hT:TOk S.table) (hf:S.full = false) (hS:S.pause n = some S') :
  Fn P F_Sim_pause [.pointer (some ⟨p,0,none⟩)] R (simD p S g) (SimQ p S' λ_=>True):=by
 refine s_Sim_pause λF=>?_
 unfold c_Sim_pause
 unfold Sim.pause at hS
 split at hS
 ·cases hS
 rename_i hz
 have hz:S.sz = true:=by simpa using hz
 rw[if_neg (by rw[hf];decide)] at hS
 dsimp only at hS
 have htl:=hok.tl
 have n1:=hT.n1
 refine jl (v:=.bool S.full) rfl ?_
 rw[hf]
 refine jiff ?_
 refine jss (p:=p) { S with stop:=false } g rfl rfl (by decide) (by rfl) (by rfl) ?_
 have ok1:Ok R { S with stop:=false } g:={ hok with }
 refine jl (v:=I S.col.want) rfl (jeq (jif (λh1=>?_) (λh1=>?_)))
 ·rw[if_pos (eq_of_beq h1)] at hS
  simp only[Option.some.injEq] at hS
  subst hS
  refine jcS (p:=p) (by exact t_snapshot ok1 hz) λ_ R2 g2 hR2 _ ok2=>?_
  exact jretS hR2 trivial rfl ok2
 rw[if_neg (ne_of_beq_false h1)] at hS
 refine jeq (jif (λh2=>?_) (λh2=>?_))
 ·rw[if_pos (eq_of_beq h2)] at hS
  refine jcS (p:=p) (by exact t_choose ok1 hp hS) λ_ R2 g2 hR2 _ ok2=>?_
  exact jretS hR2 trivial rfl ok2
 rw[if_neg (ne_of_beq_false h2)] at hS
 refine jeq (jif (λh3=>?_) (λh3=>?_))
 rotate_left
 ·rw[if_neg (ne_of_beq_false h3)] at hS
  refine jcS (p:=p) (by exact t_finish ok1 hz hT hS) λ_ R2 g2 hR2 _ ok2=>?_
  exact jretS hR2 trivial rfl ok2
 rw[if_pos (eq_of_beq h3)] at hS
 unfold Sim.update at hS
 obtain⟨_,-,hS⟩:=bind_some hS
 simp only[Option.some.injEq] at hS
 refine jss (p:=p) { S with stop:=false,phase:=3 } g rfl rfl (by decide) (by rfl) (by rfl) ?_
 generalize hfn:(λ(i:Int) (x:Rg)=>{ x with live:=x.top - regionBase i }) = f at hS
 have hfx:∀(k:Nat) (x:Rg),f k x = { x with live:=x.top - regionBase k }:=λk x=>by rw[← hfn]
 refine jcutq (λvs R' D'=>R' = R∧D' = simD p { S with stop:=false,phase:=3,table:=rows f S.table } g ++ F∧vs = [.pointer (some ⟨p,0,none⟩)]) (λK hK=>?_) ?_
 rotate_left
 ·rintro e R1 D1 ⟨hR,hD,he⟩
  subst hR
  rw[hD];clear hD
  simp only[List.map,lc,ln,lj,and_true] at he
  simp only[he]
  refine jl (v:=.bool S.col.asked) rfl (jl (v:=I S.col.want) rfl ?_)
  refine jbd (cs:=eCol { col0 S.col.asked S.col.want with pc:=6,r:=1,p:=16 } (.slice none 0 0)) rfl rfl ?_
  refine jss (p:=p) { S with stop:=false,phase:=3,table:=rows f S.table,col:={ col0 S.col.asked S.col.want with pc:=6,r:=1,p:=16 } } { g with stack:=.slice none 0 0 } rfl rfl (by decide) (by rfl) (by rfl) ?_
  subst hS
  refine jretS (RM.le.refl R1) trivial rfl ?_
  exact { ok1 with stack:=.inl ⟨rfl,rfl,rfl⟩,tl:=by simpa [rows] using hok.tl,tk:=by simpa [rows] using hok.tk }
 refine jcutq (λvs R' D'=>R' = R∧D' = simD p { S with stop:=false,phase:=3,table:=rows f S.table } g ++ F∧vs = [.pointer (some ⟨p,0,none⟩)]) (λK2 hK2=>?_) ?_
 rotate_left
 ·rintro e R1 D1 ⟨hR,hD,he⟩
  rw[hD];clear hD
  simp only[List.map,lc,ln,lj,and_true] at he
  simp only[he]
  exact hK _ _ _ ⟨hR,rfl,rfl⟩
 refine jlp (λm vs R' D'=>R' = R∧∃k:Nat,1≤k∧k≤S.table.length + 1∧D' = simD p { S with stop:=false,phase:=3,table:=rowsTo f k S.table } g ++ F∧vs = [.pointer (some ⟨p,0,none⟩),I k]∧m = S.table.length + 1 - k)
  (n:=S.table.length) ⟨rfl,1,Nat.le_refl 1,by omega,by rw[rowsTo_one],rfl,by omega⟩ ?_
 rintro m e R4 D4 K3 ⟨hR4,k,k0,k1,hD,he,hm⟩ hK3
 subst hR4
 rw[hD];clear hD
 simp only[List.map,lc,ln,lj,and_true] at he
 simp only[he]
 refine jl (v:=.slice (some ⟨g.tb,0,none⟩) (rowsTo f k S.table).length g.tc) rfl (jln (jlt (jif (λhc=>?_) (λhc=>?_))))
 rotate_left
 ·have hc:S.table.length≤k:=by have:=of_decide_eq_false hc;rw[rowsTo_len] at this;omega
  refine hK2 _ _ _ ⟨rfl,?_,rfl⟩
  rw[rowsTo_all hc]
 have hc:k < S.table.length:=by have:=of_decide_eq_true hc;rw[rowsTo_len] at this;omega
 have RR:=hT.row k (by omega) (by omega)
 have t0:=RR.t0
 have t1:=RR.t1
 rw[rv_at hc] at t0 t1
 have hbase:=base_eq (r:=(k:Int)) (by omega) (by omega)
 refine jl (v:=.slice (some ⟨g.tb,0,none⟩) (rowsTo f k S.table).length g.tc) rfl (jian (by rw[rowsTo_len];exact hc) ?_)
 refine jlr_ (p:=p) (by simpa using hc) ?_
 rw[show ({ S with stop:=false,phase:=3,table:=rowsTo f k S.table }:Sim).table[k]'(by simpa using hc) = S.table[k] from rowsTo_get (f:=f) hc]
 refine ja λb5=>?_
 refine js (cs':=eRg (S.table[k])) rfl rfl (by simp) rfl ?_
 refine jfo (jl (v:=I (S.table[k]).top) rfl (jp (p_RegionBase k) (jsub ⟨by omega,by omega⟩ ?_)))
 refine jfo (jand (jl (v:=I (S.table[k]).top) rfl jev) ?_)
 refine js (cs':=eRg { S.table[k] with live:=(S.table[k]).top - regionBase k }) rfl rfl (by simp) rfl ?_
 refine jl (v:=.slice (some ⟨g.tb,0,none⟩) (rowsTo f k S.table).length g.tc) rfl ?_
 refine jla (l:=eRg { S.table[k] with live:=(S.table[k]).top - regionBase k }) (by simp) rfl ?_
 refine jian (by rw[rowsTo_len];exact hc) ?_
 refine jsr_ (p:=p) (x:={ S.table[k] with live:=(S.table[k]).top - regionBase k }) { S with stop:=false,phase:=3,table:=rowsTo f (k + 1) S.table } (by simpa using hc) (by rw[← rowsTo_set k0 hc,hfx]) ?_
 refine jadd ⟨by omega,by omega⟩ ?_
 refine jpart (simD p { S with stop:=false,phase:=3,table:=rowsTo f (k + 1) S.table } g) (G:=F) ?_
 exact hK3 (S.table.length + 1 - (k + 1)) _ _ _ (by omega) ⟨rfl,k + 1,by omega,by omega,rfl,rfl,rfl⟩
end Go.Lf
end
section
namespace Go.Lf
open Go Sm
theorem t_collector {p n:Nat} {S S' : Sim} {g:Img} {R:RM} (hok:Ok R S g) (hpz:∀R g S1,Ok R S g→S.pause n = some S1→Fn P F_Sim_pause [.pointer (some ⟨p,0,none⟩)] R (simD p S g) (SimQ p S1 λ_=>True)) (hS:S.collector n = some S') :
  Fn P F_Sim_collector [.pointer (some ⟨p,0,none⟩)] R (simD p S g) (SimQ p S' λ_=>True):=by
 refine s_Sim_collector λF=>?_
 unfold c_Sim_collector
 unfold Sim.collector at hS
 refine jl (v:=.bool S.stop) rfl (jif (λh0=>?_) (λh0=>?_))
 ·rw[if_pos h0] at hS
  refine jcS (p:=p) (by exact t_calm hok) λ_ R2 g2 hR2 hr ok2=>?_
  subst hr
  refine jif (λhc=>?_) (λhc=>?_)
  ·rw[if_pos hc] at hS
   refine jcS (p:=p) (by exact hpz R2 g2 S' ok2 hS) λ_ R3 g3 hR3 _ ok3=>?_
   exact jretS (hR2.trans hR3) trivial rfl ok3
  ·rw[if_neg (by rw[hc];decide)] at hS
   simp only[Option.some.injEq] at hS
   subst hS
   exact jretS hR2 trivial rfl ok2
 rw[if_neg (by rw[h0];decide)] at hS
 refine jl (v:=I S.phase) rfl (jeq (jif (λh1=>?_) (λh1=>?_)))
 ·rw[if_pos (eq_of_beq h1)] at hS
  refine jl (v:=.bool S.col.asked) rfl (jif (λh2=>?_) (λh2=>?_))
  ·rw[if_pos h2] at hS
   refine jopenC (p:=p) hok λb=>?_
   obtain⟨a,cap,hsv,-⟩:=Ints.reads (D:=[]) hok.stack
   have hst0:=hok.stack
   rw[hsv] at hst0 ⊢
   refine js (cs':=eCol { S.col with asked:=false } (.slice a S.col.stack.length cap)) rfl rfl (by simp[eCol]) rfl ?_
   refine js (cs':=eCol { S.col with asked:=false,want:=1 } (.slice a S.col.stack.length cap)) rfl rfl (by simp[eCol]) rfl ?_
   refine jputC (p:=p) { S with col:={ S.col with asked:=false,want:=1 } } (by exact hok) (by exact hst0) (by rfl) λg3 ok3=>?_
   refine jss (p:=p) { S with stop:=true,col:={ S.col with asked:=false,want:=1 } } g3 rfl rfl (by decide) (by rfl) (by rfl) ?_
   simp only[Option.some.injEq] at hS
   subst hS
   exact jretS (RM.le.refl R) trivial rfl { ok3 with }
  ·rw[if_neg (by rw[h2];decide)] at hS
   simp only[Option.some.injEq] at hS
   subst hS
   exact jretS (RM.le.refl R) trivial rfl hok
 ·rw[if_neg (ne_of_beq_false h1)] at hS
  refine jss (p:=p) { S with used:=false } g rfl rfl (by decide) (by rfl) (by rfl) ?_
  refine jlp (λm vs R' D'=>R.le R'∧∃S1 g1,Ok R' S1 g1∧Sim.cloop m S1 = some S'∧D' = simD p S1 g1 ++ F∧vs = [.pointer (some ⟨p,0,none⟩)])
   (n:=n) ⟨RM.le.refl R,{ S with used:=false },g,{ hok with },hS,rfl,rfl⟩ ?_
  rintro m e R1 D1 K3 ⟨hR1,S1,g1,ok1,hdr,hD,he⟩ hK3
  rw[hD];clear hD
  simp only[List.map,lc,ln,lj,and_true] at he
  simp only[he]
  cases m with
  | zero=>cases hdr
  | succ m=>
  unfold Sim.cloop at hdr
  refine jan [.pointer (some ⟨p,0,none⟩)] ((!S1.used) && (!S1.stop)) (λK' hK'=>?_) (λe c u ho he=>?_)
  ·refine jl (v:=.bool S1.used) rfl (jgtt (λh1=>?_) (λh1=>?_))
   ·refine jl (v:=.bool S1.stop) rfl (hK' _ _ _ (h1▸and2_t) (by rw[h1,Bool.true_and]))
   ·exact hK' _ _ _ (h1▸and2_f) (by rw[h1,Bool.false_and])
  simp only[List.map,lc,ln,lj,and_true] at he
  simp only[he]
  rw[ho]
  refine jif (λhc=>?_) (λhc=>?_)
  ·rw[if_pos hc] at hdr
   obtain⟨S2,h2,hdr⟩:=bind_some hdr
   refine jcS (p:=p) (by exact t_work ok1 h2) λ_ R2 g2 hR2 _ ok2=>?_
   exact hK3 m _ _ _ (by omega) ⟨hR1.trans hR2,S2,g2,ok2,hdr,rfl,rfl⟩
  ·rw[if_neg (by rw[hc];decide)] at hdr
   simp only[Option.some.injEq] at hdr
   subst hdr
   exact jretS hR1 trivial rfl ok1
theorem t_pick {p:Nat} {S S' : Sim} {g:Img} {a:Int} {R:RM} (hok:Ok R S g) (ha:inR a) (hpz:∀R g S1,Ok R S g→S.pause S.fuel = some S1→Fn P F_Sim_pause [.pointer (some ⟨p,0,none⟩)] R (simD p S g) (SimQ p S1 λ_=>True)) (hS:S.pick a = some S') :
  Fn P F_Sim_pick [.pointer (some ⟨p,0,none⟩),I a] R (simD p S g) (SimQ p S' λ_=>True):=by
 refine s_Sim_pick λF=>?_
 unfold c_Sim_pick
 unfold Sim.pick at hS
 have hhl:=hok.hl
 refine jl (v:=.slice (some ⟨g.hb,0,none⟩) S.th.length g.hc) rfl (jln ?_)
 refine jan [.pointer (some ⟨p,0,none⟩),I a,I S.th.length] ((decide (a≥0)) && (decide (a < S.th.length))) (λK' hK'=>?_) (λe c u ho he=>?_)
 ·refine jge (jgtt (λh1=>?_) (λh1=>?_))
  ·refine jlt (hK' _ _ _ (h1▸and2_t) (by rw[h1,Bool.true_and]))
  ·exact hK' _ _ _ (h1▸and2_f) (by rw[h1,Bool.false_and])
 simp only[List.map,lc,ln,lj,and_true] at he
 simp only[he]
 rw[ho]
 refine jif (λhc=>?_) (λhc=>?_)
 ·simp only[Bool.and_eq_true,decide_eq_true_eq] at hc
  rw[if_pos ⟨by omega,by omega⟩] at hS
  refine jcS (p:=p) (by exact t_thread hok hS) λ_ R2 g2 hR2 _ ok2=>?_
  exact jretS hR2 trivial rfl ok2
 have hc:¬ (0≤a∧a < S.th.length):=by
  intro h
  simp[h.1,h.2] at hc
 rw[if_neg hc] at hS
 refine jeq (jif (λh1=>?_) (λh1=>?_))
 ·rw[if_pos (eq_of_beq h1)] at hS
  refine jcS (p:=p) (by exact t_collector hok hpz hS) λ_ R2 g2 hR2 _ ok2=>?_
  exact jretS hR2 trivial rfl ok2
 rw[if_neg (ne_of_beq_false h1)] at hS
 refine jadd ⟨by omega,by omega⟩ (jeq (jif (λh2=>?_) (λh2=>?_)))
 ·rw[if_pos (eq_of_beq h2)] at hS
  simp only[Option.some.injEq] at hS
  refine jss (p:=p) { S with col:={ S.col with asked:=true } } g rfl rfl (by decide) (by rfl) (by rfl) ?_
  subst hS
  exact jretS (RM.le.refl R) trivial rfl { hok with }
 ·rw[if_neg (ne_of_beq_false h2)] at hS
  simp only[Option.some.injEq] at hS
  subst hS
  exact jretS (RM.le.refl R) trivial rfl hok
end Go.Lf
end
section
namespace Go.Lf
open Go Sm
theorem jpg {R:RM} {D:Chs} {pv:Value} {progs:List (List Sm.Op)} {i:Nat} {k:Value→M} (hp:Progs R pv progs) (hi:i < progs.length) (H:∀x,Ops R x (progs[i])→J R D (k x)):J R D (IA 1 pv (I (i:Int)) λq=>L1 q k):=by
 obtain⟨vs,hf,hl,hall⟩:=hp
 obtain⟨x,hx,ho⟩:=hall i hi
 rcases hf with ⟨_,h2,_⟩ | ⟨b,o,cap,t,cs,rfl,h2,h3,h4,h5⟩
 ·omega
 ·refine jia (by omega) (by omega) ?_
  rw[Int.toNat_natCast,Nat.mul_one]
  exact jlr h2 (cell_of h4 hx) (H x ho)
theorem r_StoryOk {R:RM} {D:Chs} {c0:Cfg} {pv kv:Value} {progs:List (List Sm.Op)} {picks:List Int} (hp:Progs R pv progs) (hk:Ints R kv picks) :
  Ro F_s_StoryOk [.agg #[I c0.regions,I c0.threads,I c0.reserve],pv,kv] (.bool (storyOk c0 progs picks)) R D:=by
 refine s_s_StoryOk λF=>?_
 unfold c_s_StoryOk
 obtain⟨vs,hpf,-,-⟩:=id hp
 have hps:=hpf.sl
 refine ja λb=>?_
 rw[show cl (.agg #[I c0.regions,I c0.threads,I c0.reserve]) = [I c0.regions,I c0.threads,I c0.reserve] from rfl]
 refine jor [pv,kv] ((!configOk c0) || (((progs.length:Int) != c0.threads))) (λK' hK'=>?_) (λe c u ho he=>?_)
 ·refine jla (l:=[I c0.regions,I c0.threads,I c0.reserve]) (by simp) rfl (jp (p_ConfigOk c0) (jgtf (λh1=>?_) (λh1=>?_)))
  ·refine jln_ hps (jfo (jl (v:=I c0.threads) rfl (jne (hK' _ _ _ (h1▸or2_f) (by rw[h1,Bool.false_or])))))
  ·exact hK' _ _ _ (h1▸or2_t) (by rw[h1,Bool.true_or])
 simp only[List.map,lc,ln,lj,and_true] at he
 simp only[he]
 refine jor [pv] ((!configOk c0 || ((progs.length:Int) != c0.threads)) || (decide ((picks.length:Int) > 4000))) (λK' hK'=>?_) (λe c u ho he=>?_)
 ·rw[ho]
  refine jgtf (λh1=>?_) (λh1=>?_)
  ·refine jln_ hk.sl (jgr (hK' _ _ _ (h1▸or2_f) (by rw[h1,Bool.false_or])))
  ·exact hK' _ _ _ (h1▸or2_t) (by rw[h1,Bool.true_or])
 simp only[List.map,lc,ln,lj,and_true] at he
 simp only[he]
 rw[ho]
 refine jif (λh0=>?_) (λh0=>?_)
 ·refine ro_ret ?_
  have:storyOk c0 progs picks = false:=by
   unfold storyOk
   simp only[Bool.or_eq_true,Bool.not_eq_true',bne_iff_ne,ne_eq,decide_eq_true_eq] at h0
   rcases h0 with (h0 | h0) | h0
   ·rw[h0];simp
   ·rw[decide_eq_false h0];simp
   ·rw[decide_eq_false (show ¬ picks.length≤4000 by omega)];simp
  rw[this]
 have e0:storyOk c0 progs picks = progs.all λp=>decide (p.length≤40):=by
  simp only[Bool.or_eq_false_iff,Bool.not_eq_false',bne_eq_false_iff_eq,decide_eq_false_iff_not] at h0
  unfold storyOk
  rw[h0.1.1,decide_eq_true h0.1.2,decide_eq_true (show picks.length≤4000 by omega)]
  simp
 rw[e0]
 have hpl:progs.length≤3:=by
  simp only[Bool.or_eq_false_iff,Bool.not_eq_false',bne_eq_false_iff_eq,decide_eq_false_iff_not] at h0
  have h1:=h0.1.1
  unfold configOk at h1
  simp only[Bool.and_eq_true,decide_eq_true_eq] at h1
  omega
 refine jlp (λm vs R' D'=>R' = R∧D' = (b,C 92 [I c0.regions,I c0.threads,I c0.reserve]) :: (D ++ F)∧∃i:Nat,i≤progs.length∧vs = [pv,I i]∧m = progs.length - i∧(progs.drop i).all (λp=>decide (p.length≤40)) = progs.all λp=>decide (p.length≤40))
  (n:=progs.length) ⟨rfl,rfl,0,by omega,rfl,by omega,by rw[List.drop_zero]⟩ ?_
 rintro m e R1 D1 K ⟨hR1,hD,i,hi,he,hm,hall⟩ hK
 subst hR1
 rw[hD];clear hD
 simp only[List.map,lc,ln,lj,and_true] at he
 simp only[he]
 refine jln_ hps (jlt (jif (λhc=>?_) (λhc=>?_)))
 ·have hc:i < progs.length:=by have:=of_decide_eq_true hc;omega
  rw[List.drop_eq_getElem_cons hc,List.all_cons] at hall
  refine jpg hp hc λx hx=>jln_ (Fz.sl hx) (jgr (jif (λhq=>?_) (λhq=>?_)))
  ·refine ro_ret ?_
   have hq:=of_decide_eq_true hq
   rw[← hall,decide_eq_false (by omega),Bool.false_and]
  ·have hq:=of_decide_eq_false hq
   rw[decide_eq_true (by omega),Bool.true_and] at hall
   refine jadd ⟨by omega,by omega⟩ ?_
   exact hK (progs.length - (i + 1)) _ _ _ (by omega) ⟨rfl,rfl,i + 1,by omega,rfl,rfl,hall⟩
 ·have hc:=of_decide_eq_false hc
  refine ro_ret ?_
  rw[← hall,List.drop_eq_nil_of_le (by omega)]
  rfl
end Go.Lf
end
section
namespace Go.Lf
open Go Sm
theorem picks_snoc:∀(l:List Int) (a:Int) {S S1 S2:Sim},Sim.picks l S = some S1→S1.pick a = some S2→Sim.picks (l ++ [a]) S = some S2
 | [],a,S,S1,S2,h1,h2=>by
  unfold Sim.picks at h1
  cases h1
  show (S.pick a >>= λx=>Sim.picks [] x) = _
  rw[h2];rfl
 | b :: l,a,S,S1,S2,h1,h2=>by
  unfold Sim.picks at h1
  obtain⟨S3,h3,h1⟩:=bind_some h1
  show (S.pick b >>= λx=>Sim.picks (l ++ [a]) x) = _
  rw[h3]
  exact picks_snoc l a h1 h2
theorem t_StoryPlay {R:RM} {c0:Cfg} {pv kv:Value} {progs:List (List Sm.Op)} {picks:List Int} {S' : Sim} (hp:Progs R pv progs) (hk:Ints R kv picks) (hok:storyOk c0 progs picks = true) (ha:∀a∈picks,inR a)
  (hS:Sim.picks picks (Sm.start c0 progs) = some S') (hz:S'.sz = true)
  (hpz:∀i S,Sim.picks (picks.take i) (Sm.start c0 progs) = some S→∀p R g S1,Ok R S g→S.pause S.fuel = some S1→Fn P F_Sim_pause [.pointer (some ⟨p,0,none⟩)] R (simD p S g) (SimQ p S1 λ_=>True)) :
  Fn P F_s_StoryPlay [.agg #[I c0.regions,I c0.threads,I c0.reserve],pv,kv] R [] (λv R' A=>∃p g rows thv A',Ok R' S' g∧Rw (ThrC R') rows S'.view.threads∧SW 103 4 rows thv A'∧A = A' ++ simD p S' g∧
   v = .tuple #[.agg (eSt S'.view (wS S' g) (tS S' g) (mS S' g) thv g.old g.pins).toArray,evV S' g]):=by
 refine s_s_StoryPlay λF=>?_
 unfold c_s_StoryPlay
 have hcf:configOk c0 = true:=by
  unfold storyOk at hok
  simp only[Bool.and_eq_true] at hok
  exact hok.1.1.1
 have hpl:picks.length≤4000:=by
  unfold storyOk at hok
  simp only[Bool.and_eq_true,decide_eq_true_eq] at hok
  exact hok.1.2
 refine ja λb1=>?_
 rw[show cl (.agg #[I c0.regions,I c0.threads,I c0.reserve]) = [I c0.regions,I c0.threads,I c0.reserve] from rfl]
 refine ja λb2=>?_
 refine jla (l:=[I c0.regions,I c0.threads,I c0.reserve]) (by simp) rfl ?_
 refine jro (r_StoryOk hp hk) ?_
 rw[hok]
 refine jiff (jla (l:=[I c0.regions,I c0.threads,I c0.reserve]) (by simp) rfl ?_)
 refine jc (A:=[]) (t_l8Start hcf hp) ?_
 rintro _ R1 _ hR1 ⟨p,g,rfl,rfl,ok⟩
 refine jcutq (λvs R' D'=>R.le R'∧∃g1,Ok R' S' g1∧D' = simD p S' g1 ++ (b2,C T_State (cl z74)) :: F∧vs = [.pointer (some ⟨b2,0,none⟩),.pointer (some ⟨p,0,none⟩)]) (λK hK=>?_) ?_
 ·refine jcutq (λvs R' D'=>R.le R'∧∃g1,Ok R' S' g1∧D' = simD p S' g1 ++ (b2,C T_State (cl z74)) :: F∧vs = [.pointer (some ⟨b2,0,none⟩),.pointer (some ⟨p,0,none⟩)]) (λK2 hK2=>?_) ?_
  rotate_left
  ·rintro e R2 D2 ⟨hR,g1,ok1,hD,he⟩
   rw[hD];clear hD
   simp only[List.map,lc,ln,lj,and_true] at he
   simp only[he]
   exact hK _ _ _ ⟨hR,g1,ok1,rfl,rfl⟩
  refine jpart (simD p (Sm.start c0 progs) g) (G:=(b2,C T_State (cl z74)) :: (b1,C 92 [I c0.regions,I c0.threads,I c0.reserve]) :: ([] ++ F)) ?_
  refine jlp (λm vs R' D'=>R.le R'∧∃(i:Nat) (S1:Sim) (g1:Img),i≤picks.length∧Sim.picks (picks.take i) (Sm.start c0 progs) = some S1∧Sim.picks (picks.drop i) S1 = some S'∧Ok R' S1 g1∧D' = simD p S1 g1 ++ (b2,C T_State (cl z74)) :: (b1,C 92 [I c0.regions,I c0.threads,I c0.reserve]) :: ([] ++ F)∧vs = [kv,.pointer (some ⟨b2,0,none⟩),.pointer (some ⟨p,0,none⟩),I i]∧m = picks.length - i)
   (n:=picks.length) ⟨hR1,0,Sm.start c0 progs,g,by omega,rfl,by rw[List.drop_zero];exact hS,ok,rfl,rfl,by omega⟩ ?_
  rintro m e R2 D2 K3 ⟨hR,i,S1,g1,hi,hpk,hrest,ok1,hD,he,hm⟩ hK3
  rw[hD];clear hD
  simp only[List.map,lc,ln,lj,and_true] at he
  simp only[he]
  have hk2:=hk.le hR
  refine jln_ hk2.sl (jlt (jif (λhc=>?_) (λhc=>?_)))
  rotate_left
  ·have hc:=of_decide_eq_false hc
   rw[List.drop_eq_nil_of_le (by omega)] at hrest
   unfold Sim.picks at hrest
   cases hrest
   refine jperm (D':=(b1,C 92 [I c0.regions,I c0.threads,I c0.reserve]) :: (simD p S' g1 ++ (b2,C T_State (cl z74)) :: F)) ?_ (jdrop ?_)
   ·rw[ln]
    exact ((List.Perm.swap _ _ _).append_left _).trans List.perm_middle
   exact hK2 _ _ _ ⟨hR,g1,ok1,rfl,rfl⟩
  have hc:i < picks.length:=by have:=of_decide_eq_true hc;omega
  rw[List.drop_eq_getElem_cons hc] at hrest
  unfold Sim.picks at hrest
  obtain⟨S2,h2,hrest⟩:=bind_some hrest
  refine jfz1 hk2 (by omega) (by omega) ?_
  rw[getElem_congr_idx (Int.toNat_natCast i)]
  refine jcS (p:=p) (by exact t_pick ok1 (ha _ (List.getElem_mem hc)) (hpz i S1 hpk p) h2) λ_ R3 g3 hR3 _ ok3=>?_
  refine jadd ⟨by omega,by omega⟩ ?_
  refine hK3 (picks.length - (i + 1)) _ _ _ (by omega) ⟨hR.trans hR3,i + 1,S2,g3,by omega,?_,hrest,ok3,rfl,rfl,rfl⟩
  rw[List.take_succ_eq_append_getElem hc]
  exact picks_snoc _ _ hpk h2
 rintro e R2 D2 ⟨hR,g1,ok1,hD,he⟩
 rw[hD];clear hD
 simp only[List.map,lc,ln,lj,and_true] at he
 simp only[he]
 refine jl (v:=evV S' g1) rfl ?_
 refine jc (A:=simD p S' g1) (t_view_ ok1 hz) ?_
 rintro _ R3 _ hR3 ⟨rows,thv,A',hrw,so,rfl,rfl⟩
 obtain⟨ta,tc,htv⟩:=so.sl
 have hfl:flat thv = true:=by rw[htv];rfl
 have el:eSt S'.view (wS S' g1) (tS S' g1) (mS S' g1) thv g1.old g1.pins = eVw S' g1 (.bool S'.col.asked) (I S'.col.want) thv:=rfl
 rw[el,List.append_assoc]
 refine jand (jl (v:=evV S' g1) rfl jev) ?_
 refine js (cs':=eVw S' g1 (.bool S'.col.asked) (I S'.col.want) thv) rfl (eVw_flat ok1 rfl rfl hfl) (by exact Nat.le_refl 13) rfl ?_
 refine jand (jl (v:=evV S' g1) rfl jev) ?_
 refine jla (l:=eVw S' g1 (.bool S'.col.asked) (I S'.col.want) thv) (by exact Nat.le_refl 13) rfl ?_
 refine jperm (D':=(A' ++ simD p S' g1) ++ ((b2,C T_State (eVw S' g1 (.bool S'.col.asked) (I S'.col.want) thv)) :: F)) (by rw[List.append_assoc]) ?_
 exact jret (A:=A' ++ simD p S' g1) (hR.trans hR3) ⟨p,g1,rows,thv,A',ok1.le hR3,hrw,so,rfl,rfl⟩
end Go.Lf
end
section
namespace Go.Lf
open Go Sm
def l7d (e24:Env) (K:Value→M):M:=
 CUT [2,19] (λJe25=>CUT [2,19] (λJe28=>LP [1,2,3,5,9,19,20] (λKe29 e29=>FO 8 (e29 1) λx30=>L1 x30 λx31=>LN x31 λx32=>BO .lss (e29 20) x32 λx33=>IF x33 (FO 8 (e29 1) λx34=>L1 x34 λx35=>IA 4 x35 (e29 20) λx36=>FO 1 x36 λx37=>L1 x37 λx38=>FO 8 (e29 1) λx39=>L1 x39 λx40=>IA 4 x40 (e29 20) λx41=>FO 3 x41 λx42=>L1 x42 λx43=>BD (cl z103) [(1,1,x38),(3,1,x43)] λx44=>AL 103 z103 λx45=>AND (L1 x34 λx46=>EV x46 x35)<|AND (L1 x37 λx47=>EV x47 x38)<|AND (L1 x39 λx48=>EV x48 x40)<|AND (L1 x42 λx49=>EV x49 x43)<|ST 4 x45 x44<|CUT [1,2,3,5,9,19,20,21] (λJe50=>FO 3 x45 λx94=>L1 x94 λx95=>BO .eql x95 (I 1) λx96=>IF x96 (FO 3 x45 λx97=>ST 1 x97 (I 2)<|Je50 [(e29 1),(e29 2),(e29 3),(e29 5),(e29 9),(e29 19),(e29 20),x45]) (Je50 [(e29 1),(e29 2),(e29 3),(e29 5),(e29 9),(e29 19),(e29 20),x45])) λe50=>CUT [1,2,3,5,9,19,20,21] (λJe51=>CUT [1,2,3,5,9,19,20,21] (λJe59=>LP [1,2,3,5,9,19,20,21,22] (λKe60 e60=>FO 8 (e60 1) λx61=>L1 x61 λx62=>IA 4 x62 (e60 20) λx63=>FO 0 x63 λx64=>L1 x64 λx65=>LN x65 λx66=>BO .lss (e60 22) x66 λx67=>IF x67 (CUT [1,2,3,5,9,19,20,21,22] (λJe68=>CUT [1,2,3,5,9,19,20,21,22] (λJe70=>FO 8 (e60 1) λx71=>L1 x71 λx72=>IA 4 x72 (e60 20) λx73=>FO 0 x73 λx74=>L1 x74 λx75=>IA 1 x75 (e60 22) λx76=>L1 x76 λx77=>CA P 136 [(e60 3),x77] λx78=>CA P 135 [(e60 5),x78] λx79=>BO .lss x79 (I 0) λx80=>IF x80 (FO 0 (e60 21) λx81=>L1 x81 λx82=>BS 3 1 (ZR 1 z3) [(0,1,(I 0))] λx83=>AP 3 1 8 (cl z3) x82 x83 λx84=>FO 0 (e60 21) λx85=>ST 1 x85 x84<|Je70 [(e60 1),(e60 2),(e60 3),(e60 5),(e60 9),(e60 19),(e60 20),(e60 21),(e60 22)]) (FO 0 (e60 21) λx86=>L1 x86 λx87=>IA 1 (e60 9) x79 λx88=>L1 x88 λx89=>BS 3 1 (ZR 1 z3) [(0,1,x89)] λx90=>AND (L1 x86 λx91=>EV x91 x87)<|AP 3 1 8 (cl z3) x87 x90 λx92=>FO 0 (e60 21) λx93=>ST 1 x93 x92<|Je70 [(e60 1),(e60 2),(e60 3),(e60 5),(e60 9),(e60 19),(e60 20),(e60 21),(e60 22)])) λe70=>Je68 [(e70 1),(e70 2),(e70 3),(e70 5),(e70 9),(e70 19),(e70 20),(e70 21),(e70 22)]) λe68=>BO .add (e68 22) (I 1) λx69=>Ke60 [(e68 1),(e68 2),(e68 3),(e68 5),(e68 9),(e68 19),(e68 20),(e68 21),x69]) (Je59 [(e60 1),(e60 2),(e60 3),(e60 5),(e60 9),(e60 19),(e60 20),(e60 21)])) [(e50 1),(e50 2),(e50 3),(e50 5),(e50 9),(e50 19),(e50 20),(e50 21),(I 0)]) λe59=>Je51 [(e59 1),(e59 2),(e59 3),(e59 5),(e59 9),(e59 19),(e59 20),(e59 21)]) λe51=>FO 8 (e51 19) λx52=>L1 x52 λx53=>LA 4 (e51 21) λx54=>BS 103 1 (ZR 1 z103) [(0,4,x54)] λx55=>AP 103 4 48 (cl z103) x53 x55 λx56=>FO 8 (e51 19) λx57=>ST 1 x57 x56<|BO .add (e51 20) (I 1) λx58=>Ke29 [(e51 1),(e51 2),(e51 3),(e51 5),(e51 9),(e51 19),x58]) (Je28 [(e29 2),(e29 19)])) [(e24 1),(e24 2),(e24 3),(e24 5),(e24 9),(e24 19),(I 0)]) λe28=>Je25 [(e28 2),(e28 19)]) λe25=>LA 13 (e25 19) λx26=>ST 13 (e25 2) x26<|LA 13 (e25 2) λx27=>K x27
theorem newTh_cons {l:List Thing} {live to_:List Int} {t:Th} {r ths:List Th} (h:newThs l live to_ (t :: r) = some ths):∃roots rest,newRoots l live to_ t.roots = some roots∧newThs l live to_ r = some rest∧ths = ⟨roots,t.next,false,if t.tried = 1 then 2 else t.tried⟩ :: rest:=by
 unfold newThs at h
 obtain⟨roots,h1,h⟩:=bind_some h
 obtain⟨rest,h2,h⟩:=bind_some h
 simp only[Option.some.injEq] at h
 exact⟨roots,rest,h1,h2,h.symm⟩
theorem newRoot_cons {l:List Thing} {live to_:List Int} {a:Int} {r out:List Int} (h:newRoots l live to_ (a :: r) = some out):∃z b rest,now l a = some z∧(if placeOf live z < 0 then some 0 else idx to_ (placeOf live z)) = some b∧newRoots l live to_ r = some rest∧out = b :: rest:=by
 unfold newRoots at h
 obtain⟨z,h1,h⟩:=bind_some h
 obtain⟨b,h2,h⟩:=bind_some h
 obtain⟨rest,h3,h⟩:=bind_some h
 simp only[Option.some.injEq] at h
 exact⟨z,b,rest,h1,h2,h3,h.symm⟩
theorem l7d_ok {R:RM} {E:Chs} {s s' : Sm.State} {wv tv mv thv ov pv lv v9 v w t m pv' : Value} {l:List Thing} {live to_:List Int} {ths:List Th} {b1 b2 b19:Nat} {e:Env} {K:Value→M}
  (h:StC R s wv tv mv thv ov pv) (hlv:Tgs R lv l) (hll:l.length < 1000000) (hlive:Ints R v9 live) (hlvl:live.length < 1000000) (hto:Ints R v to_) (hths:newThs l live to_ s.threads = some ths) (hn:s.threads.length < 1000000) (hrl:∀t∈s.threads,t.roots.length < 1000000)
  (ea1:At E b1 (C T_State (eSt s wv tv mv thv ov pv))) (he:[e 1,e 2,e 3,e 5,e 9,e 19] = [.pointer (some ⟨b1,0,none⟩),.pointer (some ⟨b2,0,none⟩),lv,v9,v,.pointer (some ⟨b19,0,none⟩)])
  (hf:∀x,flat x = true→allFlat (eSt s' w t m x (.slice none 0 0) pv') = true)
  (H:∀R' x,R.le R'→Ths R' x ths→J R' ((b19,C T_State (eSt s' w t m x (.slice none 0 0) pv')) :: (b2,C T_State (eSt s' w t m x (.slice none 0 0) pv')) :: E) (K (.agg (eSt s' w t m x (.slice none 0 0) pv').toArray))) :
  J R ((b19,C T_State (eSt s' w t m (.slice none 0 0) (.slice none 0 0) pv')) :: (b2,C T_State (cl z74)) :: E) (l7d e K):=by
 unfold l7d
 simp only[lj,and_true] at he
 simp only[he]
 refine jcutq (λvs R' D'=>R.le R'∧∃rows x A,Rw (ThrC R') rows ths∧SW 103 4 rows x A∧D' = A ++ (b19,C T_State (eSt s' w t m x (.slice none 0 0) pv')) :: (b2,C T_State (cl z74)) :: E∧vs = [.pointer (some ⟨b2,0,none⟩),.pointer (some ⟨b19,0,none⟩)]) (λK1 hK1=>?_) ?_
 rotate_left
 ·rintro e R1 D1 ⟨hR,rows,x,A,hrw,so,hD,he⟩
  rw[hD];clear hD
  simp only[List.map,lc,ln,lj,and_true] at he
  simp only[he]
  obtain⟨sa,sc,hsl⟩:=so.sl
  subst hsl
  refine jfw so (hrw.all λ_ _=>ThrC.len) λR3 hR3 hfz=>?_
  refine jla (l:=eSt s' w t m (.slice sa rows.length sc) (.slice none 0 0) pv') (by exact Nat.le_refl 13) rfl ?_
  refine js (cs':=eSt s' w t m (.slice sa rows.length sc) (.slice none 0 0) pv') rfl (hf _ rfl) (by exact Nat.le_refl 13) rfl ?_
  refine jla (l:=eSt s' w t m (.slice sa rows.length sc) (.slice none 0 0) pv') (by exact Nat.le_refl 13) rfl ?_
  exact H R3 _ (hR.trans hR3) ⟨rows,hrw.mono λ_ _=>ThrC.le hR3,hfz⟩
 refine jcutq (λvs R' D'=>R.le R'∧∃rows x A,Rw (ThrC R') rows ths∧SW 103 4 rows x A∧D' = A ++ (b19,C T_State (eSt s' w t m x (.slice none 0 0) pv')) :: (b2,C T_State (cl z74)) :: E∧vs = [.pointer (some ⟨b2,0,none⟩),.pointer (some ⟨b19,0,none⟩)]) (λK2 hK2=>?_) ?_
 rotate_left
 ·rintro e R1 D1 ⟨hR,rows,x,A,hrw,so,hD,he⟩
  rw[hD];clear hD
  simp only[List.map,lc,ln,lj,and_true] at he
  simp only[he]
  exact hK1 _ _ _ ⟨hR,rows,x,A,hrw,so,rfl,rfl⟩
 refine jlp (λmm vs R' D'=>R.le R'∧∃(i:Nat) (done rest:List Th) (rows:List (List Value)) (x:Value) (A:Chs),i≤s.threads.length∧newThs l live to_ (s.threads.drop i) = some rest∧ths = done ++ rest∧done.length = i∧Rw (ThrC R') rows done∧SW 103 4 rows x A∧D' = A ++ (b19,C T_State (eSt s' w t m x (.slice none 0 0) pv')) :: (b2,C T_State (cl z74)) :: E∧vs = [.pointer (some ⟨b1,0,none⟩),.pointer (some ⟨b2,0,none⟩),lv,v9,v,.pointer (some ⟨b19,0,none⟩),I i]∧mm = s.threads.length - i)
  (n:=s.threads.length) ⟨RM.le.refl R,0,[],ths,[],.slice none 0 0,[],by omega,hths,rfl,rfl,Rw.nil,.inl ⟨rfl,rfl,rfl⟩,rfl,rfl,by omega⟩ ?_
 rintro mm e R1 D1 K3 ⟨hR,i,done,rest,rows,x,A,hi,hnt,hdr,hdl,hrw,so,hD,he,hm⟩ hK3
 rw[hD];clear hD
 simp only[List.map,lc,ln,lj,and_true] at he
 simp only[he]
 have h1:=h.le hR
 have hlv1:=hlv.le hR
 have hlive1:=hlive.le hR
 have hto1:=hto.le hR
 refine jl (v:=thv) rfl (jln_ h1.th.sl (jlt (jif (λhc=>?_) (λhc=>?_))))
 rotate_left
 ·have hc:=of_decide_eq_false hc
  rw[List.drop_eq_nil_of_le (by omega)] at hnt
  have:rest = []:=by unfold newThs at hnt;simpa using hnt.symm
  subst this
  rw[List.append_nil] at hdr
  subst hdr
  exact hK2 _ _ _ ⟨hR,rows,x,A,hrw,so,rfl,rfl⟩
 have hc:i < s.threads.length:=by have:=of_decide_eq_true hc;omega
 rw[List.drop_eq_getElem_cons hc] at hnt
 obtain⟨roots,rest2,hroots,hrest2,rfl⟩:=newTh_cons hnt
 have hri:=hrl _ (List.getElem_mem hc)
 refine jl (v:=thv) rfl (jtr h1.th hc λb3 o3 ty cs rv hrv hb3 ho3 hrow3=>?_)
 refine jfo (jlr (v:=I (s.threads[i]).next) hb3 (cell_of hrow3 (f:=1) rfl) ?_)
 refine jl (v:=thv) rfl (jtr h1.th hc λb4 o4 ty4 cs4 rv4 hrv4 hb4 ho4 hrow4=>?_)
 refine jfo (jlr (v:=I (s.threads[i]).tried) hb4 (cell_of hrow4 (f:=3) rfl) ?_)
 refine jbd (cs:=[.slice none 0 0,I (s.threads[i]).next,.bool false,I (s.threads[i]).tried]) rfl rfl ?_
 refine ja λb21=>?_
 refine jand (jl (v:=thv) rfl jev) (jand (jlr (v:=I (s.threads[i]).next) hb3 (cell_of hrow3 (f:=1) rfl) jev) (jand (jl (v:=thv) rfl jev) (jand (jlr (v:=I (s.threads[i]).tried) hb4 (cell_of hrow4 (f:=3) rfl) jev) ?_)))
 refine js (cs':=[.slice none 0 0,I (s.threads[i]).next,.bool false,I (s.threads[i]).tried]) rfl rfl (by exact Nat.le_refl 4) rfl ?_
 generalize htr:(if (s.threads[i]).tried = 1 then 2 else (s.threads[i]).tried) = tr at hrw hdr
 refine jcutq (λvs R' D'=>R' = R1∧D' = [] ++ (b21,C 103 [.slice none 0 0,I (s.threads[i]).next,.bool false,I tr]) :: (A ++ (b19,C T_State (eSt s' w t m x (.slice none 0 0) pv')) :: (b2,C T_State (cl z74)) :: E)∧vs = [.pointer (some ⟨b1,0,none⟩),.pointer (some ⟨b2,0,none⟩),lv,v9,v,.pointer (some ⟨b19,0,none⟩),I i,.pointer (some ⟨b21,0,none⟩)]) (λK4 hK4=>?_) ?_
 ·refine jfo (jl (v:=I (s.threads[i]).tried) rfl (jeq (jif (λh3=>?_) (λh3=>?_))))
  ·refine jfo (js (cs':=[.slice none 0 0,I (s.threads[i]).next,.bool false,I 2]) rfl rfl (by simp) rfl ?_)
   refine hK4 _ _ _ ⟨rfl,?_,rfl⟩
   rw[← htr,if_pos (eq_of_beq h3)];rfl
  ·refine hK4 _ _ _ ⟨rfl,?_,rfl⟩
   rw[← htr,if_neg (ne_of_beq_false h3)];rfl
 rintro e Rx D1 ⟨hRx,hD,he⟩
 subst hRx
 rw[hD];clear hD
 simp only[List.map,lc,ln,lj,and_true] at he
 simp only[he]
 refine jcutq (λvs R' D'=>R' = Rx∧∃rv A2,SO roots rv A2∧D' = A2 ++ (b21,C 103 [rv,I (s.threads[i]).next,.bool false,I tr]) :: (A ++ (b19,C T_State (eSt s' w t m x (.slice none 0 0) pv')) :: (b2,C T_State (cl z74)) :: E)∧vs = [.pointer (some ⟨b1,0,none⟩),.pointer (some ⟨b2,0,none⟩),lv,v9,v,.pointer (some ⟨b19,0,none⟩),I i,.pointer (some ⟨b21,0,none⟩)]) (λK5 hK5=>?_) ?_
 ·refine jcutq (λvs R' D'=>R' = Rx∧∃rv A2,SO roots rv A2∧D' = A2 ++ (b21,C 103 [rv,I (s.threads[i]).next,.bool false,I tr]) :: (A ++ (b19,C T_State (eSt s' w t m x (.slice none 0 0) pv')) :: (b2,C T_State (cl z74)) :: E)∧vs = [.pointer (some ⟨b1,0,none⟩),.pointer (some ⟨b2,0,none⟩),lv,v9,v,.pointer (some ⟨b19,0,none⟩),I i,.pointer (some ⟨b21,0,none⟩)]) (λK6 hK6=>?_) ?_
  rotate_left
  ·rintro e R2 D2 ⟨hR2,rv,A2,so2,hD,he⟩
   rw[hD];clear hD
   simp only[List.map,lc,ln,lj,and_true] at he
   simp only[he]
   exact hK5 _ _ _ ⟨hR2,rv,A2,so2,rfl,rfl⟩
  refine jlp (λmm vs R' D'=>R' = Rx∧∃(j:Nat) (done2 rest3:List Int) (rv:Value) (A2:Chs),j≤(s.threads[i]).roots.length∧newRoots l live to_ ((s.threads[i]).roots.drop j) = some rest3∧roots = done2 ++ rest3∧done2.length = j∧SO done2 rv A2∧D' = A2 ++ (b21,C 103 [rv,I (s.threads[i]).next,.bool false,I tr]) :: (A ++ (b19,C T_State (eSt s' w t m x (.slice none 0 0) pv')) :: (b2,C T_State (cl z74)) :: E)∧vs = [.pointer (some ⟨b1,0,none⟩),.pointer (some ⟨b2,0,none⟩),lv,v9,v,.pointer (some ⟨b19,0,none⟩),I i,.pointer (some ⟨b21,0,none⟩),I j]∧mm = (s.threads[i]).roots.length - j)
   (n:=(s.threads[i]).roots.length) ⟨rfl,0,[],roots,.slice none 0 0,[],by omega,hroots,rfl,rfl,.inl ⟨rfl,rfl,rfl⟩,rfl,rfl,by omega⟩ ?_
  rintro m5 e Ry D5 K7 ⟨hRy,j,done2,rest3,rv,A2,hj,hnr,hrr,hd2,so2,hD,he,hm5⟩ hK7
  subst hRy
  rw[hD];clear hD
  simp only[List.map,lc,ln,lj,and_true] at he
  simp only[he]
  refine jl (v:=thv) rfl (jtr h1.th hc λb5 o5 ty5 cs5 rv5 hrv5 hb5 ho5 hrow5=>?_)
  refine jfo (jlr (v:=rv5) hb5 (cell_of hrow5 (f:=0) rfl) (jln_ hrv5.sl (jlt (jif (λhd=>?_) (λhd=>?_)))))
  rotate_left
  ·have hd:=of_decide_eq_false hd
   rw[List.drop_eq_nil_of_le (by omega)] at hnr
   have:rest3 = []:=by unfold newRoots at hnr;simpa using hnr.symm
   subst this
   rw[List.append_nil] at hrr
   subst hrr
   exact hK6 _ _ _ ⟨rfl,rv,A2,so2,rfl,rfl⟩
  have hd:j < (s.threads[i]).roots.length:=by have:=of_decide_eq_true hd;omega
  rw[List.drop_eq_getElem_cons hd] at hnr
  obtain⟨z,bz,rest4,hz,hbz,hrest4,rfl⟩:=newRoot_cons hnr
  refine jcutq (λvs R' D'=>R' = Ry∧∃rv A2,SO (done2 ++ [bz]) rv A2∧D' = A2 ++ (b21,C 103 [rv,I (s.threads[i]).next,.bool false,I tr]) :: (A ++ (b19,C T_State (eSt s' w t m x (.slice none 0 0) pv')) :: (b2,C T_State (cl z74)) :: E)∧vs = [.pointer (some ⟨b1,0,none⟩),.pointer (some ⟨b2,0,none⟩),lv,v9,v,.pointer (some ⟨b19,0,none⟩),I i,.pointer (some ⟨b21,0,none⟩),I j]) (λK8 hK8=>?_) ?_
  rotate_left
  ·rintro e R2 D2 ⟨hR2,rv,A2,so2,hD,he⟩
   subst hR2
   rw[hD];clear hD
   simp only[List.map,lc,ln,lj,and_true] at he
   simp only[he]
   refine jadd ⟨by omega,by omega⟩ ?_
   exact hK7 ((s.threads[i]).roots.length - (j + 1)) _ _ _ (by omega) ⟨rfl,j + 1,done2 ++ [bz],rest4,rv,A2,by omega,hrest4,by rw[hrr];simp,by rw[List.length_append,hd2];rfl,so2,rfl,rfl,rfl⟩
  refine jcutq (λvs R' D'=>R' = Ry∧∃rv A2,SO (done2 ++ [bz]) rv A2∧D' = A2 ++ (b21,C 103 [rv,I (s.threads[i]).next,.bool false,I tr]) :: (A ++ (b19,C T_State (eSt s' w t m x (.slice none 0 0) pv')) :: (b2,C T_State (cl z74)) :: E)∧vs = [.pointer (some ⟨b1,0,none⟩),.pointer (some ⟨b2,0,none⟩),lv,v9,v,.pointer (some ⟨b19,0,none⟩),I i,.pointer (some ⟨b21,0,none⟩),I j]) (λK9 hK9=>?_) ?_
  rotate_left
  ·rintro e R2 D2 ⟨hR2,rv,A2,so2,hD,he⟩
   rw[hD];clear hD
   simp only[List.map,lc,ln,lj,and_true] at he
   simp only[he]
   exact hK8 _ _ _ ⟨hR2,rv,A2,so2,rfl,rfl⟩
  obtain⟨sa,sn,sc,rfl⟩:=so2.sl
  refine jl (v:=thv) rfl (jtr h1.th hc λb6 o6 ty6 cs6 rv6 hrv6 hb6 ho6 hrow6=>?_)
  refine jfo (jlr (v:=rv6) hb6 (cell_of hrow6 (f:=0) rfl) (jfz1 hrv6 (by omega) (by omega) ?_))
  rw[getElem_congr_idx (Int.toNat_natCast j)]
  refine jro (r_l6Now hlv1 (by omega) hz) (jro (r_place z (Ints.rd hlive1) (by omega)) (jlt (jif (λh0=>?_) (λh0=>?_))))
  ·rw[if_pos (of_decide_eq_true h0)] at hbz
   simp only[Option.some.injEq] at hbz
   subst hbz
   refine jfo (jl (v:=.slice sa sn sc) rfl ?_)
   refine jbs (cs:=[I 0]) rfl rfl λb7=>?_
   refine jas1 (A:=A2) so2 (by omega) λv' A' so'=>?_
   obtain⟨sa',sn',sc',rfl⟩:=so'.sl
   refine jfo (js (cs':=[.slice sa' sn' sc',I (s.threads[i]).next,.bool false,I tr]) rfl rfl (by simp) rfl ?_)
   exact hK9 _ _ _ ⟨rfl,_,A',so',rfl,rfl⟩
  ·rw[if_neg (of_decide_eq_false h0)] at hbz
   obtain⟨y0,y1,y2,y3⟩:=idx_some hbz
   refine jfo (jl (v:=.slice sa sn sc) rfl (jfz1 hto1 y0 y1 ?_))
   rw[y3]
   refine jbs (cs:=[I bz]) rfl rfl λb7=>?_
   refine jand (jl (v:=.slice sa sn sc) rfl jev) ?_
   refine jas1 (A:=A2) so2 (by omega) λv' A' so'=>?_
   obtain⟨sa',sn',sc',rfl⟩:=so'.sl
   refine jfo (js (cs':=[.slice sa' sn' sc',I (s.threads[i]).next,.bool false,I tr]) rfl rfl (by simp) rfl ?_)
   exact hK9 _ _ _ ⟨rfl,_,A',so',rfl,rfl⟩
 rintro e R2 D2 ⟨hR2,rv2,A2,so2,hD,he⟩
 subst hR2
 rw[hD];clear hD
 simp only[List.map,lc,ln,lj,and_true] at he
 simp only[he]
 refine jfso so2 λR3 hR3 hint=>?_
 obtain⟨ua,uc,rfl⟩:=hint.sl
 obtain⟨sa,sc,hsl⟩:=so.sl
 subst hsl
 refine jfo (jl (v:=(.slice sa rows.length sc)) rfl ?_)
 refine jla (l:=[.slice ua roots.length uc,I (s.threads[i]).next,.bool false,I tr]) (by exact Nat.le_refl 4) rfl ?_
 refine jbs (cs:=[.slice ua roots.length uc,I (s.threads[i]).next,.bool false,I tr]) rfl rfl λb9=>?_
 refine jpart A (G:=(b9,C 103 [.slice ua roots.length uc,I (s.threads[i]).next,.bool false,I tr]) :: (b21,C 103 [.slice ua roots.length uc,I (s.threads[i]).next,.bool false,I tr]) :: ((b19,C T_State (eSt s' w t m (.slice sa rows.length sc) (.slice none 0 0) pv')) :: (b2,C T_State (cl z74)) :: E)) ?_
 have hx:Reads R3 (A ++ ((b9,C 103 [.slice ua roots.length uc,I (s.threads[i]).next,.bool false,I tr]) :: (b21,C 103 [.slice ua roots.length uc,I (s.threads[i]).next,.bool false,I tr]) :: ((b19,C T_State (eSt s' w t m (.slice sa rows.length sc) (.slice none 0 0) pv')) :: (b2,C T_State (cl z74)) :: E))) (some ⟨b9,0,none⟩) (1 * 4) [[.slice ua roots.length uc,I (s.threads[i]).next,.bool false,I tr]].flatten:=Reads.held (t:=103) (cs:=[.slice ua roots.length uc,I (s.threads[i]).next,.bool false,I tr]) (o:=0) (n:=1 * 4) (Nat.le_refl 4)
 have hrl:=hrw.1
 refine jaw so (hrw.all λ_ _=>ThrC.len) (by intro r hr;rw[List.mem_singleton.1 hr];rfl) rfl rfl rfl (by decide) (by rw[List.length_singleton];omega) hx λv' A' so'=>?_
 obtain⟨sa',sc',hsl'⟩:=so'.sl
 subst hsl'
 refine jfo (js (cs':=eSt s' w t m (.slice sa' (rows ++ [[.slice ua roots.length uc,I (s.threads[i]).next,.bool false,I tr]]).length sc') (.slice none 0 0) pv') rfl rfl (by simp[eSt]) rfl ?_)
 refine jadd ⟨by omega,by omega⟩ ?_
 refine jpart A' (G:=(b19,C T_State (eSt s' w t m (.slice sa' (rows ++ [[.slice ua roots.length uc,I (s.threads[i]).next,.bool false,I tr]]).length sc') (.slice none 0 0) pv')) :: (b2,C T_State (cl z74)) :: E) ?_
 exact hK3 (s.threads.length - (i + 1)) _ _ _ (by omega) ⟨hR.trans hR3,i + 1,done ++ [⟨roots,(s.threads[i]).next,false,tr⟩],rest2,_,_,A',by omega,hrest2,by rw[hdr];simp,by rw[List.length_append,hdl];rfl,(hrw.mono λ_ _=>ThrC.le hR3).app (Rw.one ⟨_,rfl,hint⟩),so',rfl,rfl,rfl⟩
end Go.Lf
end
section
namespace Go.Lf
open Go Sm
set_option maxHeartbeats 4000000 in
theorem t_l7Full {R:RM} {s s' : Sm.State} {wv tv mv thv ov pv:Value} (h:StC R s wv tv mv thv ov pv) (hw:s.words.length≤1000) (ht0:2≤s.table.length) (ht1:s.table.length≤12) (hth:s.threads.length < 1000000) (hrl:∀t∈s.threads,t.roots.length < 1000000)
  (hpl:s.pins.length < 1000000) (hp:∀a∈s.pins,regionOf a≤9223372036854775807) (hS:fullS s = some s') :
  Fn P F_s_l7Full [.agg (eSt s wv tv mv thv ov pv).toArray] R [] (λv R' A=>∃bw wsp cw bt tsp ct bm thv' pv',s'.words.length = s.words.length∧s'.table.length = s.table.length∧s'.marks.length = s.words.length∧s'.words.length≤cw∧s'.table.length≤ct∧Ths R' thv' s'.threads∧Ints R' pv' s'.pins∧
   A = [(bw,C T_int (s'.words.map I ++ wsp)),(bt,C T_Region (rowsE eRg s'.table ++ tsp)),(bm,C T_bool (s'.marks.map Value.bool))]∧
   v = .agg (eSt s' (.slice (some ⟨bw,0,none⟩) s'.words.length cw) (.slice (some ⟨bt,0,none⟩) s'.table.length ct) (.slice (some ⟨bm,0,none⟩) s'.marks.length s'.marks.length) thv' (.slice none 0 0) pv').toArray):=by
 refine s_s_l7Full λF=>?_
 unfold c_s_l7Full
 unfold fullS at hS
 obtain⟨live0,hreach,hS⟩:=bind_some hS
 obtain⟨⟨w1,t1⟩,hstay,hS⟩:=bind_some hS
 obtain⟨⟨t2,to_⟩,hslide,hS⟩:=bind_some hS
 obtain⟨w2,hmove,hS⟩:=bind_some hS
 obtain⟨ths,hths,hS⟩:=bind_some hS
 obtain⟨fulls,hful,hS⟩:=bind_some hS
 simp only[Option.some.injEq] at hS
 refine ja λb1=>?_
 rw[show cl (.agg (eSt s wv tv mv thv ov pv).toArray) = eSt s wv tv mv thv ov pv from rfl]
 refine ja λb2=>?_
 refine jla (l:=eSt s wv tv mv thv ov pv) (by exact Nat.le_refl 13) rfl ?_
 refine jc (A:=[]) (t_l6Things h (by omega) (by omega)) ?_
 rintro v R1 _ hR1 ⟨rfl,hq⟩
 have hl0:∃lv ok,v = .tuple #[lv,.bool ok]∧Tgs R1 lv ((stThings s).getD []):=by
  cases hst:stThings s with
  | none=>rw[hst] at hq;exact⟨_,_,hq,[],Rw.nil,.inl ⟨rfl,rfl,rfl⟩⟩
  | some l=>rw[hst] at hq;obtain⟨lv,h1,h2⟩:=hq;exact⟨lv,true,h2,h1⟩
 have htb:TB ((stThings s).getD [])∧((stThings s).getD []).length≤16 * s.table.length:=by
  cases hst:stThings s with
  | none=>exact⟨λt ht=>(by cases ht),by simp⟩
  | some l=>
   unfold stThings at hst
   have:=all_tb (by omega) hst
   rw[List.length_tail] at this
   exact⟨this.1,by simp;omega⟩
 generalize (stThings s).getD [] = l at hl0 htb hreach hstay hslide hmove hths
 obtain⟨lv,okb,rfl,hlv⟩:=hl0
 obtain⟨htb,hll⟩:=htb
 have hlen0:=reached_len hreach
 refine jex rfl (jex rfl ?_)
 refine jla (l:=eSt s wv tv mv thv ov pv) (by exact Nat.le_refl 13) rfl ?_
 have h1:=h.le hR1
 refine jc (A:=[]) (t_l7Reached h1 hlv (by omega) hreach hth (λt ht=>by have:=hrl t ht;omega) hpl (λt ht=>by have:=(htb t ht).2.2.1;omega)) ?_
 rintro v8 R2 A8 hR2 so8
 refine jfso so8 λR3 hR3 hi8=>?_
 refine jc (A:=[]) (t_l7Sorted hi8 (by omega)) ?_
 rintro v9 R4 A9 hR4 ⟨hRR,so9⟩
 subst hRR
 refine jfso so9 λR5 hR5 hi9=>?_
 have hR35:=(hR2.trans hR3).trans hR5
 have h5:=h1.le hR35
 have hlv5:=hlv.le hR35
 have hslen:(sorted live0).length = live0.length:=by have:=sorted_len live0 [];simpa [sorted] using this
 generalize hlive:sorted live0 = live at hslide hmove hths hi9 hslen
 refine jl (v:=tv) rfl (jln_ h5.t.sl ?_)
 refine jmk (m_TableNew (s.table.length:Int)) ?_
 intro v13 N hq13
 unfold QNew at hq13
 have htn:(tableNew (s.table.length:Int)).length = s.table.length:=by
  unfold tableNew
  rw[if_neg (by omega)];simp;omega
 rw[if_neg (by intro hn;rw[hn] at htn;simp at htn;omega)] at hq13
 obtain⟨sv,⟨bt,ct,tsp,hct,rfl,rfl⟩,rfl⟩:=hq13
 refine jex rfl (jex rfl ?_)
 refine jl (v:=wv) rfl (jln_ h5.w.sl ?_)
 refine jms (by omega) (by omega) (by omega) λbw=>?_
 rw[Int.toNat_natCast]
 have htk:(List.replicate s.words.length (cl z3)).flatten = (List.replicate s.words.length (0:Int)).map I ++ []:=by
  rw[show cl z3 = [I 0] from rfl];simp[List.flatten_replicate_singleton]
 rw[htk]
 refine jla (l:=eSt s wv tv mv thv ov pv) (by exact Nat.le_refl 13) rfl ?_
 have hstay':=t_l7Stay (cw:=s.words.length) (ct:=ct) (bw:=bw) (bt:=bt) (wsp:=[]) (tsp:=tsp) h5 hlv5 htb (by omega) hp hpl hstay
 rw[List.length_replicate] at hstay'
 refine jc (A:=[(bw,C T_int ((List.replicate s.words.length (0:Int)).map I ++ [])),(bt,C T_Region (rowsE eRg (tableNew (s.table.length:Int)) ++ tsp))]) hstay' ?_
 rintro _ R6 _ hR6 ⟨hRR6,hwl,htl,rfl⟩
 subst hRR6
 rw[htn] at htl ⊢
 generalize hE:(b2,C T_State (cl z74)) :: (b1,C T_State (eSt s wv tv mv thv ov pv)) :: ([] ++ F) = E
 have ea1:At E b1 (C T_State (eSt s wv tv mv thv ov pv)):=by rw[← hE];exact inferInstance
 have slen:∀{r t0 to0},slide s.pins l [] t0 r to0 = some (t2,to_)→t0 = t2∧to0 = to_:=λh=>by
  unfold slide at h
  simpa using h
 refine jperm (D':=[] ++ ((bw,C T_int (w1.map I ++ [])) :: (bt,C T_Region (rowsE eRg t1 ++ tsp)) :: E)) (by rw[← hE];exact List.Perm.refl _) ?_
 refine jcutq (λvs R' D'=>R' = R6∧t2.length = s.table.length∧to_.length = live.length∧∃(v:Value) (A:Chs),SO to_ v A∧D' = A ++ ((bw,C T_int (w1.map I ++ [])) :: (bt,C T_Region (rowsE eRg t2 ++ tsp)) :: E)∧vs = [.pointer (some ⟨b1,0,none⟩),.pointer (some ⟨b2,0,none⟩),lv,v9,.slice (some ⟨bt,0,none⟩) s.table.length ct,.slice (some ⟨bw,0,none⟩) s.words.length s.words.length,v]) (λK hK=>?_) ?_
 ·refine jcutq (λvs R' D'=>R' = R6∧t2.length = s.table.length∧to_.length = live.length∧∃(v:Value) (A:Chs),SO to_ v A∧D' = A ++ ((bw,C T_int (w1.map I ++ [])) :: (bt,C T_Region (rowsE eRg t2 ++ tsp)) :: E)∧vs = [.pointer (some ⟨b1,0,none⟩),.pointer (some ⟨b2,0,none⟩),lv,v9,.slice (some ⟨bt,0,none⟩) s.table.length ct,.slice (some ⟨bw,0,none⟩) s.words.length s.words.length,v]) (λK2 hK2=>?_) ?_
  rotate_left
  ·rintro e R7 D7 ⟨hR,ht2,hto,v,A,so,hD,he⟩
   rw[hD];clear hD
   simp only[List.map,lc,ln,lj,and_true] at he
   simp only[he]
   exact hK _ _ _ ⟨hR,ht2,hto,v,A,so,rfl,rfl⟩
  refine jlp (λm vs R' D'=>R' = R6∧∃(i:Nat) (r:Int) (t0:List Rg) (to0:List Int) (v:Value) (A:Chs),i≤live.length∧1≤r∧r≤12∧t0.length = s.table.length∧to0.length = i∧slide s.pins l (live.drop i) t0 r to0 = some (t2,to_)∧SO to0 v A∧D' = A ++ ((bw,C T_int (w1.map I ++ [])) :: (bt,C T_Region (rowsE eRg t0 ++ tsp)) :: E)∧vs = [.pointer (some ⟨b1,0,none⟩),.pointer (some ⟨b2,0,none⟩),lv,v9,.slice (some ⟨bt,0,none⟩) s.table.length ct,.slice (some ⟨bw,0,none⟩) s.words.length s.words.length,v,I r,I i]∧m = live.length - i)
   (n:=live.length) ⟨rfl,0,1,t1,[],.slice none 0 0,[],by omega,by omega,by omega,htl,rfl,hslide,.inl ⟨rfl,rfl,rfl⟩,rfl,rfl,by omega⟩ ?_
  rintro m e R7 D7 K3 ⟨hR,i,r,t0,to0,v,A,hi,hr1,hr2,ht0l,htol,hsl,so,hD,he,hm⟩ hK3
  subst hR
  rw[hD];clear hD
  simp only[List.map,lc,ln,lj,and_true] at he
  simp only[he]
  refine jln_ hi9.sl (jlt (jif (λhc=>?_) (λhc=>?_)))
  rotate_left
  ·have hc:=of_decide_eq_false hc
   rw[List.drop_eq_nil_of_le (by omega)] at hsl
   obtain⟨rfl,rfl⟩:=slen hsl
   exact hK2 _ _ _ ⟨rfl,ht0l,by omega,v,A,so,rfl,rfl⟩
  have hc:i < live.length:=by have:=of_decide_eq_true hc;omega
  rw[List.drop_eq_getElem_cons hc] at hsl
  unfold slide at hsl
  obtain⟨x,hx,hsl⟩:=bind_some hsl
  obtain⟨k,hk,hkp,rfl⟩:=fpos_of hx
  have hat:(l[k]).at_ = live[i]:=by
   have:=List.find?_some hx
   exact eq_of_beq this
  obtain⟨a0,a1,-,-⟩:=htb _ (List.getElem_mem hk)
  have hreg:regionOf live[i]≤9223372036854775807:=by unfold regionOf;split<;>omega
  refine jcutq (λvs R' D'=>R' = R7∧∃(r:Int) (t0:List Rg) (to0:List Int) (v:Value) (A:Chs),1≤r∧r≤12∧t0.length = s.table.length∧to0.length = i + 1∧slide s.pins l (live.drop (i + 1)) t0 r to0 = some (t2,to_)∧SO to0 v A∧D' = A ++ ((bw,C T_int (w1.map I ++ [])) :: (bt,C T_Region (rowsE eRg t0 ++ tsp)) :: E)∧vs = [.pointer (some ⟨b1,0,none⟩),.pointer (some ⟨b2,0,none⟩),lv,v9,.slice (some ⟨bt,0,none⟩) s.table.length ct,.slice (some ⟨bw,0,none⟩) s.words.length s.words.length,v,I r,I i]) (λK4 hK4=>?_) ?_
  rotate_left
  ·rintro e R8 D8 ⟨hR,r,t0,to0,v,A,q1,q2,q3,q4,q5,so,hD,he⟩
   subst hR
   rw[hD];clear hD
   simp only[List.map,lc,ln,lj,and_true] at he
   simp only[he]
   refine jadd ⟨by omega,by omega⟩ ?_
   exact hK3 (live.length - (i + 1)) _ _ _ (by omega) ⟨rfl,i + 1,r,t0,to0,v,A,by omega,q1,q2,q3,q4,q5,so,rfl,rfl,rfl⟩
  refine jcutq (λvs R' D'=>R' = R7∧∃(r:Int) (t0:List Rg) (to0:List Int) (v:Value) (A:Chs),1≤r∧r≤12∧t0.length = s.table.length∧to0.length = i + 1∧slide s.pins l (live.drop (i + 1)) t0 r to0 = some (t2,to_)∧SO to0 v A∧D' = A ++ ((bw,C T_int (w1.map I ++ [])) :: (bt,C T_Region (rowsE eRg t0 ++ tsp)) :: E)∧vs = [.pointer (some ⟨b1,0,none⟩),.pointer (some ⟨b2,0,none⟩),lv,v9,.slice (some ⟨bt,0,none⟩) s.table.length ct,.slice (some ⟨bw,0,none⟩) s.words.length s.words.length,v,I r,I i]) (λK5 hK5=>?_) ?_
  rotate_left
  ·rintro e R8 D8 ⟨hR,r,t0,to0,v,A,q1,q2,q3,q4,q5,so,hD,he⟩
   rw[hD];clear hD
   simp only[List.map,lc,ln,lj,and_true] at he
   simp only[he]
   exact hK4 _ _ _ ⟨hR,r,t0,to0,v,A,q1,q2,q3,q4,q5,so,rfl,rfl⟩
  refine jfz1 hi9 (by omega) (by omega) ?_
  rw[getElem_congr_idx (Int.toNat_natCast i)]
  refine jro (r_l6Find _ hlv5 (by omega)) ?_
  rw[hkp]
  refine jtg hlv5 hk λb3 o3 ty3 cs3 rv nv hrv hnv hb3 ho3 hrow3=>?_
  have g2:(cs3.drop (o3 + 2)).take 2 = [I (l[k]).sh.refs,I (l[k]).sh.nums]:=by
   have:=congrArg (λx=>(x.drop 2).take 2) hrow3
   simp only[List.drop_take,List.drop_drop,List.take_take] at this
   simpa [eTh] using this
  refine jfo (jlar hb3 (by omega) g2 (jp (p_ShapeSize (l[k]).sh) ?_))
  obtain⟨sz0,sz1⟩:=size_rng (l[k]).sh
  generalize shapeSize (l[k]).sh = size at hsl sz0 sz1 ⊢
  refine jla (t:=T_State) (cs:=eSt s wv tv mv thv ov pv) (l:=eSt s wv tv mv thv ov pv) (by exact Nat.le_refl 13) rfl ?_
  refine jfz1 hi9 (by omega) (by omega) ?_
  rw[getElem_congr_idx (Int.toNat_natCast i)]
  refine jp (p_RegionOf _ hreg) (jand (jla (t:=T_State) (cs:=eSt s wv tv mv thv ov pv) (l:=eSt s wv tv mv thv ov pv) (by exact Nat.le_refl 13) rfl jev) ?_)
  refine jro (r_l7Held (regionOf live[i]) h5 hp hpl) (jif (λhh=>?_) (λhh=>?_))
  ·rw[if_pos hh] at hsl
   refine jfz1 hi9 (by omega) (by omega) ?_
   rw[getElem_congr_idx (Int.toNat_natCast i)]
   refine jbs (cs:=[I live[i]]) rfl rfl λb4=>?_
   refine jas1 (A:=A) so (by omega) λv' A' so'=>?_
   exact hK5 _ _ _ ⟨rfl,r,t0,_,v',A',hr1,hr2,ht0l,by rw[List.length_append,htol];rfl,hsl,so',rfl,rfl⟩
  rw[if_neg (by rw[hh];decide)] at hsl
  obtain⟨r2,hnx,hsl⟩:=bind_some hsl
  refine jcutq (λvs R' D'=>R' = R7∧D' = A ++ ((bw,C T_int (w1.map I ++ [])) :: (bt,C T_Region (rowsE eRg t0 ++ tsp)) :: E)∧vs = [.pointer (some ⟨b1,0,none⟩),.pointer (some ⟨b2,0,none⟩),lv,v9,.slice (some ⟨bt,0,none⟩) s.table.length ct,.slice (some ⟨bw,0,none⟩) s.words.length s.words.length,v,I r2,I i,I size]) (λK6 hK6=>?_) ?_
  ·refine jcutq (λvs R' D'=>R' = R7∧D' = A ++ ((bw,C T_int (w1.map I ++ [])) :: (bt,C T_Region (rowsE eRg t0 ++ tsp)) :: E)∧vs = [.pointer (some ⟨b1,0,none⟩),.pointer (some ⟨b2,0,none⟩),lv,v9,.slice (some ⟨bt,0,none⟩) s.table.length ct,.slice (some ⟨bw,0,none⟩) s.words.length s.words.length,v,I r2,I i,I size]) (λK7 hK7=>?_) ?_
   rotate_left
   ·rintro e R8 D8 ⟨hR,hD,he⟩
    rw[hD];clear hD
    simp only[List.map,lc,ln,lj,and_true] at he
    simp only[he]
    exact hK6 _ _ _ ⟨hR,rfl,rfl⟩
   refine jlp (λm vs R' D'=>R' = R7∧∃r:Int,1≤r∧r + m≤30∧nextR s.pins t0 size m r = some r2∧D' = A ++ ((bw,C T_int (w1.map I ++ [])) :: (bt,C T_Region (rowsE eRg t0 ++ tsp)) :: E)∧vs = [.pointer (some ⟨b1,0,none⟩),.pointer (some ⟨b2,0,none⟩),lv,v9,.slice (some ⟨bt,0,none⟩) s.table.length ct,.slice (some ⟨bw,0,none⟩) s.words.length s.words.length,v,I r,I i,I size])
    (n:=t0.length + 2) ⟨rfl,r,hr1,by omega,hnx,rfl,rfl⟩ ?_
   clear hnx
   rintro m2 e R8 D8 K8 ⟨hR,r,hr1,hrm,hnx,hD,he⟩ hK8
   subst hR
   rw[hD];clear hD
   simp only[List.map,lc,ln,lj,and_true] at he
   simp only[he]
   cases m2 with
   | zero=>cases hnx
   | succ m2=>
   unfold nextR at hnx
   refine jcutq (λvs R' D'=>R' = R8∧D' = A ++ ((bw,C T_int (w1.map I ++ [])) :: (bt,C T_Region (rowsE eRg t0 ++ tsp)) :: E)∧∃bn:Bool,(bn = true→nextR s.pins t0 size m2 (r + 1) = some r2)∧(bn = false→r = r2)∧vs = [.pointer (some ⟨b1,0,none⟩),.pointer (some ⟨b2,0,none⟩),lv,v9,.slice (some ⟨bt,0,none⟩) s.table.length ct,.slice (some ⟨bw,0,none⟩) s.words.length s.words.length,v,I r,I i,I size,.bool bn]) (λK9 hK9=>?_) ?_
   rotate_left
   ·rintro e R9 D9 ⟨hR,hD,bn,hb1,hb2,he⟩
    subst hR
    rw[hD];clear hD
    simp only[List.map,lc,ln,lj,and_true] at he
    simp only[he]
    cases bn with
    | true=>
     refine jift (jadd ⟨by omega,by omega⟩ ?_)
     exact hK8 m2 _ _ _ (by omega) ⟨rfl,r + 1,by omega,by omega,hb1 rfl,rfl,rfl⟩
    | false=>
     have:=hb2 rfl
     subst this
     exact jiff (hK7 _ _ _ ⟨rfl,rfl,rfl⟩)
   refine jla (t:=T_State) (cs:=eSt s wv tv mv thv ov pv) (l:=eSt s wv tv mv thv ov pv) (by exact Nat.le_refl 13) rfl (jro (r_l7Held r h5 hp hpl) ?_)
   cases hhr:heldR s.pins r with
   | true=>
    rw[if_pos hhr] at hnx
    refine jcut (jtf (jend λe he=>?_))
    simp only[List.map,lc,ln,lj,and_true] at he
    simp only[he]
    refine jtf (jpkt (jand jev ?_))
    exact hK9 _ _ _ ⟨rfl,rfl,true,λ_=>hnx,(λh=>by cases h),rfl⟩
   | false=>
    rw[if_neg (by rw[hhr];decide)] at hnx
    obtain⟨row,hrow,hnx⟩:=bind_some hnx
    obtain⟨sum,hsum,hnx⟩:=bind_some hnx
    obtain⟨rfl,hin⟩:=plus_some hsum
    obtain⟨y0,y1,y2,y3⟩:=idx_some hrow
    obtain⟨k2,rfl⟩:∃k2:Nat,r = k2:=⟨r.toNat,by omega⟩
    have hk2:k2 < t0.length:=by omega
    have ey:t0[k2] = row:=by rw[← y3];exact getElem_congr_idx (by omega)
    have brr:0≤regionBase k2∧regionBase k2≤176:=by unfold regionBase;split<;>omega
    refine jcut (jff (jian (by omega) (jfo (jl (v:=I row.top) (by rw[Nat.zero_add];exact row_cell (f:=2) hk2 (by rw[ey];rfl)) (jadd hin (jend λe he=>?_))))))
    simp only[List.map,lc,ln,lj,and_true] at he
    simp only[he]
    refine jff (jp (p_RegionBase k2) (jadd ⟨by omega,by omega⟩ (jgr (jpkf (jand (jl (v:=I row.top) (by rw[Nat.zero_add];exact row_cell (f:=2) hk2 (by rw[ey];rfl)) jev) ?_)))))
    refine hK9 _ _ _ ⟨rfl,rfl,decide (row.top + size > regionBase k2 + 16),λhb=>?_,λhb=>?_,rfl⟩
    ·rw[if_pos (by have:=of_decide_eq_true hb;omega)] at hnx
     exact hnx
    ·rw[if_neg (by have:=of_decide_eq_false hb;omega)] at hnx
     simpa using hnx
  rintro e R8 D8 ⟨hR,hD,he⟩
  subst hR
  rw[hD];clear hD
  simp only[List.map,lc,ln,lj,and_true] at he
  simp only[he]
  obtain⟨row,hrow,hsl⟩:=bind_some hsl
  obtain⟨sum,hsum,hsl⟩:=bind_some hsl
  obtain⟨rfl,hin⟩:=plus_some hsum
  obtain⟨y0,y1,y2,y3⟩:=idx_some hrow
  have hr2k:1≤r2:=by
   have:∀(n:Nat) (r:Int),1≤r→nextR s.pins t0 size n r = some r2→1≤r2:=by
    intro n;induction n with
    | zero=>intro r _ h;cases h
    | succ n ih=>
     intro r hr h
     unfold nextR at h
     split at h
     ·exact ih _ (by omega) h
     ·obtain⟨_,_,h⟩:=bind_some h
      obtain⟨_,_,h⟩:=bind_some h
      split at h
      ·exact ih _ (by omega) h
      ·cases h;exact hr
   exact this _ _ hr1 hnx
  obtain⟨k2,rfl⟩:∃k2:Nat,r2 = k2:=⟨r2.toNat,by omega⟩
  have hk2:k2 < t0.length:=by omega
  have ey:t0[k2] = row:=by rw[← y3];exact getElem_congr_idx (by omega)
  refine jian (by omega) (jlrow hk2 ?_)
  rw[ey]
  refine ja λb5=>?_
  refine js (cs':=eRg row) rfl rfl (by simp) rfl ?_
  refine jfo (jl (v:=I row.top) rfl ?_)
  refine jbs (cs:=[I row.top]) rfl rfl λb4=>?_
  refine jas1 (A:=A) so (by omega) λv' A' so'=>?_
  refine js (cs':=eRg { row with kind:=3 }) rfl rfl (by simp) rfl ?_
  refine jfo (jl (v:=I row.top) rfl (jadd hin ?_))
  refine jfo (js (cs':=eRg { row with kind:=3,top:=row.top + size }) rfl rfl (by simp) rfl ?_)
  refine jfo (jl (v:=I (row.top + size)) rfl ?_)
  refine jfo (js (cs':=eRg { row with kind:=3,top:=row.top + size,tams:=row.top + size }) rfl rfl (by simp) rfl ?_)
  refine jla (l:=eRg { row with kind:=3,top:=row.top + size,tams:=row.top + size }) (by simp) rfl ?_
  refine jian (by omega) (jsrow (t:=t0) (x:={ row with kind:=3,top:=row.top + size,tams:=row.top + size }) hk2 ?_)
  refine jpart A' (G:=(bw,C T_int (w1.map I ++ [])) :: (bt,C T_Region (rowsE eRg (t0.set k2 { row with kind:=3,top:=row.top + size,tams:=row.top + size }) ++ tsp)) :: E) ?_
  exact hK5 _ _ _ ⟨rfl,k2,t0.set k2 { row with kind:=3,top:=row.top + size,tams:=row.top + size },_,v',A',by omega,by omega,by rw[List.length_set];exact ht0l,by rw[List.length_append,htol];rfl,by simpa [seti] using hsl,so',rfl,rfl⟩
 clear hslide slen
 rintro e R7 D7 ⟨hR,ht2,hto,v,A,so,hD,he⟩
 subst hR
 rw[hD];clear hD
 simp only[List.map,lc,ln,lj,and_true] at he
 simp only[he]
 refine jfso so λR8 hR8 hito=>?_
 have h8:=h5.le hR8
 have hlv8:=hlv5.le hR8
 have hi98:=hi9.le hR8
 refine jcutq (λvs R' D'=>R' = R8∧w2.length = s.words.length∧D' = (bw,C T_int (w2.map I ++ [])) :: (bt,C T_Region (rowsE eRg t2 ++ tsp)) :: E∧vs = [.pointer (some ⟨b1,0,none⟩),.pointer (some ⟨b2,0,none⟩),lv,v9,.slice (some ⟨bt,0,none⟩) s.table.length ct,.slice (some ⟨bw,0,none⟩) s.words.length s.words.length,v]) (λK hK=>?_) ?_
 ·refine jcutq (λvs R' D'=>R' = R8∧w2.length = s.words.length∧D' = (bw,C T_int (w2.map I ++ [])) :: (bt,C T_Region (rowsE eRg t2 ++ tsp)) :: E∧vs = [.pointer (some ⟨b1,0,none⟩),.pointer (some ⟨b2,0,none⟩),lv,v9,.slice (some ⟨bt,0,none⟩) s.table.length ct,.slice (some ⟨bw,0,none⟩) s.words.length s.words.length,v]) (λK2 hK2=>?_) ?_
  rotate_left
  ·rintro e R9 D9 ⟨hR,hl2,hD,he⟩
   rw[hD];clear hD
   simp only[List.map,lc,ln,lj,and_true] at he
   simp only[he]
   exact hK _ _ _ ⟨hR,hl2,rfl,rfl⟩
  refine jlp (λm vs R' D'=>R' = R8∧∃(i:Nat) (w:List Int),i≤live.length∧w.length = s.words.length∧moveW l live to_ (live.drop i) (to_.drop i) w = some w2∧D' = (bw,C T_int (w.map I ++ [])) :: (bt,C T_Region (rowsE eRg t2 ++ tsp)) :: E∧vs = [.pointer (some ⟨b1,0,none⟩),.pointer (some ⟨b2,0,none⟩),lv,v9,.slice (some ⟨bt,0,none⟩) s.table.length ct,.slice (some ⟨bw,0,none⟩) s.words.length s.words.length,v,I i]∧m = live.length - i)
   (n:=live.length) ⟨rfl,0,w1,by omega,hwl,hmove,rfl,rfl,by omega⟩ ?_
  rintro m e R9 D9 K3 ⟨hR,i,w,hi,hwl1,hmv,hD,he,hm⟩ hK3
  subst hR
  rw[hD];clear hD
  simp only[List.map,lc,ln,lj,and_true] at he
  simp only[he]
  refine jln_ hi98.sl (jlt (jif (λhc=>?_) (λhc=>?_)))
  rotate_left
  ·have hc:=of_decide_eq_false hc
   rw[List.drop_eq_nil_of_le (by omega)] at hmv
   have:w = w2:=by unfold moveW at hmv;simpa using hmv
   subst this
   exact hK2 _ _ _ ⟨rfl,hwl1,rfl,rfl⟩
  have hc:i < live.length:=by have:=of_decide_eq_true hc;omega
  rw[List.drop_eq_getElem_cons hc,List.drop_eq_getElem_cons (show i < to_.length by omega)] at hmv
  unfold moveW at hmv
  obtain⟨x,hx,hmv⟩:=bind_some hmv
  obtain⟨k,hk,hkp,rfl⟩:=fpos_of hx
  obtain⟨wa,hwa,hmv⟩:=bind_some hmv
  obtain⟨wb,hwb,hmv⟩:=bind_some hmv
  obtain⟨wc,hwc,hmv⟩:=bind_some hmv
  obtain⟨wd,hwd,hmv⟩:=bind_some hmv
  refine jcutq (λvs R' D'=>R' = R9∧wd.length = s.words.length∧D' = (bw,C T_int (wd.map I ++ [])) :: (bt,C T_Region (rowsE eRg t2 ++ tsp)) :: E∧vs = [.pointer (some ⟨b1,0,none⟩),.pointer (some ⟨b2,0,none⟩),lv,v9,.slice (some ⟨bt,0,none⟩) s.table.length ct,.slice (some ⟨bw,0,none⟩) s.words.length s.words.length,v,I i]) (λK4 hK4=>?_) ?_
  rotate_left
  ·rintro e R8 D8 ⟨hR,hld,hD,he⟩
   subst hR
   rw[hD];clear hD
   simp only[List.map,lc,ln,lj,and_true] at he
   simp only[he]
   refine jadd ⟨by omega,by omega⟩ ?_
   exact hK3 (live.length - (i + 1)) _ _ _ (by omega) ⟨rfl,i + 1,wd,by omega,hld,hmv,rfl,rfl,rfl⟩
  refine jcutq (λvs R' D'=>R' = R9∧wd.length = s.words.length∧D' = (bw,C T_int (wd.map I ++ [])) :: (bt,C T_Region (rowsE eRg t2 ++ tsp)) :: E∧vs = [.pointer (some ⟨b1,0,none⟩),.pointer (some ⟨b2,0,none⟩),lv,v9,.slice (some ⟨bt,0,none⟩) s.table.length ct,.slice (some ⟨bw,0,none⟩) s.words.length s.words.length,v,I i]) (λK5 hK5=>?_) ?_
  rotate_left
  ·rintro e R8 D8 ⟨hR,hld,hD,he⟩
   rw[hD];clear hD
   simp only[List.map,lc,ln,lj,and_true] at he
   simp only[he]
   exact hK4 _ _ _ ⟨hR,hld,rfl,rfl⟩
  obtain⟨y,hy⟩:∃y,to_[i]'(by omega) = y:=⟨_,rfl⟩
  rw[hy] at hwa hwb hwc hwd
  obtain⟨q1,q2,q3⟩:=wr_some hwa
  obtain⟨q4,q5,q6⟩:=wr_some hwb
  obtain⟨-,-,tr,tn⟩:=htb _ (List.getElem_mem hk)
  have hla:wa.length = w.length:=by rw[q3,List.length_set]
  have hlb:wb.length = wa.length:=by rw[q6,List.length_set]
  have ty:to_[((i:Nat):Int).toNat]'(by omega) = y:=by rw[← hy];exact getElem_congr_idx (Int.toNat_natCast i)
  refine jfz1 hi98 (by omega) (by omega) ?_
  rw[getElem_congr_idx (Int.toNat_natCast i)]
  refine jro (r_l6Find _ hlv8 (by omega)) ?_
  rw[hkp]
  refine jtg hlv8 hk λb3 o3 ty3 cs3 rv nv hrv hnv hb3 ho3 hrow3=>?_
  obtain⟨ra,rc,rfl⟩:=hrv.sl
  obtain⟨na,nc,rfl⟩:=hnv.sl
  refine jlar hb3 ho3 hrow3 (ja λb15=>?_)
  refine js (cs':=eTh l[k] (.slice ra l[k].refs.length rc) (.slice na l[k].nums.length nc)) rfl rfl (by exact Nat.le_refl 6) rfl ?_
  refine jfz1 hito (by omega) (by omega) (jfz1 hito (by omega) (by omega) ?_)
  rw[ty]
  refine jia q1 (by omega) (jsi (l:=w) (sp:=[]) (by omega) ?_)
  rw[← q3]
  refine jfz2 hito (by omega) (by omega) λq hq=>hq _ _ ?_
  rw[ty] at hq ⊢
  refine jadd ⟨by omega,by omega⟩ (jfo (jla (t:=T_Thing) (cs:=eTh l[k] (.slice ra l[k].refs.length rc) (.slice na l[k].nums.length nc)) (l:=[I l[k].sh.refs,I l[k].sh.nums]) (by exact (by decide:4≤6)) rfl (jp (p_ShapeWord l[k].sh) ?_)))
  refine jia q4 (by omega) (jand (hq _ _ jev) (jsi (l:=wa) (sp:=[]) (by omega) ?_))
  rw[← q6]
  refine jcutq (λvs R' D'=>R' = R9∧wc.length = s.words.length∧D' = (b15,C T_Thing (eTh l[k] (.slice ra l[k].refs.length rc) (.slice na l[k].nums.length nc))) :: (bw,C T_int (wc.map I ++ [])) :: (bt,C T_Region (rowsE eRg t2 ++ tsp)) :: E∧vs = [.pointer (some ⟨b1,0,none⟩),.pointer (some ⟨b2,0,none⟩),lv,v9,.slice (some ⟨bt,0,none⟩) s.table.length ct,.slice (some ⟨bw,0,none⟩) s.words.length s.words.length,v,I i,.pointer (some ⟨b15,0,none⟩)]) (λK6 hK6=>?_) ?_
  ·refine jcutq (λvs R' D'=>R' = R9∧wc.length = s.words.length∧D' = (b15,C T_Thing (eTh l[k] (.slice ra l[k].refs.length rc) (.slice na l[k].nums.length nc))) :: (bw,C T_int (wc.map I ++ [])) :: (bt,C T_Region (rowsE eRg t2 ++ tsp)) :: E∧vs = [.pointer (some ⟨b1,0,none⟩),.pointer (some ⟨b2,0,none⟩),lv,v9,.slice (some ⟨bt,0,none⟩) s.table.length ct,.slice (some ⟨bw,0,none⟩) s.words.length s.words.length,v,I i,.pointer (some ⟨b15,0,none⟩)]) (λK7 hK7=>?_) ?_
   rotate_left
   ·rintro e R8 D8 ⟨hR,hlc,hD,he⟩
    rw[hD];clear hD
    simp only[List.map,lc,ln,lj,and_true] at he
    simp only[he]
    exact hK6 _ _ _ ⟨hR,hlc,rfl,rfl⟩
   refine jlp (λm vs R' D'=>R' = R9∧∃(j:Nat) (w5:List Int),j≤l[k].refs.length∧w5.length = s.words.length∧refsW l live to_ w5 (y + 2 + j) (l[k].refs.drop j) = some wc∧D' = (b15,C T_Thing (eTh l[k] (.slice ra l[k].refs.length rc) (.slice na l[k].nums.length nc))) :: (bw,C T_int (w5.map I ++ [])) :: (bt,C T_Region (rowsE eRg t2 ++ tsp)) :: E∧vs = [.pointer (some ⟨b1,0,none⟩),.pointer (some ⟨b2,0,none⟩),lv,v9,.slice (some ⟨bt,0,none⟩) s.table.length ct,.slice (some ⟨bw,0,none⟩) s.words.length s.words.length,v,I i,.pointer (some ⟨b15,0,none⟩),I j]∧m = l[k].refs.length - j)
    (n:=l[k].refs.length) ⟨rfl,0,wb,by omega,by omega,by simpa using hwc,rfl,rfl,by omega⟩ ?_
   rintro m5 e R8 D8 K8 ⟨hR,j,w5,hj,hl5,hrw5,hD,he,hm5⟩ hK8
   subst hR
   rw[hD];clear hD
   simp only[List.map,lc,ln,lj,and_true] at he
   simp only[he]
   refine jl (v:=.slice ra l[k].refs.length rc) rfl (jln (jlt (jif (λhd=>?_) (λhd=>?_))))
   rotate_left
   ·have hd:=of_decide_eq_false hd
    rw[List.drop_eq_nil_of_le (by omega)] at hrw5
    have:w5 = wc:=by unfold refsW at hrw5;simpa using hrw5
    subst this
    exact hK7 _ _ _ ⟨rfl,hl5,rfl,rfl⟩
   have hd:j < l[k].refs.length:=by have:=of_decide_eq_true hd;omega
   rw[List.drop_eq_getElem_cons hd] at hrw5
   unfold refsW at hrw5
   obtain⟨z,hz,hrw5⟩:=bind_some hrw5
   obtain⟨w6,hw6,hrw5⟩:=bind_some hrw5
   refine jcutq (λvs R' D'=>R' = R8∧w6.length = s.words.length∧D' = (b15,C T_Thing (eTh l[k] (.slice ra l[k].refs.length rc) (.slice na l[k].nums.length nc))) :: (bw,C T_int (w6.map I ++ [])) :: (bt,C T_Region (rowsE eRg t2 ++ tsp)) :: E∧vs = [.pointer (some ⟨b1,0,none⟩),.pointer (some ⟨b2,0,none⟩),lv,v9,.slice (some ⟨bt,0,none⟩) s.table.length ct,.slice (some ⟨bw,0,none⟩) s.words.length s.words.length,v,I i,.pointer (some ⟨b15,0,none⟩),I j]) (λK9 hK9=>?_) ?_
   rotate_left
   ·rintro e Rx D9 ⟨hR,hl6,hD,he⟩
    subst hR
    rw[hD];clear hD
    simp only[List.map,lc,ln,lj,and_true] at he
    simp only[he]
    refine jadd ⟨by omega,by omega⟩ ?_
    exact hK8 (l[k].refs.length - (j + 1)) _ _ _ (by omega) ⟨rfl,j + 1,w6,by omega,hl6,by rw[← hrw5];congr 1;omega,rfl,rfl,rfl⟩
   refine jcutq (λvs R' D'=>R' = R8∧w6.length = s.words.length∧D' = (b15,C T_Thing (eTh l[k] (.slice ra l[k].refs.length rc) (.slice na l[k].nums.length nc))) :: (bw,C T_int (w6.map I ++ [])) :: (bt,C T_Region (rowsE eRg t2 ++ tsp)) :: E∧vs = [.pointer (some ⟨b1,0,none⟩),.pointer (some ⟨b2,0,none⟩),lv,v9,.slice (some ⟨bt,0,none⟩) s.table.length ct,.slice (some ⟨bw,0,none⟩) s.words.length s.words.length,v,I i,.pointer (some ⟨b15,0,none⟩),I j]) (λK10 hK10=>?_) ?_
   rotate_left
   ·rintro e Rx D9 ⟨hR,hl6,hD,he⟩
    rw[hD];clear hD
    simp only[List.map,lc,ln,lj,and_true] at he
    simp only[he]
    exact hK9 _ _ _ ⟨hR,hl6,rfl,rfl⟩
   refine jl (v:=.slice ra l[k].refs.length rc) rfl (jfz1 hrv (by omega) (by omega) ?_)
   rw[getElem_congr_idx (Int.toNat_natCast j)]
   refine jro (r_l6Now hlv8 (by omega) hz) (jro (r_place z (Ints.rd hi98) (by omega)) (jge (jif (λh0=>?_) (λh0=>?_))))
   ·have h0:=of_decide_eq_true h0
    rw[if_pos (by omega)] at hw6
    obtain⟨u,hu,hw6⟩:=bind_some hw6
    obtain⟨u0,u1,u2,u3⟩:=idx_some hu
    obtain⟨p1,p2,p3⟩:=wr_some hw6
    refine jfz1 hito (by omega) (by omega) ?_
    rw[ty]
    refine jadd ⟨by omega,by omega⟩ (jadd ⟨by omega,by omega⟩ (jfz1 hito u0 u1 ?_))
    rw[u3]
    refine jia p1 (by omega) (jsi (l:=w5) (sp:=[]) (by omega) ?_)
    rw[← p3]
    exact hK10 _ _ _ ⟨rfl,by rw[p3,List.length_set];exact hl5,rfl,rfl⟩
   ·have h0:=of_decide_eq_false h0
    rw[if_neg (by omega)] at hw6
    have:w5 = w6:=by simpa using hw6
    subst this
    exact hK10 _ _ _ ⟨rfl,hl5,rfl,rfl⟩
  rintro e R8 D8 ⟨hR,hlc,hD,he⟩
  subst hR
  rw[hD];clear hD
  simp only[List.map,lc,ln,lj,and_true] at he
  simp only[he]
  refine jcutq (λvs R' D'=>R' = R8∧wd.length = s.words.length∧D' = (bw,C T_int (wd.map I ++ [])) :: (bt,C T_Region (rowsE eRg t2 ++ tsp)) :: E∧vs = [.pointer (some ⟨b1,0,none⟩),.pointer (some ⟨b2,0,none⟩),lv,v9,.slice (some ⟨bt,0,none⟩) s.table.length ct,.slice (some ⟨bw,0,none⟩) s.words.length s.words.length,v,I i]) (λK7 hK7=>?_) ?_
  rotate_left
  ·rintro e Rx D9 ⟨hR,hl6,hD,he⟩
   rw[hD];clear hD
   simp only[List.map,lc,ln,lj,and_true] at he
   simp only[he]
   exact hK5 _ _ _ ⟨hR,hl6,rfl,rfl⟩
  refine jlp (λm vs R' D'=>R' = R8∧∃(j:Nat) (w5:List Int),j≤l[k].nums.length∧w5.length = s.words.length∧wrs w5 (y + 2 + l[k].refs.length + j) (l[k].nums.drop j) = some wd∧D' = (b15,C T_Thing (eTh l[k] (.slice ra l[k].refs.length rc) (.slice na l[k].nums.length nc))) :: (bw,C T_int (w5.map I ++ [])) :: (bt,C T_Region (rowsE eRg t2 ++ tsp)) :: E∧vs = [.pointer (some ⟨b1,0,none⟩),.pointer (some ⟨b2,0,none⟩),lv,v9,.slice (some ⟨bt,0,none⟩) s.table.length ct,.slice (some ⟨bw,0,none⟩) s.words.length s.words.length,v,I i,.pointer (some ⟨b15,0,none⟩),I j]∧m = l[k].nums.length - j)
   (n:=l[k].nums.length) ⟨rfl,0,wc,by omega,by omega,by simpa using hwd,rfl,rfl,by omega⟩ ?_
  rintro m5 e Rx D9 K8 ⟨hR,j,w5,hj,hl5,hrw5,hD,he,hm5⟩ hK8
  subst hR
  rw[hD];clear hD
  simp only[List.map,lc,ln,lj,and_true] at he
  simp only[he]
  refine jfo (jl (v:=.slice na l[k].nums.length nc) rfl (jln (jlt (jif (λhd=>?_) (λhd=>?_)))))
  rotate_left
  ·have hd:=of_decide_eq_false hd
   rw[List.drop_eq_nil_of_le (by omega)] at hrw5
   have:w5 = wd:=by unfold wrs at hrw5;simpa using hrw5
   subst this
   exact jdrop (hK7 _ _ _ ⟨rfl,hl5,rfl,rfl⟩)
  have hd:j < l[k].nums.length:=by have:=of_decide_eq_true hd;omega
  rw[List.drop_eq_getElem_cons hd] at hrw5
  unfold wrs at hrw5
  obtain⟨w6,hw6,hrw5⟩:=bind_some hrw5
  obtain⟨p1,p2,p3⟩:=wr_some hw6
  refine jfz1 hito (by omega) (by omega) ?_
  rw[ty]
  refine jadd ⟨by omega,by omega⟩ (jfo (jl (v:=.slice ra l[k].refs.length rc) rfl (jln (jadd ⟨by omega,by omega⟩ (jadd ⟨by omega,by omega⟩ ?_)))))
  refine jfo (jl (v:=.slice na l[k].nums.length nc) rfl (jfz1 hnv (by omega) (by omega) ?_))
  rw[getElem_congr_idx (Int.toNat_natCast j)]
  refine jia p1 (by omega) (jsi (l:=w5) (sp:=[]) (by omega) (jadd ⟨by omega,by omega⟩ ?_))
  rw[← p3]
  exact hK8 (l[k].nums.length - (j + 1)) _ _ _ (by omega) ⟨rfl,j + 1,w6,by omega,by rw[p3,List.length_set];exact hl5,by rw[← hrw5];congr 1;omega,rfl,rfl,rfl⟩
 rintro e Rw D9 ⟨hRw,hl2,hD,he⟩
 subst hRw
 rw[hD];clear hD
 simp only[List.map,lc,ln,lj,and_true] at he
 simp only[he]
 obtain⟨rfl,hfin⟩:=plus_some hful
 refine jcutq (λvs R' D'=>Rw.le R'∧∃bm b19 pv',Ints R' pv' s.pins∧D' = (b19,C T_State (eSt s' (.slice (some ⟨bw,0,none⟩) s.words.length s.words.length) (.slice (some ⟨bt,0,none⟩) s.table.length ct) (.slice (some ⟨bm,0,none⟩) s.words.length s.words.length) (.slice none 0 0) (.slice none 0 0) (pv'))) :: (bm,C T_bool ((List.replicate s.words.length [Value.bool false]).flatten)) :: (bw,C T_int (w2.map I ++ [])) :: (bt,C T_Region (rowsE eRg t2 ++ tsp)) :: E∧vs = [.pointer (some ⟨b1,0,none⟩),.pointer (some ⟨b2,0,none⟩),lv,v9,v,.pointer (some ⟨b19,0,none⟩)]) (λK hK=>?_) ?_
 ·refine jln (jl (v:=.bool s.asked) rfl (jl (v:=pv) rfl (jl (v:=I s.cycles) rfl (jl (v:=I s.fulls) rfl (jadd hfin ?_)))))
  refine jall ?_ (jall ?_ (jall1 ?_))
  ·refine jms (by omega) (by omega) (by omega) λbm=>?_
   rw[Int.toNat_natCast]
   refine jand (jl (v:=.bool s.asked) rfl jev) (jand (jl (v:=pv) rfl jev) (jand (jl (v:=I s.cycles) rfl jev) (jand (jl (v:=I s.fulls) rfl jev) ?_)))
   refine jall ?_ (jall1 ?_)
   ·refine jc (A:=[]) (t_l5Ints h8.p hpl) ?_
    rintro _ Ry _ hRy ⟨bp,cp,spp,hcp,hspp,rfl,rfl⟩
    refine jfreeze (b:=bp) λRz hRz hbp=>jnil ?_
    have hpv:=ints_of (c:=cp) hbp hcp
    refine jbd (cs:=(eSt s' (.slice (some ⟨bw,0,none⟩) s.words.length s.words.length) (.slice (some ⟨bt,0,none⟩) s.table.length ct) (.slice (some ⟨bm,0,none⟩) s.words.length s.words.length) (.slice none 0 0) (.slice none 0 0) (.slice (some ⟨bp,0,none⟩) s.pins.length cp))) rfl (by rw[← hS];rfl) ?_
    refine jand (jl (v:=.bool s.asked) rfl jev) (jand (jl (v:=I s.cycles) rfl jev) (jand (jl (v:=I s.fulls) rfl jev) ?_))
    refine ja λb19=>?_
    refine jand (jl (v:=.bool s.asked) rfl jev) (jand (jl (v:=I s.cycles) rfl jev) (jand (jl (v:=I s.fulls) rfl jev) ?_))
    refine js (cs':=(eSt s' (.slice (some ⟨bw,0,none⟩) s.words.length s.words.length) (.slice (some ⟨bt,0,none⟩) s.table.length ct) (.slice (some ⟨bm,0,none⟩) s.words.length s.words.length) (.slice none 0 0) (.slice none 0 0) (.slice (some ⟨bp,0,none⟩) s.pins.length cp))) rfl rfl (by exact Nat.le_refl 13) rfl ?_
    refine jpart [(b19,C T_State (eSt s' (.slice (some ⟨bw,0,none⟩) s.words.length s.words.length) (.slice (some ⟨bt,0,none⟩) s.table.length ct) (.slice (some ⟨bm,0,none⟩) s.words.length s.words.length) (.slice none 0 0) (.slice none 0 0) (.slice (some ⟨bp,0,none⟩) s.pins.length cp))),(bm,C T_bool ((List.replicate s.words.length [Value.bool false]).flatten))] (G:=(bw,C T_int (w2.map I ++ [])) :: (bt,C T_Region (rowsE eRg t2 ++ tsp)) :: E) ?_
    exact hK _ _ _ ⟨hRy.trans hRz,bm,b19,_,hpv,rfl,rfl⟩
   ·refine ja λb19=>?_
    refine jand (jl (v:=.bool s.asked) rfl jev) (jand (jl (v:=pv) rfl jev) (jand (jl (v:=I s.cycles) rfl jev) (jand (jl (v:=I s.fulls) rfl jev) ?_)))
    refine jc (A:=[]) (t_l5Ints h8.p hpl) ?_
    rintro _ Ry _ hRy ⟨bp,cp,spp,hcp,hspp,rfl,rfl⟩
    refine jfreeze (b:=bp) λRz hRz hbp=>jnil ?_
    have hpv:=ints_of (c:=cp) hbp hcp
    refine jbd (cs:=(eSt s' (.slice (some ⟨bw,0,none⟩) s.words.length s.words.length) (.slice (some ⟨bt,0,none⟩) s.table.length ct) (.slice (some ⟨bm,0,none⟩) s.words.length s.words.length) (.slice none 0 0) (.slice none 0 0) (.slice (some ⟨bp,0,none⟩) s.pins.length cp))) rfl (by rw[← hS];rfl) ?_
    refine jand (jl (v:=.bool s.asked) rfl jev) (jand (jl (v:=I s.cycles) rfl jev) (jand (jl (v:=I s.fulls) rfl jev) ?_))
    refine js (cs':=(eSt s' (.slice (some ⟨bw,0,none⟩) s.words.length s.words.length) (.slice (some ⟨bt,0,none⟩) s.table.length ct) (.slice (some ⟨bm,0,none⟩) s.words.length s.words.length) (.slice none 0 0) (.slice none 0 0) (.slice (some ⟨bp,0,none⟩) s.pins.length cp))) rfl rfl (by exact Nat.le_refl 13) rfl ?_
    refine jpart [(b19,C T_State (eSt s' (.slice (some ⟨bw,0,none⟩) s.words.length s.words.length) (.slice (some ⟨bt,0,none⟩) s.table.length ct) (.slice (some ⟨bm,0,none⟩) s.words.length s.words.length) (.slice none 0 0) (.slice none 0 0) (.slice (some ⟨bp,0,none⟩) s.pins.length cp))),(bm,C T_bool ((List.replicate s.words.length [Value.bool false]).flatten))] (G:=(bw,C T_int (w2.map I ++ [])) :: (bt,C T_Region (rowsE eRg t2 ++ tsp)) :: E) ?_
    exact hK _ _ _ ⟨hRy.trans hRz,bm,b19,_,hpv,rfl,rfl⟩
  ·refine jc (A:=[]) (t_l5Ints h8.p hpl) ?_
   rintro _ Ry _ hRy ⟨bp,cp,spp,hcp,hspp,rfl,rfl⟩
   refine jfreeze (b:=bp) λRz hRz hbp=>jnil ?_
   have hpv:=ints_of (c:=cp) hbp hcp
   refine jand (jl (v:=.bool s.asked) rfl jev) (jand (jl (v:=I s.cycles) rfl jev) (jand (jl (v:=I s.fulls) rfl jev) ?_))
   refine jall ?_ (jall1 ?_)
   ·refine jms (by omega) (by omega) (by omega) λbm=>?_
    rw[Int.toNat_natCast]
    refine jbd (cs:=(eSt s' (.slice (some ⟨bw,0,none⟩) s.words.length s.words.length) (.slice (some ⟨bt,0,none⟩) s.table.length ct) (.slice (some ⟨bm,0,none⟩) s.words.length s.words.length) (.slice none 0 0) (.slice none 0 0) (.slice (some ⟨bp,0,none⟩) s.pins.length cp))) rfl (by rw[← hS];rfl) ?_
    refine jand (jl (v:=.bool s.asked) rfl jev) (jand (jl (v:=I s.cycles) rfl jev) (jand (jl (v:=I s.fulls) rfl jev) ?_))
    refine ja λb19=>?_
    refine jand (jl (v:=.bool s.asked) rfl jev) (jand (jl (v:=I s.cycles) rfl jev) (jand (jl (v:=I s.fulls) rfl jev) ?_))
    refine js (cs':=(eSt s' (.slice (some ⟨bw,0,none⟩) s.words.length s.words.length) (.slice (some ⟨bt,0,none⟩) s.table.length ct) (.slice (some ⟨bm,0,none⟩) s.words.length s.words.length) (.slice none 0 0) (.slice none 0 0) (.slice (some ⟨bp,0,none⟩) s.pins.length cp))) rfl rfl (by exact Nat.le_refl 13) rfl ?_
    refine jpart [(b19,C T_State (eSt s' (.slice (some ⟨bw,0,none⟩) s.words.length s.words.length) (.slice (some ⟨bt,0,none⟩) s.table.length ct) (.slice (some ⟨bm,0,none⟩) s.words.length s.words.length) (.slice none 0 0) (.slice none 0 0) (.slice (some ⟨bp,0,none⟩) s.pins.length cp))),(bm,C T_bool ((List.replicate s.words.length [Value.bool false]).flatten))] (G:=(bw,C T_int (w2.map I ++ [])) :: (bt,C T_Region (rowsE eRg t2 ++ tsp)) :: E) ?_
    exact hK _ _ _ ⟨hRy.trans hRz,bm,b19,_,hpv,rfl,rfl⟩
   ·refine ja λb19=>?_
    refine jand (jl (v:=.bool s.asked) rfl jev) (jand (jl (v:=I s.cycles) rfl jev) (jand (jl (v:=I s.fulls) rfl jev) ?_))
    refine jms (by omega) (by omega) (by omega) λbm=>?_
    rw[Int.toNat_natCast]
    refine jbd (cs:=(eSt s' (.slice (some ⟨bw,0,none⟩) s.words.length s.words.length) (.slice (some ⟨bt,0,none⟩) s.table.length ct) (.slice (some ⟨bm,0,none⟩) s.words.length s.words.length) (.slice none 0 0) (.slice none 0 0) (.slice (some ⟨bp,0,none⟩) s.pins.length cp))) rfl (by rw[← hS];rfl) ?_
    refine jand (jl (v:=.bool s.asked) rfl jev) (jand (jl (v:=I s.cycles) rfl jev) (jand (jl (v:=I s.fulls) rfl jev) ?_))
    refine js (cs':=(eSt s' (.slice (some ⟨bw,0,none⟩) s.words.length s.words.length) (.slice (some ⟨bt,0,none⟩) s.table.length ct) (.slice (some ⟨bm,0,none⟩) s.words.length s.words.length) (.slice none 0 0) (.slice none 0 0) (.slice (some ⟨bp,0,none⟩) s.pins.length cp))) rfl rfl (by exact Nat.le_refl 13) rfl ?_
    refine jpart [(b19,C T_State (eSt s' (.slice (some ⟨bw,0,none⟩) s.words.length s.words.length) (.slice (some ⟨bt,0,none⟩) s.table.length ct) (.slice (some ⟨bm,0,none⟩) s.words.length s.words.length) (.slice none 0 0) (.slice none 0 0) (.slice (some ⟨bp,0,none⟩) s.pins.length cp))),(bm,C T_bool ((List.replicate s.words.length [Value.bool false]).flatten))] (G:=(bw,C T_int (w2.map I ++ [])) :: (bt,C T_Region (rowsE eRg t2 ++ tsp)) :: E) ?_
    exact hK _ _ _ ⟨hRy.trans hRz,bm,b19,_,hpv,rfl,rfl⟩
  ·refine ja λb19=>?_
   refine jand (jl (v:=.bool s.asked) rfl jev) (jand (jl (v:=pv) rfl jev) (jand (jl (v:=I s.cycles) rfl jev) (jand (jl (v:=I s.fulls) rfl jev) ?_)))
   refine jall ?_ (jall1 ?_)
   ·refine jms (by omega) (by omega) (by omega) λbm=>?_
    rw[Int.toNat_natCast]
    refine jand (jl (v:=.bool s.asked) rfl jev) (jand (jl (v:=pv) rfl jev) (jand (jl (v:=I s.cycles) rfl jev) (jand (jl (v:=I s.fulls) rfl jev) ?_)))
    refine jc (A:=[]) (t_l5Ints h8.p hpl) ?_
    rintro _ Ry _ hRy ⟨bp,cp,spp,hcp,hspp,rfl,rfl⟩
    refine jfreeze (b:=bp) λRz hRz hbp=>jnil ?_
    have hpv:=ints_of (c:=cp) hbp hcp
    refine jbd (cs:=(eSt s' (.slice (some ⟨bw,0,none⟩) s.words.length s.words.length) (.slice (some ⟨bt,0,none⟩) s.table.length ct) (.slice (some ⟨bm,0,none⟩) s.words.length s.words.length) (.slice none 0 0) (.slice none 0 0) (.slice (some ⟨bp,0,none⟩) s.pins.length cp))) rfl (by rw[← hS];rfl) ?_
    refine jand (jl (v:=.bool s.asked) rfl jev) (jand (jl (v:=I s.cycles) rfl jev) (jand (jl (v:=I s.fulls) rfl jev) ?_))
    refine js (cs':=(eSt s' (.slice (some ⟨bw,0,none⟩) s.words.length s.words.length) (.slice (some ⟨bt,0,none⟩) s.table.length ct) (.slice (some ⟨bm,0,none⟩) s.words.length s.words.length) (.slice none 0 0) (.slice none 0 0) (.slice (some ⟨bp,0,none⟩) s.pins.length cp))) rfl rfl (by exact Nat.le_refl 13) rfl ?_
    refine jpart [(b19,C T_State (eSt s' (.slice (some ⟨bw,0,none⟩) s.words.length s.words.length) (.slice (some ⟨bt,0,none⟩) s.table.length ct) (.slice (some ⟨bm,0,none⟩) s.words.length s.words.length) (.slice none 0 0) (.slice none 0 0) (.slice (some ⟨bp,0,none⟩) s.pins.length cp))),(bm,C T_bool ((List.replicate s.words.length [Value.bool false]).flatten))] (G:=(bw,C T_int (w2.map I ++ [])) :: (bt,C T_Region (rowsE eRg t2 ++ tsp)) :: E) ?_
    exact hK _ _ _ ⟨hRy.trans hRz,bm,b19,_,hpv,rfl,rfl⟩
   ·refine jc (A:=[]) (t_l5Ints h8.p hpl) ?_
    rintro _ Ry _ hRy ⟨bp,cp,spp,hcp,hspp,rfl,rfl⟩
    refine jfreeze (b:=bp) λRz hRz hbp=>jnil ?_
    have hpv:=ints_of (c:=cp) hbp hcp
    refine jand (jl (v:=.bool s.asked) rfl jev) (jand (jl (v:=I s.cycles) rfl jev) (jand (jl (v:=I s.fulls) rfl jev) ?_))
    refine jms (by omega) (by omega) (by omega) λbm=>?_
    rw[Int.toNat_natCast]
    refine jbd (cs:=(eSt s' (.slice (some ⟨bw,0,none⟩) s.words.length s.words.length) (.slice (some ⟨bt,0,none⟩) s.table.length ct) (.slice (some ⟨bm,0,none⟩) s.words.length s.words.length) (.slice none 0 0) (.slice none 0 0) (.slice (some ⟨bp,0,none⟩) s.pins.length cp))) rfl (by rw[← hS];rfl) ?_
    refine jand (jl (v:=.bool s.asked) rfl jev) (jand (jl (v:=I s.cycles) rfl jev) (jand (jl (v:=I s.fulls) rfl jev) ?_))
    refine js (cs':=(eSt s' (.slice (some ⟨bw,0,none⟩) s.words.length s.words.length) (.slice (some ⟨bt,0,none⟩) s.table.length ct) (.slice (some ⟨bm,0,none⟩) s.words.length s.words.length) (.slice none 0 0) (.slice none 0 0) (.slice (some ⟨bp,0,none⟩) s.pins.length cp))) rfl rfl (by exact Nat.le_refl 13) rfl ?_
    refine jpart [(b19,C T_State (eSt s' (.slice (some ⟨bw,0,none⟩) s.words.length s.words.length) (.slice (some ⟨bt,0,none⟩) s.table.length ct) (.slice (some ⟨bm,0,none⟩) s.words.length s.words.length) (.slice none 0 0) (.slice none 0 0) (.slice (some ⟨bp,0,none⟩) s.pins.length cp))),(bm,C T_bool ((List.replicate s.words.length [Value.bool false]).flatten))] (G:=(bw,C T_int (w2.map I ++ [])) :: (bt,C T_Region (rowsE eRg t2 ++ tsp)) :: E) ?_
    exact hK _ _ _ ⟨hRy.trans hRz,bm,b19,_,hpv,rfl,rfl⟩
 rintro e Ry D9 ⟨hRy,bm,b19,pv',hpv',hD,he⟩
 rw[hD];clear hD
 have es1:s'.words = w2:=by rw[← hS]
 have es2:s'.table = t2:=by rw[← hS]
 have es3:s'.pins = s.pins:=by rw[← hS]
 have es4:s'.threads = ths:=by rw[← hS]
 have es5:s'.marks = List.replicate w2.length false:=by rw[← hS]
 have hths8:newThs l live to_ s.threads = some s'.threads:=by rw[es4];exact hths
 rw[← hE]
 have ew:s.words.length = s'.words.length:=by rw[es1];exact hl2.symm
 have et:s.table.length = s'.table.length:=by rw[es2];exact ht2.symm
 have em:(List.replicate s.words.length [Value.bool false]).flatten = s'.marks.map Value.bool:=by rw[es5,hl2];simp
 have el:s'.marks.length = s'.words.length:=by rw[es5,es1,List.length_replicate]
 rw[em,← es1,← es2,ew,et]
 refine jpart [(b19,C T_State (eSt s' (.slice (some ⟨bw,0,none⟩) s'.words.length s'.words.length) (.slice (some ⟨bt,0,none⟩) s'.table.length ct) (.slice (some ⟨bm,0,none⟩) s'.words.length s'.words.length) (.slice none 0 0) (.slice none 0 0) pv')),(b2,C T_State (cl z74)),(b1,C T_State (eSt s wv tv mv thv ov pv)),(bw,C T_int (s'.words.map I ++ [])),(bt,C T_Region (rowsE eRg s'.table ++ tsp)),(bm,C T_bool (s'.marks.map Value.bool))] (G:=F) ?_
 have hRR:=hR1.trans (hR2.trans (hR3.trans (hR5.trans (hR8.trans hRy))))
 have hpf:=Fz.flat hpv'
 change J Ry _ (l7d e _)
 refine l7d_ok (E:=(b1,C T_State (eSt s wv tv mv thv ov pv)) :: (bw,C T_int (s'.words.map I ++ [])) :: (bt,C T_Region (rowsE eRg s'.table ++ tsp)) :: (bm,C T_bool (s'.marks.map Value.bool)) :: F) (h8.le hRy) (hlv8.le hRy) (by omega) (hi98.le hRy) (by omega) (hito.le hRy) hths8 hth hrl inferInstance he (λx hx=>?_) (λR' x hR' hx=>?_)
 ·show (true && (true && (true && (true && (true && (true && (true && (true && (flat x && (true && (flat pv' && (true && (true && true))))))))))))) = true
  rw[hx,hpf];rfl
 ·refine jret (A:=[(bw,C T_int (s'.words.map I ++ [])),(bt,C T_Region (rowsE eRg s'.table ++ tsp)),(bm,C T_bool (s'.marks.map Value.bool))]) (hRR.trans hR') ⟨bw,[],s'.words.length,bt,tsp,ct,bm,x,pv',by omega,by omega,by omega,by omega,by omega,hx,?_,rfl,?_⟩
  ·rw[es3];exact hpv'.le hR'
  ·rw[el]
end Go.Lf
end
section
namespace Go.Lf
open Go Sm
theorem rgs_of {R:RM} {b c:Nat} {l:List Rg} {sp:List Value} (h:R b = some (C T_Region (rowsE eRg l ++ sp))) (hc:l.length≤c):Rgs R (.slice (some ⟨b,0,none⟩) l.length c) l:=by
 have e:=rowsE_size (f:=eRg) (w:=5) (λ_=>rfl) l
 exact .inr ⟨b,0,c,T_Region,_,rfl,h,by rw[List.length_append,e];omega,by rw[List.drop_zero,← e,List.take_left],hc⟩
theorem bls_of {R:RM} {b c:Nat} {l:List Bool} {sp:List Value} (h:R b = some (C T_bool (l.map Value.bool ++ sp))) (hc:l.length≤c):Bls R (.slice (some ⟨b,0,none⟩) l.length c) l:=by
 have e:(l.map Value.bool).length = l.length * 1:=by simp
 exact .inr ⟨b,0,c,T_bool,_,rfl,h,by rw[List.length_append,e];omega,by rw[List.drop_zero,← e,List.take_left],hc⟩
theorem newThs_len {l:List Thing} {live to_:List Int}:∀{ts r:List Th},newThs l live to_ ts = some r→r.length = ts.length
 | [],r,h=>by unfold newThs at h;cases h;rfl
 | t :: ts,r,h=>by
  obtain⟨roots,rest,_,h2,rfl⟩:=newTh_cons h
  rw[List.length_cons,List.length_cons,newThs_len h2]
theorem fullS_ths {s s' : Sm.State} (h:fullS s = some s'):s'.threads.length = s.threads.length∧s'.old = []:=by
 unfold fullS at h
 obtain⟨_,_,h⟩:=bind_some h
 obtain⟨⟨_,_⟩,_,h⟩:=bind_some h
 obtain⟨⟨_,_⟩,_,h⟩:=bind_some h
 obtain⟨_,_,h⟩:=bind_some h
 obtain⟨_,hths,h⟩:=bind_some h
 obtain⟨_,_,h⟩:=bind_some h
 simp only[Option.some.injEq] at h
 subst h
 exact⟨newThs_len hths,rfl⟩
theorem t_pause_f {p n:Nat} {S S' : Sim} {g:Img} {R:RM} (hok:Ok R S g) (hp:Pr S) (hT:TOk S.table) (hf:S.full = true) (hS:S.pause n = some S') :
  Fn P F_Sim_pause [.pointer (some ⟨p,0,none⟩)] R (simD p S g) (SimQ p S' λ_=>True):=by
 refine s_Sim_pause λF=>?_
 unfold c_Sim_pause
 unfold Sim.pause at hS
 split at hS
 ·cases hS
 rename_i hz
 have hz:S.sz = true:=by simpa using hz
 obtain⟨s,hs,hS⟩:=bind_some hS
 simp only[Option.some.injEq] at hS
 have hze:=sz_ev hz
 have hhl:=hok.hl
 refine jl (v:=.bool S.full) rfl ?_
 rw[hf]
 refine jift ?_
 refine jc (A:=simD p S g) (t_view hok hz) ?_
 rintro _ R1 _ hR1 ⟨-,rfl,thv,hths,rfl⟩
 have ok1:=hok.le hR1
 unfold simD
 refine jfreeze (b:=g.wb) λR2 hR2 hbw=>jfreeze (b:=g.tb) λR3 hR3 hbt=>jfreeze (b:=g.mb) λR4 hR4 hbm=>?_
 have hR14:=(hR2.trans hR3).trans hR4
 have ok4:=ok1.le hR14
 have hst:StC R4 S.view (wS S g) (tS S g) (mS S g) thv g.old g.pins:=⟨ints_of (hR4 _ _ (hR3 _ _ hbw)) hok.wk,rgs_of (hR4 _ _ hbt) hok.tk,bls_of hbm hok.mk_,hths.le hR14,ok4.old,ok4.pins⟩
 have hvl:S.view.threads.length = S.th.length:=by simp[Sim.view]
 obtain⟨hsl,hold⟩:=fullS_ths hs
 refine jc (A:=[]) (t_l7Full hst hok.wl hT.n0 hT.n1 (by omega) (λt ht=>?_) hze.2.2.2.1 hp.2 hs) ?_
 ·obtain⟨t',ht',rfl⟩:=List.mem_map.1 ht
  exact hze.2.2.2.2 _ ht'
 rintro _ R5 _ hR5 ⟨bw,wsp,cw,bt,tsp,ct,bm,thv',pv',w1,w2,w3,w4,w5,hths',hpv',rfl,rfl⟩
 have ok5:=ok4.le hR5
 obtain⟨ta,tc,htv⟩:=hths'.sl
 have hpf:=Fz.flat hpv'
 have w1:s.words.length = S.words.length:=w1
 have w2:s.table.length = S.table.length:=w2
 have w3:s.marks.length = S.words.length:=w3
 have hwl:=hok.wl
 have htl:=hok.tl
 refine js (cs':=eSim { S with words:=s.words,table:=s.table,marks:=s.marks,phase:=s.phase,stop:=s.stop,full:=s.full,old:=s.old,pins:=s.pins,cycles:=s.cycles,fulls:=s.fulls } { g with wb:=bw,wc:=cw,wsp:=wsp,tb:=bt,tc:=ct,tsp:=tsp,mb:=bm,mc:=s.marks.length,msp:=[],asked:=.bool s.asked,want:=I s.want,threads:=thv',old:=.slice none 0 0,pins:=pv' }) rfl ?_ (by show 4 + 13≤35;omega) rfl ?_
 ·subst htv
  show (true && (true && (true && (true && (true && (true && (true && (true && (true && (true && (flat pv' && (true && (true && true))))))))))))) = true
  rw[hpf];rfl
 refine jl (v:=.bool s.asked) rfl ?_
 refine jbd (cs:=eCol (col0 s.asked 0) (.slice none 0 0)) rfl rfl ?_
 generalize hS3:({ S with words:=s.words,table:=s.table,marks:=s.marks,phase:=s.phase,stop:=s.stop,full:=s.full,old:=s.old,pins:=s.pins,cycles:=s.cycles,fulls:=s.fulls,col:=col0 s.asked 0 }:Sim) = S3
 generalize hg3:({ g with wb:=bw,wc:=cw,wsp:=wsp,tb:=bt,tc:=ct,tsp:=tsp,mb:=bm,mc:=s.marks.length,msp:=[],asked:=.bool s.asked,want:=I s.want,threads:=thv',old:=.slice none 0 0,pins:=pv',stack:=.slice none 0 0 }:Img) = g3
 have eth:S3.th = S.th:=by rw[← hS3]
 have ethv:g3.threads = thv':=by rw[← hg3]
 have ok3:Ok R5 S3 g3:=by
  subst hS3 hg3 htv
  exact { ok5 with old:=.inl ⟨rfl,by rw[hold];rfl,by rw[hold];rfl⟩,pins:=hpv',stack:=.inl ⟨rfl,rfl,rfl⟩,wl:=by show s.words.length≤1000;omega,tl:=by show s.table.length≤1000;omega,ml:=by show s.marks.length≤1000;omega,fl:=⟨rfl,rfl,rfl⟩,wk:=w4,tk:=w5,mk_:=Nat.le_refl _ }
 refine js (cs':=eSim S3 g3) rfl rfl (by exact Nat.le_of_ble_eq_true rfl) (by rw[← hS3,← hg3];rfl) ?_
 refine jperm (D':=simD p S3 g3 ++ F) (by
  have e:simD p S3 g3 = (p,C T_l8Sim (eSim S3 g3)) :: (bw,C T_int (s.words.map I ++ wsp)) :: (bt,C T_Region (rowsE eRg s.table ++ tsp)) :: (bm,C T_bool (s.marks.map Value.bool ++ [])) :: (g.hb,C T_l8Thread (eThs S.th g.rv ++ g.hsp)) :: evD S g:=by rw[← hS3,← hg3];rfl
  rw[e,List.append_nil]
  exact List.perm_middle (l₁:=[(bw,C T_int (s.words.map I ++ wsp)),(bt,C T_Region (rowsE eRg s.table ++ tsp)),(bm,C T_bool (s.marks.map Value.bool))])) ?_
 have hSe:S' = { S3 with th:=s.threads.map λt=>thr0 t.roots t.next t.tried }:=by rw[← hS3,← hS]
 clear hS hS3 hg3 hst
 generalize hT' : (s.threads.map λt=>thr0 t.roots t.next t.tried) = T' at hSe
 have hTl:T'.length = S.th.length:=by rw[← hT',List.length_map];omega
 have hTg:∀k (h:k < T'.length) (h' : k < s.threads.length),T'[k] = thr0 (s.threads[k]).roots (s.threads[k]).next (s.threads[k]).tried:=λk h h'=>by simp only[← hT',List.getElem_map]
 rw[← eth] at hTl hhl hvl
 rw[hvl] at hsl
 subst hSe
 refine jlp (λm vs R' D'=>R' = R5∧∃(k:Nat) (g4:Img),k≤S3.th.length∧g4.threads = thv'∧Ok R5 { S3 with th:=T'.take k ++ S3.th.drop k } g4∧D' = simD p { S3 with th:=T'.take k ++ S3.th.drop k } g4 ++ F∧vs = [.pointer (some ⟨p,0,none⟩),I k]∧m = S3.th.length - k)
  (n:=S3.th.length) ⟨rfl,0,g3,by omega,ethv,ok3,rfl,rfl,by omega⟩ ?_
 rintro m e R6 D6 K ⟨hR,k,g4,hk,e4,ok4,hD,he,hm⟩ hK
 subst hR
 rw[hD];clear hD
 simp only[List.map,lc,ln,lj,and_true] at he
 simp only[he]
 have hul:=upto_len (k:=k) hTl
 refine jl (v:=.slice (some ⟨g4.hb,0,none⟩) (T'.take k ++ S3.th.drop k).length g4.hc) rfl (jln (jlt (jif (λhc=>?_) (λhc=>?_))))
 rotate_left
 ·have hc:S3.th.length≤k:=by have:=of_decide_eq_false hc;omega
  have ee:T'.take k ++ S3.th.drop k = T':=by rw[List.take_of_length_le (by omega),List.drop_eq_nil_of_le (by omega),List.append_nil]
  rw[ee] at ok4 ⊢
  exact jretS (hR1.trans (hR14.trans hR5)) trivial rfl ok4
 have hc:k < S3.th.length:=by have:=of_decide_eq_true hc;omega
 have hcs:k < s.threads.length:=by omega
 refine jl (v:=g4.threads) rfl ?_
 rw[e4]
 refine jtr hths' hcs λb3 o3 ty cs rv hrv hb3 ho3 hrow3=>?_
 refine jlar hb3 ho3 hrow3 ?_
 obtain⟨ra,rc,hrve⟩:=hrv.sl
 subst hrve
 refine ja λb30=>?_
 refine js (cs':=[.slice ra (s.threads[k]).roots.length rc,I (s.threads[k]).next,.bool (s.threads[k]).busy,I (s.threads[k]).tried]) rfl rfl (by exact Nat.le_refl 4) rfl ?_
 refine jl (v:=.slice (some ⟨g4.hb,0,none⟩) (T'.take k ++ S3.th.drop k).length g4.hc) rfl ?_
 refine jl (v:=.slice ra (s.threads[k]).roots.length rc) rfl (jl (v:=I (s.threads[k]).next) rfl (jl (v:=I (s.threads[k]).tried) rfl ?_))
 refine jbd (cs:=eThr (thr0 (s.threads[k]).roots (s.threads[k]).next (s.threads[k]).tried) (.slice ra (s.threads[k]).roots.length rc)) rfl rfl ?_
 refine jian (by omega) ?_
 refine jst (p:=p) (S:={ S3 with th:=T'.take k ++ S3.th.drop k }) (g:=g4) _ _ (by show k < (T'.take k ++ S3.th.drop k).length;omega) ok4.rvl (Fz.flat hrv) rfl rfl ?_
 refine jadd ⟨by omega,by omega⟩ ?_
 have hset:(T'.take k ++ S3.th.drop k).set k (thr0 (s.threads[k]).roots (s.threads[k]).next (s.threads[k]).tried) = T'.take (k + 1) ++ S3.th.drop (k + 1):=by
  rw[← hTg k (by omega) hcs]
  exact upto_set hTl hc
 have ok5':=ok4.setT (i:=k) (t:=thr0 (s.threads[k]).roots (s.threads[k]).next (s.threads[k]).tried) (v:=.slice ra (s.threads[k]).roots.length rc) hrv
 dsimp only at ok5' ⊢
 rw[hset] at ok5' ⊢
 refine jpart (simD p { S3 with th:=T'.take (k + 1) ++ S3.th.drop (k + 1) } { g4 with rv:=g4.rv.set k (.slice ra (s.threads[k]).roots.length rc) }) (G:=F) ?_
 exact hK (S3.th.length - (k + 1)) _ _ _ (by omega) ⟨rfl,k + 1,{ g4 with rv:=g4.rv.set k (.slice ra (s.threads[k]).roots.length rc) },by omega,e4,ok5',rfl,rfl,rfl⟩
theorem t_pause {p n:Nat} {S S' : Sim} {g:Img} {R:RM} (hok:Ok R S g) (hp:Pr S) (hT:TOk S.table) (hS:S.pause n = some S') :
  Fn P F_Sim_pause [.pointer (some ⟨p,0,none⟩)] R (simD p S g) (SimQ p S' λ_=>True):=by
 cases hf:S.full with
 | true=>exact t_pause_f hok hp hT hf hS
 | false=>exact t_pause_nf hok hp hT hf hS
end Go.Lf
end
