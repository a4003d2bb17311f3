/- A part of the proof of the given row: the walk of the law and of all that it calls. Conditions: none. -/
import Derived.Test.YtlagojobcbkpdaaGreatCK
set_option linter.unusedVariables false
set_option linter.unusedSimpArgs false
section
namespace Go.Lf
open Go Sm
theorem DT {R:RM} {D:Chs} {a:M} (h:J R D a):J R D (ALL [a]):=h
theorem E6 {R:RM} {D:Chs} {a b:M} {r:List M} (h:J R D a) (h2:J R D (ALL (b :: r))):J R D (ALL (a :: b :: r)):=λh' hs=>⟨h h' hs,h2 h' hs⟩
def eNw (w:Value) (tv:Value) (m:Value) (thv:Value):List Value:=[w,tv,m,I 0,.bool false,.bool false,.bool false,I 0,thv,.slice none 0 0,.slice none 0 0,I 0,I 0]
def BU (c:Cfg):List Int:=(CF (List.replicate (c.AC.toNat * 16) 0) 16 Bp).1
theorem MW {c:Cfg} (h:BY c = true):(CF (List.replicate (c.AC.toNat * 16) 0) 16 Bp).2 = true∧(BU c).length = c.AC.toNat * 16:=by
 unfold BY at h;simp only[z_b,z_d] at h;have hf:fits (c.AC.toNat * 16) 16 (AF Bp) = true:=by
  have e:AF Bp = 8:=by decide
  rw[e];unfold fits BJ AS;simp only[z_b,z_d,beq_iff_eq];refine⟨⟨⟨⟨⟨⟨⟨by omega,by omega⟩,by omega⟩,by omega⟩,by omega⟩,by omega⟩,by omega⟩,by decide⟩
 unfold BU CF;rw[Z9,if_pos hf];refine⟨rfl,?_⟩;unfold Sm.put;have:Bp.refs.toNat + Bp.nums.toNat = 6:=by decide
 simp only[Yn,Z0,Z9,ZO,Z8,Zj,this];omega
theorem Qc {R:RM} {c:Cfg} (hc:BY c = true) :
  Fn P He [.agg #[I c.AC,I c.AA,I c.AN]] R [] (λv R' A=>∃bw cw wsp bt ct tsp bm thv,(BU c).length≤cw∧(AU c.AC).length≤ct∧Ths R' thv (List.replicate c.AA.toNat ⟨[16],0,false,0⟩)∧
   A = [(bw,C Ac ((BU c).map I ++ wsp)),(bt,C AI (Ab eRg (AW (AU c.AC) 1 ⟨3,-1,24,24,0⟩) ++ tsp)),(bm,C BK ((List.replicate (c.AC.toNat * 16) false).map Value.bool))]∧
   v = .tuple #[.agg (eNw (S0 bw (BU c).length cw) (S0 bt (AU c.AC).length ct) (S0 bm (c.AC.toNat * 16) (c.AC.toNat * 16)) thv).toArray,.bool true]):=by
 refine Nd λF=>?_
 unfold I9;have hcc:=hc;unfold BY at hc;simp only[z_b,z_d] at hc;refine ja λb1=>?_
 rw[show cl (.agg #[I c.AC,I c.AA,I c.AN]) = [I c.AC,I c.AA,I c.AN] from rfl];refine ja λb2=>?_
 refine jla (l:=[I c.AC,I c.AA,I c.AN]) (by simp) rfl ?_;refine jp (MP c) ?_;rw[hcc];refine Cn (jfo (jl (v:=I c.AC) rfl ?_));refine jmk (M7 c.AC) ?_;intro v N hq;unfold W7 at hq;have htl:(AU c.AC).length = c.AC.toNat:=by
  unfold AU;rw[if_neg (by omega)];simp;omega
 rw[if_neg (by intro hn;rw[hn] at htl;simp at htl;omega)] at hq;obtain⟨sv,⟨bt,ct,tsp,hct,rfl,rfl⟩,rfl⟩:=hq;refine jex rfl (jex rfl ?_);have e16:(c.AC * 16).toNat = c.AC.toNat * 16:=by omega
 refine AJ (λvs R' D'=>R' = R∧∃bw bm b6,D' = (b6,C AK (eNw (S0 bw (c.AC.toNat * 16) (c.AC.toNat * 16)) (S0 bt (AU c.AC).length ct) (S0 bm (c.AC.toNat * 16) (c.AC.toNat * 16)) (.slice none 0 0))) ::
   (bw,C Ac ((List.replicate (c.AC.toNat * 16) [I 0]).flatten)) :: (bm,C BK ((List.replicate (c.AC.toNat * 16) [Value.bool false]).flatten)) ::
   (bt,C AI (Ab eRg (AU c.AC) ++ tsp)) :: (b2,C AK (cl z28)) :: (b1,C 33 [I c.AC,I c.AA,I c.AN]) :: F∧vs = [Pt b1,Pt b2,Pt b6]) (λK hK=>?_) ?_
 ·refine jfo (jl (v:=I c.AC) rfl (GX ⟨by omega,by omega⟩ (jfo (jl (v:=I c.AC) rfl (GX ⟨by omega,by omega⟩ ?_)))));refine E6 ?_ (E6 ?_ (DT ?_))
  ·refine jms (by omega) (by omega) (by omega) λbw=>?_
   rw[e16];refine Ae (jl (v:=I c.AC) rfl jev) ?_;refine E6 ?_ (DT ?_)
   ·refine jms (by omega) (by omega) (by omega) λbm=>?_
    rw[e16];refine jbd (cs:=(eNw (S0 bw (c.AC.toNat * 16) (c.AC.toNat * 16)) (S0 bt (AU c.AC).length ct) (S0 bm (c.AC.toNat * 16) (c.AC.toNat * 16)) (.slice none 0 0))) rfl rfl ?_;refine ja λb6=>?_
    refine js (cs':=(eNw (S0 bw (c.AC.toNat * 16) (c.AC.toNat * 16)) (S0 bt (AU c.AC).length ct) (S0 bm (c.AC.toNat * 16) (c.AC.toNat * 16)) (.slice none 0 0))) rfl rfl (by exact z_n 13) rfl ?_;refine Ai [(b6,C AK (eNw (S0 bw (c.AC.toNat * 16) (c.AC.toNat * 16)) (S0 bt (AU c.AC).length ct) (S0 bm (c.AC.toNat * 16) (c.AC.toNat * 16)) (.slice none 0 0))),(bw,C Ac ((List.replicate (c.AC.toNat * 16) [I 0]).flatten)),(bm,C BK ((List.replicate (c.AC.toNat * 16) [Value.bool false]).flatten))] (G:=[(bt,C AI (Ab eRg (AU c.AC) ++ tsp))] ++ (b2,C AK (cl z28)) :: (b1,C 33 [I c.AC,I c.AA,I c.AN]) :: ([] ++ F)) ?_;exact hK _ _ _ ⟨rfl,bw,bm,b6,rfl,rfl⟩
   ·refine ja λb6=>?_
    refine Ae (jl (v:=I c.AC) rfl jev) ?_;refine jms (by omega) (by omega) (by omega) λbm=>?_
    rw[e16];refine jbd (cs:=(eNw (S0 bw (c.AC.toNat * 16) (c.AC.toNat * 16)) (S0 bt (AU c.AC).length ct) (S0 bm (c.AC.toNat * 16) (c.AC.toNat * 16)) (.slice none 0 0))) rfl rfl ?_;refine js (cs':=(eNw (S0 bw (c.AC.toNat * 16) (c.AC.toNat * 16)) (S0 bt (AU c.AC).length ct) (S0 bm (c.AC.toNat * 16) (c.AC.toNat * 16)) (.slice none 0 0))) rfl rfl (by exact z_n 13) rfl ?_;refine Ai [(b6,C AK (eNw (S0 bw (c.AC.toNat * 16) (c.AC.toNat * 16)) (S0 bt (AU c.AC).length ct) (S0 bm (c.AC.toNat * 16) (c.AC.toNat * 16)) (.slice none 0 0))),(bw,C Ac ((List.replicate (c.AC.toNat * 16) [I 0]).flatten)),(bm,C BK ((List.replicate (c.AC.toNat * 16) [Value.bool false]).flatten))] (G:=[(bt,C AI (Ab eRg (AU c.AC) ++ tsp))] ++ (b2,C AK (cl z28)) :: (b1,C 33 [I c.AC,I c.AA,I c.AN]) :: ([] ++ F)) ?_;exact hK _ _ _ ⟨rfl,bw,bm,b6,rfl,rfl⟩
  ·refine jms (by omega) (by omega) (by omega) λbm=>?_
   rw[e16];refine Ae (jl (v:=I c.AC) rfl jev) ?_;refine E6 ?_ (DT ?_)
   ·refine jms (by omega) (by omega) (by omega) λbw=>?_
    rw[e16];refine jbd (cs:=(eNw (S0 bw (c.AC.toNat * 16) (c.AC.toNat * 16)) (S0 bt (AU c.AC).length ct) (S0 bm (c.AC.toNat * 16) (c.AC.toNat * 16)) (.slice none 0 0))) rfl rfl ?_;refine ja λb6=>?_
    refine js (cs':=(eNw (S0 bw (c.AC.toNat * 16) (c.AC.toNat * 16)) (S0 bt (AU c.AC).length ct) (S0 bm (c.AC.toNat * 16) (c.AC.toNat * 16)) (.slice none 0 0))) rfl rfl (by exact z_n 13) rfl ?_;refine Ai [(b6,C AK (eNw (S0 bw (c.AC.toNat * 16) (c.AC.toNat * 16)) (S0 bt (AU c.AC).length ct) (S0 bm (c.AC.toNat * 16) (c.AC.toNat * 16)) (.slice none 0 0))),(bw,C Ac ((List.replicate (c.AC.toNat * 16) [I 0]).flatten)),(bm,C BK ((List.replicate (c.AC.toNat * 16) [Value.bool false]).flatten))] (G:=[(bt,C AI (Ab eRg (AU c.AC) ++ tsp))] ++ (b2,C AK (cl z28)) :: (b1,C 33 [I c.AC,I c.AA,I c.AN]) :: ([] ++ F)) ?_;exact hK _ _ _ ⟨rfl,bw,bm,b6,rfl,rfl⟩
   ·refine ja λb6=>?_
    refine Ae (jl (v:=I c.AC) rfl jev) ?_;refine jms (by omega) (by omega) (by omega) λbw=>?_
    rw[e16];refine jbd (cs:=(eNw (S0 bw (c.AC.toNat * 16) (c.AC.toNat * 16)) (S0 bt (AU c.AC).length ct) (S0 bm (c.AC.toNat * 16) (c.AC.toNat * 16)) (.slice none 0 0))) rfl rfl ?_;refine js (cs':=(eNw (S0 bw (c.AC.toNat * 16) (c.AC.toNat * 16)) (S0 bt (AU c.AC).length ct) (S0 bm (c.AC.toNat * 16) (c.AC.toNat * 16)) (.slice none 0 0))) rfl rfl (by exact z_n 13) rfl ?_;refine Ai [(b6,C AK (eNw (S0 bw (c.AC.toNat * 16) (c.AC.toNat * 16)) (S0 bt (AU c.AC).length ct) (S0 bm (c.AC.toNat * 16) (c.AC.toNat * 16)) (.slice none 0 0))),(bw,C Ac ((List.replicate (c.AC.toNat * 16) [I 0]).flatten)),(bm,C BK ((List.replicate (c.AC.toNat * 16) [Value.bool false]).flatten))] (G:=[(bt,C AI (Ab eRg (AU c.AC) ++ tsp))] ++ (b2,C AK (cl z28)) :: (b1,C 33 [I c.AC,I c.AA,I c.AN]) :: ([] ++ F)) ?_;exact hK _ _ _ ⟨rfl,bw,bm,b6,rfl,rfl⟩
  ·refine ja λb6=>?_
   refine Ae (jl (v:=I c.AC) rfl jev) (Ae (jl (v:=I c.AC) rfl jev) ?_);refine E6 ?_ (DT ?_)
   ·refine jms (by omega) (by omega) (by omega) λbw=>?_
    rw[e16];refine Ae (jl (v:=I c.AC) rfl jev) ?_;refine jms (by omega) (by omega) (by omega) λbm=>?_
    rw[e16];refine jbd (cs:=(eNw (S0 bw (c.AC.toNat * 16) (c.AC.toNat * 16)) (S0 bt (AU c.AC).length ct) (S0 bm (c.AC.toNat * 16) (c.AC.toNat * 16)) (.slice none 0 0))) rfl rfl ?_;refine js (cs':=(eNw (S0 bw (c.AC.toNat * 16) (c.AC.toNat * 16)) (S0 bt (AU c.AC).length ct) (S0 bm (c.AC.toNat * 16) (c.AC.toNat * 16)) (.slice none 0 0))) rfl rfl (by exact z_n 13) rfl ?_;refine Ai [(b6,C AK (eNw (S0 bw (c.AC.toNat * 16) (c.AC.toNat * 16)) (S0 bt (AU c.AC).length ct) (S0 bm (c.AC.toNat * 16) (c.AC.toNat * 16)) (.slice none 0 0))),(bw,C Ac ((List.replicate (c.AC.toNat * 16) [I 0]).flatten)),(bm,C BK ((List.replicate (c.AC.toNat * 16) [Value.bool false]).flatten))] (G:=[(bt,C AI (Ab eRg (AU c.AC) ++ tsp))] ++ (b2,C AK (cl z28)) :: (b1,C 33 [I c.AC,I c.AA,I c.AN]) :: ([] ++ F)) ?_;exact hK _ _ _ ⟨rfl,bw,bm,b6,rfl,rfl⟩
   ·refine jms (by omega) (by omega) (by omega) λbm=>?_
    rw[e16];refine Ae (jl (v:=I c.AC) rfl jev) ?_;refine jms (by omega) (by omega) (by omega) λbw=>?_
    rw[e16];refine jbd (cs:=(eNw (S0 bw (c.AC.toNat * 16) (c.AC.toNat * 16)) (S0 bt (AU c.AC).length ct) (S0 bm (c.AC.toNat * 16) (c.AC.toNat * 16)) (.slice none 0 0))) rfl rfl ?_;refine js (cs':=(eNw (S0 bw (c.AC.toNat * 16) (c.AC.toNat * 16)) (S0 bt (AU c.AC).length ct) (S0 bm (c.AC.toNat * 16) (c.AC.toNat * 16)) (.slice none 0 0))) rfl rfl (by exact z_n 13) rfl ?_;refine Ai [(b6,C AK (eNw (S0 bw (c.AC.toNat * 16) (c.AC.toNat * 16)) (S0 bt (AU c.AC).length ct) (S0 bm (c.AC.toNat * 16) (c.AC.toNat * 16)) (.slice none 0 0))),(bw,C Ac ((List.replicate (c.AC.toNat * 16) [I 0]).flatten)),(bm,C BK ((List.replicate (c.AC.toNat * 16) [Value.bool false]).flatten))] (G:=[(bt,C AI (Ab eRg (AU c.AC) ++ tsp))] ++ (b2,C AK (cl z28)) :: (b1,C 33 [I c.AC,I c.AA,I c.AN]) :: ([] ++ F)) ?_;exact hK _ _ _ ⟨rfl,bw,bm,b6,rfl,rfl⟩
 rintro e Rz D1 ⟨hR,bw0,bm,b6,hD,he⟩;subst hR;rw[hD];clear hD;simp only[List.map,zc,zl,zj,z_t] at he;simp only[he];have htk:(List.replicate (c.AC.toNat * 16) [I 0]).flatten = (List.replicate (c.AC.toNat * 16) (0:Int)).map I ++ []:=by simp[aH]
 have hmk:(List.replicate (c.AC.toNat * 16) [Value.bool false]).flatten = (List.replicate (c.AC.toNat * 16) false).map Value.bool:=by simp[aH]
 rw[htk,hmk];refine Bh (b:=bw0) λR2 hR2 hb0=>?_
 have hw0:BC R2 (S0 bw0 (c.AC.toNat * 16) (c.AC.toNat * 16)) (List.replicate (c.AC.toNat * 16) 0):=by
  have:=C7 (c:=c.AC.toNat * 16) hb0 (by simp);rw[Z9] at this;exact this
 refine jbd (cs:=[I 4,I 2]) rfl rfl (ja λb7=>?_);refine js (cs':=[I 4,I 2]) rfl rfl (by simp) rfl ?_;refine jfo (jl (v:=S0 bw0 (c.AC.toNat * 16) (c.AC.toNat * 16)) rfl ?_);refine jla (l:=[I 4,I 2]) (by simp) rfl ?_;refine jc (A:=[]) (Pv 16 Bp hw0 (by rw[Z9];omega)) ?_;rintro v3 R3 A3 hR3 ⟨hRR,hq⟩;subst hRR;obtain⟨sf1,sf2⟩:=MW hcc;unfold QMk at hq;rw[if_pos sf1] at hq;obtain⟨sv,⟨bw,cw,wsp,hcw,hwsp,rfl,rfl⟩,rfl⟩:=hq;refine jex rfl (jex rfl ?_);refine jfo (js (cs':=eNw (S0 bw (BU c).length cw) (S0 bt (AU c.AC).length ct) (S0 bm (c.AC.toNat * 16) (c.AC.toNat * 16)) (.slice none 0 0)) rfl rfl (by simp[eNw]) rfl ?_);refine jla (l:=[I 4,I 2]) (by simp) rfl (jp (CC Bp) (Cd ⟨by decide,by decide⟩ ?_));rw[show (16:Int) + AF Bp = 24 by decide];refine jfo (jl (v:=S0 bt (AU c.AC).length ct) rfl ?_);refine jbd (cs:=eRg ⟨3,-1,24,24,0⟩) rfl rfl ?_;refine Cs (r:=1) (by omega) (Ha (t:=AU c.AC) (sp:=tsp) (x:=⟨3,-1,24,24,0⟩) (by omega) ?_);refine BH (D':=(bw,C Ac ((BU c).map I ++ wsp)) :: (b7,C 60 [I 4,I 2]) :: (b6,C AK (eNw (S0 bw (BU c).length cw) (S0 bt (AU c.AC).length ct) (S0 bm (c.AC.toNat * 16) (c.AC.toNat * 16)) (.slice none 0 0))) :: (bm,C BK ((List.replicate (c.AC.toNat * 16) false).map Value.bool)) :: (bt,C AI (Ab eRg (AW (AU c.AC) 1 ⟨3,-1,24,24,0⟩) ++ tsp)) :: (b2,C AK (cl z28)) :: (b1,C 33 [I c.AC,I c.AA,I c.AN]) :: F) (ZP _) ?_;refine Ai [(b6,C AK (eNw (S0 bw (BU c).length cw) (S0 bt (AU c.AC).length ct) (S0 bm (c.AC.toNat * 16) (c.AC.toNat * 16)) (.slice none 0 0))),(b1,C 33 [I c.AC,I c.AA,I c.AN]),(b2,C AK (cl z28)),(bw,C Ac ((BU c).map I ++ wsp)),(bt,C AI (Ab eRg (AW (AU c.AC) 1 ⟨3,-1,24,24,0⟩) ++ tsp)),(bm,C BK ((List.replicate (c.AC.toNat * 16) false).map Value.bool))] (G:=F) ?_;generalize hE:(b1,C 33 [I c.AC,I c.AA,I c.AN]) :: (b2,C AK (cl z28)) :: ([(bw,C Ac ((BU c).map I ++ wsp)),(bt,C AI (Ab eRg (AW (AU c.AC) 1 ⟨3,-1,24,24,0⟩) ++ tsp)),(bm,C BK ((List.replicate (c.AC.toNat * 16) false).map Value.bool))] ++ F) = E;have ea1:At E b1 (C 33 [I c.AC,I c.AA,I c.AN]):=by rw[← hE];exact inferInstance
 refine BH (D':=(b6,C AK (eNw (S0 bw (BU c).length cw) (S0 bt (AU c.AC).length ct) (S0 bm (c.AC.toNat * 16) (c.AC.toNat * 16)) (.slice none 0 0))) :: E) (by rw[← hE];exact ZP _) ?_;obtain⟨n,hn⟩:∃n:Nat,c.AA = n:=⟨c.AA.toNat,by omega⟩;refine AJ (λvs R' D'=>Rz.le R'∧∃rows v A,Rw (Co R') rows (List.replicate n ⟨[16],0,false,0⟩)∧SW 83 4 rows v A∧D' = A ++ (b6,C AK (eNw (S0 bw (BU c).length cw) (S0 bt (AU c.AC).length ct) (S0 bm (c.AC.toNat * 16) (c.AC.toNat * 16)) v)) :: E∧vs = [Pt b2,Pt b6]) (λK hK=>?_) ?_
 ·refine AJ (λvs R' D'=>Rz.le R'∧∃rows v A,Rw (Co R') rows (List.replicate n ⟨[16],0,false,0⟩)∧SW 83 4 rows v A∧D' = A ++ (b6,C AK (eNw (S0 bw (BU c).length cw) (S0 bt (AU c.AC).length ct) (S0 bm (c.AC.toNat * 16) (c.AC.toNat * 16)) v)) :: E∧vs = [Pt b2,Pt b6]) (λK2 hK2=>?_) ?_;rotate_left
  ·rintro e R1 D1 ⟨hR,rows,v,A,hrw,so,hD,he⟩;rw[hD];clear hD;simp only[List.map,zc,zl,zj,z_t] at he;simp only[he];exact hK _ _ _ ⟨hR,rows,v,A,hrw,so,rfl,rfl⟩
  refine jlp (λm vs R' D'=>Rz.le R'∧∃(i:Nat) (rows:List (List Value)) (v:Value) (A:Chs),i≤n∧Rw (Co R') rows (List.replicate i ⟨[16],0,false,0⟩)∧SW 83 4 rows v A∧D' = A ++ (b6,C AK (eNw (S0 bw (BU c).length cw) (S0 bt (AU c.AC).length ct) (S0 bm (c.AC.toNat * 16) (c.AC.toNat * 16)) v)) :: E∧vs = [Pt b1,Pt b2,Pt b6,I i]∧m = n - i)
   (n:=n) ⟨hR2,0,[],.slice none 0 0,[],by omega,Rw.nil,.inl ⟨rfl,rfl,rfl⟩,rfl,rfl,by omega⟩ ?_
  rintro m e R1 D1 K3 ⟨hR,i,rows,v,A,hi,hrw,so,hD,he,hm⟩ hK3;rw[hD];clear hD;simp only[List.map,zc,zl,zj,z_t] at he;simp only[he];refine jfo (jl (v:=I c.AA) rfl (jlt (jif (λhd=>?_) (λhd=>?_))));rotate_left
  ·have hd:i = n:=by have:=z_g hd;omega
   subst hd;exact hK2 _ _ _ ⟨hR,rows,v,A,hrw,so,rfl,rfl⟩
  have hd:i < n:=by have:=z_f hd;omega
  obtain⟨sa,sc,hsl⟩:=so.sl;subst hsl;refine jfo (jl (v:=.slice sa rows.length sc) rfl ?_);refine jbs (cs:=[I 16]) rfl rfl λb8=>?_
  refine Bh (b:=b8) λR3 hR3 hb8=>?_
  have hv2:BC R3 (S0 b8 1 1) [16]:=C7 (l:=[16]) (sp:=[]) (c:=1) hb8 (by simp);refine jbd (cs:=[S0 b8 1 1,I 0,.bool false,I 0]) rfl rfl ?_;refine jbs (cs:=[S0 b8 1 1,I 0,.bool false,I 0]) rfl rfl λb9=>?_
  refine Ai A (G:=(b9,C 83 [S0 b8 1 1,I 0,.bool false,I 0]) :: (b6,C AK (eNw (S0 bw (BU c).length cw) (S0 bt (AU c.AC).length ct) (S0 bm (c.AC.toNat * 16) (c.AC.toNat * 16)) (.slice sa rows.length sc))) :: E) ?_;have hx:BQ R3 (A ++ ((b9,C 83 [S0 b8 1 1,I 0,.bool false,I 0]) :: (b6,C AK (eNw (S0 bw (BU c).length cw) (S0 bt (AU c.AC).length ct) (S0 bm (c.AC.toNat * 16) (c.AC.toNat * 16)) (.slice sa rows.length sc))) :: E)) (some ⟨b9,0,none⟩) (1 * 4) [[S0 b8 1 1,I 0,.bool false,I 0]].flatten:=BQ.held (t:=83) (cs:=[S0 b8 1 1,I 0,.bool false,I 0]) (o:=0) (n:=1 * 4) (z_n 4);have hrl:=hrw.1;rw[Z9] at hrl;refine jaw so (hrw.all λ_ _=>Co.len) (by intro r hr;rw[Z3.1 hr];rfl) rfl rfl rfl (by decide) (by rw[Z4];omega) hx λv' A' so'=>?_
  obtain⟨sa',sc',hsl'⟩:=so'.sl;subst hsl';refine jfo (js (cs':=eNw (S0 bw (BU c).length cw) (S0 bt (AU c.AC).length ct) (S0 bm (c.AC.toNat * 16) (c.AC.toNat * 16)) (.slice sa' (rows ++ [[S0 b8 1 1,I 0,.bool false,I 0]]).length sc')) rfl rfl (by simp[eNw]) rfl ?_);refine jad ?_;refine Ai A' (G:=(b6,C AK (eNw (S0 bw (BU c).length cw) (S0 bt (AU c.AC).length ct) (S0 bm (c.AC.toNat * 16) (c.AC.toNat * 16)) (.slice sa' (rows ++ [[S0 b8 1 1,I 0,.bool false,I 0]]).length sc'))) :: E) ?_;refine hK3 (n - (i + 1)) _ _ _ (by omega) ⟨hR.trans hR3,i + 1,_,_,A',by omega,?_,so',rfl,rfl,rfl⟩;rw[List.replicate_succ'];exact (hrw.mono λ_ _=>Co.le hR3).app (Rw.one ⟨_,rfl,hv2⟩)
 rintro e R1 D1 ⟨hR,rows,v,A,hrw,so,hD,he⟩;rw[hD];clear hD;simp only[List.map,zc,zl,zj,z_t] at he;simp only[he];obtain⟨sa,sc,hsl⟩:=so.sl;subst hsl;refine jfw so (hrw.all λ_ _=>Co.len) λR3 hR3 hfz=>?_
 subst hE;refine jla (l:=eNw (S0 bw (BU c).length cw) (S0 bt (AU c.AC).length ct) (S0 bm (c.AC.toNat * 16) (c.AC.toNat * 16)) (.slice sa rows.length sc)) (by exact z_n 13) rfl ?_;refine js (cs':=eNw (S0 bw (BU c).length cw) (S0 bt (AU c.AC).length ct) (S0 bm (c.AC.toNat * 16) (c.AC.toNat * 16)) (.slice sa rows.length sc)) rfl rfl (by exact z_n 13) rfl ?_;refine jla (l:=eNw (S0 bw (BU c).length cw) (S0 bt (AU c.AC).length ct) (S0 bm (c.AC.toNat * 16) (c.AC.toNat * 16)) (.slice sa rows.length sc)) (by exact z_n 13) rfl ?_;refine BA (A:=[(bw,C Ac ((BU c).map I ++ wsp)),(bt,C AI (Ab eRg (AW (AU c.AC) 1 ⟨3,-1,24,24,0⟩) ++ tsp)),(bm,C BK ((List.replicate (c.AC.toNat * 16) false).map Value.bool))]) (hR.trans hR3) ⟨bw,cw,wsp,bt,ct,tsp,bm,.slice sa rows.length sc,hcw,hct,⟨rows,?_,hfz⟩,rfl,rfl⟩;rw[hn,Yj];exact hrw.mono λ_ _=>Co.le hR3
theorem SH {α β γ:Type} {f:α→β→γ} {a:α}:∀(l:List β),List.zipWith f (List.replicate l.length a) l = l.map (f a)
 | []=>rfl
 | b :: r=>by rw[Z8,List.replicate_succ,List.zipWith_cons_cons,SH r,Zn]
def eBg (c:Cfg) (pv w tv m thv v:Value):List Value:=I c.AC :: I c.AA :: I c.AN :: pv :: (eNw w tv m thv ++ v :: (Ah (CR false 0) (.slice none 0 0) ++ [.slice none 0 0,.bool false]))
theorem NE {R:RM} {c:Cfg} {pv:Value} {AX:List (List Sm.Op)} (hc:BY c = true) (hp:EA R pv AX) :
  Fn P Jx [.agg #[I c.AC,I c.AA,I c.AN],pv] R [] (λv R' A=>∃p g,v = Pt p∧A = AY p (Sm.start c AX) g∧Ok R' (Sm.start c AX) g):=by
 refine Pj λF=>?_
 unfold Jq;have hcc:=hc;unfold BY at hc;simp only[z_b,z_d] at hc;obtain⟨pvs,hpf,-,-⟩:=id hp;obtain⟨pa,pc,hpv⟩:=hpf.sl;refine ja λb1=>?_
 rw[show cl (.agg #[I c.AC,I c.AA,I c.AN]) = [I c.AC,I c.AA,I c.AN] from rfl];refine jla (l:=[I c.AC,I c.AA,I c.AN]) (by simp) rfl ?_;refine jc (A:=[]) (Qc hcc) ?_;rintro v1 R1 A1 hR1 ⟨bw,cw,wsp,bt,ct,tsp,bm,thv,hcw,hctn,hths,rfl,rfl⟩;obtain⟨ha,hcap,htv⟩:=hths.sl;subst hpv htv;refine jex rfl (jex rfl (ja λb2=>?_));refine js (cs':=eNw (S0 bw (BU c).length cw) (S0 bt (AU c.AC).length ct) (S0 bm (c.AC.toNat * 16) (c.AC.toNat * 16)) (.slice ha (List.replicate c.AA.toNat (⟨[16],0,false,0⟩:Th)).length hcap)) rfl rfl (by exact z_n 13) rfl ?_;refine jla (l:=[I c.AC,I c.AA,I c.AN]) (by simp) rfl ?_;refine jla (l:=eNw (S0 bw (BU c).length cw) (S0 bt (AU c.AC).length ct) (S0 bm (c.AC.toNat * 16) (c.AC.toNat * 16)) (.slice ha (List.replicate c.AA.toNat (⟨[16],0,false,0⟩:Th)).length hcap)) (by exact z_n 13) rfl ?_;refine jbd (cs:=eBg c (.slice pa AX.length pc) (S0 bw (BU c).length cw) (S0 bt (AU c.AC).length ct) (S0 bm (c.AC.toNat * 16) (c.AC.toNat * 16)) (.slice ha (List.replicate c.AA.toNat (⟨[16],0,false,0⟩:Th)).length hcap) (.slice none 0 0)) rfl rfl ?_;refine ja λp=>?_
 generalize hE:(b2,C AK (eNw (S0 bw (BU c).length cw) (S0 bt (AU c.AC).length ct) (S0 bm (c.AC.toNat * 16) (c.AC.toNat * 16)) (.slice ha (List.replicate c.AA.toNat (⟨[16],0,false,0⟩:Th)).length hcap))) :: ([(bw,C Ac ((BU c).map I ++ wsp)),(bt,C AI (Ab eRg (AW (AU c.AC) 1 ⟨3,-1,24,24,0⟩) ++ tsp)),(bm,C BK ((List.replicate (c.AC.toNat * 16) false).map Value.bool))] ++ (b1,C 33 [I c.AC,I c.AA,I c.AN]) :: ([] ++ F)) = E;have ea1:At E b1 (C 33 [I c.AC,I c.AA,I c.AN]):=by rw[← hE];exact inferInstance
 have ea2:At E b2 (C AK (eNw (S0 bw (BU c).length cw) (S0 bt (AU c.AC).length ct) (S0 bm (c.AC.toNat * 16) (c.AC.toNat * 16)) (.slice ha (List.replicate c.AA.toNat (⟨[16],0,false,0⟩:Th)).length hcap))):=by rw[← hE];exact inferInstance
 refine BH (D':=(p,C BZ (eBg c (.slice pa AX.length pc) (S0 bw (BU c).length cw) (S0 bt (AU c.AC).length ct) (S0 bm (c.AC.toNat * 16) (c.AC.toNat * 16)) (.slice ha (List.replicate c.AA.toNat (⟨[16],0,false,0⟩:Th)).length hcap) (.slice none 0 0))) :: E) (by rw[← hE]) ?_;obtain⟨n,hn⟩:∃n:Nat,c.AA = n:=⟨c.AA.toNat,by omega⟩;have e17:∀(l:List Value),∀r∈l.map (Ad (thr0 [16] 0 0)),r.length = 17:=λl r hr=>by
  obtain⟨x,_,rfl⟩:=ZU.1 hr;rfl
 refine AJ (λvs R' D'=>R1.le R'∧∃(rvs:List Value) (v:Value) (A:Chs),rvs.length = n∧(∀x∈rvs,BC R' x [16])∧SW 187 17 (rvs.map (Ad (thr0 [16] 0 0))) v A∧D' = A ++ (p,C BZ (eBg c (.slice pa AX.length pc) (S0 bw (BU c).length cw) (S0 bt (AU c.AC).length ct) (S0 bm (c.AC.toNat * 16) (c.AC.toNat * 16)) (.slice ha (List.replicate c.AA.toNat (⟨[16],0,false,0⟩:Th)).length hcap) v)) :: E∧vs = [Pt p]) (λK hK=>?_) ?_
 ·refine AJ (λvs R' D'=>R1.le R'∧∃(rvs:List Value) (v:Value) (A:Chs),rvs.length = n∧(∀x∈rvs,BC R' x [16])∧SW 187 17 (rvs.map (Ad (thr0 [16] 0 0))) v A∧D' = A ++ (p,C BZ (eBg c (.slice pa AX.length pc) (S0 bw (BU c).length cw) (S0 bt (AU c.AC).length ct) (S0 bm (c.AC.toNat * 16) (c.AC.toNat * 16)) (.slice ha (List.replicate c.AA.toNat (⟨[16],0,false,0⟩:Th)).length hcap) v)) :: E∧vs = [Pt p]) (λK2 hK2=>?_) ?_;rotate_left
  ·rintro e R2 D1 ⟨hR,rvs,v,A,hl,hrv,so,hD,he⟩;rw[hD];clear hD;simp only[List.map,zc,zl,zj,z_t] at he;simp only[he];exact hK _ _ _ ⟨hR,rvs,v,A,hl,hrv,so,rfl,rfl⟩
  refine jlp (λm vs R' D'=>∃i:Nat,i≤n∧m = n - i∧R1.le R'∧∃(rvs:List Value) (v:Value) (A:Chs),rvs.length = i∧(∀x∈rvs,BC R' x [16])∧SW 187 17 (rvs.map (Ad (thr0 [16] 0 0))) v A∧D' = A ++ (p,C BZ (eBg c (.slice pa AX.length pc) (S0 bw (BU c).length cw) (S0 bt (AU c.AC).length ct) (S0 bm (c.AC.toNat * 16) (c.AC.toNat * 16)) (.slice ha (List.replicate c.AA.toNat (⟨[16],0,false,0⟩:Th)).length hcap) v)) :: E∧vs = [Pt b1,Pt b2,Pt p,I i])
   (n:=n) ⟨0,by omega,by omega,RM.le.refl R1,[],.slice none 0 0,[],rfl,(λx hx=>by cases hx),.inl ⟨rfl,rfl,rfl⟩,rfl,rfl⟩ ?_
  rintro m e R2 D1 K3 ⟨i,hi,hm,hR,rvs,v,A,hl,hrv,so,hD,he⟩ hK3;rw[hD];clear hD;simp only[List.map,zc,zl,zj,z_t] at he;simp only[he];refine jfo (jl (v:=I c.AA) rfl (jlt (jif (λhd=>?_) (λhd=>?_))));rotate_left
  ·have hd:i = n:=by have:=z_g hd;omega
   subst hd;exact hK2 _ _ _ ⟨hR,rvs,v,A,hl,hrv,so,rfl,rfl⟩
  have hd:i < n:=by have:=z_f hd;omega
  obtain⟨sa,sc,hsl⟩:=so.sl;subst hsl;rw[ZF];refine jnc (jfo (jl (v:=.slice sa rvs.length sc) rfl ?_));refine jfo (jl (v:=.slice ha (List.replicate c.AA.toNat (⟨[16],0,false,0⟩:Th)).length hcap) rfl ?_);refine jtr (hths.le hR) (by rw[Z9];omega) λb3 o3 ty cs rv hrv3 hb3 ho3 hrow3=>?_
  rw[List.getElem_replicate] at hrv3 hrow3;refine jfo (jlr (v:=rv) hb3 (C6 hrow3 (f:=0) rfl) ?_);refine jc (A:=[]) (C9 hrv3 (by decide)) ?_;rintro _ R3 _ hR3 ⟨b8,c8,sp8,hc8,hsp8,rfl,rfl⟩;refine Bh (b:=b8) λR4 hR4 hb8=>?_
  have hv2:BC R4 (S0 b8 1 c8) [16]:=C7 (l:=[16]) (c:=c8) hb8 hc8;refine jbd (cs:=(Ad (thr0 [16] 0 0) (S0 b8 1 c8))) rfl rfl ?_;refine Ae (jl (v:=.slice sa rvs.length sc) rfl jev) ?_;refine jbs (cs:=(Ad (thr0 [16] 0 0) (S0 b8 1 c8))) rfl rfl λb9=>?_
  refine Ae (jl (v:=.slice sa rvs.length sc) rfl jev) ?_;refine BH (D':=(b9,C 187 (Ad (thr0 [16] 0 0) (S0 b8 1 c8))) :: (A ++ (p,C BZ (eBg c (.slice pa AX.length pc) (S0 bw (BU c).length cw) (S0 bt (AU c.AC).length ct) (S0 bm (c.AC.toNat * 16) (c.AC.toNat * 16)) (.slice ha (List.replicate c.AA.toNat (⟨[16],0,false,0⟩:Th)).length hcap) (.slice sa rvs.length sc))) :: E)) (ZP _) ?_;refine Ai A (G:=(b9,C 187 (Ad (thr0 [16] 0 0) (S0 b8 1 c8))) :: (p,C BZ (eBg c (.slice pa AX.length pc) (S0 bw (BU c).length cw) (S0 bt (AU c.AC).length ct) (S0 bm (c.AC.toNat * 16) (c.AC.toNat * 16)) (.slice ha (List.replicate c.AA.toNat (⟨[16],0,false,0⟩:Th)).length hcap) (.slice sa rvs.length sc))) :: E) ?_;have hx:BQ R4 (A ++ ((b9,C 187 (Ad (thr0 [16] 0 0) (S0 b8 1 c8))) :: (p,C BZ (eBg c (.slice pa AX.length pc) (S0 bw (BU c).length cw) (S0 bt (AU c.AC).length ct) (S0 bm (c.AC.toNat * 16) (c.AC.toNat * 16)) (.slice ha (List.replicate c.AA.toNat (⟨[16],0,false,0⟩:Th)).length hcap) (.slice sa rvs.length sc))) :: E)) (some ⟨b9,0,none⟩) (1 * 17) [(Ad (thr0 [16] 0 0) (S0 b8 1 c8))].flatten:=BQ.held (t:=187) (cs:=(Ad (thr0 [16] 0 0) (S0 b8 1 c8))) (o:=0) (n:=1 * 17) (z_n 17);rw[ZF] at so;refine jaw so (e17 _) (by intro r hr;rw[Z3.1 hr];rfl) rfl rfl rfl (by decide) (by rw[Z4,ZF];omega) hx λv' A' so'=>?_
  obtain⟨sa',sc',hsl'⟩:=so'.sl;have em:rvs.map (Ad (thr0 [16] 0 0)) ++ [(Ad (thr0 [16] 0 0) (S0 b8 1 c8))] = (rvs ++ [S0 b8 1 c8]).map (Ad (thr0 [16] 0 0)):=by rw[Zg];rfl
  rw[em] at so' hsl';subst hsl';refine jnc (jfo (js (cs':=eBg c (.slice pa AX.length pc) (S0 bw (BU c).length cw) (S0 bt (AU c.AC).length ct) (S0 bm (c.AC.toNat * 16) (c.AC.toNat * 16)) (.slice ha (List.replicate c.AA.toNat (⟨[16],0,false,0⟩:Th)).length hcap) (.slice sa' ((rvs ++ [S0 b8 1 c8]).map (Ad (thr0 [16] 0 0))).length sc')) rfl rfl (by simp[eBg,eNw,Ah]) rfl ?_));refine jad ?_;refine Ai A' (G:=(p,C BZ (eBg c (.slice pa AX.length pc) (S0 bw (BU c).length cw) (S0 bt (AU c.AC).length ct) (S0 bm (c.AC.toNat * 16) (c.AC.toNat * 16)) (.slice ha (List.replicate c.AA.toNat (⟨[16],0,false,0⟩:Th)).length hcap) (.slice sa' ((rvs ++ [S0 b8 1 c8]).map (Ad (thr0 [16] 0 0))).length sc'))) :: E) ?_;refine hK3 (n - (i + 1)) _ _ _ (by omega) ⟨i + 1,by omega,rfl,(hR.trans hR3).trans hR4,rvs ++ [S0 b8 1 c8],_,A',by rw[Yn,hl];rfl,?_,so',rfl,rfl⟩;intro x hx;rcases ZD.1 hx with hx | hx
  ·exact (hrv x hx).le (hR3.trans hR4)
  ·rw[Z3.1 hx];exact hv2
 rintro e R2 D1 ⟨hR,rvs,v,A,hl,hrv,so,hD,he⟩;rw[hD];clear hD;simp only[List.map,zc,zl,zj,z_t] at he;simp only[he];rcases so with ⟨h1,_,_⟩ | ⟨hb,hc2,hsp,hcc2,hhsp,rfl,rfl⟩
 ·have:=congrArg List.length h1;rw[ZF,Zj] at this;omega
 rw[ZF] at hcc2 ⊢;subst hE
 let g:Img:={ AX:=.slice pa AX.length pc,wb:=bw,wc:=cw,wsp:=wsp,tb:=bt,tc:=ct,tsp:=tsp,mb:=bm,mc:=c.AC.toNat * 16,msp:=[],Ag:=.bool false,want:=I 0,AA:=.slice ha (List.replicate c.AA.toNat (⟨[16],0,false,0⟩:Th)).length hcap,old:=.slice none 0 0,AO:=.slice none 0 0,hb:=hb,hc:=hc2,hsp:=hsp,rv:=rvs,AG:=.slice none 0 0,ev:=none,esp:=[] }
 have hth:(Sm.start c AX).th = List.replicate rvs.length (thr0 [16] 0 0):=by
  rw[hl];show List.replicate c.AA.toNat _ = _;rw[hn,Yj]
 have ezs:Dh (Sm.start c AX).th rvs = (rvs.map (Ad (thr0 [16] 0 0))).flatten:=by
  rw[hth];unfold Dh;rw[SH]
 have etl:(AW (AU c.AC) 1 (⟨3,-1,24,24,0⟩:Rg)).length = (AU c.AC).length:=by simp[AW]
 have htl:(AU c.AC).length = c.AC.toNat:=by
  unfold AU;rw[if_neg (by omega)];simp;omega
 have esim:Br (Sm.start c AX) g = eBg c (.slice pa AX.length pc) (S0 bw (BU c).length cw) (S0 bt (AU c.AC).length ct) (S0 bm (c.AC.toNat * 16) (c.AC.toNat * 16)) (.slice ha (List.replicate c.AA.toNat (⟨[16],0,false,0⟩:Th)).length hcap) (S0 hb rvs.length hc2):=by
  have e1:(Sm.start c AX).th.length = rvs.length:=by rw[hth,Z9]
  have e2:(Sm.start c AX).A0.length = (AU c.AC).length:=etl;have e3:(Sm.start c AX).AR.length = c.AC.toNat * 16:=by show (List.replicate _ _).length = _;rw[Z9]
  unfold Br;rw[e1,e2,e3];rfl
 have esd:AY p (Sm.start c AX) g = (p,C BZ (eBg c (.slice pa AX.length pc) (S0 bw (BU c).length cw) (S0 bt (AU c.AC).length ct) (S0 bm (c.AC.toNat * 16) (c.AC.toNat * 16)) (.slice ha (List.replicate c.AA.toNat (⟨[16],0,false,0⟩:Th)).length hcap) (S0 hb rvs.length hc2))) :: (bw,C Ac ((BU c).map I ++ wsp)) :: (bt,C AI (Ab eRg (AW (AU c.AC) 1 ⟨3,-1,24,24,0⟩) ++ tsp)) :: (bm,C BK ((List.replicate (c.AC.toNat * 16) false).map Value.bool ++ [])) :: (hb,C AV ((rvs.map (Ad (thr0 [16] 0 0))).flatten ++ hsp)) :: []:=by
  unfold AY;rw[esim];show _ :: _ :: _ :: _ :: (hb,C AV (Dh (Sm.start c AX).th rvs ++ hsp)) :: [] = _;rw[ezs];rfl
 refine Ai [(p,C BZ (eBg c (.slice pa AX.length pc) (S0 bw (BU c).length cw) (S0 bt (AU c.AC).length ct) (S0 bm (c.AC.toNat * 16) (c.AC.toNat * 16)) (.slice ha (List.replicate c.AA.toNat (⟨[16],0,false,0⟩:Th)).length hcap) (S0 hb rvs.length hc2))),(bw,C Ac ((BU c).map I ++ wsp)),(bt,C AI (Ab eRg (AW (AU c.AC) 1 ⟨3,-1,24,24,0⟩) ++ tsp)),(bm,C BK ((List.replicate (c.AC.toNat * 16) false).map Value.bool)),(hb,C AV ((rvs.map (Ad (thr0 [16] 0 0))).flatten ++ hsp))] (G:=F) ?_;refine BH (D':=AY p (Sm.start c AX) g ++ F) (by rw[esd,ZV]) ?_;refine BA (A:=AY p (Sm.start c AX) g) (hR1.trans hR) ⟨p,g,rfl,rfl,?_⟩;have hle:=hR1.trans hR;refine⟨?_,.inl ⟨rfl,rfl,rfl⟩,.inl ⟨rfl,rfl,rfl⟩,.inl ⟨rfl,rfl,rfl⟩,?_,?_,λ_=>rfl,(λb c h=>by cases h),?_,?_,?_,?_,⟨rfl,rfl,rfl⟩,?_,?_,?_⟩
 ·obtain⟨vs,h1,h2,h3⟩:=hp;exact⟨vs,h1.le hle,h2,λi hi=>by obtain⟨x,hx,ho⟩:=h3 i hi;exact⟨x,hx,ho.le hle⟩⟩
 ·rw[hth,Z9]
 ·intro i h h';have e:((Sm.start c AX).th[i]).AD = [16]:=by
   simp only[hth,List.getElem_replicate];rfl
  rw[e];exact hrv _ (Yv h')
 ·show (BU c).length≤1000;rw[(MW hcc).2];omega
 ·show (AW (AU c.AC) 1 (⟨3,-1,24,24,0⟩:Rg)).length≤1000;omega
 ·show (List.replicate _ _).length≤1000;rw[Z9];omega
 ·rw[hth,Z9];omega
 ·exact hcw
 ·show (AW (AU c.AC) 1 (⟨3,-1,24,24,0⟩:Rg)).length≤ct;omega
 ·show (List.replicate _ _).length≤c.AC.toNat * 16;simp
theorem RF {p n:Nat} {S S' : Sim} {g:Img} {R:RM} (hok:Ok R S g) (hp:Pr S) (hT:TOk S.A0) (hf:S.full = false) (hS:S.pause n = some S') :
  Fn P DI [Pt p] R (AY p S g) (Ci p S' λ_=>True):=by
 refine Jb λF=>?_
 unfold GD;unfold Sim.pause at hS;split at hS
 ·cases hS
 rename_i hz;have hz:S.sz = true:=by simpa using hz
 rw[if_neg (by rw[hf];decide)] at hS;dsimp only at hS;have htl:=hok.tl;have n1:=hT.n1;refine jl (v:=.bool S.full) rfl ?_;rw[hf];refine Cn ?_;refine jss (p:=p) { S with stop:=false } g rfl rfl (by decide) (by rfl) (by rfl) ?_;have ok1:Ok R { S with stop:=false } g:={ hok with };refine jl (v:=I S.col.want) rfl (jeq (jif (λh1=>?_) (λh1=>?_)))
 ·rw[if_pos (eq_of_beq h1)] at hS;simp only[Yr] at hS;subst hS;refine jcS (p:=p) (by exact QQ ok1 hz) λ_ R2 g2 hR2 _ ok2=>?_
  exact Ar hR2 trivial rfl ok2
 rw[if_neg (ne_of_beq_false h1)] at hS;refine jeq (jif (λh2=>?_) (λh2=>?_))
 ·rw[if_pos (eq_of_beq h2)] at hS;refine jcS (p:=p) (by exact Un ok1 hp hS) λ_ R2 g2 hR2 _ ok2=>?_
  exact Ar hR2 trivial rfl ok2
 rw[if_neg (ne_of_beq_false h2)] at hS;refine jeq (jif (λh3=>?_) (λh3=>?_));rotate_left
 ·rw[if_neg (ne_of_beq_false h3)] at hS;refine jcS (p:=p) (by exact Uk ok1 hz hT hS) λ_ R2 g2 hR2 _ ok2=>?_
  exact Ar hR2 trivial rfl ok2
 rw[if_pos (eq_of_beq h3)] at hS;unfold Sim.update at hS;obtain⟨_,-,hS⟩:=AE hS;simp only[Yr] at hS;refine jss (p:=p) { S with stop:=false,Aa:=3 } g rfl rfl (by decide) (by rfl) (by rfl) ?_;generalize hfn:(λ(i:Int) (x:Rg)=>{ x with AQ:=x.top - AM i }) = f at hS;have hfx:∀(k:Nat) (x:Rg),f k x = { x with AQ:=x.top - AM k }:=λk x=>by rw[← hfn]
 refine AJ (λvs R' D'=>R' = R∧D' = AY p { S with stop:=false,Aa:=3,A0:=rows f S.A0 } g ++ F∧vs = [Pt p]) (λK hK=>?_) ?_;rotate_left
 ·rintro e R1 D1 ⟨hR,hD,he⟩;subst hR;rw[hD];clear hD;simp only[List.map,zc,zl,zj,z_t] at he;simp only[he];refine jl (v:=.bool S.col.Ag) rfl (jl (v:=I S.col.want) rfl ?_);refine jbd (cs:=Ah { CR S.col.Ag S.col.want with pc:=6,r:=1,p:=16 } (.slice none 0 0)) rfl rfl ?_;refine jss (p:=p) { S with stop:=false,Aa:=3,A0:=rows f S.A0,col:={ CR S.col.Ag S.col.want with pc:=6,r:=1,p:=16 } } { g with AG:=.slice none 0 0 } rfl rfl (by decide) (by rfl) (by rfl) ?_;subst hS;refine Ar (RM.le.refl R1) trivial rfl ?_;exact { ok1 with AG:=.inl ⟨rfl,rfl,rfl⟩,tl:=by simpa [rows] using hok.tl,tk:=by simpa [rows] using hok.tk }
 refine AJ (λvs R' D'=>R' = R∧D' = AY p { S with stop:=false,Aa:=3,A0:=rows f S.A0 } g ++ F∧vs = [Pt p]) (λK2 hK2=>?_) ?_;rotate_left
 ·rintro e R1 D1 ⟨hR,hD,he⟩;rw[hD];clear hD;simp only[List.map,zc,zl,zj,z_t] at he;simp only[he];exact hK _ _ _ ⟨hR,rfl,rfl⟩
 refine jlp (λm vs R' D'=>R' = R∧∃k:Nat,1≤k∧k≤S.A0.length + 1∧D' = AY p { S with stop:=false,Aa:=3,A0:=Ba f k S.A0 } g ++ F∧vs = [Pt p,I k]∧m = S.A0.length + 1 - k)
  (n:=S.A0.length) ⟨rfl,1,z_n 1,by omega,by rw[HO],rfl,by omega⟩ ?_
 rintro m e R4 D4 K3 ⟨hR4,k,k0,k1,hD,he,hm⟩ hK3;subst hR4;rw[hD];clear hD;simp only[List.map,zc,zl,zj,z_t] at he;simp only[he];refine jl (v:=.slice (some ⟨g.tb,0,none⟩) (Ba f k S.A0).length g.tc) rfl (jln (jlt (jif (λhc=>?_) (λhc=>?_))));rotate_left
 ·have hc:S.A0.length≤k:=by have:=z_g hc;rw[CI] at this;omega
  refine hK2 _ _ _ ⟨rfl,?_,rfl⟩;rw[HN hc]
 have hc:k < S.A0.length:=by have:=z_f hc;rw[CI] at this;omega
 have RR:=hT.row k (by omega) (by omega);have t0:=RR.t0;have t1:=RR.t1;rw[Do hc] at t0 t1;have hbase:=Cx (r:=(k:Int)) (by omega) (by omega);refine jl (v:=.slice (some ⟨g.tb,0,none⟩) (Ba f k S.A0).length g.tc) rfl (Cs (by rw[CI];exact hc) ?_);refine Qm (p:=p) (by simpa using hc) ?_;rw[show ({ S with stop:=false,Aa:=3,A0:=Ba f k S.A0 }:Sim).A0[k]'(by simpa using hc) = S.A0[k] from HM (f:=f) hc];refine ja λb5=>?_
 refine js (cs':=eRg (S.A0[k])) rfl rfl (by simp) rfl ?_;refine jfo (jl (v:=I (S.A0[k]).top) rfl (jp (BV k) (jsu ?_)));refine jfo (Ae (jl (v:=I (S.A0[k]).top) rfl jev) ?_);refine js (cs':=eRg { S.A0[k] with AQ:=(S.A0[k]).top - AM k }) rfl rfl (by simp) rfl ?_;refine jl (v:=.slice (some ⟨g.tb,0,none⟩) (Ba f k S.A0).length g.tc) rfl ?_;refine jla (l:=eRg { S.A0[k] with AQ:=(S.A0[k]).top - AM k }) (by simp) rfl ?_;refine Cs (by rw[CI];exact hc) ?_;refine Si (p:=p) (x:={ S.A0[k] with AQ:=(S.A0[k]).top - AM k }) { S with stop:=false,Aa:=3,A0:=Ba f (k + 1) S.A0 } (by simpa using hc) (by rw[← HK k0 hc,hfx]) ?_;refine jad ?_;refine Ai (AY p { S with stop:=false,Aa:=3,A0:=Ba f (k + 1) S.A0 } g) (G:=F) ?_;exact hK3 (S.A0.length + 1 - (k + 1)) _ _ _ (by omega) ⟨rfl,k + 1,by omega,by omega,rfl,rfl,rfl⟩
theorem P4 {p n:Nat} {S S' : Sim} {g:Img} {R:RM} (hok:Ok R S g) (hpz:∀R g S1,Ok R S g→S.pause n = some S1→Fn P DI [Pt p] R (AY p S g) (Ci p S1 λ_=>True)) (hS:S.collector n = some S') :
  Fn P Fc [Pt p] R (AY p S g) (Ci p S' λ_=>True):=by
 refine KK λF=>?_
 unfold Fb;unfold Sim.collector at hS;refine jl (v:=.bool S.stop) rfl (jif (λh0=>?_) (λh0=>?_))
 ·rw[if_pos h0] at hS;refine jcS (p:=p) (by exact Ww hok) λ_ R2 g2 hR2 hr ok2=>?_
  subst hr;refine jif (λhc=>?_) (λhc=>?_)
  ·rw[if_pos hc] at hS;refine jcS (p:=p) (by exact hpz R2 g2 S' ok2 hS) λ_ R3 g3 hR3 _ ok3=>?_
   exact Ar (hR2.trans hR3) trivial rfl ok3
  ·rw[if_neg (by rw[hc];decide)] at hS;simp only[Yr] at hS;subst hS;exact Ar hR2 trivial rfl ok2
 rw[if_neg (by rw[h0];decide)] at hS;refine jl (v:=I S.Aa) rfl (jeq (jif (λh1=>?_) (λh1=>?_)))
 ·rw[if_pos (eq_of_beq h1)] at hS;refine jl (v:=.bool S.col.Ag) rfl (jif (λh2=>?_) (λh2=>?_))
  ·rw[if_pos h2] at hS;refine It (p:=p) hok λb=>?_
   obtain⟨a,cap,hsv,-⟩:=BC.reads (D:=[]) hok.AG;have hst0:=hok.AG;rw[hsv] at hst0 ⊢;refine js (cs':=Ah { S.col with Ag:=false } (.slice a S.col.AG.length cap)) rfl rfl (by simp[Ah]) rfl ?_;refine js (cs':=Ah { S.col with Ag:=false,want:=1 } (.slice a S.col.AG.length cap)) rfl rfl (by simp[Ah]) rfl ?_;refine Ht (p:=p) { S with col:={ S.col with Ag:=false,want:=1 } } (by exact hok) (by exact hst0) (by rfl) λg3 ok3=>?_
   refine jss (p:=p) { S with stop:=true,col:={ S.col with Ag:=false,want:=1 } } g3 rfl rfl (by decide) (by rfl) (by rfl) ?_;simp only[Yr] at hS;subst hS;exact Ar (RM.le.refl R) trivial rfl { ok3 with }
  ·rw[if_neg (by rw[h2];decide)] at hS;simp only[Yr] at hS;subst hS;exact Ar (RM.le.refl R) trivial rfl hok
 ·rw[if_neg (ne_of_beq_false h1)] at hS;refine jss (p:=p) { S with used:=false } g rfl rfl (by decide) (by rfl) (by rfl) ?_;refine jlp (λm vs R' D'=>R.le R'∧∃S1 g1,Ok R' S1 g1∧Sim.cloop m S1 = some S'∧D' = AY p S1 g1 ++ F∧vs = [Pt p])
   (n:=n) ⟨RM.le.refl R,{ S with used:=false },g,{ hok with },hS,rfl,rfl⟩ ?_
  rintro m e R1 D1 K3 ⟨hR1,S1,g1,ok1,hdr,hD,he⟩ hK3;rw[hD];clear hD;simp only[List.map,zc,zl,zj,z_t] at he;simp only[he];cases m with
  | zero=>cases hdr
  | succ m=>
  unfold Sim.cloop at hdr;refine jan [Pt p] ((!S1.used) && (!S1.stop)) (λK' hK'=>?_) (λe c u ho he=>?_)
  ·refine jl (v:=.bool S1.used) rfl (Bm (λh1=>?_) (λh1=>?_))
   ·refine jl (v:=.bool S1.stop) rfl (hK' _ _ _ (h1▸Aq) (by rw[h1,Yx]))
   ·exact hK' _ _ _ (h1▸Av) (by rw[h1,Yy])
  simp only[List.map,zc,zl,zj,z_t] at he;simp only[he];rw[ho];refine jif (λhc=>?_) (λhc=>?_)
  ·rw[if_pos hc] at hdr;obtain⟨S2,h2,hdr⟩:=AE hdr;refine jcS (p:=p) (by exact Wf ok1 h2) λ_ R2 g2 hR2 _ ok2=>?_
   exact hK3 m _ _ _ (by omega) ⟨hR1.trans hR2,S2,g2,ok2,hdr,rfl,rfl⟩
  ·rw[if_neg (by rw[hc];decide)] at hdr;simp only[Yr] at hdr;subst hdr;exact Ar hR1 trivial rfl ok1
theorem UF {p:Nat} {S S' : Sim} {g:Img} {a:Int} {R:RM} (hok:Ok R S g) (ha:inR a) (hpz:∀R g S1,Ok R S g→S.pause S.fuel = some S1→Fn P DI [Pt p] R (AY p S g) (Ci p S1 λ_=>True)) (hS:S.pick a = some S') :
  Fn P HE [Pt p,I a] R (AY p S g) (Ci p S' λ_=>True):=by
 refine RJ λF=>?_
 unfold Kf;unfold Sim.pick at hS;have hhl:=hok.hl;refine jl (v:=.slice (some ⟨g.hb,0,none⟩) S.th.length g.hc) rfl (jln ?_);refine jan [Pt p,I a,I S.th.length] ((decide (a≥0)) && (decide (a < S.th.length))) (λK' hK'=>?_) (λe c u ho he=>?_)
 ·refine jge (Bm (λh1=>?_) (λh1=>?_))
  ·refine jlt (hK' _ _ _ (h1▸Aq) (by rw[h1,Yx]))
  ·exact hK' _ _ _ (h1▸Av) (by rw[h1,Yy])
 simp only[List.map,zc,zl,zj,z_t] at he;simp only[he];rw[ho];refine jif (λhc=>?_) (λhc=>?_)
 ·simp only[z_b,z_d] at hc;rw[if_pos ⟨by omega,by omega⟩] at hS;refine jcS (p:=p) (by exact Uq hok hS) λ_ R2 g2 hR2 _ ok2=>?_
  exact Ar hR2 trivial rfl ok2
 have hc:¬ (0≤a∧a < S.th.length):=by
  intro h;simp[h.1,h.2] at hc
 rw[if_neg hc] at hS;refine jeq (jif (λh1=>?_) (λh1=>?_))
 ·rw[if_pos (eq_of_beq h1)] at hS;refine jcS (p:=p) (by exact P4 hok hpz hS) λ_ R2 g2 hR2 _ ok2=>?_
  exact Ar hR2 trivial rfl ok2
 rw[if_neg (ne_of_beq_false h1)] at hS;refine jad (jeq (jif (λh2=>?_) (λh2=>?_)))
 ·rw[if_pos (eq_of_beq h2)] at hS;simp only[Yr] at hS;refine jss (p:=p) { S with col:={ S.col with Ag:=true } } g rfl rfl (by decide) (by rfl) (by rfl) ?_;subst hS;exact Ar (RM.le.refl R) trivial rfl { hok with }
 ·rw[if_neg (ne_of_beq_false h2)] at hS;simp only[Yr] at hS;subst hS;exact Ar (RM.le.refl R) trivial rfl hok
theorem jpg {R:RM} {D:Chs} {pv:Value} {AX:List (List Sm.Op)} {i:Nat} {k:Value→M} (hp:EA R pv AX) (hi:i < AX.length) (H:∀x,Ops R x (AX[i])→J R D (k x)):J R D (IA 1 pv (I (i:Int)) λq=>L1 q k):=by
 obtain⟨vs,hf,hl,Bp⟩:=hp;obtain⟨x,hx,ho⟩:=Bp i hi;rcases hf with ⟨_,h2,_⟩ | ⟨b,o,cap,t,cs,rfl,h2,h3,h4,h5⟩
 ·omega
 ·refine jia (by omega) (by omega) ?_;rw[Yj,Zt];exact jlr h2 (C6 h4 hx) (H x ho)
theorem NA {R:RM} {D:Chs} {c0:Cfg} {pv kv:Value} {AX:List (List Sm.Op)} {picks:List Int} (hp:EA R pv AX) (hk:BC R kv picks) :
  Ro Jd [.agg #[I c0.AC,I c0.AA,I c0.AN],pv,kv] (.bool (Ca c0 AX picks)) R D:=by
 refine PR λF=>?_
 unfold JO;obtain⟨vs,hpf,-,-⟩:=id hp;have hps:=hpf.sl;refine ja λb=>?_
 rw[show cl (.agg #[I c0.AC,I c0.AA,I c0.AN]) = [I c0.AC,I c0.AA,I c0.AN] from rfl];refine jor [pv,kv] ((!BY c0) || (((AX.length:Int) != c0.AA))) (λK' hK'=>?_) (λe c u ho he=>?_)
 ·refine jla (l:=[I c0.AC,I c0.AA,I c0.AN]) (by simp) rfl (jp (MP c0) (BM (λh1=>?_) (λh1=>?_)))
  ·refine CN hps (jfo (jl (v:=I c0.AA) rfl (jne (hK' _ _ _ (h1▸Aj) (by rw[h1,Yk])))))
  ·exact hK' _ _ _ (h1▸Al) (by rw[h1,Ym])
 simp only[List.map,zc,zl,zj,z_t] at he;simp only[he];refine jor [pv] ((!BY c0 || ((AX.length:Int) != c0.AA)) || (decide ((picks.length:Int) > 4000))) (λK' hK'=>?_) (λe c u ho he=>?_)
 ·rw[ho];refine BM (λh1=>?_) (λh1=>?_)
  ·refine CN hk.sl (jgr (hK' _ _ _ (h1▸Aj) (by rw[h1,Yk])))
  ·exact hK' _ _ _ (h1▸Al) (by rw[h1,Ym])
 simp only[List.map,zc,zl,zj,z_t] at he;simp only[he];rw[ho];refine jif (λh0=>?_) (λh0=>?_)
 ·refine Bc ?_;have:Ca c0 AX picks = false:=by
   unfold Ca;simp only[ZA,Z7,bne_iff_ne,ne_eq,z_d] at h0;rcases h0 with (h0 | h0) | h0
   ·rw[h0];simp
   ·rw[decide_eq_false h0];simp
   ·rw[decide_eq_false (show ¬ picks.length≤4000 by omega)];simp
  rw[this]
 have e0:Ca c0 AX picks = AX.all λp=>decide (p.length≤40):=by
  simp only[Z1,ZJ,bne_eq_false_iff_eq,decide_eq_false_iff_not] at h0;unfold Ca;rw[h0.1.1,decide_eq_true h0.1.2,decide_eq_true (show picks.length≤4000 by omega)];simp
 rw[e0];have hpl:AX.length≤3:=by
  simp only[Z1,ZJ,bne_eq_false_iff_eq,decide_eq_false_iff_not] at h0;have h1:=h0.1.1;unfold BY at h1;simp only[z_b,z_d] at h1;omega
 refine jlp (λm vs R' D'=>R' = R∧D' = (b,C 33 [I c0.AC,I c0.AA,I c0.AN]) :: (D ++ F)∧∃i:Nat,i≤AX.length∧vs = [pv,I i]∧m = AX.length - i∧(AX.drop i).all (λp=>decide (p.length≤40)) = AX.all λp=>decide (p.length≤40))
  (n:=AX.length) ⟨rfl,rfl,0,by omega,rfl,by omega,by rw[aD]⟩ ?_
 rintro m e R1 D1 K ⟨hR1,hD,i,hi,he,hm,Bp⟩ hK;subst hR1;rw[hD];clear hD;simp only[List.map,zc,zl,zj,z_t] at he;simp only[he];refine CN hps (jlt (jif (λhc=>?_) (λhc=>?_)))
 ·have hc:i < AX.length:=by have:=z_f hc;omega
  rw[Yu hc,List.all_cons] at Bp;refine jpg hp hc λx hx=>CN (Fz.sl hx) (jgr (jif (λhq=>?_) (λhq=>?_)))
  ·refine Bc ?_;have hq:=z_f hq;rw[← Bp,decide_eq_false (by omega),Yy]
  ·have hq:=z_g hq;rw[decide_eq_true (by omega),Yx] at Bp;refine jad ?_;exact hK (AX.length - (i + 1)) _ _ _ (by omega) ⟨rfl,rfl,i + 1,by omega,rfl,rfl,Bp⟩
 ·have hc:=z_g hc;refine Bc ?_;rw[← Bp,Z2 (by omega)];rfl
end Go.Lf
end
section
namespace Go.Lf
open Go Sm
theorem M8:∀(l:List Int) (a:Int) {S S1 S2:Sim},Sim.picks l S = some S1→S1.pick a = some S2→Sim.picks (l ++ [a]) S = some S2
 | [],a,S,S1,S2,h1,h2=>by
  unfold Sim.picks at h1;cases h1;show (S.pick a >>= λx=>Sim.picks [] x) = _;rw[h2];rfl
 | b :: l,a,S,S1,S2,h1,h2=>by
  unfold Sim.picks at h1;obtain⟨S3,h3,h1⟩:=AE h1;show (S.pick b >>= λx=>Sim.picks (l ++ [a]) x) = _;rw[h3];exact M8 l a h1 h2
theorem Oa {R:RM} {c0:Cfg} {pv kv:Value} {AX:List (List Sm.Op)} {picks:List Int} {S' : Sim} (hp:EA R pv AX) (hk:BC R kv picks) (hok:Ca c0 AX picks = true) (ha:∀a∈picks,inR a)
  (hS:Sim.picks picks (Sm.start c0 AX) = some S') (hz:S'.sz = true)
  (hpz:∀i S,Sim.picks (picks.take i) (Sm.start c0 AX) = some S→∀p R g S1,Ok R S g→S.pause S.fuel = some S1→Fn P DI [Pt p] R (AY p S g) (Ci p S1 λ_=>True)) :
  Fn P Ej [.agg #[I c0.AC,I c0.AA,I c0.AN],pv,kv] R [] (λv R' A=>∃p g rows thv A',Ok R' S' g∧Rw (Co R') rows S'.view.AA∧SW 83 4 rows thv A'∧A = A' ++ AY p S' g∧
   v = .tuple #[.agg (eSt S'.view (wS S' g) (tS S' g) (mS S' g) thv g.old g.AO).toArray,evV S' g]):=by
 refine Mz λF=>?_
 unfold Gn;have hcf:BY c0 = true:=by
  unfold Ca at hok;simp only[z_b] at hok;exact hok.1.1.1
 have hpl:picks.length≤4000:=by
  unfold Ca at hok;simp only[z_b,z_d] at hok;exact hok.1.2
 refine ja λb1=>?_
 rw[show cl (.agg #[I c0.AC,I c0.AA,I c0.AN]) = [I c0.AC,I c0.AA,I c0.AN] from rfl];refine ja λb2=>?_
 refine jla (l:=[I c0.AC,I c0.AA,I c0.AN]) (by simp) rfl ?_;refine jro (NA hp hk) ?_;rw[hok];refine Cn (jla (l:=[I c0.AC,I c0.AA,I c0.AN]) (by simp) rfl ?_);refine jc (A:=[]) (NE hcf hp) ?_;rintro _ R1 _ hR1 ⟨p,g,rfl,rfl,ok⟩;refine AJ (λvs R' D'=>R.le R'∧∃g1,Ok R' S' g1∧D' = AY p S' g1 ++ (b2,C AK (cl z28)) :: F∧vs = [Pt b2,Pt p]) (λK hK=>?_) ?_
 ·refine AJ (λvs R' D'=>R.le R'∧∃g1,Ok R' S' g1∧D' = AY p S' g1 ++ (b2,C AK (cl z28)) :: F∧vs = [Pt b2,Pt p]) (λK2 hK2=>?_) ?_;rotate_left
  ·rintro e R2 D2 ⟨hR,g1,ok1,hD,he⟩;rw[hD];clear hD;simp only[List.map,zc,zl,zj,z_t] at he;simp only[he];exact hK _ _ _ ⟨hR,g1,ok1,rfl,rfl⟩
  refine Ai (AY p (Sm.start c0 AX) g) (G:=(b2,C AK (cl z28)) :: (b1,C 33 [I c0.AC,I c0.AA,I c0.AN]) :: ([] ++ F)) ?_;refine jlp (λm vs R' D'=>R.le R'∧∃(i:Nat) (S1:Sim) (g1:Img),i≤picks.length∧Sim.picks (picks.take i) (Sm.start c0 AX) = some S1∧Sim.picks (picks.drop i) S1 = some S'∧Ok R' S1 g1∧D' = AY p S1 g1 ++ (b2,C AK (cl z28)) :: (b1,C 33 [I c0.AC,I c0.AA,I c0.AN]) :: ([] ++ F)∧vs = [kv,Pt b2,Pt p,I i]∧m = picks.length - i)
   (n:=picks.length) ⟨hR1,0,Sm.start c0 AX,g,by omega,rfl,by rw[aD];exact hS,ok,rfl,rfl,by omega⟩ ?_
  rintro m e R2 D2 K3 ⟨hR,i,S1,g1,hi,hpk,hrest,ok1,hD,he,hm⟩ hK3;rw[hD];clear hD;simp only[List.map,zc,zl,zj,z_t] at he;simp only[he];have hk2:=hk.le hR;refine CN hk2.sl (jlt (jif (λhc=>?_) (λhc=>?_)));rotate_left
  ·have hc:=z_g hc;rw[Z2 (by omega)] at hrest;unfold Sim.picks at hrest;cases hrest;refine BH (D':=(b1,C 33 [I c0.AC,I c0.AA,I c0.AN]) :: (AY p S' g1 ++ (b2,C AK (cl z28)) :: F)) ?_ (C4 ?_)
   ·rw[zl];exact ((aC _ _ _).append_left _).trans ZG
   exact hK2 _ _ _ ⟨hR,g1,ok1,rfl,rfl⟩
  have hc:i < picks.length:=by have:=z_f hc;omega
  rw[Yu hc] at hrest;unfold Sim.picks at hrest;obtain⟨S2,h2,hrest⟩:=AE hrest;refine Bv hk2 (by omega) (by omega) ?_;rw[getElem_congr_idx (Yj i)];refine jcS (p:=p) (by exact UF ok1 (ha _ (Yv hc)) (hpz i S1 hpk p) h2) λ_ R3 g3 hR3 _ ok3=>?_
  refine jad ?_;refine hK3 (picks.length - (i + 1)) _ _ _ (by omega) ⟨hR.trans hR3,i + 1,S2,g3,by omega,?_,hrest,ok3,rfl,rfl,rfl⟩;rw[Yq hc];exact M8 _ _ hpk h2
 rintro e R2 D2 ⟨hR,g1,ok1,hD,he⟩;rw[hD];clear hD;simp only[List.map,zc,zl,zj,z_t] at he;simp only[he];refine jl (v:=evV S' g1) rfl ?_;refine jc (A:=AY p S' g1) (Rq ok1 hz) ?_;rintro _ R3 _ hR3 ⟨rows,thv,A',hrw,so,rfl,rfl⟩;obtain⟨ta,tc,htv⟩:=so.sl;have hfl:flat thv = true:=by rw[htv];rfl
 have el:eSt S'.view (wS S' g1) (tS S' g1) (mS S' g1) thv g1.old g1.AO = eVw S' g1 (.bool S'.col.Ag) (I S'.col.want) thv:=rfl;rw[el,Ys];refine Ae (jl (v:=evV S' g1) rfl jev) ?_;refine js (cs':=eVw S' g1 (.bool S'.col.Ag) (I S'.col.want) thv) rfl (Ka ok1 rfl rfl hfl) (by exact z_n 13) rfl ?_;refine Ae (jl (v:=evV S' g1) rfl jev) ?_;refine jla (l:=eVw S' g1 (.bool S'.col.Ag) (I S'.col.want) thv) (by exact z_n 13) rfl ?_;refine BH (D':=(A' ++ AY p S' g1) ++ ((b2,C AK (eVw S' g1 (.bool S'.col.Ag) (I S'.col.want) thv)) :: F)) (by rw[Ys]) ?_;exact BA (A:=A' ++ AY p S' g1) (hR.trans hR3) ⟨p,g1,rows,thv,A',ok1.le hR3,hrw,so,rfl,rfl⟩
def l7d (e24:Env) (K:Value→M):M:=
 CUT [2,19] (λJe25=>CUT [2,19] (λJe28=>LP [1,2,3,5,9,19,20] (λKe29 e29=>FO 8 (e29 1) λx30=>L1 x30 λx31=>LN x31 λx32=>BO .lss (e29 20) x32 λx33=>IF x33 (FO 8 (e29 1) λx34=>L1 x34 λx35=>IA 4 x35 (e29 20) λx36=>FO 1 x36 λx37=>L1 x37 λx38=>FO 8 (e29 1) λx39=>L1 x39 λx40=>IA 4 x40 (e29 20) λx41=>FO 3 x41 λx42=>L1 x42 λx43=>BD (cl z83) [(1,1,x38),(3,1,x43)] λx44=>AL 83 z83 λx45=>AND (L1 x34 λx46=>EV x46 x35)<|AND (L1 x37 λx47=>EV x47 x38)<|AND (L1 x39 λx48=>EV x48 x40)<|AND (L1 x42 λx49=>EV x49 x43)<|ST 4 x45 x44<|CUT [1,2,3,5,9,19,20,21] (λJe50=>FO 3 x45 λx94=>L1 x94 λx95=>BO .eql x95 (I 1) λx96=>IF x96 (FO 3 x45 λx97=>ST 1 x97 (I 2)<|Je50 [(e29 1),(e29 2),(e29 3),(e29 5),(e29 9),(e29 19),(e29 20),x45]) (Je50 [(e29 1),(e29 2),(e29 3),(e29 5),(e29 9),(e29 19),(e29 20),x45])) λe50=>CUT [1,2,3,5,9,19,20,21] (λJe51=>CUT [1,2,3,5,9,19,20,21] (λJe59=>LP [1,2,3,5,9,19,20,21,22] (λKe60 e60=>FO 8 (e60 1) λx61=>L1 x61 λx62=>IA 4 x62 (e60 20) λx63=>FO 0 x63 λx64=>L1 x64 λx65=>LN x65 λx66=>BO .lss (e60 22) x66 λx67=>IF x67 (CUT [1,2,3,5,9,19,20,21,22] (λJe68=>CUT [1,2,3,5,9,19,20,21,22] (λJe70=>FO 8 (e60 1) λx71=>L1 x71 λx72=>IA 4 x72 (e60 20) λx73=>FO 0 x73 λx74=>L1 x74 λx75=>IA 1 x75 (e60 22) λx76=>L1 x76 λx77=>CA P 83 [(e60 3),x77] λx78=>CA P 103 [(e60 5),x78] λx79=>BO .lss x79 (I 0) λx80=>IF x80 (FO 0 (e60 21) λx81=>L1 x81 λx82=>BS 3 1 (ZR 1 z3) [(0,1,(I 0))] λx83=>AP 3 1 8 (cl z3) x82 x83 λx84=>FO 0 (e60 21) λx85=>ST 1 x85 x84<|Je70 [(e60 1),(e60 2),(e60 3),(e60 5),(e60 9),(e60 19),(e60 20),(e60 21),(e60 22)]) (FO 0 (e60 21) λx86=>L1 x86 λx87=>IA 1 (e60 9) x79 λx88=>L1 x88 λx89=>BS 3 1 (ZR 1 z3) [(0,1,x89)] λx90=>AND (L1 x86 λx91=>EV x91 x87)<|AP 3 1 8 (cl z3) x87 x90 λx92=>FO 0 (e60 21) λx93=>ST 1 x93 x92<|Je70 [(e60 1),(e60 2),(e60 3),(e60 5),(e60 9),(e60 19),(e60 20),(e60 21),(e60 22)])) λe70=>Je68 [(e70 1),(e70 2),(e70 3),(e70 5),(e70 9),(e70 19),(e70 20),(e70 21),(e70 22)]) λe68=>BO .add (e68 22) (I 1) λx69=>Ke60 [(e68 1),(e68 2),(e68 3),(e68 5),(e68 9),(e68 19),(e68 20),(e68 21),x69]) (Je59 [(e60 1),(e60 2),(e60 3),(e60 5),(e60 9),(e60 19),(e60 20),(e60 21)])) [(e50 1),(e50 2),(e50 3),(e50 5),(e50 9),(e50 19),(e50 20),(e50 21),(I 0)]) λe59=>Je51 [(e59 1),(e59 2),(e59 3),(e59 5),(e59 9),(e59 19),(e59 20),(e59 21)]) λe51=>FO 8 (e51 19) λx52=>L1 x52 λx53=>LA 4 (e51 21) λx54=>BS 83 1 (ZR 1 z83) [(0,4,x54)] λx55=>AP 83 4 48 (cl z83) x53 x55 λx56=>FO 8 (e51 19) λx57=>ST 1 x57 x56<|BO .add (e51 20) (I 1) λx58=>Ke29 [(e51 1),(e51 2),(e51 3),(e51 5),(e51 9),(e51 19),x58]) (Je28 [(e29 2),(e29 19)])) [(e24 1),(e24 2),(e24 3),(e24 5),(e24 9),(e24 19),(I 0)]) λe28=>Je25 [(e28 2),(e28 19)]) λe25=>LA 13 (e25 19) λx26=>ST 13 (e25 2) x26<|LA 13 (e25 2) λx27=>K x27
theorem L3 {l:List AZ} {AQ to_:List Int} {t:Th} {r ths:List Th} (h:Da l AQ to_ (t :: r) = some ths):∃AD rest,DA l AQ to_ t.AD = some AD∧Da l AQ to_ r = some rest∧ths = ⟨AD,t.next,false,if t.Au = 1 then 2 else t.Au⟩ :: rest:=by
 unfold Da at h;obtain⟨AD,h1,h⟩:=AE h;obtain⟨rest,h2,h⟩:=AE h;simp only[Yr] at h;exact⟨AD,rest,h1,h2,h.symm⟩
theorem Nx {l:List AZ} {AQ to_:List Int} {a:Int} {r out:List Int} (h:DA l AQ to_ (a :: r) = some out):∃z b rest,now l a = some z∧(if Bi AQ z < 0 then some 0 else idx to_ (Bi AQ z)) = some b∧DA l AQ to_ r = some rest∧out = b :: rest:=by
 unfold DA at h;obtain⟨z,h1,h⟩:=AE h;obtain⟨b,h2,h⟩:=AE h;obtain⟨rest,h3,h⟩:=AE h;simp only[Yr] at h;exact⟨z,b,rest,h1,h2,h3,h.symm⟩
theorem X1 {R:RM} {E:Chs} {s s' : Sm.B7} {wv tv mv thv ov pv lv v9 v w t m pv' : Value} {l:List AZ} {AQ to_:List Int} {ths:List Th} {b1 b2 b19:Nat} {e:Env} {K:Value→M}
  (h:StC R s wv tv mv thv ov pv) (hlv:Tgs R lv l) (hll:l.length < 1000000) (hlive:BC R v9 AQ) (hlvl:AQ.length < 1000000) (hto:BC R v to_) (hths:Da l AQ to_ s.AA = some ths) (hn:s.AA.length < 1000000) (hrl:∀t∈s.AA,t.AD.length < 1000000)
  (ea1:At E b1 (C AK (eSt s wv tv mv thv ov pv))) (he:[e 1,e 2,e 3,e 5,e 9,e 19] = [Pt b1,Pt b2,lv,v9,v,Pt b19])
  (hf:∀x,flat x = true→CG (eSt s' w t m x (.slice none 0 0) pv') = true)
  (H:∀R' x,R.le R'→Ths R' x ths→J R' ((b19,C AK (eSt s' w t m x (.slice none 0 0) pv')) :: (b2,C AK (eSt s' w t m x (.slice none 0 0) pv')) :: E) (K (.agg (eSt s' w t m x (.slice none 0 0) pv').toArray))) :
  J R ((b19,C AK (eSt s' w t m (.slice none 0 0) (.slice none 0 0) pv')) :: (b2,C AK (cl z28)) :: E) (l7d e K):=by
 unfold l7d;simp only[zj,z_t] at he;simp only[he];refine AJ (λvs R' D'=>R.le R'∧∃rows x A,Rw (Co R') rows ths∧SW 83 4 rows x A∧D' = A ++ (b19,C AK (eSt s' w t m x (.slice none 0 0) pv')) :: (b2,C AK (cl z28)) :: E∧vs = [Pt b2,Pt b19]) (λK1 hK1=>?_) ?_;rotate_left
 ·rintro e R1 D1 ⟨hR,rows,x,A,hrw,so,hD,he⟩;rw[hD];clear hD;simp only[List.map,zc,zl,zj,z_t] at he;simp only[he];obtain⟨sa,sc,hsl⟩:=so.sl;subst hsl;refine jfw so (hrw.all λ_ _=>Co.len) λR3 hR3 hfz=>?_
  refine jla (l:=eSt s' w t m (.slice sa rows.length sc) (.slice none 0 0) pv') (by exact z_n 13) rfl ?_;refine js (cs':=eSt s' w t m (.slice sa rows.length sc) (.slice none 0 0) pv') rfl (hf _ rfl) (by exact z_n 13) rfl ?_;refine jla (l:=eSt s' w t m (.slice sa rows.length sc) (.slice none 0 0) pv') (by exact z_n 13) rfl ?_;exact H R3 _ (hR.trans hR3) ⟨rows,hrw.mono λ_ _=>Co.le hR3,hfz⟩
 refine AJ (λvs R' D'=>R.le R'∧∃rows x A,Rw (Co R') rows ths∧SW 83 4 rows x A∧D' = A ++ (b19,C AK (eSt s' w t m x (.slice none 0 0) pv')) :: (b2,C AK (cl z28)) :: E∧vs = [Pt b2,Pt b19]) (λK2 hK2=>?_) ?_;rotate_left
 ·rintro e R1 D1 ⟨hR,rows,x,A,hrw,so,hD,he⟩;rw[hD];clear hD;simp only[List.map,zc,zl,zj,z_t] at he;simp only[he];exact hK1 _ _ _ ⟨hR,rows,x,A,hrw,so,rfl,rfl⟩
 refine jlp (λmm vs R' D'=>R.le R'∧∃(i:Nat) (done rest:List Th) (rows:List (List Value)) (x:Value) (A:Chs),i≤s.AA.length∧Da l AQ to_ (s.AA.drop i) = some rest∧ths = done ++ rest∧done.length = i∧Rw (Co R') rows done∧SW 83 4 rows x A∧D' = A ++ (b19,C AK (eSt s' w t m x (.slice none 0 0) pv')) :: (b2,C AK (cl z28)) :: E∧vs = [Pt b1,Pt b2,lv,v9,v,Pt b19,I i]∧mm = s.AA.length - i)
  (n:=s.AA.length) ⟨RM.le.refl R,0,[],ths,[],.slice none 0 0,[],by omega,hths,rfl,rfl,Rw.nil,.inl ⟨rfl,rfl,rfl⟩,rfl,rfl,by omega⟩ ?_
 rintro mm e R1 D1 K3 ⟨hR,i,done,rest,rows,x,A,hi,hnt,hdr,hdl,hrw,so,hD,he,hm⟩ hK3;rw[hD];clear hD;simp only[List.map,zc,zl,zj,z_t] at he;simp only[he];have h1:=h.le hR;have hlv1:=hlv.le hR;have hlive1:=hlive.le hR;have hto1:=hto.le hR;refine jl (v:=thv) rfl (CN h1.th.sl (jlt (jif (λhc=>?_) (λhc=>?_))));rotate_left
 ·have hc:=z_g hc;rw[Z2 (by omega)] at hnt;have:rest = []:=by unfold Da at hnt;simpa using hnt.symm
  subst this;rw[ZV] at hdr;subst hdr;exact hK2 _ _ _ ⟨hR,rows,x,A,hrw,so,rfl,rfl⟩
 have hc:i < s.AA.length:=by have:=z_f hc;omega
 rw[Yu hc] at hnt;obtain⟨AD,rest2,hroots,hrest2,rfl⟩:=L3 hnt;have hri:=hrl _ (Yv hc);refine jl (v:=thv) rfl (jtr h1.th hc λb3 o3 ty cs rv hrv hb3 ho3 hrow3=>?_);refine jfo (jlr (v:=I (s.AA[i]).next) hb3 (C6 hrow3 (f:=1) rfl) ?_);refine jl (v:=thv) rfl (jtr h1.th hc λb4 o4 ty4 cs4 rv4 hrv4 hb4 ho4 hrow4=>?_);refine jfo (jlr (v:=I (s.AA[i]).Au) hb4 (C6 hrow4 (f:=3) rfl) ?_);refine jbd (cs:=[.slice none 0 0,I (s.AA[i]).next,.bool false,I (s.AA[i]).Au]) rfl rfl ?_;refine ja λb21=>?_
 refine Ae (jl (v:=thv) rfl jev) (Ae (jlr (v:=I (s.AA[i]).next) hb3 (C6 hrow3 (f:=1) rfl) jev) (Ae (jl (v:=thv) rfl jev) (Ae (jlr (v:=I (s.AA[i]).Au) hb4 (C6 hrow4 (f:=3) rfl) jev) ?_)));refine js (cs':=[.slice none 0 0,I (s.AA[i]).next,.bool false,I (s.AA[i]).Au]) rfl rfl (by exact z_n 4) rfl ?_;generalize htr:(if (s.AA[i]).Au = 1 then 2 else (s.AA[i]).Au) = tr at hrw hdr;refine AJ (λvs R' D'=>R' = R1∧D' = [] ++ (b21,C 83 [.slice none 0 0,I (s.AA[i]).next,.bool false,I tr]) :: (A ++ (b19,C AK (eSt s' w t m x (.slice none 0 0) pv')) :: (b2,C AK (cl z28)) :: E)∧vs = [Pt b1,Pt b2,lv,v9,v,Pt b19,I i,Pt b21]) (λK4 hK4=>?_) ?_
 ·refine jfo (jl (v:=I (s.AA[i]).Au) rfl (jeq (jif (λh3=>?_) (λh3=>?_))))
  ·refine jfo (js (cs':=[.slice none 0 0,I (s.AA[i]).next,.bool false,I 2]) rfl rfl (by simp) rfl ?_);refine hK4 _ _ _ ⟨rfl,?_,rfl⟩;rw[← htr,if_pos (eq_of_beq h3)];rfl
  ·refine hK4 _ _ _ ⟨rfl,?_,rfl⟩;rw[← htr,if_neg (ne_of_beq_false h3)];rfl
 rintro e Rx D1 ⟨hRx,hD,he⟩;subst hRx;rw[hD];clear hD;simp only[List.map,zc,zl,zj,z_t] at he;simp only[he];refine AJ (λvs R' D'=>R' = Rx∧∃rv A2,SO AD rv A2∧D' = A2 ++ (b21,C 83 [rv,I (s.AA[i]).next,.bool false,I tr]) :: (A ++ (b19,C AK (eSt s' w t m x (.slice none 0 0) pv')) :: (b2,C AK (cl z28)) :: E)∧vs = [Pt b1,Pt b2,lv,v9,v,Pt b19,I i,Pt b21]) (λK5 hK5=>?_) ?_
 ·refine AJ (λvs R' D'=>R' = Rx∧∃rv A2,SO AD rv A2∧D' = A2 ++ (b21,C 83 [rv,I (s.AA[i]).next,.bool false,I tr]) :: (A ++ (b19,C AK (eSt s' w t m x (.slice none 0 0) pv')) :: (b2,C AK (cl z28)) :: E)∧vs = [Pt b1,Pt b2,lv,v9,v,Pt b19,I i,Pt b21]) (λK6 hK6=>?_) ?_;rotate_left
  ·rintro e R2 D2 ⟨hR2,rv,A2,so2,hD,he⟩;rw[hD];clear hD;simp only[List.map,zc,zl,zj,z_t] at he;simp only[he];exact hK5 _ _ _ ⟨hR2,rv,A2,so2,rfl,rfl⟩
  refine jlp (λmm vs R' D'=>R' = Rx∧∃(j:Nat) (done2 rest3:List Int) (rv:Value) (A2:Chs),j≤(s.AA[i]).AD.length∧DA l AQ to_ ((s.AA[i]).AD.drop j) = some rest3∧AD = done2 ++ rest3∧done2.length = j∧SO done2 rv A2∧D' = A2 ++ (b21,C 83 [rv,I (s.AA[i]).next,.bool false,I tr]) :: (A ++ (b19,C AK (eSt s' w t m x (.slice none 0 0) pv')) :: (b2,C AK (cl z28)) :: E)∧vs = [Pt b1,Pt b2,lv,v9,v,Pt b19,I i,Pt b21,I j]∧mm = (s.AA[i]).AD.length - j)
   (n:=(s.AA[i]).AD.length) ⟨rfl,0,[],AD,.slice none 0 0,[],by omega,hroots,rfl,rfl,.inl ⟨rfl,rfl,rfl⟩,rfl,rfl,by omega⟩ ?_
  rintro m5 e Ry D5 K7 ⟨hRy,j,done2,rest3,rv,A2,hj,hnr,hrr,hd2,so2,hD,he,hm5⟩ hK7;subst hRy;rw[hD];clear hD;simp only[List.map,zc,zl,zj,z_t] at he;simp only[he];refine jl (v:=thv) rfl (jtr h1.th hc λb5 o5 ty5 cs5 rv5 hrv5 hb5 ho5 hrow5=>?_);refine jfo (jlr (v:=rv5) hb5 (C6 hrow5 (f:=0) rfl) (CN hrv5.sl (jlt (jif (λhd=>?_) (λhd=>?_)))));rotate_left
  ·have hd:=z_g hd;rw[Z2 (by omega)] at hnr;have:rest3 = []:=by unfold DA at hnr;simpa using hnr.symm
   subst this;rw[ZV] at hrr;subst hrr;exact hK6 _ _ _ ⟨rfl,rv,A2,so2,rfl,rfl⟩
  have hd:j < (s.AA[i]).AD.length:=by have:=z_f hd;omega
  rw[Yu hd] at hnr;obtain⟨z,bz,rest4,hz,hbz,hrest4,rfl⟩:=Nx hnr;refine AJ (λvs R' D'=>R' = Ry∧∃rv A2,SO (done2 ++ [bz]) rv A2∧D' = A2 ++ (b21,C 83 [rv,I (s.AA[i]).next,.bool false,I tr]) :: (A ++ (b19,C AK (eSt s' w t m x (.slice none 0 0) pv')) :: (b2,C AK (cl z28)) :: E)∧vs = [Pt b1,Pt b2,lv,v9,v,Pt b19,I i,Pt b21,I j]) (λK8 hK8=>?_) ?_;rotate_left
  ·rintro e R2 D2 ⟨hR2,rv,A2,so2,hD,he⟩;subst hR2;rw[hD];clear hD;simp only[List.map,zc,zl,zj,z_t] at he;simp only[he];refine jad ?_;exact hK7 ((s.AA[i]).AD.length - (j + 1)) _ _ _ (by omega) ⟨rfl,j + 1,done2 ++ [bz],rest4,rv,A2,by omega,hrest4,by rw[hrr];simp,by rw[Yn,hd2];rfl,so2,rfl,rfl,rfl⟩
  refine AJ (λvs R' D'=>R' = Ry∧∃rv A2,SO (done2 ++ [bz]) rv A2∧D' = A2 ++ (b21,C 83 [rv,I (s.AA[i]).next,.bool false,I tr]) :: (A ++ (b19,C AK (eSt s' w t m x (.slice none 0 0) pv')) :: (b2,C AK (cl z28)) :: E)∧vs = [Pt b1,Pt b2,lv,v9,v,Pt b19,I i,Pt b21,I j]) (λK9 hK9=>?_) ?_;rotate_left
  ·rintro e R2 D2 ⟨hR2,rv,A2,so2,hD,he⟩;rw[hD];clear hD;simp only[List.map,zc,zl,zj,z_t] at he;simp only[he];exact hK8 _ _ _ ⟨hR2,rv,A2,so2,rfl,rfl⟩
  obtain⟨sa,sn,sc,rfl⟩:=so2.sl;refine jl (v:=thv) rfl (jtr h1.th hc λb6 o6 ty6 cs6 rv6 hrv6 hb6 ho6 hrow6=>?_);refine jfo (jlr (v:=rv6) hb6 (C6 hrow6 (f:=0) rfl) (Bv hrv6 (by omega) (by omega) ?_));rw[getElem_congr_idx (Yj j)];refine jro (GV hlv1 (by omega) hz) (jro (HQ z (BC.rd hlive1) (by omega)) (jlt (jif (λh0=>?_) (λh0=>?_))))
  ·rw[if_pos (z_f h0)] at hbz;simp only[Yr] at hbz;subst hbz;refine jfo (jl (v:=.slice sa sn sc) rfl ?_);refine jbs (cs:=[I 0]) rfl rfl λb7=>?_
   refine Hr (A:=A2) so2 (by omega) λv' A' so'=>?_
   obtain⟨sa',sn',sc',rfl⟩:=so'.sl;refine jfo (js (cs':=[.slice sa' sn' sc',I (s.AA[i]).next,.bool false,I tr]) rfl rfl (by simp) rfl ?_);exact hK9 _ _ _ ⟨rfl,_,A',so',rfl,rfl⟩
  ·rw[if_neg (z_g h0)] at hbz;obtain⟨y0,y1,y2,y3⟩:=Ap hbz;refine jfo (jl (v:=.slice sa sn sc) rfl (Bv hto1 y0 y1 ?_));rw[y3];refine jbs (cs:=[I bz]) rfl rfl λb7=>?_
   refine Ae (jl (v:=.slice sa sn sc) rfl jev) ?_;refine Hr (A:=A2) so2 (by omega) λv' A' so'=>?_
   obtain⟨sa',sn',sc',rfl⟩:=so'.sl;refine jfo (js (cs':=[.slice sa' sn' sc',I (s.AA[i]).next,.bool false,I tr]) rfl rfl (by simp) rfl ?_);exact hK9 _ _ _ ⟨rfl,_,A',so',rfl,rfl⟩
 rintro e R2 D2 ⟨hR2,rv2,A2,so2,hD,he⟩;subst hR2;rw[hD];clear hD;simp only[List.map,zc,zl,zj,z_t] at he;simp only[he];refine E7 so2 λR3 hR3 hint=>?_
 obtain⟨ua,uc,rfl⟩:=hint.sl;obtain⟨sa,sc,hsl⟩:=so.sl;subst hsl;refine jfo (jl (v:=(.slice sa rows.length sc)) rfl ?_);refine jla (l:=[.slice ua AD.length uc,I (s.AA[i]).next,.bool false,I tr]) (by exact z_n 4) rfl ?_;refine jbs (cs:=[.slice ua AD.length uc,I (s.AA[i]).next,.bool false,I tr]) rfl rfl λb9=>?_
 refine Ai A (G:=(b9,C 83 [.slice ua AD.length uc,I (s.AA[i]).next,.bool false,I tr]) :: (b21,C 83 [.slice ua AD.length uc,I (s.AA[i]).next,.bool false,I tr]) :: ((b19,C AK (eSt s' w t m (.slice sa rows.length sc) (.slice none 0 0) pv')) :: (b2,C AK (cl z28)) :: E)) ?_;have hx:BQ R3 (A ++ ((b9,C 83 [.slice ua AD.length uc,I (s.AA[i]).next,.bool false,I tr]) :: (b21,C 83 [.slice ua AD.length uc,I (s.AA[i]).next,.bool false,I tr]) :: ((b19,C AK (eSt s' w t m (.slice sa rows.length sc) (.slice none 0 0) pv')) :: (b2,C AK (cl z28)) :: E))) (some ⟨b9,0,none⟩) (1 * 4) [[.slice ua AD.length uc,I (s.AA[i]).next,.bool false,I tr]].flatten:=BQ.held (t:=83) (cs:=[.slice ua AD.length uc,I (s.AA[i]).next,.bool false,I tr]) (o:=0) (n:=1 * 4) (z_n 4);have hrl:=hrw.1;refine jaw so (hrw.all λ_ _=>Co.len) (by intro r hr;rw[Z3.1 hr];rfl) rfl rfl rfl (by decide) (by rw[Z4];omega) hx λv' A' so'=>?_
 obtain⟨sa',sc',hsl'⟩:=so'.sl;subst hsl';refine jfo (js (cs':=eSt s' w t m (.slice sa' (rows ++ [[.slice ua AD.length uc,I (s.AA[i]).next,.bool false,I tr]]).length sc') (.slice none 0 0) pv') rfl rfl (by simp[eSt]) rfl ?_);refine jad ?_;refine Ai A' (G:=(b19,C AK (eSt s' w t m (.slice sa' (rows ++ [[.slice ua AD.length uc,I (s.AA[i]).next,.bool false,I tr]]).length sc') (.slice none 0 0) pv')) :: (b2,C AK (cl z28)) :: E) ?_;exact hK3 (s.AA.length - (i + 1)) _ _ _ (by omega) ⟨hR.trans hR3,i + 1,done ++ [⟨AD,(s.AA[i]).next,false,tr⟩],rest2,_,_,A',by omega,hrest2,by rw[hdr];simp,by rw[Yn,hdl];rfl,(hrw.mono λ_ _=>Co.le hR3).app (Rw.one ⟨_,rfl,hint⟩),so',rfl,rfl,rfl⟩
end Go.Lf
end
