/- A part of the proof of the given row: the walk of the law and of all that it calls. Conditions: none. -/
import Derived.Test.YtlagojobcbkpdaaGreatDJ
set_option linter.unusedVariables false
set_option linter.unusedSimpArgs false
set_option maxRecDepth 100000
section
namespace Go.Lf
open Go Sm
theorem Dk {R:RM} {D:Chs} {a:M} (h:J R D a):J R D (ALL [a]):=h
theorem EP {R:RM} {D:Chs} {a b:M} {r:List M} (h:J R D a) (h2:J R D (ALL (b :: r))):J R D (ALL (a :: b :: r)):=λh' hs=>⟨h h' hs,h2 h' hs⟩
def eNw (w:Value) (tv:Value) (m:Value) (thv:Value):List Value:=[w,tv,m,I 0,.bool false,.bool false,.bool false,I 0,thv,SN,SN,I 0,I 0]
def Ba (c:Cfg):List Int:=(CP (List.replicate (c.AB.toNat * 16) 0) 16 Bx).1
theorem KG {c:Cfg} (h:Bf c = true):(CP (List.replicate (c.AB.toNat * 16) 0) 16 Bx).2 = true∧(Ba c).length = c.AB.toNat * 16:=by
 unfold Bf at h;simp only[z_b,z_d] at h;have hf:fits (c.AB.toNat * 16) 16 (AF Bx) = true:=by
  have e:AF Bx = 8:=δ
  rw[e];unfold fits BM AN;simp only[z_b,z_d,beq_iff_eq];refine⟨⟨⟨⟨⟨⟨⟨ω,ω⟩,ω⟩,ω⟩,ω⟩,ω⟩,ω⟩,δ⟩
 unfold Ba CP;rw[Yy,if_pos hf];refine⟨rfl,?_⟩;unfold Sm.put;have:Bx.refs.toNat + Bx.nums.toNat = 6:=δ
 simp only[Yk,Z5,Yy,ZS,Yt,Zp,this];omega
theorem QG {R:RM} {c:Cfg} (hc:Bf c = true) :
  Fn P Hc [.agg #[I c.AB,I c.A6,I c.AS]] R [] (λv R' A=>∃bw cw wsp bt ct tsp bm thv,(Ba c).length≤cw∧(AW c.AB).length≤ct∧Ths R' thv (List.replicate c.A6.toNat ⟨[16],0,false,0⟩)∧
   A = [(bw,C AX ((Ba c).map I ++ wsp)),(bt,C AI (Ac eRg (AT (AW c.AB) 1 ⟨3,-1,24,24,0⟩) ++ tsp)),(bm,C B7 ((List.replicate (c.AB.toNat * 16) false).map Value.bool))]∧
   v = .tuple #[.agg (eNw (S0 bw (Ba c).length cw) (S0 bt (AW c.AB).length ct) (S0 bm (c.AB.toNat * 16) (c.AB.toNat * 16)) thv).toArray,.bool true]):=by
 refine Md λF=>?_
 refine z_1 ?_;have hcc:=hc;unfold Bf at hc;simp only[z_b,z_d] at hc;refine ja λb1=>?_
 rw[show cl (.agg #[I c.AB,I c.A6,I c.AS]) = [I c.AB,I c.A6,I c.AS] from rfl];refine ja λb2=>?_
 refine jla (l:=[I c.AB,I c.A6,I c.AS]) σ rfl ?_;refine jp (KH c) ?_;rw[hcc];refine CL (jfo (jl (v:=I c.AB) rfl ?_));refine jmk (Jx c.AB) ?_;intro v N hq;unfold Vg at hq;have htl:(AW c.AB).length = c.AB.toNat:=by
  unfold AW;rw[if_neg ω];simp;omega
 rw[if_neg (by intro hn;rw[hn] at htl;simp at htl;omega)] at hq;obtain⟨sv,⟨bt,ct,tsp,hct,rfl,rfl⟩,rfl⟩:=hq;refine jex rfl (jex rfl ?_);have e16:(c.AB * 16).toNat = c.AB.toNat * 16:=ω
 refine AR (λvs R' D'=>R' = R∧∃bw bm b6,D' = (b6,C AQ (eNw (S0 bw (c.AB.toNat * 16) (c.AB.toNat * 16)) (S0 bt (AW c.AB).length ct) (S0 bm (c.AB.toNat * 16) (c.AB.toNat * 16)) (SN))) ::
   (bw,C AX ((List.replicate (c.AB.toNat * 16) [I 0]).flatten)) :: (bm,C B7 ((List.replicate (c.AB.toNat * 16) [Value.bool false]).flatten)) ::
   (bt,C AI (Ac eRg (AW c.AB) ++ tsp)) :: (b2,C AQ (cl z28)) :: (b1,C 33 [I c.AB,I c.A6,I c.AS]) :: F∧vs = [Pt b1,Pt b2,Pt b6]) (λK hK=>?_) ?_
 ·refine jfo (jl (v:=I c.AB) rfl (GX ⟨ω,ω⟩ (jfo (jl (v:=I c.AB) rfl (GX ⟨ω,ω⟩ ?_)))));refine EP ?_ (EP ?_ (Dk ?_))
  ·refine jms ω ω ω λbw=>?_
   rw[e16];refine Af (jl (v:=I c.AB) rfl jev) ?_;refine EP ?_ (Dk ?_)
   ·refine jms ω ω ω λbm=>?_
    rw[e16];refine jbd (cs:=(eNw (S0 bw (c.AB.toNat * 16) (c.AB.toNat * 16)) (S0 bt (AW c.AB).length ct) (S0 bm (c.AB.toNat * 16) (c.AB.toNat * 16)) (SN))) rfl rfl ?_;refine ja λb6=>?_
    refine jS ((eNw (S0 bw (c.AB.toNat * 16) (c.AB.toNat * 16)) (S0 bt (AW c.AB).length ct) (S0 bm (c.AB.toNat * 16) (c.AB.toNat * 16)) (SN))) ?_;refine Aw [(b6,C AQ (eNw (S0 bw (c.AB.toNat * 16) (c.AB.toNat * 16)) (S0 bt (AW c.AB).length ct) (S0 bm (c.AB.toNat * 16) (c.AB.toNat * 16)) (SN))),(bw,C AX ((List.replicate (c.AB.toNat * 16) [I 0]).flatten)),(bm,C B7 ((List.replicate (c.AB.toNat * 16) [Value.bool false]).flatten))] (G:=[(bt,C AI (Ac eRg (AW c.AB) ++ tsp))] ++ (b2,C AQ (cl z28)) :: (b1,C 33 [I c.AB,I c.A6,I c.AS]) :: ([] ++ F)) ?_;exact hK _ _ _ ⟨rfl,bw,bm,b6,rfl,rfl⟩
   ·refine ja λb6=>?_
    refine Af (jl (v:=I c.AB) rfl jev) ?_;refine jms ω ω ω λbm=>?_
    rw[e16];refine jbd (cs:=(eNw (S0 bw (c.AB.toNat * 16) (c.AB.toNat * 16)) (S0 bt (AW c.AB).length ct) (S0 bm (c.AB.toNat * 16) (c.AB.toNat * 16)) (SN))) rfl rfl ?_;refine jS ((eNw (S0 bw (c.AB.toNat * 16) (c.AB.toNat * 16)) (S0 bt (AW c.AB).length ct) (S0 bm (c.AB.toNat * 16) (c.AB.toNat * 16)) (SN))) ?_;refine Aw [(b6,C AQ (eNw (S0 bw (c.AB.toNat * 16) (c.AB.toNat * 16)) (S0 bt (AW c.AB).length ct) (S0 bm (c.AB.toNat * 16) (c.AB.toNat * 16)) (SN))),(bw,C AX ((List.replicate (c.AB.toNat * 16) [I 0]).flatten)),(bm,C B7 ((List.replicate (c.AB.toNat * 16) [Value.bool false]).flatten))] (G:=[(bt,C AI (Ac eRg (AW c.AB) ++ tsp))] ++ (b2,C AQ (cl z28)) :: (b1,C 33 [I c.AB,I c.A6,I c.AS]) :: ([] ++ F)) ?_;exact hK _ _ _ ⟨rfl,bw,bm,b6,rfl,rfl⟩
  ·refine jms ω ω ω λbm=>?_
   rw[e16];refine Af (jl (v:=I c.AB) rfl jev) ?_;refine EP ?_ (Dk ?_)
   ·refine jms ω ω ω λbw=>?_
    rw[e16];refine jbd (cs:=(eNw (S0 bw (c.AB.toNat * 16) (c.AB.toNat * 16)) (S0 bt (AW c.AB).length ct) (S0 bm (c.AB.toNat * 16) (c.AB.toNat * 16)) (SN))) rfl rfl ?_;refine ja λb6=>?_
    refine jS ((eNw (S0 bw (c.AB.toNat * 16) (c.AB.toNat * 16)) (S0 bt (AW c.AB).length ct) (S0 bm (c.AB.toNat * 16) (c.AB.toNat * 16)) (SN))) ?_;refine Aw [(b6,C AQ (eNw (S0 bw (c.AB.toNat * 16) (c.AB.toNat * 16)) (S0 bt (AW c.AB).length ct) (S0 bm (c.AB.toNat * 16) (c.AB.toNat * 16)) (SN))),(bw,C AX ((List.replicate (c.AB.toNat * 16) [I 0]).flatten)),(bm,C B7 ((List.replicate (c.AB.toNat * 16) [Value.bool false]).flatten))] (G:=[(bt,C AI (Ac eRg (AW c.AB) ++ tsp))] ++ (b2,C AQ (cl z28)) :: (b1,C 33 [I c.AB,I c.A6,I c.AS]) :: ([] ++ F)) ?_;exact hK _ _ _ ⟨rfl,bw,bm,b6,rfl,rfl⟩
   ·refine ja λb6=>?_
    refine Af (jl (v:=I c.AB) rfl jev) ?_;refine jms ω ω ω λbw=>?_
    rw[e16];refine jbd (cs:=(eNw (S0 bw (c.AB.toNat * 16) (c.AB.toNat * 16)) (S0 bt (AW c.AB).length ct) (S0 bm (c.AB.toNat * 16) (c.AB.toNat * 16)) (SN))) rfl rfl ?_;refine jS ((eNw (S0 bw (c.AB.toNat * 16) (c.AB.toNat * 16)) (S0 bt (AW c.AB).length ct) (S0 bm (c.AB.toNat * 16) (c.AB.toNat * 16)) (SN))) ?_;refine Aw [(b6,C AQ (eNw (S0 bw (c.AB.toNat * 16) (c.AB.toNat * 16)) (S0 bt (AW c.AB).length ct) (S0 bm (c.AB.toNat * 16) (c.AB.toNat * 16)) (SN))),(bw,C AX ((List.replicate (c.AB.toNat * 16) [I 0]).flatten)),(bm,C B7 ((List.replicate (c.AB.toNat * 16) [Value.bool false]).flatten))] (G:=[(bt,C AI (Ac eRg (AW c.AB) ++ tsp))] ++ (b2,C AQ (cl z28)) :: (b1,C 33 [I c.AB,I c.A6,I c.AS]) :: ([] ++ F)) ?_;exact hK _ _ _ ⟨rfl,bw,bm,b6,rfl,rfl⟩
  ·refine ja λb6=>?_
   refine Af (jl (v:=I c.AB) rfl jev) (Af (jl (v:=I c.AB) rfl jev) ?_);refine EP ?_ (Dk ?_)
   ·refine jms ω ω ω λbw=>?_
    rw[e16];refine Af (jl (v:=I c.AB) rfl jev) ?_;refine jms ω ω ω λbm=>?_
    rw[e16];refine jbd (cs:=(eNw (S0 bw (c.AB.toNat * 16) (c.AB.toNat * 16)) (S0 bt (AW c.AB).length ct) (S0 bm (c.AB.toNat * 16) (c.AB.toNat * 16)) (SN))) rfl rfl ?_;refine jS ((eNw (S0 bw (c.AB.toNat * 16) (c.AB.toNat * 16)) (S0 bt (AW c.AB).length ct) (S0 bm (c.AB.toNat * 16) (c.AB.toNat * 16)) (SN))) ?_;refine Aw [(b6,C AQ (eNw (S0 bw (c.AB.toNat * 16) (c.AB.toNat * 16)) (S0 bt (AW c.AB).length ct) (S0 bm (c.AB.toNat * 16) (c.AB.toNat * 16)) (SN))),(bw,C AX ((List.replicate (c.AB.toNat * 16) [I 0]).flatten)),(bm,C B7 ((List.replicate (c.AB.toNat * 16) [Value.bool false]).flatten))] (G:=[(bt,C AI (Ac eRg (AW c.AB) ++ tsp))] ++ (b2,C AQ (cl z28)) :: (b1,C 33 [I c.AB,I c.A6,I c.AS]) :: ([] ++ F)) ?_;exact hK _ _ _ ⟨rfl,bw,bm,b6,rfl,rfl⟩
   ·refine jms ω ω ω λbm=>?_
    rw[e16];refine Af (jl (v:=I c.AB) rfl jev) ?_;refine jms ω ω ω λbw=>?_
    rw[e16];refine jbd (cs:=(eNw (S0 bw (c.AB.toNat * 16) (c.AB.toNat * 16)) (S0 bt (AW c.AB).length ct) (S0 bm (c.AB.toNat * 16) (c.AB.toNat * 16)) (SN))) rfl rfl ?_;refine jS ((eNw (S0 bw (c.AB.toNat * 16) (c.AB.toNat * 16)) (S0 bt (AW c.AB).length ct) (S0 bm (c.AB.toNat * 16) (c.AB.toNat * 16)) (SN))) ?_;refine Aw [(b6,C AQ (eNw (S0 bw (c.AB.toNat * 16) (c.AB.toNat * 16)) (S0 bt (AW c.AB).length ct) (S0 bm (c.AB.toNat * 16) (c.AB.toNat * 16)) (SN))),(bw,C AX ((List.replicate (c.AB.toNat * 16) [I 0]).flatten)),(bm,C B7 ((List.replicate (c.AB.toNat * 16) [Value.bool false]).flatten))] (G:=[(bt,C AI (Ac eRg (AW c.AB) ++ tsp))] ++ (b2,C AQ (cl z28)) :: (b1,C 33 [I c.AB,I c.A6,I c.AS]) :: ([] ++ F)) ?_;exact hK _ _ _ ⟨rfl,bw,bm,b6,rfl,rfl⟩
 rintro e Rz D1 ⟨hR,bw0,bm,b6,hD,he⟩;subst hR;refine z_W ?_;have htk:(List.replicate (c.AB.toNat * 16) [I 0]).flatten = (List.replicate (c.AB.toNat * 16) (0:Int)).map I ++ []:=by simp[aO]
 have hmk:(List.replicate (c.AB.toNat * 16) [Value.bool false]).flatten = (List.replicate (c.AB.toNat * 16) false).map Value.bool:=by simp[aO]
 rw[htk,hmk];refine BQ (b:=bw0) λR2 hR2 hb0=>?_
 have hw0:BG R2 (S0 bw0 (c.AB.toNat * 16) (c.AB.toNat * 16)) (List.replicate (c.AB.toNat * 16) 0):=by
  have:=CH (c:=c.AB.toNat * 16) hb0 σ;rw[Yy] at this;exact this
 refine jbd (cs:=[I 4,I 2]) rfl rfl (ja λb7=>?_);refine js (cs':=[I 4,I 2]) rfl rfl σ rfl ?_;refine jfo (jl (v:=S0 bw0 (c.AB.toNat * 16) (c.AB.toNat * 16)) rfl ?_);refine jla (l:=[I 4,I 2]) σ rfl ?_;refine jc (A:=[]) (Nm 16 Bx hw0 (by rw[Yy];omega)) ?_;rintro v3 R3 A3 hR3 ⟨hRR,hq⟩;subst hRR;obtain⟨sf1,sf2⟩:=KG hcc;unfold QMk at hq;rw[if_pos sf1] at hq;obtain⟨sv,⟨bw,cw,wsp,hcw,hwsp,rfl,rfl⟩,rfl⟩:=hq;refine jex rfl (jex rfl ?_);refine jfo (jS (eNw (S0 bw (Ba c).length cw) (S0 bt (AW c.AB).length ct) (S0 bm (c.AB.toNat * 16) (c.AB.toNat * 16)) (SN)) ?_);refine jla (l:=[I 4,I 2]) σ rfl (jp (CJ Bx) (Cr ⟨δ,δ⟩ ?_));rw[show (16:Int) + AF Bx = 24 by decide];refine jfo (jl (v:=S0 bt (AW c.AB).length ct) rfl ?_);refine jbd (cs:=eRg ⟨3,-1,24,24,0⟩) rfl rfl ?_;refine C5 (r:=1) ω (GR (t:=AW c.AB) (sp:=tsp) (x:=⟨3,-1,24,24,0⟩) ω ?_);refine BI (D':=(bw,C AX ((Ba c).map I ++ wsp)) :: (b7,C 60 [I 4,I 2]) :: (b6,C AQ (eNw (S0 bw (Ba c).length cw) (S0 bt (AW c.AB).length ct) (S0 bm (c.AB.toNat * 16) (c.AB.toNat * 16)) (SN))) :: (bm,C B7 ((List.replicate (c.AB.toNat * 16) false).map Value.bool)) :: (bt,C AI (Ac eRg (AT (AW c.AB) 1 ⟨3,-1,24,24,0⟩) ++ tsp)) :: (b2,C AQ (cl z28)) :: (b1,C 33 [I c.AB,I c.A6,I c.AS]) :: F) (ZU _) ?_;refine Aw [(b6,C AQ (eNw (S0 bw (Ba c).length cw) (S0 bt (AW c.AB).length ct) (S0 bm (c.AB.toNat * 16) (c.AB.toNat * 16)) (SN))),(b1,C 33 [I c.AB,I c.A6,I c.AS]),(b2,C AQ (cl z28)),(bw,C AX ((Ba c).map I ++ wsp)),(bt,C AI (Ac eRg (AT (AW c.AB) 1 ⟨3,-1,24,24,0⟩) ++ tsp)),(bm,C B7 ((List.replicate (c.AB.toNat * 16) false).map Value.bool))] (G:=F) ?_;generalize hE:(b1,C 33 [I c.AB,I c.A6,I c.AS]) :: (b2,C AQ (cl z28)) :: ([(bw,C AX ((Ba c).map I ++ wsp)),(bt,C AI (Ac eRg (AT (AW c.AB) 1 ⟨3,-1,24,24,0⟩) ++ tsp)),(bm,C B7 ((List.replicate (c.AB.toNat * 16) false).map Value.bool))] ++ F) = E;have ea1:At E b1 (C 33 [I c.AB,I c.A6,I c.AS]):=by rw[← hE];exact inferInstance
 refine BI (D':=(b6,C AQ (eNw (S0 bw (Ba c).length cw) (S0 bt (AW c.AB).length ct) (S0 bm (c.AB.toNat * 16) (c.AB.toNat * 16)) (SN))) :: E) (by rw[← hE];exact ZU _) ?_;obtain⟨n,hn⟩:∃n:Nat,c.A6 = n:=⟨c.A6.toNat,ω⟩;refine AR (λvs R' D'=>Rz.le R'∧∃rows v A,Rw (Ct R') rows (List.replicate n ⟨[16],0,false,0⟩)∧SW 83 4 rows v A∧D' = A ++ (b6,C AQ (eNw (S0 bw (Ba c).length cw) (S0 bt (AW c.AB).length ct) (S0 bm (c.AB.toNat * 16) (c.AB.toNat * 16)) v)) :: E∧vs = [Pt b2,Pt b6]) (λK hK=>?_) ?_
 ·refine AR (λvs R' D'=>Rz.le R'∧∃rows v A,Rw (Ct R') rows (List.replicate n ⟨[16],0,false,0⟩)∧SW 83 4 rows v A∧D' = A ++ (b6,C AQ (eNw (S0 bw (Ba c).length cw) (S0 bt (AW c.AB).length ct) (S0 bm (c.AB.toNat * 16) (c.AB.toNat * 16)) v)) :: E∧vs = [Pt b2,Pt b6]) (λK2 hK2=>?_) ?_;rotate_left
  ·rintro e R1 D1 ⟨hR,rows,v,A,hrw,so,hD,he⟩;refine z_W ?_;exact hK _ _ _ ⟨hR,rows,v,A,hrw,so,rfl,rfl⟩
  refine jlp (λm vs R' D'=>Rz.le R'∧∃(i:Nat) (rows:List (List Value)) (v:Value) (A:Chs),i≤n∧Rw (Ct R') rows (List.replicate i ⟨[16],0,false,0⟩)∧SW 83 4 rows v A∧D' = A ++ (b6,C AQ (eNw (S0 bw (Ba c).length cw) (S0 bt (AW c.AB).length ct) (S0 bm (c.AB.toNat * 16) (c.AB.toNat * 16)) v)) :: E∧vs = [Pt b1,Pt b2,Pt b6,I i]∧m = n - i)
   (n:=n) ⟨hR2,0,[],SN,[],ω,Rw.nil,.inl ⟨rfl,rfl,rfl⟩,rfl,rfl,ω⟩ ?_
  rintro m e R1 D1 K3 ⟨hR,i,rows,v,A,hi,hrw,so,hD,he,hm⟩ hK3;refine z_W ?_;refine jfo (jl (v:=I c.A6) rfl (jlt (jif (λhd=>?_) (λhd=>?_))));rotate_left
  ·have hd:i = n:=by have:=z_g hd;omega
   subst hd;exact hK2 _ _ _ ⟨hR,rows,v,A,hrw,so,rfl,rfl⟩
  have hd:i < n:=by have:=z_f hd;omega
  obtain⟨sa,sc,hsl⟩:=so.sl;subst hsl;refine jfo (jl (v:=.slice sa rows.length sc) rfl ?_);refine jbs (cs:=[I 16]) rfl rfl λb8=>?_
  refine BQ (b:=b8) λR3 hR3 hb8=>?_
  have hv2:BG R3 (S0 b8 1 1) [16]:=CH (l:=[16]) (sp:=[]) (c:=1) hb8 σ;refine jbd (cs:=[S0 b8 1 1,I 0,.bool false,I 0]) rfl rfl ?_;refine jbs (cs:=[S0 b8 1 1,I 0,.bool false,I 0]) rfl rfl λb9=>?_
  refine Aw A (G:=(b9,C 83 [S0 b8 1 1,I 0,.bool false,I 0]) :: (b6,C AQ (eNw (S0 bw (Ba c).length cw) (S0 bt (AW c.AB).length ct) (S0 bm (c.AB.toNat * 16) (c.AB.toNat * 16)) (.slice sa rows.length sc))) :: E) ?_;have hx:BY R3 (A ++ ((b9,C 83 [S0 b8 1 1,I 0,.bool false,I 0]) :: (b6,C AQ (eNw (S0 bw (Ba c).length cw) (S0 bt (AW c.AB).length ct) (S0 bm (c.AB.toNat * 16) (c.AB.toNat * 16)) (.slice sa rows.length sc))) :: E)) (some ⟨b9,0,none⟩) (1 * 4) [[S0 b8 1 1,I 0,.bool false,I 0]].flatten:=BY.held (t:=83) (cs:=[S0 b8 1 1,I 0,.bool false,I 0]) (o:=0) (n:=1 * 4) (z_n 4);have hrl:=hrw.1;rw[Yy] at hrl;refine jaw so (hrw.all λ_ _=>Ct.len) (by intro r hr;rw[Z8.1 hr];rfl) rfl rfl rfl δ (by rw[Z7];omega) hx λv' A' so'=>?_
  obtain⟨sa',sc',hsl'⟩:=so'.sl;subst hsl';refine jfo (jS (eNw (S0 bw (Ba c).length cw) (S0 bt (AW c.AB).length ct) (S0 bm (c.AB.toNat * 16) (c.AB.toNat * 16)) (.slice sa' (rows ++ [[S0 b8 1 1,I 0,.bool false,I 0]]).length sc')) ?_);refine jad ?_;refine Aw A' (G:=(b6,C AQ (eNw (S0 bw (Ba c).length cw) (S0 bt (AW c.AB).length ct) (S0 bm (c.AB.toNat * 16) (c.AB.toNat * 16)) (.slice sa' (rows ++ [[S0 b8 1 1,I 0,.bool false,I 0]]).length sc'))) :: E) ?_;refine hK3 (n - (i + 1)) _ _ _ ω ⟨hR.trans hR3,i + 1,_,_,A',ω,?_,so',rfl,rfl,rfl⟩;rw[List.replicate_succ'];exact (hrw.mono λ_ _=>Ct.le hR3).app (Rw.one ⟨_,rfl,hv2⟩)
 rintro e R1 D1 ⟨hR,rows,v,A,hrw,so,hD,he⟩;refine z_W ?_;obtain⟨sa,sc,hsl⟩:=so.sl;subst hsl;refine jfw so (hrw.all λ_ _=>Ct.len) λR3 hR3 hfz=>?_
 subst hE;refine jla (l:=eNw (S0 bw (Ba c).length cw) (S0 bt (AW c.AB).length ct) (S0 bm (c.AB.toNat * 16) (c.AB.toNat * 16)) (.slice sa rows.length sc)) (by exact z_n 13) rfl ?_;refine jS (eNw (S0 bw (Ba c).length cw) (S0 bt (AW c.AB).length ct) (S0 bm (c.AB.toNat * 16) (c.AB.toNat * 16)) (.slice sa rows.length sc)) ?_;refine jla (l:=eNw (S0 bw (Ba c).length cw) (S0 bt (AW c.AB).length ct) (S0 bm (c.AB.toNat * 16) (c.AB.toNat * 16)) (.slice sa rows.length sc)) (by exact z_n 13) rfl ?_;refine B9 (A:=[(bw,C AX ((Ba c).map I ++ wsp)),(bt,C AI (Ac eRg (AT (AW c.AB) 1 ⟨3,-1,24,24,0⟩) ++ tsp)),(bm,C B7 ((List.replicate (c.AB.toNat * 16) false).map Value.bool))]) (hR.trans hR3) ⟨bw,cw,wsp,bt,ct,tsp,bm,.slice sa rows.length sc,hcw,hct,⟨rows,?_,hfz⟩,rfl,rfl⟩;rw[hn,Yj];exact hrw.mono λ_ _=>Ct.le hR3
theorem RB {α β γ:Type} {f:α→β→γ} {a:α}:∀(l:List β),List.zipWith f (List.replicate l.length a) l = l.map (f a)
 | []=>rfl
 | b :: r=>by rw[Yt,List.replicate_succ,List.zipWith_cons_cons,RB r,ZX]
def eBg (c:Cfg) (pv w tv m thv v:Value):List Value:=I c.AB :: I c.A6 :: I c.AS :: pv :: (eNw w tv m thv ++ v :: (BF (Cd false 0) (SN) ++ [SN,.bool false]))
theorem ME {R:RM} {c:Cfg} {pv:Value} {Aa:List (List Sm.Op)} (hc:Bf c = true) (hp:EY R pv Aa) :
  Fn P Is [.agg #[I c.AB,I c.A6,I c.AS],pv] R [] (λv R' A=>∃p g,v = Pt p∧A = Ab p (Sm.start c Aa) g∧Ok R' (Sm.start c Aa) g):=by
 refine OX λF=>?_
 refine z_2 ?_;have hcc:=hc;unfold Bf at hc;simp only[z_b,z_d] at hc;obtain⟨pvs,hpf,-,-⟩:=id hp;obtain⟨pa,pc,hpv⟩:=hpf.sl;refine ja λb1=>?_
 rw[show cl (.agg #[I c.AB,I c.A6,I c.AS]) = [I c.AB,I c.A6,I c.AS] from rfl];refine jla (l:=[I c.AB,I c.A6,I c.AS]) σ rfl ?_;refine jc (A:=[]) (QG hcc) ?_;rintro v1 R1 A1 hR1 ⟨bw,cw,wsp,bt,ct,tsp,bm,thv,hcw,hctn,hths,rfl,rfl⟩;obtain⟨ha,hcap,htv⟩:=hths.sl;subst hpv htv;refine jex rfl (jex rfl (ja λb2=>?_));refine jS (eNw (S0 bw (Ba c).length cw) (S0 bt (AW c.AB).length ct) (S0 bm (c.AB.toNat * 16) (c.AB.toNat * 16)) (.slice ha (List.replicate c.A6.toNat (⟨[16],0,false,0⟩:Th)).length hcap)) ?_;refine jla (l:=[I c.AB,I c.A6,I c.AS]) σ rfl ?_;refine jla (l:=eNw (S0 bw (Ba c).length cw) (S0 bt (AW c.AB).length ct) (S0 bm (c.AB.toNat * 16) (c.AB.toNat * 16)) (.slice ha (List.replicate c.A6.toNat (⟨[16],0,false,0⟩:Th)).length hcap)) (by exact z_n 13) rfl ?_;refine jbd (cs:=eBg c (.slice pa Aa.length pc) (S0 bw (Ba c).length cw) (S0 bt (AW c.AB).length ct) (S0 bm (c.AB.toNat * 16) (c.AB.toNat * 16)) (.slice ha (List.replicate c.A6.toNat (⟨[16],0,false,0⟩:Th)).length hcap) (SN)) rfl rfl ?_;refine ja λp=>?_
 generalize hE:(b2,C AQ (eNw (S0 bw (Ba c).length cw) (S0 bt (AW c.AB).length ct) (S0 bm (c.AB.toNat * 16) (c.AB.toNat * 16)) (.slice ha (List.replicate c.A6.toNat (⟨[16],0,false,0⟩:Th)).length hcap))) :: ([(bw,C AX ((Ba c).map I ++ wsp)),(bt,C AI (Ac eRg (AT (AW c.AB) 1 ⟨3,-1,24,24,0⟩) ++ tsp)),(bm,C B7 ((List.replicate (c.AB.toNat * 16) false).map Value.bool))] ++ (b1,C 33 [I c.AB,I c.A6,I c.AS]) :: ([] ++ F)) = E;have ea1:At E b1 (C 33 [I c.AB,I c.A6,I c.AS]):=by rw[← hE];exact inferInstance
 have ea2:At E b2 (C AQ (eNw (S0 bw (Ba c).length cw) (S0 bt (AW c.AB).length ct) (S0 bm (c.AB.toNat * 16) (c.AB.toNat * 16)) (.slice ha (List.replicate c.A6.toNat (⟨[16],0,false,0⟩:Th)).length hcap))):=by rw[← hE];exact inferInstance
 refine BI (D':=(p,C Bg (eBg c (.slice pa Aa.length pc) (S0 bw (Ba c).length cw) (S0 bt (AW c.AB).length ct) (S0 bm (c.AB.toNat * 16) (c.AB.toNat * 16)) (.slice ha (List.replicate c.A6.toNat (⟨[16],0,false,0⟩:Th)).length hcap) (SN))) :: E) (by rw[← hE]) ?_;obtain⟨n,hn⟩:∃n:Nat,c.A6 = n:=⟨c.A6.toNat,ω⟩;have e17:∀(l:List Value),∀r∈l.map (Ak (thr0 [16] 0 0)),r.length = 17:=λl r hr=>by
  obtain⟨x,_,rfl⟩:=ZK.1 hr;rfl
 refine AR (λvs R' D'=>R1.le R'∧∃(rvs:List Value) (v:Value) (A:Chs),rvs.length = n∧(∀x∈rvs,BG R' x [16])∧SW 187 17 (rvs.map (Ak (thr0 [16] 0 0))) v A∧D' = A ++ (p,C Bg (eBg c (.slice pa Aa.length pc) (S0 bw (Ba c).length cw) (S0 bt (AW c.AB).length ct) (S0 bm (c.AB.toNat * 16) (c.AB.toNat * 16)) (.slice ha (List.replicate c.A6.toNat (⟨[16],0,false,0⟩:Th)).length hcap) v)) :: E∧vs = [Pt p]) (λK hK=>?_) ?_
 ·refine AR (λvs R' D'=>R1.le R'∧∃(rvs:List Value) (v:Value) (A:Chs),rvs.length = n∧(∀x∈rvs,BG R' x [16])∧SW 187 17 (rvs.map (Ak (thr0 [16] 0 0))) v A∧D' = A ++ (p,C Bg (eBg c (.slice pa Aa.length pc) (S0 bw (Ba c).length cw) (S0 bt (AW c.AB).length ct) (S0 bm (c.AB.toNat * 16) (c.AB.toNat * 16)) (.slice ha (List.replicate c.A6.toNat (⟨[16],0,false,0⟩:Th)).length hcap) v)) :: E∧vs = [Pt p]) (λK2 hK2=>?_) ?_;rotate_left
  ·rintro e R2 D1 ⟨hR,rvs,v,A,hl,hrv,so,hD,he⟩;refine z_W ?_;exact hK _ _ _ ⟨hR,rvs,v,A,hl,hrv,so,rfl,rfl⟩
  refine jlp (λm vs R' D'=>∃i:Nat,i≤n∧m = n - i∧R1.le R'∧∃(rvs:List Value) (v:Value) (A:Chs),rvs.length = i∧(∀x∈rvs,BG R' x [16])∧SW 187 17 (rvs.map (Ak (thr0 [16] 0 0))) v A∧D' = A ++ (p,C Bg (eBg c (.slice pa Aa.length pc) (S0 bw (Ba c).length cw) (S0 bt (AW c.AB).length ct) (S0 bm (c.AB.toNat * 16) (c.AB.toNat * 16)) (.slice ha (List.replicate c.A6.toNat (⟨[16],0,false,0⟩:Th)).length hcap) v)) :: E∧vs = [Pt b1,Pt b2,Pt p,I i])
   (n:=n) ⟨0,ω,ω,RM.le.refl R1,[],SN,[],rfl,(λx hx=>by cases hx),.inl ⟨rfl,rfl,rfl⟩,rfl,rfl⟩ ?_
  rintro m e R2 D1 K3 ⟨i,hi,hm,hR,rvs,v,A,hl,hrv,so,hD,he⟩ hK3;refine z_W ?_;refine jfo (jl (v:=I c.A6) rfl (jlt (jif (λhd=>?_) (λhd=>?_))));rotate_left
  ·have hd:i = n:=by have:=z_g hd;omega
   subst hd;exact hK2 _ _ _ ⟨hR,rvs,v,A,hl,hrv,so,rfl,rfl⟩
  have hd:i < n:=by have:=z_f hd;omega
  obtain⟨sa,sc,hsl⟩:=so.sl;subst hsl;rw[Z1];refine jnc (jfo (jl (v:=.slice sa rvs.length sc) rfl ?_));refine jfo (jl (v:=.slice ha (List.replicate c.A6.toNat (⟨[16],0,false,0⟩:Th)).length hcap) rfl ?_);refine jtr (hths.le hR) (by rw[Yy];omega) λb3 o3 ty cs rv hrv3 hb3 ho3 hrow3=>?_
  rw[List.getElem_replicate] at hrv3 hrow3;refine jfo (jlr (v:=rv) hb3 (CB hrow3 (f:=0) rfl) ?_);refine jc (A:=[]) (CN hrv3 δ) ?_;rintro _ R3 _ hR3 ⟨b8,c8,sp8,hc8,hsp8,rfl,rfl⟩;refine BQ (b:=b8) λR4 hR4 hb8=>?_
  have hv2:BG R4 (S0 b8 1 c8) [16]:=CH (l:=[16]) (c:=c8) hb8 hc8;refine jbd (cs:=(Ak (thr0 [16] 0 0) (S0 b8 1 c8))) rfl rfl ?_;refine Af (jl (v:=.slice sa rvs.length sc) rfl jev) ?_;refine jbs (cs:=(Ak (thr0 [16] 0 0) (S0 b8 1 c8))) rfl rfl λb9=>?_
  refine Af (jl (v:=.slice sa rvs.length sc) rfl jev) ?_;refine BI (D':=(b9,C 187 (Ak (thr0 [16] 0 0) (S0 b8 1 c8))) :: (A ++ (p,C Bg (eBg c (.slice pa Aa.length pc) (S0 bw (Ba c).length cw) (S0 bt (AW c.AB).length ct) (S0 bm (c.AB.toNat * 16) (c.AB.toNat * 16)) (.slice ha (List.replicate c.A6.toNat (⟨[16],0,false,0⟩:Th)).length hcap) (.slice sa rvs.length sc))) :: E)) (ZU _) ?_;refine Aw A (G:=(b9,C 187 (Ak (thr0 [16] 0 0) (S0 b8 1 c8))) :: (p,C Bg (eBg c (.slice pa Aa.length pc) (S0 bw (Ba c).length cw) (S0 bt (AW c.AB).length ct) (S0 bm (c.AB.toNat * 16) (c.AB.toNat * 16)) (.slice ha (List.replicate c.A6.toNat (⟨[16],0,false,0⟩:Th)).length hcap) (.slice sa rvs.length sc))) :: E) ?_;have hx:BY R4 (A ++ ((b9,C 187 (Ak (thr0 [16] 0 0) (S0 b8 1 c8))) :: (p,C Bg (eBg c (.slice pa Aa.length pc) (S0 bw (Ba c).length cw) (S0 bt (AW c.AB).length ct) (S0 bm (c.AB.toNat * 16) (c.AB.toNat * 16)) (.slice ha (List.replicate c.A6.toNat (⟨[16],0,false,0⟩:Th)).length hcap) (.slice sa rvs.length sc))) :: E)) (some ⟨b9,0,none⟩) (1 * 17) [(Ak (thr0 [16] 0 0) (S0 b8 1 c8))].flatten:=BY.held (t:=187) (cs:=(Ak (thr0 [16] 0 0) (S0 b8 1 c8))) (o:=0) (n:=1 * 17) (z_n 17);rw[Z1] at so;refine jaw so (e17 _) (by intro r hr;rw[Z8.1 hr];rfl) rfl rfl rfl δ (by rw[Z7,Z1];omega) hx λv' A' so'=>?_
  obtain⟨sa',sc',hsl'⟩:=so'.sl;have em:rvs.map (Ak (thr0 [16] 0 0)) ++ [(Ak (thr0 [16] 0 0) (S0 b8 1 c8))] = (rvs ++ [S0 b8 1 c8]).map (Ak (thr0 [16] 0 0)):=by rw[Zf];rfl
  rw[em] at so' hsl';subst hsl';refine jnc (jfo (js (cs':=eBg c (.slice pa Aa.length pc) (S0 bw (Ba c).length cw) (S0 bt (AW c.AB).length ct) (S0 bm (c.AB.toNat * 16) (c.AB.toNat * 16)) (.slice ha (List.replicate c.A6.toNat (⟨[16],0,false,0⟩:Th)).length hcap) (.slice sa' ((rvs ++ [S0 b8 1 c8]).map (Ak (thr0 [16] 0 0))).length sc')) rfl rfl (by simp[eBg,eNw,BF]) rfl ?_));refine jad ?_;refine Aw A' (G:=(p,C Bg (eBg c (.slice pa Aa.length pc) (S0 bw (Ba c).length cw) (S0 bt (AW c.AB).length ct) (S0 bm (c.AB.toNat * 16) (c.AB.toNat * 16)) (.slice ha (List.replicate c.A6.toNat (⟨[16],0,false,0⟩:Th)).length hcap) (.slice sa' ((rvs ++ [S0 b8 1 c8]).map (Ak (thr0 [16] 0 0))).length sc'))) :: E) ?_;refine hK3 (n - (i + 1)) _ _ _ ω ⟨i + 1,ω,rfl,(hR.trans hR3).trans hR4,rvs ++ [S0 b8 1 c8],_,A',by rw[Yk,hl];rfl,?_,so',rfl,rfl⟩;intro x hx;rcases ZB.1 hx with hx | hx
  ·exact (hrv x hx).le (hR3.trans hR4)
  ·rw[Z8.1 hx];exact hv2
 rintro e R2 D1 ⟨hR,rvs,v,A,hl,hrv,so,hD,he⟩;refine z_W ?_;rcases so with ⟨h1,_,_⟩ | ⟨hb,hc2,hsp,hcc2,hhsp,rfl,rfl⟩
 ·have:=congrArg List.length h1;rw[Z1,Zp] at this;omega
 rw[Z1] at hcc2 ⊢;subst hE
 let g:Img:={ Aa:=.slice pa Aa.length pc,wb:=bw,wc:=cw,wsp:=wsp,tb:=bt,tc:=ct,tsp:=tsp,mb:=bm,mc:=c.AB.toNat * 16,msp:=[],Ae:=.bool false,want:=I 0,A6:=.slice ha (List.replicate c.A6.toNat (⟨[16],0,false,0⟩:Th)).length hcap,old:=SN,AG:=SN,hb:=hb,hc:=hc2,hsp:=hsp,rv:=rvs,AM:=SN,ev:=none,esp:=[] }
 have hth:(Sm.start c Aa).th = List.replicate rvs.length (thr0 [16] 0 0):=by
  rw[hl];show List.replicate c.A6.toNat _ = _;rw[hn,Yj]
 have ezs:E3 (Sm.start c Aa).th rvs = (rvs.map (Ak (thr0 [16] 0 0))).flatten:=by
  rw[hth];unfold E3;rw[RB]
 have etl:(AT (AW c.AB) 1 (⟨3,-1,24,24,0⟩:Rg)).length = (AW c.AB).length:=by simp[AT]
 have htl:(AW c.AB).length = c.AB.toNat:=by
  unfold AW;rw[if_neg ω];simp;omega
 have esim:C0 (Sm.start c Aa) g = eBg c (.slice pa Aa.length pc) (S0 bw (Ba c).length cw) (S0 bt (AW c.AB).length ct) (S0 bm (c.AB.toNat * 16) (c.AB.toNat * 16)) (.slice ha (List.replicate c.A6.toNat (⟨[16],0,false,0⟩:Th)).length hcap) (S0 hb rvs.length hc2):=by
  have e1:(Sm.start c Aa).th.length = rvs.length:=by rw[hth,Yy]
  have e2:(Sm.start c Aa).A0.length = (AW c.AB).length:=etl;have e3:(Sm.start c Aa).AK.length = c.AB.toNat * 16:=by show (List.replicate _ _).length = _;rw[Yy]
  unfold C0;rw[e1,e2,e3];rfl
 have esd:Ab p (Sm.start c Aa) g = (p,C Bg (eBg c (.slice pa Aa.length pc) (S0 bw (Ba c).length cw) (S0 bt (AW c.AB).length ct) (S0 bm (c.AB.toNat * 16) (c.AB.toNat * 16)) (.slice ha (List.replicate c.A6.toNat (⟨[16],0,false,0⟩:Th)).length hcap) (S0 hb rvs.length hc2))) :: (bw,C AX ((Ba c).map I ++ wsp)) :: (bt,C AI (Ac eRg (AT (AW c.AB) 1 ⟨3,-1,24,24,0⟩) ++ tsp)) :: (bm,C B7 ((List.replicate (c.AB.toNat * 16) false).map Value.bool ++ [])) :: (hb,C AY ((rvs.map (Ak (thr0 [16] 0 0))).flatten ++ hsp)) :: []:=by
  unfold Ab;rw[esim];show _ :: _ :: _ :: _ :: (hb,C AY (E3 (Sm.start c Aa).th rvs ++ hsp)) :: [] = _;rw[ezs];rfl
 refine Aw [(p,C Bg (eBg c (.slice pa Aa.length pc) (S0 bw (Ba c).length cw) (S0 bt (AW c.AB).length ct) (S0 bm (c.AB.toNat * 16) (c.AB.toNat * 16)) (.slice ha (List.replicate c.A6.toNat (⟨[16],0,false,0⟩:Th)).length hcap) (S0 hb rvs.length hc2))),(bw,C AX ((Ba c).map I ++ wsp)),(bt,C AI (Ac eRg (AT (AW c.AB) 1 ⟨3,-1,24,24,0⟩) ++ tsp)),(bm,C B7 ((List.replicate (c.AB.toNat * 16) false).map Value.bool)),(hb,C AY ((rvs.map (Ak (thr0 [16] 0 0))).flatten ++ hsp))] (G:=F) ?_;refine BI (D':=Ab p (Sm.start c Aa) g ++ F) (by rw[esd,ZN]) ?_;refine B9 (A:=Ab p (Sm.start c Aa) g) (hR1.trans hR) ⟨p,g,rfl,rfl,?_⟩;have hle:=hR1.trans hR;refine⟨?_,.inl ⟨rfl,rfl,rfl⟩,.inl ⟨rfl,rfl,rfl⟩,.inl ⟨rfl,rfl,rfl⟩,?_,?_,λ_=>rfl,(λb c h=>by cases h),?_,?_,?_,?_,⟨rfl,rfl,rfl⟩,?_,?_,?_⟩
 ·obtain⟨vs,h1,h2,h3⟩:=hp;exact⟨vs,h1.le hle,h2,λi hi=>by obtain⟨x,hx,ho⟩:=h3 i hi;exact⟨x,hx,ho.le hle⟩⟩
 ·rw[hth,Yy]
 ·intro i h h';have e:((Sm.start c Aa).th[i]).AC = [16]:=by
   simp only[hth,List.getElem_replicate];rfl
  rw[e];exact hrv _ (Yq h')
 ·show (Ba c).length≤1000;rw[(KG hcc).2];omega
 ·show (AT (AW c.AB) 1 (⟨3,-1,24,24,0⟩:Rg)).length≤1000;omega
 ·show (List.replicate _ _).length≤1000;rw[Yy];omega
 ·rw[hth,Yy];omega
 ·exact hcw
 ·show (AT (AW c.AB) 1 (⟨3,-1,24,24,0⟩:Rg)).length≤ct;omega
 ·show (List.replicate _ _).length≤c.AB.toNat * 16;simp
theorem Ps {p n:Nat} {S S' : Sim} {g:Img} {R:RM} (hok:Ok R S g) (hp:Pr S) (hT:TOk S.A0) (hf:S.full = false) (hS:S.pause n = some S') :
  Fn P DZ [Pt p] R (Ab p S g) (D0 p S' λ_=>True):=by
 refine JN λF=>?_
 refine z_1 ?_;unfold Sim.pause at hS;split at hS
 ·cases hS
 rename_i hz;have hz:S.sz = true:=by simpa using hz
 rw[if_neg (by rw[hf];decide)] at hS;dsimp only at hS;have htl:=hok.tl;have n1:=hT.n1;refine jl (v:=.bool S.full) rfl ?_;rw[hf];refine CL ?_;refine jss (p:=p) { S with stop:=false } g rfl rfl δ τ τ ?_;have ok1:Ok R { S with stop:=false } g:={ hok with };refine jl (v:=I S.col.want) rfl (jeq (jif (λh1=>?_) (λh1=>?_)))
 ·rw[if_pos (eq_of_beq h1)] at hS;simp only[Yu] at hS;subst hS;refine jcS (p:=p) (by exact PV ok1 hz) λ_ R2 g2 hR2 _ ok2=>?_
  exact Ay hR2 trivial rfl ok2
 rw[if_neg (ne_of_beq_false h1)] at hS;refine jeq (jif (λh2=>?_) (λh2=>?_))
 ·rw[if_pos (eq_of_beq h2)] at hS;refine jcS (p:=p) (by exact Ua ok1 hp hS) λ_ R2 g2 hR2 _ ok2=>?_
  exact Ay hR2 trivial rfl ok2
 rw[if_neg (ne_of_beq_false h2)] at hS;refine jeq (jif (λh3=>?_) (λh3=>?_));rotate_left
 ·rw[if_neg (ne_of_beq_false h3)] at hS;refine jcS (p:=p) (by exact UE ok1 hz hT hS) λ_ R2 g2 hR2 _ ok2=>?_
  exact Ay hR2 trivial rfl ok2
 rw[if_pos (eq_of_beq h3)] at hS;unfold Sim.update at hS;obtain⟨_,-,hS⟩:=AD hS;simp only[Yu] at hS;refine jss (p:=p) { S with stop:=false,Ad:=3 } g rfl rfl δ τ τ ?_;generalize hfn:(λ(i:Int) (x:Rg)=>{ x with AO:=x.top - AH i }) = f at hS;have hfx:∀(k:Nat) (x:Rg),f k x = { x with AO:=x.top - AH k }:=λk x=>by rw[← hfn]
 refine AR (λvs R' D'=>R' = R∧D' = Ab p { S with stop:=false,Ad:=3,A0:=rows f S.A0 } g ++ F∧vs = [Pt p]) (λK hK=>?_) ?_;rotate_left
 ·rintro e R1 D1 ⟨hR,hD,he⟩;subst hR;refine z_W ?_;refine jl (v:=.bool S.col.Ae) rfl (jl (v:=I S.col.want) rfl ?_);refine jbd (cs:=BF { Cd S.col.Ae S.col.want with pc:=6,r:=1,p:=16 } (SN)) rfl rfl ?_;refine jss (p:=p) { S with stop:=false,Ad:=3,A0:=rows f S.A0,col:={ Cd S.col.Ae S.col.want with pc:=6,r:=1,p:=16 } } { g with AM:=SN } rfl rfl δ τ τ ?_;subst hS;refine Ay (RM.le.refl R1) trivial rfl ?_;exact { ok1 with AM:=.inl ⟨rfl,rfl,rfl⟩,tl:=by simpa [rows] using hok.tl,tk:=by simpa [rows] using hok.tk }
 refine AR (λvs R' D'=>R' = R∧D' = Ab p { S with stop:=false,Ad:=3,A0:=rows f S.A0 } g ++ F∧vs = [Pt p]) (λK2 hK2=>?_) ?_;rotate_left
 ·rintro e R1 D1 ⟨hR,hD,he⟩;refine z_W ?_;exact hK _ _ _ ⟨hR,rfl,rfl⟩
 refine jlp (λm vs R' D'=>R' = R∧∃k:Nat,1≤k∧k≤S.A0.length + 1∧D' = Ab p { S with stop:=false,Ad:=3,A0:=Bk f k S.A0 } g ++ F∧vs = [Pt p,I k]∧m = S.A0.length + 1 - k)
  (n:=S.A0.length) ⟨rfl,1,z_n 1,ω,by rw[HX],rfl,ω⟩ ?_
 rintro m e R4 D4 K3 ⟨hR4,k,k0,k1,hD,he,hm⟩ hK3;subst hR4;refine z_W ?_;refine jl (v:=.slice (some ⟨g.tb,0,none⟩) (Bk f k S.A0).length g.tc) rfl (jln (jlt (jif (λhc=>?_) (λhc=>?_))));rotate_left
 ·have hc:S.A0.length≤k:=by have:=z_g hc;rw[CS] at this;omega
  refine hK2 _ _ _ ⟨rfl,?_,rfl⟩;rw[HJ hc]
 have hc:k < S.A0.length:=by have:=z_f hc;rw[CS] at this;omega
 have RR:=hT.row k ω ω;have t0:=RR.t0;have t1:=RR.t1;rw[E5 hc] at t0 t1;have hbase:=CO (r:=(k:Int)) ω ω;refine jl (v:=.slice (some ⟨g.tb,0,none⟩) (Bk f k S.A0).length g.tc) rfl (C5 (by rw[CS];exact hc) ?_);refine QH (p:=p) (by simpa using hc) ?_;rw[show ({ S with stop:=false,Ad:=3,A0:=Bk f k S.A0 }:Sim).A0[k]'(by simpa using hc) = S.A0[k] from HF (f:=f) hc];refine ja λb5=>?_
 refine js (cs':=eRg (S.A0[k])) rfl rfl σ rfl ?_;refine jfo (jl (v:=I (S.A0[k]).top) rfl (jp (Bc k) (jsu ?_)));refine jfo (Af (jl (v:=I (S.A0[k]).top) rfl jev) ?_);refine js (cs':=eRg { S.A0[k] with AO:=(S.A0[k]).top - AH k }) rfl rfl σ rfl ?_;refine jl (v:=.slice (some ⟨g.tb,0,none⟩) (Bk f k S.A0).length g.tc) rfl ?_;refine jla (l:=eRg { S.A0[k] with AO:=(S.A0[k]).top - AH k }) σ rfl ?_;refine C5 (by rw[CS];exact hc) ?_;refine SZ (p:=p) (x:={ S.A0[k] with AO:=(S.A0[k]).top - AH k }) { S with stop:=false,Ad:=3,A0:=Bk f (k + 1) S.A0 } (by simpa using hc) (by rw[← HM k0 hc,hfx]) ?_;refine jad ?_;refine Aw (Ab p { S with stop:=false,Ad:=3,A0:=Bk f (k + 1) S.A0 } g) (G:=F) ?_;exact hK3 (S.A0.length + 1 - (k + 1)) _ _ _ ω ⟨rfl,k + 1,ω,ω,rfl,rfl,rfl⟩
theorem Oj {p n:Nat} {S S' : Sim} {g:Img} {R:RM} (hok:Ok R S g) (hpz:∀R g S1,Ok R S g→S.pause n = some S1→Fn P DZ [Pt p] R (Ab p S g) (D0 p S1 λ_=>True)) (hS:S.collector n = some S') :
  Fn P GC [Pt p] R (Ab p S g) (D0 p S' λ_=>True):=by
 refine JX λF=>?_
 refine z_1 ?_;unfold Sim.collector at hS;refine jl (v:=.bool S.stop) rfl (jif (λh0=>?_) (λh0=>?_))
 ·rw[if_pos h0] at hS;refine jcS (p:=p) (by exact Wa hok) λ_ R2 g2 hR2 hr ok2=>?_
  subst hr;refine jif (λhc=>?_) (λhc=>?_)
  ·rw[if_pos hc] at hS;refine jcS (p:=p) (by exact hpz R2 g2 S' ok2 hS) λ_ R3 g3 hR3 _ ok3=>?_
   exact Ay (hR2.trans hR3) trivial rfl ok3
  ·rw[if_neg (by rw[hc];decide)] at hS;simp only[Yu] at hS;subst hS;exact Ay hR2 trivial rfl ok2
 rw[if_neg (by rw[h0];decide)] at hS;refine jl (v:=I S.Ad) rfl (jeq (jif (λh1=>?_) (λh1=>?_)))
 ·rw[if_pos (eq_of_beq h1)] at hS;refine jl (v:=.bool S.col.Ae) rfl (jif (λh2=>?_) (λh2=>?_))
  ·rw[if_pos h2] at hS;refine IW (p:=p) hok λb=>?_
   obtain⟨a,cap,hsv,-⟩:=BG.reads (D:=[]) hok.AM;have hst0:=hok.AM;rw[hsv] at hst0 ⊢;refine jS (BF { S.col with Ae:=false } (.slice a S.col.AM.length cap)) ?_;refine jS (BF { S.col with Ae:=false,want:=1 } (.slice a S.col.AM.length cap)) ?_;refine Hf (p:=p) { S with col:={ S.col with Ae:=false,want:=1 } } (by exact hok) (by exact hst0) τ λg3 ok3=>?_
   refine jss (p:=p) { S with stop:=true,col:={ S.col with Ae:=false,want:=1 } } g3 rfl rfl δ τ τ ?_;simp only[Yu] at hS;subst hS;exact Ay (RM.le.refl R) trivial rfl { ok3 with }
  ·rw[if_neg (by rw[h2];decide)] at hS;simp only[Yu] at hS;subst hS;exact Ay (RM.le.refl R) trivial rfl hok
 ·rw[if_neg (ne_of_beq_false h1)] at hS;refine jss (p:=p) { S with used:=false } g rfl rfl δ τ τ ?_;refine jlp (λm vs R' D'=>R.le R'∧∃S1 g1,Ok R' S1 g1∧Sim.cloop m S1 = some S'∧D' = Ab p S1 g1 ++ F∧vs = [Pt p])
   (n:=n) ⟨RM.le.refl R,{ S with used:=false },g,{ hok with },hS,rfl,rfl⟩ ?_
  rintro m e R1 D1 K3 ⟨hR1,S1,g1,ok1,hdr,hD,he⟩ hK3;refine z_W ?_;cases m with
  | zero=>cases hdr
  | succ m=>
  unfold Sim.cloop at hdr;refine jan [Pt p] ((!S1.used) && (!S1.stop)) (λK' hK'=>?_) (λe c u ho he=>?_)
  ·refine jl (v:=.bool S1.used) rfl (Bt (λh1=>?_) (λh1=>?_))
   ·refine jl (v:=.bool S1.stop) rfl (hK' _ _ _ (h1▸Ax) (by rw[h1,Z2]))
   ·exact hK' _ _ _ (h1▸BB) (by rw[h1,Z3])
  refine z_V ?_;rw[ho];refine jif (λhc=>?_) (λhc=>?_)
  ·rw[if_pos hc] at hdr;obtain⟨S2,h2,hdr⟩:=AD hdr;refine jcS (p:=p) (by exact XK ok1 h2) λ_ R2 g2 hR2 _ ok2=>?_
   exact hK3 m _ _ _ ω ⟨hR1.trans hR2,S2,g2,ok2,hdr,rfl,rfl⟩
  ·rw[if_neg (by rw[hc];decide)] at hdr;simp only[Yu] at hdr;subst hdr;exact Ay hR1 trivial rfl ok1
theorem UT {p:Nat} {S S' : Sim} {g:Img} {a:Int} {R:RM} (hok:Ok R S g) (ha:inR a) (hpz:∀R g S1,Ok R S g→S.pause S.fuel = some S1→Fn P DZ [Pt p] R (Ab p S g) (D0 p S1 λ_=>True)) (hS:S.pick a = some S') :
  Fn P HO [Pt p,I a] R (Ab p S g) (D0 p S' λ_=>True):=by
 refine Q4 λF=>?_
 refine z_2 ?_;unfold Sim.pick at hS;have hhl:=hok.hl;refine jl (v:=.slice (some ⟨g.hb,0,none⟩) S.th.length g.hc) rfl (jln ?_);refine jan [Pt p,I a,I S.th.length] ((decide (a≥0)) && (decide (a < S.th.length))) (λK' hK'=>?_) (λe c u ho he=>?_)
 ·refine jge (Bt (λh1=>?_) (λh1=>?_))
  ·refine jlt (hK' _ _ _ (h1▸Ax) (by rw[h1,Z2]))
  ·exact hK' _ _ _ (h1▸BB) (by rw[h1,Z3])
 refine z_V ?_;rw[ho];refine jif (λhc=>?_) (λhc=>?_)
 ·simp only[z_b,z_d] at hc;rw[if_pos ⟨ω,ω⟩] at hS;refine jcS (p:=p) (by exact Ui hok hS) λ_ R2 g2 hR2 _ ok2=>?_
  exact Ay hR2 trivial rfl ok2
 have hc:¬ (0≤a∧a < S.th.length):=by
  intro h;simp[h.1,h.2] at hc
 rw[if_neg hc] at hS;refine jeq (jif (λh1=>?_) (λh1=>?_))
 ·rw[if_pos (eq_of_beq h1)] at hS;refine jcS (p:=p) (by exact Oj hok hpz hS) λ_ R2 g2 hR2 _ ok2=>?_
  exact Ay hR2 trivial rfl ok2
 rw[if_neg (ne_of_beq_false h1)] at hS;refine jad (jeq (jif (λh2=>?_) (λh2=>?_)))
 ·rw[if_pos (eq_of_beq h2)] at hS;simp only[Yu] at hS;refine jss (p:=p) { S with col:={ S.col with Ae:=true } } g rfl rfl δ τ τ ?_;subst hS;exact Ay (RM.le.refl R) trivial rfl { hok with }
 ·rw[if_neg (ne_of_beq_false h2)] at hS;simp only[Yu] at hS;subst hS;exact Ay (RM.le.refl R) trivial rfl hok
theorem jpg {R:RM} {D:Chs} {pv:Value} {Aa:List (List Sm.Op)} {i:Nat} {k:Value→M} (hp:EY R pv Aa) (hi:i < Aa.length) (H:∀x,Ops R x (Aa[i])→J R D (k x)):J R D (IA 1 pv (I (i:Int)) λq=>L1 q k):=by
 obtain⟨vs,hf,hl,Bx⟩:=hp;obtain⟨x,hx,ho⟩:=Bx i hi;rcases hf with ⟨_,h2,_⟩ | ⟨b,o,cap,t,cs,rfl,h2,h3,h4,h5⟩
 ·omega
 ·refine jia ω ω ?_;rw[Yj,Zo];exact jlr h2 (CB h4 hx) (H x ho)
theorem M8 {R:RM} {D:Chs} {c0:Cfg} {pv kv:Value} {Aa:List (List Sm.Op)} {picks:List Int} (hp:EY R pv Aa) (hk:BG R kv picks) :
  Ro JL [.agg #[I c0.AB,I c0.A6,I c0.AS],pv,kv] (.bool (Cq c0 Aa picks)) R D:=by
 refine ON λF=>?_
 refine z_3 ?_;obtain⟨vs,hpf,-,-⟩:=id hp;have hps:=hpf.sl;refine ja λb=>?_
 rw[show cl (.agg #[I c0.AB,I c0.A6,I c0.AS]) = [I c0.AB,I c0.A6,I c0.AS] from rfl];refine jor [pv,kv] ((!Bf c0) || (((Aa.length:Int) != c0.A6))) (λK' hK'=>?_) (λe c u ho he=>?_)
 ·refine jla (l:=[I c0.AB,I c0.A6,I c0.AS]) σ rfl (jp (KH c0) (BR (λh1=>?_) (λh1=>?_)))
  ·refine C4 hps (jfo (jl (v:=I c0.A6) rfl (jne (hK' _ _ _ (h1▸Ah) (by rw[h1,Yl])))))
  ·exact hK' _ _ _ (h1▸Am) (by rw[h1,Yo])
 refine z_V ?_;refine jor [pv] ((!Bf c0 || ((Aa.length:Int) != c0.A6)) || (decide ((picks.length:Int) > 4000))) (λK' hK'=>?_) (λe c u ho he=>?_)
 ·rw[ho];refine BR (λh1=>?_) (λh1=>?_)
  ·refine C4 hk.sl (jgr (hK' _ _ _ (h1▸Ah) (by rw[h1,Yl])))
  ·exact hK' _ _ _ (h1▸Am) (by rw[h1,Yo])
 refine z_V ?_;rw[ho];refine jif (λh0=>?_) (λh0=>?_)
 ·refine BU ?_;have:Cq c0 Aa picks = false:=by
   unfold Cq;simp only[ZD,Z9,bne_iff_ne,ne_eq,z_d] at h0;rcases h0 with (h0 | h0) | h0
   ·rw[h0];simp
   ·rw[decide_eq_false h0];simp
   ·rw[decide_eq_false (show ¬ picks.length≤4000 by omega)];simp
  rw[this]
 have e0:Cq c0 Aa picks = Aa.all λp=>decide (p.length≤40):=by
  simp only[Z4,ZM,bne_eq_false_iff_eq,decide_eq_false_iff_not] at h0;unfold Cq;rw[h0.1.1,decide_eq_true h0.1.2,decide_eq_true (show picks.length≤4000 by omega)];simp
 rw[e0];have hpl:Aa.length≤3:=by
  simp only[Z4,ZM,bne_eq_false_iff_eq,decide_eq_false_iff_not] at h0;have h1:=h0.1.1;unfold Bf at h1;simp only[z_b,z_d] at h1;omega
 refine jlp (λm vs R' D'=>R' = R∧D' = (b,C 33 [I c0.AB,I c0.A6,I c0.AS]) :: (D ++ F)∧∃i:Nat,i≤Aa.length∧vs = [pv,I i]∧m = Aa.length - i∧(Aa.drop i).all (λp=>decide (p.length≤40)) = Aa.all λp=>decide (p.length≤40))
  (n:=Aa.length) ⟨rfl,rfl,0,ω,rfl,ω,by rw[Zr]⟩ ?_
 rintro m e R1 D1 K ⟨hR1,hD,i,hi,he,hm,Bx⟩ hK;subst hR1;refine z_W ?_;refine C4 hps (jlt (jif (λhc=>?_) (λhc=>?_)))
 ·have hc:i < Aa.length:=by have:=z_f hc;omega
  rw[Yv hc,List.all_cons] at Bx;refine jpg hp hc λx hx=>C4 (Fz.sl hx) (jgr (jif (λhq=>?_) (λhq=>?_)))
  ·refine BU ?_;have hq:=z_f hq;rw[← Bx,decide_eq_false ω,Z3]
  ·have hq:=z_g hq;rw[decide_eq_true ω,Z2] at Bx;refine jad ?_;exact hK (Aa.length - (i + 1)) _ _ _ ω ⟨rfl,rfl,i + 1,ω,rfl,rfl,Bx⟩
 ·have hc:=z_g hc;refine BU ?_;rw[← Bx,Yz ω];rfl
theorem LO:∀(l:List Int) (a:Int) {S S1 S2:Sim},Sim.picks l S = some S1→S1.pick a = some S2→Sim.picks (l ++ [a]) S = some S2
 | [],a,S,S1,S2,h1,h2=>by
  unfold Sim.picks at h1;cases h1;show (S.pick a >>= λx=>Sim.picks [] x) = _;rw[h2];rfl
 | b :: l,a,S,S1,S2,h1,h2=>by
  unfold Sim.picks at h1;obtain⟨S3,h3,h1⟩:=AD h1;show (S.pick b >>= λx=>Sim.picks (l ++ [a]) x) = _;rw[h3];exact LO l a h1 h2
theorem Ny {R:RM} {c0:Cfg} {pv kv:Value} {Aa:List (List Sm.Op)} {picks:List Int} {S' : Sim} (hp:EY R pv Aa) (hk:BG R kv picks) (hok:Cq c0 Aa picks = true) (ha:∀a∈picks,inR a)
  (hS:Sim.picks picks (Sm.start c0 Aa) = some S') (hz:S'.sz = true)
  (hpz:∀i S,Sim.picks (picks.take i) (Sm.start c0 Aa) = some S→∀p R g S1,Ok R S g→S.pause S.fuel = some S1→Fn P DZ [Pt p] R (Ab p S g) (D0 p S1 λ_=>True)) :
  Fn P FI [.agg #[I c0.AB,I c0.A6,I c0.AS],pv,kv] R [] (λv R' A=>∃p g rows thv A',Ok R' S' g∧Rw (Ct R') rows S'.view.A6∧SW 83 4 rows thv A'∧A = A' ++ Ab p S' g∧
   v = .tuple #[.agg (eSt S'.view (wS S' g) (tS S' g) (mS S' g) thv g.old g.AG).toArray,evV S' g]):=by
 refine Lc λF=>?_
 refine z_3 ?_;have hcf:Bf c0 = true:=by
  unfold Cq at hok;simp only[z_b] at hok;exact hok.1.1.1
 have hpl:picks.length≤4000:=by
  unfold Cq at hok;simp only[z_b,z_d] at hok;exact hok.1.2
 refine ja λb1=>?_
 rw[show cl (.agg #[I c0.AB,I c0.A6,I c0.AS]) = [I c0.AB,I c0.A6,I c0.AS] from rfl];refine ja λb2=>?_
 refine jla (l:=[I c0.AB,I c0.A6,I c0.AS]) σ rfl ?_;refine jro (M8 hp hk) ?_;rw[hok];refine CL (jla (l:=[I c0.AB,I c0.A6,I c0.AS]) σ rfl ?_);refine jc (A:=[]) (ME hcf hp) ?_;rintro _ R1 _ hR1 ⟨p,g,rfl,rfl,ok⟩;refine AR (λvs R' D'=>R.le R'∧∃g1,Ok R' S' g1∧D' = Ab p S' g1 ++ (b2,C AQ (cl z28)) :: F∧vs = [Pt b2,Pt p]) (λK hK=>?_) ?_
 ·refine AR (λvs R' D'=>R.le R'∧∃g1,Ok R' S' g1∧D' = Ab p S' g1 ++ (b2,C AQ (cl z28)) :: F∧vs = [Pt b2,Pt p]) (λK2 hK2=>?_) ?_;rotate_left
  ·rintro e R2 D2 ⟨hR,g1,ok1,hD,he⟩;refine z_W ?_;exact hK _ _ _ ⟨hR,g1,ok1,rfl,rfl⟩
  refine Aw (Ab p (Sm.start c0 Aa) g) (G:=(b2,C AQ (cl z28)) :: (b1,C 33 [I c0.AB,I c0.A6,I c0.AS]) :: ([] ++ F)) ?_;refine jlp (λm vs R' D'=>R.le R'∧∃(i:Nat) (S1:Sim) (g1:Img),i≤picks.length∧Sim.picks (picks.take i) (Sm.start c0 Aa) = some S1∧Sim.picks (picks.drop i) S1 = some S'∧Ok R' S1 g1∧D' = Ab p S1 g1 ++ (b2,C AQ (cl z28)) :: (b1,C 33 [I c0.AB,I c0.A6,I c0.AS]) :: ([] ++ F)∧vs = [kv,Pt b2,Pt p,I i]∧m = picks.length - i)
   (n:=picks.length) ⟨hR1,0,Sm.start c0 Aa,g,ω,rfl,by rw[Zr];exact hS,ok,rfl,rfl,ω⟩ ?_
  rintro m e R2 D2 K3 ⟨hR,i,S1,g1,hi,hpk,hrest,ok1,hD,he,hm⟩ hK3;refine z_W ?_;have hk2:=hk.le hR;refine C4 hk2.sl (jlt (jif (λhc=>?_) (λhc=>?_)));rotate_left
  ·have hc:=z_g hc;rw[Yz ω] at hrest;unfold Sim.picks at hrest;cases hrest;refine BI (D':=(b1,C 33 [I c0.AB,I c0.A6,I c0.AS]) :: (Ab p S' g1 ++ (b2,C AQ (cl z28)) :: F)) ?_ (Bn ?_)
   ·rw[zl];exact ((aI _ _ _).append_left _).trans ZH
   exact hK2 _ _ _ ⟨hR,g1,ok1,rfl,rfl⟩
  have hc:i < picks.length:=by have:=z_f hc;omega
  rw[Yv hc] at hrest;unfold Sim.picks at hrest;obtain⟨S2,h2,hrest⟩:=AD hrest;refine CE hk2 ω ω ?_;rw[getElem_congr_idx (Yj i)];refine jcS (p:=p) (by exact UT ok1 (ha _ (Yq hc)) (hpz i S1 hpk p) h2) λ_ R3 g3 hR3 _ ok3=>?_
  refine jad ?_;refine hK3 (picks.length - (i + 1)) _ _ _ ω ⟨hR.trans hR3,i + 1,S2,g3,ω,?_,hrest,ok3,rfl,rfl,rfl⟩;rw[Yp hc];exact LO _ _ hpk h2
 rintro e R2 D2 ⟨hR,g1,ok1,hD,he⟩;refine z_W ?_;refine jl (v:=evV S' g1) rfl ?_;refine jc (A:=Ab p S' g1) (RL ok1 hz) ?_;rintro _ R3 _ hR3 ⟨rows,thv,A',hrw,so,rfl,rfl⟩;obtain⟨ta,tc,htv⟩:=so.sl;have hfl:flat thv = true:=by rw[htv];rfl
 have el:eSt S'.view (wS S' g1) (tS S' g1) (mS S' g1) thv g1.old g1.AG = eVw S' g1 (.bool S'.col.Ae) (I S'.col.want) thv:=rfl;rw[el,Yr];refine Af (jl (v:=evV S' g1) rfl jev) ?_;refine js (cs':=eVw S' g1 (.bool S'.col.Ae) (I S'.col.want) thv) rfl (Kk ok1 rfl rfl hfl) (by exact z_n 13) rfl ?_;refine Af (jl (v:=evV S' g1) rfl jev) ?_;refine jla (l:=eVw S' g1 (.bool S'.col.Ae) (I S'.col.want) thv) (by exact z_n 13) rfl ?_;refine BI (D':=(A' ++ Ab p S' g1) ++ ((b2,C AQ (eVw S' g1 (.bool S'.col.Ae) (I S'.col.want) thv)) :: F)) (by rw[Yr]) ?_;exact B9 (A:=A' ++ Ab p S' g1) (hR.trans hR3) ⟨p,g1,rows,thv,A',ok1.le hR3,hrw,so,rfl,rfl⟩
end Go.Lf
end
section
namespace Go.Lf
open Go Sm
def l7d (e24:Env) (K:Value→M):M:=
 CUT [2,19] (λJe25=>CUT [2,19] (λJe28=>LP [1,2,3,5,9,19,20] (λKe29 e29=>FO 8 (e29 1) λx30=>L1 x30 λx31=>LN x31 λx32=>BO .lss (e29 20) x32 λx33=>IF x33 (FO 8 (e29 1) λx34=>L1 x34 λx35=>IA 4 x35 (e29 20) λx36=>FO 1 x36 λx37=>L1 x37 λx38=>FO 8 (e29 1) λx39=>L1 x39 λx40=>IA 4 x40 (e29 20) λx41=>FO 3 x41 λx42=>L1 x42 λx43=>BD (cl z83) [(1,1,x38),(3,1,x43)] λx44=>AL 83 z83 λx45=>AND (L1 x34 λx46=>EV x46 x35)<|AND (L1 x37 λx47=>EV x47 x38)<|AND (L1 x39 λx48=>EV x48 x40)<|AND (L1 x42 λx49=>EV x49 x43)<|ST 4 x45 x44<|CUT [1,2,3,5,9,19,20,21] (λJe50=>FO 3 x45 λx94=>L1 x94 λx95=>BO .eql x95 (I 1) λx96=>IF x96 (FO 3 x45 λx97=>ST 1 x97 (I 2)<|Je50 [(e29 1),(e29 2),(e29 3),(e29 5),(e29 9),(e29 19),(e29 20),x45]) (Je50 [(e29 1),(e29 2),(e29 3),(e29 5),(e29 9),(e29 19),(e29 20),x45])) λe50=>CUT [1,2,3,5,9,19,20,21] (λJe51=>CUT [1,2,3,5,9,19,20,21] (λJe59=>LP [1,2,3,5,9,19,20,21,22] (λKe60 e60=>FO 8 (e60 1) λx61=>L1 x61 λx62=>IA 4 x62 (e60 20) λx63=>FO 0 x63 λx64=>L1 x64 λx65=>LN x65 λx66=>BO .lss (e60 22) x66 λx67=>IF x67 (CUT [1,2,3,5,9,19,20,21,22] (λJe68=>CUT [1,2,3,5,9,19,20,21,22] (λJe70=>FO 8 (e60 1) λx71=>L1 x71 λx72=>IA 4 x72 (e60 20) λx73=>FO 0 x73 λx74=>L1 x74 λx75=>IA 1 x75 (e60 22) λx76=>L1 x76 λx77=>CA P 83 [(e60 3),x77] λx78=>CA P 103 [(e60 5),x78] λx79=>BO .lss x79 (I 0) λx80=>IF x80 (FO 0 (e60 21) λx81=>L1 x81 λx82=>BS 3 1 (ZR 1 z3) [(0,1,(I 0))] λx83=>AP 3 1 8 (cl z3) x82 x83 λx84=>FO 0 (e60 21) λx85=>ST 1 x85 x84<|Je70 [(e60 1),(e60 2),(e60 3),(e60 5),(e60 9),(e60 19),(e60 20),(e60 21),(e60 22)]) (FO 0 (e60 21) λx86=>L1 x86 λx87=>IA 1 (e60 9) x79 λx88=>L1 x88 λx89=>BS 3 1 (ZR 1 z3) [(0,1,x89)] λx90=>AND (L1 x86 λx91=>EV x91 x87)<|AP 3 1 8 (cl z3) x87 x90 λx92=>FO 0 (e60 21) λx93=>ST 1 x93 x92<|Je70 [(e60 1),(e60 2),(e60 3),(e60 5),(e60 9),(e60 19),(e60 20),(e60 21),(e60 22)])) λe70=>Je68 [(e70 1),(e70 2),(e70 3),(e70 5),(e70 9),(e70 19),(e70 20),(e70 21),(e70 22)]) λe68=>BO .add (e68 22) (I 1) λx69=>Ke60 [(e68 1),(e68 2),(e68 3),(e68 5),(e68 9),(e68 19),(e68 20),(e68 21),x69]) (Je59 [(e60 1),(e60 2),(e60 3),(e60 5),(e60 9),(e60 19),(e60 20),(e60 21)])) [(e50 1),(e50 2),(e50 3),(e50 5),(e50 9),(e50 19),(e50 20),(e50 21),(I 0)]) λe59=>Je51 [(e59 1),(e59 2),(e59 3),(e59 5),(e59 9),(e59 19),(e59 20),(e59 21)]) λe51=>FO 8 (e51 19) λx52=>L1 x52 λx53=>LA 4 (e51 21) λx54=>BS 83 1 (ZR 1 z83) [(0,4,x54)] λx55=>AP 83 4 48 (cl z83) x53 x55 λx56=>FO 8 (e51 19) λx57=>ST 1 x57 x56<|BO .add (e51 20) (I 1) λx58=>Ke29 [(e51 1),(e51 2),(e51 3),(e51 5),(e51 9),(e51 19),x58]) (Je28 [(e29 2),(e29 19)])) [(e24 1),(e24 2),(e24 3),(e24 5),(e24 9),(e24 19),(I 0)]) λe28=>Je25 [(e28 2),(e28 19)]) λe25=>LA 13 (e25 19) λx26=>ST 13 (e25 2) x26<|LA 13 (e25 2) λx27=>K x27
theorem KZ {l:List AU} {AO to_:List Int} {t:Th} {r ths:List Th} (h:DT l AO to_ (t :: r) = some ths):∃AC rest,Cw l AO to_ t.AC = some AC∧DT l AO to_ r = some rest∧ths = ⟨AC,t.next,false,if t.Ai = 1 then 2 else t.Ai⟩ :: rest:=by
 unfold DT at h;obtain⟨AC,h1,h⟩:=AD h;obtain⟨rest,h2,h⟩:=AD h;simp only[Yu] at h;exact⟨AC,rest,h1,h2,h.symm⟩
theorem NM {l:List AU} {AO to_:List Int} {a:Int} {r out:List Int} (h:Cw l AO to_ (a :: r) = some out):∃z b rest,now l a = some z∧(if Bl AO z < 0 then some 0 else idx to_ (Bl AO z)) = some b∧Cw l AO to_ r = some rest∧out = b :: rest:=by
 unfold Cw at h;obtain⟨z,h1,h⟩:=AD h;obtain⟨b,h2,h⟩:=AD h;obtain⟨rest,h3,h⟩:=AD h;simp only[Yu] at h;exact⟨z,b,rest,h1,h2,h3,h.symm⟩
theorem Wr {R:RM} {E:Chs} {s s' : Sm.Al} {wv tv mv thv ov pv lv v9 v w t m pv' : Value} {l:List AU} {AO to_:List Int} {ths:List Th} {b1 b2 b19:Nat} {e:Env} {K:Value→M}
  (h:StC R s wv tv mv thv ov pv) (hlv:Tgs R lv l) (hll:l.length < 1000000) (hlive:BG R v9 AO) (hlvl:AO.length < 1000000) (hto:BG R v to_) (hths:DT l AO to_ s.A6 = some ths) (hn:s.A6.length < 1000000) (hrl:∀t∈s.A6,t.AC.length < 1000000)
  (ea1:At E b1 (C AQ (eSt s wv tv mv thv ov pv))) (he:[e 1,e 2,e 3,e 5,e 9,e 19] = [Pt b1,Pt b2,lv,v9,v,Pt b19])
  (hf:∀x,flat x = true→Br (eSt s' w t m x (SN) pv') = true)
  (H:∀R' x,R.le R'→Ths R' x ths→J R' ((b19,C AQ (eSt s' w t m x (SN) pv')) :: (b2,C AQ (eSt s' w t m x (SN) pv')) :: E) (K (.agg (eSt s' w t m x (SN) pv').toArray))) :
  J R ((b19,C AQ (eSt s' w t m (SN) (SN) pv')) :: (b2,C AQ (cl z28)) :: E) (l7d e K):=by
 unfold l7d;simp only[zj,z_t] at he;simp only[he];refine AR (λvs R' D'=>R.le R'∧∃rows x A,Rw (Ct R') rows ths∧SW 83 4 rows x A∧D' = A ++ (b19,C AQ (eSt s' w t m x (SN) pv')) :: (b2,C AQ (cl z28)) :: E∧vs = [Pt b2,Pt b19]) (λK1 hK1=>?_) ?_;rotate_left
 ·rintro e R1 D1 ⟨hR,rows,x,A,hrw,so,hD,he⟩;refine z_W ?_;obtain⟨sa,sc,hsl⟩:=so.sl;subst hsl;refine jfw so (hrw.all λ_ _=>Ct.len) λR3 hR3 hfz=>?_
  refine jla (l:=eSt s' w t m (.slice sa rows.length sc) (SN) pv') (by exact z_n 13) rfl ?_;refine js (cs':=eSt s' w t m (.slice sa rows.length sc) (SN) pv') rfl (hf _ rfl) (by exact z_n 13) rfl ?_;refine jla (l:=eSt s' w t m (.slice sa rows.length sc) (SN) pv') (by exact z_n 13) rfl ?_;exact H R3 _ (hR.trans hR3) ⟨rows,hrw.mono λ_ _=>Ct.le hR3,hfz⟩
 refine AR (λvs R' D'=>R.le R'∧∃rows x A,Rw (Ct R') rows ths∧SW 83 4 rows x A∧D' = A ++ (b19,C AQ (eSt s' w t m x (SN) pv')) :: (b2,C AQ (cl z28)) :: E∧vs = [Pt b2,Pt b19]) (λK2 hK2=>?_) ?_;rotate_left
 ·rintro e R1 D1 ⟨hR,rows,x,A,hrw,so,hD,he⟩;refine z_W ?_;exact hK1 _ _ _ ⟨hR,rows,x,A,hrw,so,rfl,rfl⟩
 refine jlp (λmm vs R' D'=>R.le R'∧∃(i:Nat) (done rest:List Th) (rows:List (List Value)) (x:Value) (A:Chs),i≤s.A6.length∧DT l AO to_ (s.A6.drop i) = some rest∧ths = done ++ rest∧done.length = i∧Rw (Ct R') rows done∧SW 83 4 rows x A∧D' = A ++ (b19,C AQ (eSt s' w t m x (SN) pv')) :: (b2,C AQ (cl z28)) :: E∧vs = [Pt b1,Pt b2,lv,v9,v,Pt b19,I i]∧mm = s.A6.length - i)
  (n:=s.A6.length) ⟨RM.le.refl R,0,[],ths,[],SN,[],ω,hths,rfl,rfl,Rw.nil,.inl ⟨rfl,rfl,rfl⟩,rfl,rfl,ω⟩ ?_
 rintro mm e R1 D1 K3 ⟨hR,i,done,rest,rows,x,A,hi,hnt,hdr,hdl,hrw,so,hD,he,hm⟩ hK3;refine z_W ?_;have h1:=h.le hR;have hlv1:=hlv.le hR;have hlive1:=hlive.le hR;have hto1:=hto.le hR;refine jl (v:=thv) rfl (C4 h1.th.sl (jlt (jif (λhc=>?_) (λhc=>?_))));rotate_left
 ·have hc:=z_g hc;rw[Yz ω] at hnt;have:rest = []:=by unfold DT at hnt;simpa using hnt.symm
  subst this;rw[ZN] at hdr;subst hdr;exact hK2 _ _ _ ⟨hR,rows,x,A,hrw,so,rfl,rfl⟩
 have hc:i < s.A6.length:=by have:=z_f hc;omega
 rw[Yv hc] at hnt;obtain⟨AC,rest2,hroots,hrest2,rfl⟩:=KZ hnt;have hri:=hrl _ (Yq hc);refine jl (v:=thv) rfl (jtr h1.th hc λb3 o3 ty cs rv hrv hb3 ho3 hrow3=>?_);refine jfo (jlr (v:=I (s.A6[i]).next) hb3 (CB hrow3 (f:=1) rfl) ?_);refine jl (v:=thv) rfl (jtr h1.th hc λb4 o4 ty4 cs4 rv4 hrv4 hb4 ho4 hrow4=>?_);refine jfo (jlr (v:=I (s.A6[i]).Ai) hb4 (CB hrow4 (f:=3) rfl) ?_);refine jbd (cs:=[SN,I (s.A6[i]).next,.bool false,I (s.A6[i]).Ai]) rfl rfl ?_;refine ja λb21=>?_
 refine Af (jl (v:=thv) rfl jev) (Af (jlr (v:=I (s.A6[i]).next) hb3 (CB hrow3 (f:=1) rfl) jev) (Af (jl (v:=thv) rfl jev) (Af (jlr (v:=I (s.A6[i]).Ai) hb4 (CB hrow4 (f:=3) rfl) jev) ?_)));refine jS ([SN,I (s.A6[i]).next,.bool false,I (s.A6[i]).Ai]) ?_;generalize htr:(if (s.A6[i]).Ai = 1 then 2 else (s.A6[i]).Ai) = tr at hrw hdr;refine AR (λvs R' D'=>R' = R1∧D' = [] ++ (b21,C 83 [SN,I (s.A6[i]).next,.bool false,I tr]) :: (A ++ (b19,C AQ (eSt s' w t m x (SN) pv')) :: (b2,C AQ (cl z28)) :: E)∧vs = [Pt b1,Pt b2,lv,v9,v,Pt b19,I i,Pt b21]) (λK4 hK4=>?_) ?_
 ·refine jfo (jl (v:=I (s.A6[i]).Ai) rfl (jeq (jif (λh3=>?_) (λh3=>?_))))
  ·refine jfo (js (cs':=[SN,I (s.A6[i]).next,.bool false,I 2]) rfl rfl σ rfl ?_);refine hK4 _ _ _ ⟨rfl,?_,rfl⟩;rw[← htr,if_pos (eq_of_beq h3)];rfl
  ·refine hK4 _ _ _ ⟨rfl,?_,rfl⟩;rw[← htr,if_neg (ne_of_beq_false h3)];rfl
 rintro e Rx D1 ⟨hRx,hD,he⟩;subst hRx;refine z_W ?_;refine AR (λvs R' D'=>R' = Rx∧∃rv A2,SO AC rv A2∧D' = A2 ++ (b21,C 83 [rv,I (s.A6[i]).next,.bool false,I tr]) :: (A ++ (b19,C AQ (eSt s' w t m x (SN) pv')) :: (b2,C AQ (cl z28)) :: E)∧vs = [Pt b1,Pt b2,lv,v9,v,Pt b19,I i,Pt b21]) (λK5 hK5=>?_) ?_
 ·refine AR (λvs R' D'=>R' = Rx∧∃rv A2,SO AC rv A2∧D' = A2 ++ (b21,C 83 [rv,I (s.A6[i]).next,.bool false,I tr]) :: (A ++ (b19,C AQ (eSt s' w t m x (SN) pv')) :: (b2,C AQ (cl z28)) :: E)∧vs = [Pt b1,Pt b2,lv,v9,v,Pt b19,I i,Pt b21]) (λK6 hK6=>?_) ?_;rotate_left
  ·rintro e R2 D2 ⟨hR2,rv,A2,so2,hD,he⟩;refine z_W ?_;exact hK5 _ _ _ ⟨hR2,rv,A2,so2,rfl,rfl⟩
  refine jlp (λmm vs R' D'=>R' = Rx∧∃(j:Nat) (done2 rest3:List Int) (rv:Value) (A2:Chs),j≤(s.A6[i]).AC.length∧Cw l AO to_ ((s.A6[i]).AC.drop j) = some rest3∧AC = done2 ++ rest3∧done2.length = j∧SO done2 rv A2∧D' = A2 ++ (b21,C 83 [rv,I (s.A6[i]).next,.bool false,I tr]) :: (A ++ (b19,C AQ (eSt s' w t m x (SN) pv')) :: (b2,C AQ (cl z28)) :: E)∧vs = [Pt b1,Pt b2,lv,v9,v,Pt b19,I i,Pt b21,I j]∧mm = (s.A6[i]).AC.length - j)
   (n:=(s.A6[i]).AC.length) ⟨rfl,0,[],AC,SN,[],ω,hroots,rfl,rfl,.inl ⟨rfl,rfl,rfl⟩,rfl,rfl,ω⟩ ?_
  rintro m5 e Ry D5 K7 ⟨hRy,j,done2,rest3,rv,A2,hj,hnr,hrr,hd2,so2,hD,he,hm5⟩ hK7;subst hRy;refine z_W ?_;refine jl (v:=thv) rfl (jtr h1.th hc λb5 o5 ty5 cs5 rv5 hrv5 hb5 ho5 hrow5=>?_);refine jfo (jlr (v:=rv5) hb5 (CB hrow5 (f:=0) rfl) (C4 hrv5.sl (jlt (jif (λhd=>?_) (λhd=>?_)))));rotate_left
  ·have hd:=z_g hd;rw[Yz ω] at hnr;have:rest3 = []:=by unfold Cw at hnr;simpa using hnr.symm
   subst this;rw[ZN] at hrr;subst hrr;exact hK6 _ _ _ ⟨rfl,rv,A2,so2,rfl,rfl⟩
  have hd:j < (s.A6[i]).AC.length:=by have:=z_f hd;omega
  rw[Yv hd] at hnr;obtain⟨z,bz,rest4,hz,hbz,hrest4,rfl⟩:=NM hnr;refine AR (λvs R' D'=>R' = Ry∧∃rv A2,SO (done2 ++ [bz]) rv A2∧D' = A2 ++ (b21,C 83 [rv,I (s.A6[i]).next,.bool false,I tr]) :: (A ++ (b19,C AQ (eSt s' w t m x (SN) pv')) :: (b2,C AQ (cl z28)) :: E)∧vs = [Pt b1,Pt b2,lv,v9,v,Pt b19,I i,Pt b21,I j]) (λK8 hK8=>?_) ?_;rotate_left
  ·rintro e R2 D2 ⟨hR2,rv,A2,so2,hD,he⟩;subst hR2;refine z_W ?_;refine jad ?_;exact hK7 ((s.A6[i]).AC.length - (j + 1)) _ _ _ ω ⟨rfl,j + 1,done2 ++ [bz],rest4,rv,A2,ω,hrest4,by rw[hrr];simp,by rw[Yk,hd2];rfl,so2,rfl,rfl,rfl⟩
  refine AR (λvs R' D'=>R' = Ry∧∃rv A2,SO (done2 ++ [bz]) rv A2∧D' = A2 ++ (b21,C 83 [rv,I (s.A6[i]).next,.bool false,I tr]) :: (A ++ (b19,C AQ (eSt s' w t m x (SN) pv')) :: (b2,C AQ (cl z28)) :: E)∧vs = [Pt b1,Pt b2,lv,v9,v,Pt b19,I i,Pt b21,I j]) (λK9 hK9=>?_) ?_;rotate_left
  ·rintro e R2 D2 ⟨hR2,rv,A2,so2,hD,he⟩;refine z_W ?_;exact hK8 _ _ _ ⟨hR2,rv,A2,so2,rfl,rfl⟩
  obtain⟨sa,sn,sc,rfl⟩:=so2.sl;refine jl (v:=thv) rfl (jtr h1.th hc λb6 o6 ty6 cs6 rv6 hrv6 hb6 ho6 hrow6=>?_);refine jfo (jlr (v:=rv6) hb6 (CB hrow6 (f:=0) rfl) (CE hrv6 ω ω ?_));rw[getElem_congr_idx (Yj j)];refine jro (Gm hlv1 ω hz) (jro (Hz z (BG.rd hlive1) ω) (jlt (jif (λh0=>?_) (λh0=>?_))))
  ·rw[if_pos (z_f h0)] at hbz;simp only[Yu] at hbz;subst hbz;refine jfo (jl (v:=.slice sa sn sc) rfl ?_);refine jbs (cs:=[I 0]) rfl rfl λb7=>?_
   refine IC (A:=A2) so2 ω λv' A' so'=>?_
   obtain⟨sa',sn',sc',rfl⟩:=so'.sl;refine jfo (js (cs':=[.slice sa' sn' sc',I (s.A6[i]).next,.bool false,I tr]) rfl rfl σ rfl ?_);exact hK9 _ _ _ ⟨rfl,_,A',so',rfl,rfl⟩
  ·rw[if_neg (z_g h0)] at hbz;obtain⟨y0,y1,y2,y3⟩:=Av hbz;refine jfo (jl (v:=.slice sa sn sc) rfl (CE hto1 y0 y1 ?_));rw[y3];refine jbs (cs:=[I bz]) rfl rfl λb7=>?_
   refine Af (jl (v:=.slice sa sn sc) rfl jev) ?_;refine IC (A:=A2) so2 ω λv' A' so'=>?_
   obtain⟨sa',sn',sc',rfl⟩:=so'.sl;refine jfo (js (cs':=[.slice sa' sn' sc',I (s.A6[i]).next,.bool false,I tr]) rfl rfl σ rfl ?_);exact hK9 _ _ _ ⟨rfl,_,A',so',rfl,rfl⟩
 rintro e R2 D2 ⟨hR2,rv2,A2,so2,hD,he⟩;subst hR2;refine z_W ?_;refine FG so2 λR3 hR3 hint=>?_
 obtain⟨ua,uc,rfl⟩:=hint.sl;obtain⟨sa,sc,hsl⟩:=so.sl;subst hsl;refine jfo (jl (v:=(.slice sa rows.length sc)) rfl ?_);refine jla (l:=[.slice ua AC.length uc,I (s.A6[i]).next,.bool false,I tr]) (by exact z_n 4) rfl ?_;refine jbs (cs:=[.slice ua AC.length uc,I (s.A6[i]).next,.bool false,I tr]) rfl rfl λb9=>?_
 refine Aw A (G:=(b9,C 83 [.slice ua AC.length uc,I (s.A6[i]).next,.bool false,I tr]) :: (b21,C 83 [.slice ua AC.length uc,I (s.A6[i]).next,.bool false,I tr]) :: ((b19,C AQ (eSt s' w t m (.slice sa rows.length sc) (SN) pv')) :: (b2,C AQ (cl z28)) :: E)) ?_;have hx:BY R3 (A ++ ((b9,C 83 [.slice ua AC.length uc,I (s.A6[i]).next,.bool false,I tr]) :: (b21,C 83 [.slice ua AC.length uc,I (s.A6[i]).next,.bool false,I tr]) :: ((b19,C AQ (eSt s' w t m (.slice sa rows.length sc) (SN) pv')) :: (b2,C AQ (cl z28)) :: E))) (some ⟨b9,0,none⟩) (1 * 4) [[.slice ua AC.length uc,I (s.A6[i]).next,.bool false,I tr]].flatten:=BY.held (t:=83) (cs:=[.slice ua AC.length uc,I (s.A6[i]).next,.bool false,I tr]) (o:=0) (n:=1 * 4) (z_n 4);have hrl:=hrw.1;refine jaw so (hrw.all λ_ _=>Ct.len) (by intro r hr;rw[Z8.1 hr];rfl) rfl rfl rfl δ (by rw[Z7];omega) hx λv' A' so'=>?_
 obtain⟨sa',sc',hsl'⟩:=so'.sl;subst hsl';refine jfo (jS (eSt s' w t m (.slice sa' (rows ++ [[.slice ua AC.length uc,I (s.A6[i]).next,.bool false,I tr]]).length sc') (SN) pv') ?_);refine jad ?_;refine Aw A' (G:=(b19,C AQ (eSt s' w t m (.slice sa' (rows ++ [[.slice ua AC.length uc,I (s.A6[i]).next,.bool false,I tr]]).length sc') (SN) pv')) :: (b2,C AQ (cl z28)) :: E) ?_;exact hK3 (s.A6.length - (i + 1)) _ _ _ ω ⟨hR.trans hR3,i + 1,done ++ [⟨AC,(s.A6[i]).next,false,tr⟩],rest2,_,_,A',ω,hrest2,by rw[hdr];simp,by rw[Yk,hdl];rfl,(hrw.mono λ_ _=>Ct.le hR3).app (Rw.one ⟨_,rfl,hint⟩),so',rfl,rfl,rfl⟩
end Go.Lf
end
section
namespace Go.Lf
open Go Sm
set_option maxHeartbeats 4000000 in
theorem O0 {R:RM} {s s' : Sm.Al} {wv tv mv thv ov pv:Value} (h:StC R s wv tv mv thv ov pv) (hw:s.AA.length≤1000) (ht0:2≤s.A0.length) (ht1:s.A0.length≤12) (hth:s.A6.length < 1000000) (hrl:∀t∈s.A6,t.AC.length < 1000000)
  (hpl:s.AG.length < 1000000) (hp:∀a∈s.AG,AN a≤9223372036854775807) (hS:Ex s = some s') :
  Fn P Kw [.agg (eSt s wv tv mv thv ov pv).toArray] R [] (λv R' A=>∃bw wsp cw bt tsp ct bm thv' pv',s'.AA.length = s.AA.length∧s'.A0.length = s.A0.length∧s'.AK.length = s.AA.length∧s'.AA.length≤cw∧s'.A0.length≤ct∧Ths R' thv' s'.A6∧BG R' pv' s'.AG∧
   A = [(bw,C AX (s'.AA.map I ++ wsp)),(bt,C AI (Ac eRg s'.A0 ++ tsp)),(bm,C B7 (s'.AK.map Value.bool))]∧
   v = .agg (eSt s' (S0 bw s'.AA.length cw) (S0 bt s'.A0.length ct) (S0 bm s'.AK.length s'.AK.length) thv' (SN) pv').toArray):=by
 refine PQ λF=>?_
 refine z_1 ?_;unfold Ex at hS;obtain⟨live0,hreach,hS⟩:=AD hS;obtain⟨⟨w1,t1⟩,hstay,hS⟩:=AD hS;obtain⟨⟨t2,to_⟩,hslide,hS⟩:=AD hS;obtain⟨w2,hmove,hS⟩:=AD hS;obtain⟨ths,hths,hS⟩:=AD hS;obtain⟨BA,hful,hS⟩:=AD hS;simp only[Yu] at hS;refine ja λb1=>?_
 rw[show cl (.agg (eSt s wv tv mv thv ov pv).toArray) = eSt s wv tv mv thv ov pv from rfl];refine ja λb2=>?_
 refine jla (l:=eSt s wv tv mv thv ov pv) (by exact z_n 13) rfl ?_;refine jc (A:=[]) (LL h ω ω) ?_;rintro v R1 _ hR1 ⟨rfl,hq⟩;have hl0:∃lv ok,v = .tuple #[lv,.bool ok]∧Tgs R1 lv ((BJ s).getD []):=by
  cases hst:BJ s with
  | none=>rw[hst] at hq;exact⟨_,_,hq,[],Rw.nil,.inl ⟨rfl,rfl,rfl⟩⟩
  | some l=>rw[hst] at hq;obtain⟨lv,h1,h2⟩:=hq;exact⟨lv,true,h2,h1⟩
 have htb:TB ((BJ s).getD [])∧((BJ s).getD []).length≤16 * s.A0.length:=by
  cases hst:BJ s with
  | none=>exact⟨λt ht=>(by cases ht),σ⟩
  | some l=>
   unfold BJ at hst;have:=Kr ω hst;rw[aD] at this;exact⟨this.1,by simp;omega⟩
 generalize (BJ s).getD [] = l at hl0 htb hreach hstay hslide hmove hths;obtain⟨lv,okb,rfl,hlv⟩:=hl0;obtain⟨htb,hll⟩:=htb;have hlen0:=Iw hreach;refine jex rfl (jex rfl ?_);refine jla (l:=eSt s wv tv mv thv ov pv) (by exact z_n 13) rfl ?_;have h1:=h.le hR1;refine jc (A:=[]) (O4 h1 hlv ω hreach hth (λt ht=>by have:=hrl t ht;omega) hpl (λt ht=>by have:=(htb t ht).2.2.1;omega)) ?_;rintro v8 R2 A8 hR2 so8;refine FG so8 λR3 hR3 hi8=>?_
 refine jc (A:=[]) (PZ hi8 ω) ?_;rintro v9 R4 A9 hR4 ⟨hRR,so9⟩;subst hRR;refine FG so9 λR5 hR5 hi9=>?_
 have hR35:=(hR2.trans hR3).trans hR5;have h5:=h1.le hR35;have hlv5:=hlv.le hR35;have hslen:(Aq live0).length = live0.length:=by have:=HV live0 [];simpa [Aq] using this
 generalize hlive:Aq live0 = AO at hslide hmove hths hi9 hslen;refine jl (v:=tv) rfl (C4 h5.t.sl ?_);refine jmk (Jx (s.A0.length:Int)) ?_;intro v13 N hq13;unfold Vg at hq13;have htn:(AW (s.A0.length:Int)).length = s.A0.length:=by
  unfold AW;rw[if_neg ω];simp;omega
 rw[if_neg (by intro hn;rw[hn] at htn;simp at htn;omega)] at hq13;obtain⟨sv,⟨bt,ct,tsp,hct,rfl,rfl⟩,rfl⟩:=hq13;refine jex rfl (jex rfl ?_);refine jl (v:=wv) rfl (C4 h5.w.sl ?_);refine jms ω ω ω λbw=>?_
 rw[Yj];have htk:(List.replicate s.AA.length (cl z3)).flatten = (List.replicate s.AA.length (0:Int)).map I ++ []:=by
  rw[show cl z3 = [I 0] from rfl];simp[aO]
 rw[htk];refine jla (l:=eSt s wv tv mv thv ov pv) (by exact z_n 13) rfl ?_;have hstay':=Tn (cw:=s.AA.length) (ct:=ct) (bw:=bw) (bt:=bt) (wsp:=[]) (tsp:=tsp) h5 hlv5 htb ω hp hpl hstay;rw[Yy] at hstay';refine jc (A:=[(bw,C AX ((List.replicate s.AA.length (0:Int)).map I ++ [])),(bt,C AI (Ac eRg (AW (s.A0.length:Int)) ++ tsp))]) hstay' ?_;rintro _ R6 _ hR6 ⟨hRR6,hwl,htl,rfl⟩;subst hRR6;rw[htn] at htl ⊢;generalize hE:(b2,C AQ (cl z28)) :: (b1,C AQ (eSt s wv tv mv thv ov pv)) :: ([] ++ F) = E;have ea1:At E b1 (C AQ (eSt s wv tv mv thv ov pv)):=by rw[← hE];exact inferInstance
 have slen:∀{r t0 to0},slide s.AG l [] t0 r to0 = some (t2,to_)→t0 = t2∧to0 = to_:=λh=>by
  unfold slide at h;simpa using h
 refine BI (D':=[] ++ ((bw,C AX (w1.map I ++ [])) :: (bt,C AI (Ac eRg t1 ++ tsp)) :: E)) (by rw[← hE];exact ZU _) ?_;refine AR (λvs R' D'=>R' = R6∧t2.length = s.A0.length∧to_.length = AO.length∧∃(v:Value) (A:Chs),SO to_ v A∧D' = A ++ ((bw,C AX (w1.map I ++ [])) :: (bt,C AI (Ac eRg t2 ++ tsp)) :: E)∧vs = [Pt b1,Pt b2,lv,v9,S0 bt s.A0.length ct,S0 bw s.AA.length s.AA.length,v]) (λK hK=>?_) ?_
 ·refine AR (λvs R' D'=>R' = R6∧t2.length = s.A0.length∧to_.length = AO.length∧∃(v:Value) (A:Chs),SO to_ v A∧D' = A ++ ((bw,C AX (w1.map I ++ [])) :: (bt,C AI (Ac eRg t2 ++ tsp)) :: E)∧vs = [Pt b1,Pt b2,lv,v9,S0 bt s.A0.length ct,S0 bw s.AA.length s.AA.length,v]) (λK2 hK2=>?_) ?_;rotate_left
  ·rintro e R7 D7 ⟨hR,ht2,hto,v,A,so,hD,he⟩;refine z_W ?_;clear hD;exact hK _ _ _ ⟨hR,ht2,hto,v,A,so,rfl,rfl⟩
  refine jlp (λm vs R' D'=>R' = R6∧∃(i:Nat) (r:Int) (t0:List Rg) (to0:List Int) (v:Value) (A:Chs),i≤AO.length∧1≤r∧r≤12∧t0.length = s.A0.length∧to0.length = i∧slide s.AG l (AO.drop i) t0 r to0 = some (t2,to_)∧SO to0 v A∧D' = A ++ ((bw,C AX (w1.map I ++ [])) :: (bt,C AI (Ac eRg t0 ++ tsp)) :: E)∧vs = [Pt b1,Pt b2,lv,v9,S0 bt s.A0.length ct,S0 bw s.AA.length s.AA.length,v,I r,I i]∧m = AO.length - i)
   (n:=AO.length) ⟨rfl,0,1,t1,[],SN,[],ω,ω,ω,htl,rfl,hslide,.inl ⟨rfl,rfl,rfl⟩,rfl,rfl,ω⟩ ?_
  rintro m e R7 D7 K3 ⟨hR,i,r,t0,to0,v,A,hi,hr1,hr2,ht0l,htol,hsl,so,hD,he,hm⟩ hK3;subst hR;refine z_W ?_;clear hD;refine C4 hi9.sl (jlt (jif (λhc=>?_) (λhc=>?_)));rotate_left
  ·have hc:=z_g hc;rw[Yz ω] at hsl;obtain⟨rfl,rfl⟩:=slen hsl;exact hK2 _ _ _ ⟨rfl,ht0l,ω,v,A,so,rfl,rfl⟩
  have hc:i < AO.length:=by have:=z_f hc;omega
  rw[Yv hc] at hsl;unfold slide at hsl;obtain⟨x,hx,hsl⟩:=AD hsl;obtain⟨k,hk,hkp,rfl⟩:=Ed hx;have hat:(l[k]).at_ = AO[i]:=by
   have:=List.find?_some hx;exact eq_of_beq this
  obtain⟨a0,a1,-,-⟩:=htb _ (Yq hk);have hreg:AN AO[i]≤9223372036854775807:=by unfold AN;split<;>omega
  refine AR (λvs R' D'=>R' = R7∧∃(r:Int) (t0:List Rg) (to0:List Int) (v:Value) (A:Chs),1≤r∧r≤12∧t0.length = s.A0.length∧to0.length = i + 1∧slide s.AG l (AO.drop (i + 1)) t0 r to0 = some (t2,to_)∧SO to0 v A∧D' = A ++ ((bw,C AX (w1.map I ++ [])) :: (bt,C AI (Ac eRg t0 ++ tsp)) :: E)∧vs = [Pt b1,Pt b2,lv,v9,S0 bt s.A0.length ct,S0 bw s.AA.length s.AA.length,v,I r,I i]) (λK4 hK4=>?_) ?_;rotate_left
  ·rintro e R8 D8 ⟨hR,r,t0,to0,v,A,q1,q2,q3,q4,q5,so,hD,he⟩;subst hR;refine z_W ?_;clear hD;refine jad ?_;exact hK3 (AO.length - (i + 1)) _ _ _ ω ⟨rfl,i + 1,r,t0,to0,v,A,ω,q1,q2,q3,q4,q5,so,rfl,rfl,rfl⟩
  refine AR (λvs R' D'=>R' = R7∧∃(r:Int) (t0:List Rg) (to0:List Int) (v:Value) (A:Chs),1≤r∧r≤12∧t0.length = s.A0.length∧to0.length = i + 1∧slide s.AG l (AO.drop (i + 1)) t0 r to0 = some (t2,to_)∧SO to0 v A∧D' = A ++ ((bw,C AX (w1.map I ++ [])) :: (bt,C AI (Ac eRg t0 ++ tsp)) :: E)∧vs = [Pt b1,Pt b2,lv,v9,S0 bt s.A0.length ct,S0 bw s.AA.length s.AA.length,v,I r,I i]) (λK5 hK5=>?_) ?_;rotate_left
  ·rintro e R8 D8 ⟨hR,r,t0,to0,v,A,q1,q2,q3,q4,q5,so,hD,he⟩;refine z_W ?_;clear hD;exact hK4 _ _ _ ⟨hR,r,t0,to0,v,A,q1,q2,q3,q4,q5,so,rfl,rfl⟩
  refine CE hi9 ω ω ?_;rw[getElem_congr_idx (Yj i)];refine jro (E9 _ hlv5 ω) ?_;rw[hkp];refine jtg hlv5 hk λb3 o3 ty3 cs3 rv nv hrv hnv hb3 ho3 hrow3=>?_
  have g2:(cs3.drop (o3 + 2)).take 2 = [I (l[k]).sh.refs,I (l[k]).sh.nums]:=by
   have:=congrArg (λx=>(x.drop 2).take 2) hrow3;simp only[aU,aj,ah] at this;simpa [eTh] using this
  refine jfo (F0 hb3 ω g2 (jp (CJ (l[k]).sh) ?_));obtain⟨sz0,sz1⟩:=Hb (l[k]).sh;generalize AF (l[k]).sh = size at hsl sz0 sz1 ⊢;refine jla (t:=AQ) (cs:=eSt s wv tv mv thv ov pv) (l:=eSt s wv tv mv thv ov pv) (by exact z_n 13) rfl ?_;refine CE hi9 ω ω ?_;rw[getElem_congr_idx (Yj i)];refine jp (CT _ hreg) (Af (jla (t:=AQ) (cs:=eSt s wv tv mv thv ov pv) (l:=eSt s wv tv mv thv ov pv) (by exact z_n 13) rfl jev) ?_);refine jro (L3 (AN AO[i]) h5 hp hpl) (jif (λhh=>?_) (λhh=>?_))
  ·rw[if_pos hh] at hsl;refine CE hi9 ω ω ?_;rw[getElem_congr_idx (Yj i)];refine jbs (cs:=[I AO[i]]) rfl rfl λb4=>?_
   refine IC (A:=A) so ω λv' A' so'=>?_
   exact hK5 _ _ _ ⟨rfl,r,t0,_,v',A',hr1,hr2,ht0l,by rw[Yk,htol];rfl,hsl,so',rfl,rfl⟩
  rw[if_neg (by rw[hh];decide)] at hsl;obtain⟨r2,hnx,hsl⟩:=AD hsl;refine AR (λvs R' D'=>R' = R7∧D' = A ++ ((bw,C AX (w1.map I ++ [])) :: (bt,C AI (Ac eRg t0 ++ tsp)) :: E)∧vs = [Pt b1,Pt b2,lv,v9,S0 bt s.A0.length ct,S0 bw s.AA.length s.AA.length,v,I r2,I i,I size]) (λK6 hK6=>?_) ?_
  ·refine AR (λvs R' D'=>R' = R7∧D' = A ++ ((bw,C AX (w1.map I ++ [])) :: (bt,C AI (Ac eRg t0 ++ tsp)) :: E)∧vs = [Pt b1,Pt b2,lv,v9,S0 bt s.A0.length ct,S0 bw s.AA.length s.AA.length,v,I r2,I i,I size]) (λK7 hK7=>?_) ?_;rotate_left
   ·rintro e R8 D8 ⟨hR,hD,he⟩;refine z_W ?_;clear hD;exact hK6 _ _ _ ⟨hR,rfl,rfl⟩
   refine jlp (λm vs R' D'=>R' = R7∧∃r:Int,1≤r∧r + m≤30∧Er s.AG t0 size m r = some r2∧D' = A ++ ((bw,C AX (w1.map I ++ [])) :: (bt,C AI (Ac eRg t0 ++ tsp)) :: E)∧vs = [Pt b1,Pt b2,lv,v9,S0 bt s.A0.length ct,S0 bw s.AA.length s.AA.length,v,I r,I i,I size])
    (n:=t0.length + 2) ⟨rfl,r,hr1,ω,hnx,rfl,rfl⟩ ?_
   clear hnx;rintro m2 e R8 D8 K8 ⟨hR,r,hr1,hrm,hnx,hD,he⟩ hK8;subst hR;refine z_W ?_;clear hD;cases m2 with
   | zero=>cases hnx
   | succ m2=>
   unfold Er at hnx;refine AR (λvs R' D'=>R' = R8∧D' = A ++ ((bw,C AX (w1.map I ++ [])) :: (bt,C AI (Ac eRg t0 ++ tsp)) :: E)∧∃bn:Bool,(bn = true→Er s.AG t0 size m2 (r + 1) = some r2)∧(bn = false→r = r2)∧vs = [Pt b1,Pt b2,lv,v9,S0 bt s.A0.length ct,S0 bw s.AA.length s.AA.length,v,I r,I i,I size,.bool bn]) (λK9 hK9=>?_) ?_;rotate_left
   ·rintro e R9 D9 ⟨hR,hD,bn,hb1,hb2,he⟩;subst hR;refine z_W ?_;clear hD;cases bn with
    | true=>
     refine DI (jad ?_);exact hK8 m2 _ _ _ ω ⟨rfl,r + 1,ω,ω,hb1 rfl,rfl,rfl⟩
    | false=>
     have:=hb2 rfl;subst this;exact CL (hK7 _ _ _ ⟨rfl,rfl,rfl⟩)
   refine jla (t:=AQ) (cs:=eSt s wv tv mv thv ov pv) (l:=eSt s wv tv mv thv ov pv) (by exact z_n 13) rfl (jro (L3 r h5 hp hpl) ?_);cases hhr:Ao s.AG r with
   | true=>
    rw[if_pos hhr] at hnx;refine CQ (jtf (Bv λe he=>?_));refine z_V ?_;refine jtf (EA (Af jev ?_));exact hK9 _ _ _ ⟨rfl,rfl,true,λ_=>hnx,(λh=>by cases h),rfl⟩
   | false=>
    rw[if_neg (by rw[hhr];decide)] at hnx;obtain⟨row,hrow,hnx⟩:=AD hnx;obtain⟨sum,hsum,hnx⟩:=AD hnx;obtain⟨rfl,hin⟩:=B8 hsum;obtain⟨y0,y1,y2,y3⟩:=Av hrow;obtain⟨k2,rfl⟩:∃k2:Nat,r = k2:=⟨r.toNat,ω⟩;have hk2:k2 < t0.length:=ω
    have ey:t0[k2] = row:=by rw[← y3];exact getElem_congr_idx ω
    have brr:0≤AH k2∧AH k2≤176:=by unfold AH;split<;>omega
    refine CQ (jff (C5 ω (jfo (jl (v:=I row.top) (by rw[Z6];exact C6 (f:=2) hk2 (by rw[ey];rfl)) (Cr hin (Bv λe he=>?_))))));refine z_V ?_;refine jff (jp (Bc k2) (jad (jgr (EI (Af (jl (v:=I row.top) (by rw[Z6];exact C6 (f:=2) hk2 (by rw[ey];rfl)) jev) ?_)))));refine hK9 _ _ _ ⟨rfl,rfl,decide (row.top + size > AH k2 + 16),λhb=>?_,λhb=>?_,rfl⟩
    ·rw[if_pos (by have:=z_f hb;omega)] at hnx;exact hnx
    ·rw[if_neg (by have:=z_g hb;omega)] at hnx;simpa using hnx
  rintro e R8 D8 ⟨hR,hD,he⟩;subst hR;refine z_W ?_;clear hD;obtain⟨row,hrow,hsl⟩:=AD hsl;obtain⟨sum,hsum,hsl⟩:=AD hsl;obtain⟨rfl,hin⟩:=B8 hsum;obtain⟨y0,y1,y2,y3⟩:=Av hrow;have hr2k:1≤r2:=by
   have:∀(n:Nat) (r:Int),1≤r→Er s.AG t0 size n r = some r2→1≤r2:=by
    intro n;induction n with
    | zero=>intro r _ h;cases h
    | succ n ih=>
     intro r hr h;unfold Er at h;split at h
     ·exact ih _ ω h
     ·obtain⟨_,_,h⟩:=AD h;obtain⟨_,_,h⟩:=AD h;split at h
      ·exact ih _ ω h
      ·cases h;exact hr
   exact this _ _ hr1 hnx
  obtain⟨k2,rfl⟩:∃k2:Nat,r2 = k2:=⟨r2.toNat,ω⟩;have hk2:k2 < t0.length:=ω
  have ey:t0[k2] = row:=by rw[← y3];exact getElem_congr_idx ω
  refine C5 ω (MI hk2 ?_);rw[ey];refine ja λb5=>?_
  refine js (cs':=eRg row) rfl rfl σ rfl ?_;refine jfo (jl (v:=I row.top) rfl ?_);refine jbs (cs:=[I row.top]) rfl rfl λb4=>?_
  refine IC (A:=A) so ω λv' A' so'=>?_
  refine js (cs':=eRg { row with kind:=3 }) rfl rfl σ rfl ?_;refine jfo (jl (v:=I row.top) rfl (Cr hin ?_));refine jfo (js (cs':=eRg { row with kind:=3,top:=row.top + size }) rfl rfl σ rfl ?_);refine jfo (jl (v:=I (row.top + size)) rfl ?_);refine jfo (js (cs':=eRg { row with kind:=3,top:=row.top + size,BE:=row.top + size }) rfl rfl σ rfl ?_);refine jla (l:=eRg { row with kind:=3,top:=row.top + size,BE:=row.top + size }) σ rfl ?_;refine C5 ω (GR (t:=t0) (x:={ row with kind:=3,top:=row.top + size,BE:=row.top + size }) hk2 ?_);refine Aw A' (G:=(bw,C AX (w1.map I ++ [])) :: (bt,C AI (Ac eRg (t0.set k2 { row with kind:=3,top:=row.top + size,BE:=row.top + size }) ++ tsp)) :: E) ?_;exact hK5 _ _ _ ⟨rfl,k2,t0.set k2 { row with kind:=3,top:=row.top + size,BE:=row.top + size },_,v',A',ω,ω,by rw[ZV];exact ht0l,by rw[Yk,htol];rfl,by simpa [AT] using hsl,so',rfl,rfl⟩
 clear hslide slen;rintro e R7 D7 ⟨hR,ht2,hto,v,A,so,hD,he⟩;subst hR;refine z_W ?_;clear hD;refine FG so λR8 hR8 hito=>?_
 have h8:=h5.le hR8;have hlv8:=hlv5.le hR8;have hi98:=hi9.le hR8;refine AR (λvs R' D'=>R' = R8∧w2.length = s.AA.length∧D' = (bw,C AX (w2.map I ++ [])) :: (bt,C AI (Ac eRg t2 ++ tsp)) :: E∧vs = [Pt b1,Pt b2,lv,v9,S0 bt s.A0.length ct,S0 bw s.AA.length s.AA.length,v]) (λK hK=>?_) ?_
 ·refine AR (λvs R' D'=>R' = R8∧w2.length = s.AA.length∧D' = (bw,C AX (w2.map I ++ [])) :: (bt,C AI (Ac eRg t2 ++ tsp)) :: E∧vs = [Pt b1,Pt b2,lv,v9,S0 bt s.A0.length ct,S0 bw s.AA.length s.AA.length,v]) (λK2 hK2=>?_) ?_;rotate_left
  ·rintro e R9 D9 ⟨hR,hl2,hD,he⟩;refine z_W ?_;clear hD;exact hK _ _ _ ⟨hR,hl2,rfl,rfl⟩
  refine jlp (λm vs R' D'=>R' = R8∧∃(i:Nat) (w:List Int),i≤AO.length∧w.length = s.AA.length∧FU l AO to_ (AO.drop i) (to_.drop i) w = some w2∧D' = (bw,C AX (w.map I ++ [])) :: (bt,C AI (Ac eRg t2 ++ tsp)) :: E∧vs = [Pt b1,Pt b2,lv,v9,S0 bt s.A0.length ct,S0 bw s.AA.length s.AA.length,v,I i]∧m = AO.length - i)
   (n:=AO.length) ⟨rfl,0,w1,ω,hwl,hmove,rfl,rfl,ω⟩ ?_
  rintro m e R9 D9 K3 ⟨hR,i,w,hi,hwl1,hmv,hD,he,hm⟩ hK3;subst hR;refine z_W ?_;clear hD;refine C4 hi98.sl (jlt (jif (λhc=>?_) (λhc=>?_)));rotate_left
  ·have hc:=z_g hc;rw[Yz ω] at hmv;have:w = w2:=by unfold FU at hmv;simpa using hmv
   subst this;exact hK2 _ _ _ ⟨rfl,hwl1,rfl,rfl⟩
  have hc:i < AO.length:=by have:=z_f hc;omega
  rw[Yv hc,Yv (show i < to_.length by omega)] at hmv;unfold FU at hmv;obtain⟨x,hx,hmv⟩:=AD hmv;obtain⟨k,hk,hkp,rfl⟩:=Ed hx;obtain⟨wa,hwa,hmv⟩:=AD hmv;obtain⟨wb,hwb,hmv⟩:=AD hmv;obtain⟨wc,hwc,hmv⟩:=AD hmv;obtain⟨wd,hwd,hmv⟩:=AD hmv;refine AR (λvs R' D'=>R' = R9∧wd.length = s.AA.length∧D' = (bw,C AX (wd.map I ++ [])) :: (bt,C AI (Ac eRg t2 ++ tsp)) :: E∧vs = [Pt b1,Pt b2,lv,v9,S0 bt s.A0.length ct,S0 bw s.AA.length s.AA.length,v,I i]) (λK4 hK4=>?_) ?_;rotate_left
  ·rintro e R8 D8 ⟨hR,hld,hD,he⟩;subst hR;refine z_W ?_;clear hD;refine jad ?_;exact hK3 (AO.length - (i + 1)) _ _ _ ω ⟨rfl,i + 1,wd,ω,hld,hmv,rfl,rfl,rfl⟩
  refine AR (λvs R' D'=>R' = R9∧wd.length = s.AA.length∧D' = (bw,C AX (wd.map I ++ [])) :: (bt,C AI (Ac eRg t2 ++ tsp)) :: E∧vs = [Pt b1,Pt b2,lv,v9,S0 bt s.A0.length ct,S0 bw s.AA.length s.AA.length,v,I i]) (λK5 hK5=>?_) ?_;rotate_left
  ·rintro e R8 D8 ⟨hR,hld,hD,he⟩;refine z_W ?_;clear hD;exact hK4 _ _ _ ⟨hR,hld,rfl,rfl⟩
  obtain⟨y,hy⟩:∃y,to_[i]'(ω) = y:=⟨_,rfl⟩;rw[hy] at hwa hwb hwc hwd;obtain⟨q1,q2,q3⟩:=Fs hwa;obtain⟨q4,q5,q6⟩:=Fs hwb;obtain⟨-,-,tr,tn⟩:=htb _ (Yq hk);have hla:wa.length = w.length:=by rw[q3,ZV]
  have hlb:wb.length = wa.length:=by rw[q6,ZV]
  have ty:to_[((i:Nat):Int).toNat]'(ω) = y:=by rw[← hy];exact getElem_congr_idx (Yj i)
  refine CE hi98 ω ω ?_;rw[getElem_congr_idx (Yj i)];refine jro (E9 _ hlv8 ω) ?_;rw[hkp];refine jtg hlv8 hk λb3 o3 ty3 cs3 rv nv hrv hnv hb3 ho3 hrow3=>?_
  obtain⟨ra,rc,rfl⟩:=hrv.sl;obtain⟨na,nc,rfl⟩:=hnv.sl;refine F0 hb3 ho3 hrow3 (ja λb15=>?_);refine jS (eTh l[k] (.slice ra l[k].refs.length rc) (.slice na l[k].nums.length nc)) ?_;refine CE hito ω ω (CE hito ω ω ?_);rw[ty];refine jia q1 ω (jsi (l:=w) (sp:=[]) ω ?_);rw[← q3];refine VH hito ω ω λq hq=>hq _ _ ?_
  rw[ty] at hq ⊢;refine jad (jfo (jla (t:=Az) (cs:=eTh l[k] (.slice ra l[k].refs.length rc) (.slice na l[k].nums.length nc)) (l:=[I l[k].sh.refs,I l[k].sh.nums]) (by exact (by decide:4≤6)) rfl (jp (EO l[k].sh) ?_)));refine jia q4 ω (Af (hq _ _ jev) (jsi (l:=wa) (sp:=[]) ω ?_));rw[← q6];refine AR (λvs R' D'=>R' = R9∧wc.length = s.AA.length∧D' = (b15,C Az (eTh l[k] (.slice ra l[k].refs.length rc) (.slice na l[k].nums.length nc))) :: (bw,C AX (wc.map I ++ [])) :: (bt,C AI (Ac eRg t2 ++ tsp)) :: E∧vs = [Pt b1,Pt b2,lv,v9,S0 bt s.A0.length ct,S0 bw s.AA.length s.AA.length,v,I i,Pt b15]) (λK6 hK6=>?_) ?_
  ·refine AR (λvs R' D'=>R' = R9∧wc.length = s.AA.length∧D' = (b15,C Az (eTh l[k] (.slice ra l[k].refs.length rc) (.slice na l[k].nums.length nc))) :: (bw,C AX (wc.map I ++ [])) :: (bt,C AI (Ac eRg t2 ++ tsp)) :: E∧vs = [Pt b1,Pt b2,lv,v9,S0 bt s.A0.length ct,S0 bw s.AA.length s.AA.length,v,I i,Pt b15]) (λK7 hK7=>?_) ?_;rotate_left
   ·rintro e R8 D8 ⟨hR,hlc,hD,he⟩;refine z_W ?_;clear hD;exact hK6 _ _ _ ⟨hR,hlc,rfl,rfl⟩
   refine jlp (λm vs R' D'=>R' = R9∧∃(j:Nat) (w5:List Int),j≤l[k].refs.length∧w5.length = s.AA.length∧FC l AO to_ w5 (y + 2 + j) (l[k].refs.drop j) = some wc∧D' = (b15,C Az (eTh l[k] (.slice ra l[k].refs.length rc) (.slice na l[k].nums.length nc))) :: (bw,C AX (w5.map I ++ [])) :: (bt,C AI (Ac eRg t2 ++ tsp)) :: E∧vs = [Pt b1,Pt b2,lv,v9,S0 bt s.A0.length ct,S0 bw s.AA.length s.AA.length,v,I i,Pt b15,I j]∧m = l[k].refs.length - j)
    (n:=l[k].refs.length) ⟨rfl,0,wb,ω,ω,by simpa using hwc,rfl,rfl,ω⟩ ?_
   rintro m5 e R8 D8 K8 ⟨hR,j,w5,hj,hl5,hrw5,hD,he,hm5⟩ hK8;subst hR;refine z_W ?_;clear hD;refine jl (v:=.slice ra l[k].refs.length rc) rfl (jln (jlt (jif (λhd=>?_) (λhd=>?_))));rotate_left
   ·have hd:=z_g hd;rw[Yz ω] at hrw5;have:w5 = wc:=by unfold FC at hrw5;simpa using hrw5
    subst this;exact hK7 _ _ _ ⟨rfl,hl5,rfl,rfl⟩
   have hd:j < l[k].refs.length:=by have:=z_f hd;omega
   rw[Yv hd] at hrw5;unfold FC at hrw5;obtain⟨z,hz,hrw5⟩:=AD hrw5;obtain⟨w6,hw6,hrw5⟩:=AD hrw5;refine AR (λvs R' D'=>R' = R8∧w6.length = s.AA.length∧D' = (b15,C Az (eTh l[k] (.slice ra l[k].refs.length rc) (.slice na l[k].nums.length nc))) :: (bw,C AX (w6.map I ++ [])) :: (bt,C AI (Ac eRg t2 ++ tsp)) :: E∧vs = [Pt b1,Pt b2,lv,v9,S0 bt s.A0.length ct,S0 bw s.AA.length s.AA.length,v,I i,Pt b15,I j]) (λK9 hK9=>?_) ?_;rotate_left
   ·rintro e Rx D9 ⟨hR,hl6,hD,he⟩;subst hR;refine z_W ?_;clear hD;refine jad ?_;exact hK8 (l[k].refs.length - (j + 1)) _ _ _ ω ⟨rfl,j + 1,w6,ω,hl6,by rw[← hrw5];congr 1;omega,rfl,rfl,rfl⟩
   refine AR (λvs R' D'=>R' = R8∧w6.length = s.AA.length∧D' = (b15,C Az (eTh l[k] (.slice ra l[k].refs.length rc) (.slice na l[k].nums.length nc))) :: (bw,C AX (w6.map I ++ [])) :: (bt,C AI (Ac eRg t2 ++ tsp)) :: E∧vs = [Pt b1,Pt b2,lv,v9,S0 bt s.A0.length ct,S0 bw s.AA.length s.AA.length,v,I i,Pt b15,I j]) (λK10 hK10=>?_) ?_;rotate_left
   ·rintro e Rx D9 ⟨hR,hl6,hD,he⟩;refine z_W ?_;clear hD;exact hK9 _ _ _ ⟨hR,hl6,rfl,rfl⟩
   refine jl (v:=.slice ra l[k].refs.length rc) rfl (CE hrv ω ω ?_);rw[getElem_congr_idx (Yj j)];refine jro (Gm hlv8 ω hz) (jro (Hz z (BG.rd hi98) ω) (jge (jif (λh0=>?_) (λh0=>?_))))
   ·have h0:=z_f h0;rw[if_pos ω] at hw6;obtain⟨u,hu,hw6⟩:=AD hw6;obtain⟨u0,u1,u2,u3⟩:=Av hu;obtain⟨p1,p2,p3⟩:=Fs hw6;refine CE hito ω ω ?_;rw[ty];refine jad (jad (CE hito u0 u1 ?_));rw[u3];refine jia p1 ω (jsi (l:=w5) (sp:=[]) ω ?_);rw[← p3];exact hK10 _ _ _ ⟨rfl,by rw[p3,ZV];exact hl5,rfl,rfl⟩
   ·have h0:=z_g h0;rw[if_neg ω] at hw6;have:w5 = w6:=by simpa using hw6
    subst this;exact hK10 _ _ _ ⟨rfl,hl5,rfl,rfl⟩
  rintro e R8 D8 ⟨hR,hlc,hD,he⟩;subst hR;refine z_W ?_;clear hD;refine AR (λvs R' D'=>R' = R8∧wd.length = s.AA.length∧D' = (bw,C AX (wd.map I ++ [])) :: (bt,C AI (Ac eRg t2 ++ tsp)) :: E∧vs = [Pt b1,Pt b2,lv,v9,S0 bt s.A0.length ct,S0 bw s.AA.length s.AA.length,v,I i]) (λK7 hK7=>?_) ?_;rotate_left
  ·rintro e Rx D9 ⟨hR,hl6,hD,he⟩;refine z_W ?_;clear hD;exact hK5 _ _ _ ⟨hR,hl6,rfl,rfl⟩
  refine jlp (λm vs R' D'=>R' = R8∧∃(j:Nat) (w5:List Int),j≤l[k].nums.length∧w5.length = s.AA.length∧wrs w5 (y + 2 + l[k].refs.length + j) (l[k].nums.drop j) = some wd∧D' = (b15,C Az (eTh l[k] (.slice ra l[k].refs.length rc) (.slice na l[k].nums.length nc))) :: (bw,C AX (w5.map I ++ [])) :: (bt,C AI (Ac eRg t2 ++ tsp)) :: E∧vs = [Pt b1,Pt b2,lv,v9,S0 bt s.A0.length ct,S0 bw s.AA.length s.AA.length,v,I i,Pt b15,I j]∧m = l[k].nums.length - j)
   (n:=l[k].nums.length) ⟨rfl,0,wc,ω,ω,by simpa using hwd,rfl,rfl,ω⟩ ?_
  rintro m5 e Rx D9 K8 ⟨hR,j,w5,hj,hl5,hrw5,hD,he,hm5⟩ hK8;subst hR;refine z_W ?_;clear hD;refine jfo (jl (v:=.slice na l[k].nums.length nc) rfl (jln (jlt (jif (λhd=>?_) (λhd=>?_)))));rotate_left
  ·have hd:=z_g hd;rw[Yz ω] at hrw5;have:w5 = wd:=by unfold wrs at hrw5;simpa using hrw5
   subst this;exact Bn (hK7 _ _ _ ⟨rfl,hl5,rfl,rfl⟩)
  have hd:j < l[k].nums.length:=by have:=z_f hd;omega
  rw[Yv hd] at hrw5;unfold wrs at hrw5;obtain⟨w6,hw6,hrw5⟩:=AD hrw5;obtain⟨p1,p2,p3⟩:=Fs hw6;refine CE hito ω ω ?_;rw[ty];refine jad (jfo (jl (v:=.slice ra l[k].refs.length rc) rfl (jln (jad (jad ?_)))));refine jfo (jl (v:=.slice na l[k].nums.length nc) rfl (CE hnv ω ω ?_));rw[getElem_congr_idx (Yj j)];refine jia p1 ω (jsi (l:=w5) (sp:=[]) ω (jad ?_));rw[← p3];exact hK8 (l[k].nums.length - (j + 1)) _ _ _ ω ⟨rfl,j + 1,w6,ω,by rw[p3,ZV];exact hl5,by rw[← hrw5];congr 1;omega,rfl,rfl,rfl⟩
 rintro e Rw D9 ⟨hRw,hl2,hD,he⟩;subst hRw;refine z_W ?_;clear hD;obtain⟨rfl,hfin⟩:=B8 hful;refine AR (λvs R' D'=>Rw.le R'∧∃bm b19 pv',BG R' pv' s.AG∧D' = (b19,C AQ (eSt s' (S0 bw s.AA.length s.AA.length) (S0 bt s.A0.length ct) (S0 bm s.AA.length s.AA.length) (SN) (SN) (pv'))) :: (bm,C B7 ((List.replicate s.AA.length [Value.bool false]).flatten)) :: (bw,C AX (w2.map I ++ [])) :: (bt,C AI (Ac eRg t2 ++ tsp)) :: E∧vs = [Pt b1,Pt b2,lv,v9,v,Pt b19]) (λK hK=>?_) ?_
 ·refine jln (jl (v:=.bool s.Ae) rfl (jl (v:=pv) rfl (jl (v:=I s.Aj) rfl (jl (v:=I s.BA) rfl (Cr hfin ?_)))));refine EP ?_ (EP ?_ (Dk ?_))
  ·refine jms ω ω ω λbm=>?_
   rw[Yj];refine Af (jl (v:=.bool s.Ae) rfl jev) (Af (jl (v:=pv) rfl jev) (Af (jl (v:=I s.Aj) rfl jev) (Af (jl (v:=I s.BA) rfl jev) ?_)));refine EP ?_ (Dk ?_)
   ·refine jc (A:=[]) (CN h8.p hpl) ?_;rintro _ Ry _ hRy ⟨bp,cp,spp,hcp,hspp,rfl,rfl⟩;refine BQ (b:=bp) λRz hRz hbp=>NL ?_
    have hpv:=CH (c:=cp) hbp hcp;refine jbd (cs:=(eSt s' (S0 bw s.AA.length s.AA.length) (S0 bt s.A0.length ct) (S0 bm s.AA.length s.AA.length) (SN) (SN) (S0 bp s.AG.length cp))) rfl (by rw[← hS];rfl) ?_;refine Af (jl (v:=.bool s.Ae) rfl jev) (Af (jl (v:=I s.Aj) rfl jev) (Af (jl (v:=I s.BA) rfl jev) ?_));refine ja λb19=>?_
    refine Af (jl (v:=.bool s.Ae) rfl jev) (Af (jl (v:=I s.Aj) rfl jev) (Af (jl (v:=I s.BA) rfl jev) ?_));refine jS ((eSt s' (S0 bw s.AA.length s.AA.length) (S0 bt s.A0.length ct) (S0 bm s.AA.length s.AA.length) (SN) (SN) (S0 bp s.AG.length cp))) ?_;refine Aw [(b19,C AQ (eSt s' (S0 bw s.AA.length s.AA.length) (S0 bt s.A0.length ct) (S0 bm s.AA.length s.AA.length) (SN) (SN) (S0 bp s.AG.length cp))),(bm,C B7 ((List.replicate s.AA.length [Value.bool false]).flatten))] (G:=(bw,C AX (w2.map I ++ [])) :: (bt,C AI (Ac eRg t2 ++ tsp)) :: E) ?_;exact hK _ _ _ ⟨hRy.trans hRz,bm,b19,_,hpv,rfl,rfl⟩
   ·refine ja λb19=>?_
    refine Af (jl (v:=.bool s.Ae) rfl jev) (Af (jl (v:=pv) rfl jev) (Af (jl (v:=I s.Aj) rfl jev) (Af (jl (v:=I s.BA) rfl jev) ?_)));refine jc (A:=[]) (CN h8.p hpl) ?_;rintro _ Ry _ hRy ⟨bp,cp,spp,hcp,hspp,rfl,rfl⟩;refine BQ (b:=bp) λRz hRz hbp=>NL ?_
    have hpv:=CH (c:=cp) hbp hcp;refine jbd (cs:=(eSt s' (S0 bw s.AA.length s.AA.length) (S0 bt s.A0.length ct) (S0 bm s.AA.length s.AA.length) (SN) (SN) (S0 bp s.AG.length cp))) rfl (by rw[← hS];rfl) ?_;refine Af (jl (v:=.bool s.Ae) rfl jev) (Af (jl (v:=I s.Aj) rfl jev) (Af (jl (v:=I s.BA) rfl jev) ?_));refine jS ((eSt s' (S0 bw s.AA.length s.AA.length) (S0 bt s.A0.length ct) (S0 bm s.AA.length s.AA.length) (SN) (SN) (S0 bp s.AG.length cp))) ?_;refine Aw [(b19,C AQ (eSt s' (S0 bw s.AA.length s.AA.length) (S0 bt s.A0.length ct) (S0 bm s.AA.length s.AA.length) (SN) (SN) (S0 bp s.AG.length cp))),(bm,C B7 ((List.replicate s.AA.length [Value.bool false]).flatten))] (G:=(bw,C AX (w2.map I ++ [])) :: (bt,C AI (Ac eRg t2 ++ tsp)) :: E) ?_;exact hK _ _ _ ⟨hRy.trans hRz,bm,b19,_,hpv,rfl,rfl⟩
  ·refine jc (A:=[]) (CN h8.p hpl) ?_;rintro _ Ry _ hRy ⟨bp,cp,spp,hcp,hspp,rfl,rfl⟩;refine BQ (b:=bp) λRz hRz hbp=>NL ?_
   have hpv:=CH (c:=cp) hbp hcp;refine Af (jl (v:=.bool s.Ae) rfl jev) (Af (jl (v:=I s.Aj) rfl jev) (Af (jl (v:=I s.BA) rfl jev) ?_));refine EP ?_ (Dk ?_)
   ·refine jms ω ω ω λbm=>?_
    rw[Yj];refine jbd (cs:=(eSt s' (S0 bw s.AA.length s.AA.length) (S0 bt s.A0.length ct) (S0 bm s.AA.length s.AA.length) (SN) (SN) (S0 bp s.AG.length cp))) rfl (by rw[← hS];rfl) ?_;refine Af (jl (v:=.bool s.Ae) rfl jev) (Af (jl (v:=I s.Aj) rfl jev) (Af (jl (v:=I s.BA) rfl jev) ?_));refine ja λb19=>?_
    refine Af (jl (v:=.bool s.Ae) rfl jev) (Af (jl (v:=I s.Aj) rfl jev) (Af (jl (v:=I s.BA) rfl jev) ?_));refine jS ((eSt s' (S0 bw s.AA.length s.AA.length) (S0 bt s.A0.length ct) (S0 bm s.AA.length s.AA.length) (SN) (SN) (S0 bp s.AG.length cp))) ?_;refine Aw [(b19,C AQ (eSt s' (S0 bw s.AA.length s.AA.length) (S0 bt s.A0.length ct) (S0 bm s.AA.length s.AA.length) (SN) (SN) (S0 bp s.AG.length cp))),(bm,C B7 ((List.replicate s.AA.length [Value.bool false]).flatten))] (G:=(bw,C AX (w2.map I ++ [])) :: (bt,C AI (Ac eRg t2 ++ tsp)) :: E) ?_;exact hK _ _ _ ⟨hRy.trans hRz,bm,b19,_,hpv,rfl,rfl⟩
   ·refine ja λb19=>?_
    refine Af (jl (v:=.bool s.Ae) rfl jev) (Af (jl (v:=I s.Aj) rfl jev) (Af (jl (v:=I s.BA) rfl jev) ?_));refine jms ω ω ω λbm=>?_
    rw[Yj];refine jbd (cs:=(eSt s' (S0 bw s.AA.length s.AA.length) (S0 bt s.A0.length ct) (S0 bm s.AA.length s.AA.length) (SN) (SN) (S0 bp s.AG.length cp))) rfl (by rw[← hS];rfl) ?_;refine Af (jl (v:=.bool s.Ae) rfl jev) (Af (jl (v:=I s.Aj) rfl jev) (Af (jl (v:=I s.BA) rfl jev) ?_));refine jS ((eSt s' (S0 bw s.AA.length s.AA.length) (S0 bt s.A0.length ct) (S0 bm s.AA.length s.AA.length) (SN) (SN) (S0 bp s.AG.length cp))) ?_;refine Aw [(b19,C AQ (eSt s' (S0 bw s.AA.length s.AA.length) (S0 bt s.A0.length ct) (S0 bm s.AA.length s.AA.length) (SN) (SN) (S0 bp s.AG.length cp))),(bm,C B7 ((List.replicate s.AA.length [Value.bool false]).flatten))] (G:=(bw,C AX (w2.map I ++ [])) :: (bt,C AI (Ac eRg t2 ++ tsp)) :: E) ?_;exact hK _ _ _ ⟨hRy.trans hRz,bm,b19,_,hpv,rfl,rfl⟩
  ·refine ja λb19=>?_
   refine Af (jl (v:=.bool s.Ae) rfl jev) (Af (jl (v:=pv) rfl jev) (Af (jl (v:=I s.Aj) rfl jev) (Af (jl (v:=I s.BA) rfl jev) ?_)));refine EP ?_ (Dk ?_)
   ·refine jms ω ω ω λbm=>?_
    rw[Yj];refine Af (jl (v:=.bool s.Ae) rfl jev) (Af (jl (v:=pv) rfl jev) (Af (jl (v:=I s.Aj) rfl jev) (Af (jl (v:=I s.BA) rfl jev) ?_)));refine jc (A:=[]) (CN h8.p hpl) ?_;rintro _ Ry _ hRy ⟨bp,cp,spp,hcp,hspp,rfl,rfl⟩;refine BQ (b:=bp) λRz hRz hbp=>NL ?_
    have hpv:=CH (c:=cp) hbp hcp;refine jbd (cs:=(eSt s' (S0 bw s.AA.length s.AA.length) (S0 bt s.A0.length ct) (S0 bm s.AA.length s.AA.length) (SN) (SN) (S0 bp s.AG.length cp))) rfl (by rw[← hS];rfl) ?_;refine Af (jl (v:=.bool s.Ae) rfl jev) (Af (jl (v:=I s.Aj) rfl jev) (Af (jl (v:=I s.BA) rfl jev) ?_));refine jS ((eSt s' (S0 bw s.AA.length s.AA.length) (S0 bt s.A0.length ct) (S0 bm s.AA.length s.AA.length) (SN) (SN) (S0 bp s.AG.length cp))) ?_;refine Aw [(b19,C AQ (eSt s' (S0 bw s.AA.length s.AA.length) (S0 bt s.A0.length ct) (S0 bm s.AA.length s.AA.length) (SN) (SN) (S0 bp s.AG.length cp))),(bm,C B7 ((List.replicate s.AA.length [Value.bool false]).flatten))] (G:=(bw,C AX (w2.map I ++ [])) :: (bt,C AI (Ac eRg t2 ++ tsp)) :: E) ?_;exact hK _ _ _ ⟨hRy.trans hRz,bm,b19,_,hpv,rfl,rfl⟩
   ·refine jc (A:=[]) (CN h8.p hpl) ?_;rintro _ Ry _ hRy ⟨bp,cp,spp,hcp,hspp,rfl,rfl⟩;refine BQ (b:=bp) λRz hRz hbp=>NL ?_
    have hpv:=CH (c:=cp) hbp hcp;refine Af (jl (v:=.bool s.Ae) rfl jev) (Af (jl (v:=I s.Aj) rfl jev) (Af (jl (v:=I s.BA) rfl jev) ?_));refine jms ω ω ω λbm=>?_
    rw[Yj];refine jbd (cs:=(eSt s' (S0 bw s.AA.length s.AA.length) (S0 bt s.A0.length ct) (S0 bm s.AA.length s.AA.length) (SN) (SN) (S0 bp s.AG.length cp))) rfl (by rw[← hS];rfl) ?_;refine Af (jl (v:=.bool s.Ae) rfl jev) (Af (jl (v:=I s.Aj) rfl jev) (Af (jl (v:=I s.BA) rfl jev) ?_));refine jS ((eSt s' (S0 bw s.AA.length s.AA.length) (S0 bt s.A0.length ct) (S0 bm s.AA.length s.AA.length) (SN) (SN) (S0 bp s.AG.length cp))) ?_;refine Aw [(b19,C AQ (eSt s' (S0 bw s.AA.length s.AA.length) (S0 bt s.A0.length ct) (S0 bm s.AA.length s.AA.length) (SN) (SN) (S0 bp s.AG.length cp))),(bm,C B7 ((List.replicate s.AA.length [Value.bool false]).flatten))] (G:=(bw,C AX (w2.map I ++ [])) :: (bt,C AI (Ac eRg t2 ++ tsp)) :: E) ?_;exact hK _ _ _ ⟨hRy.trans hRz,bm,b19,_,hpv,rfl,rfl⟩
 rintro e Ry D9 ⟨hRy,bm,b19,pv',hpv',hD,he⟩;rw[hD];clear hD;have es1:s'.AA = w2:=by rw[← hS]
 have es2:s'.A0 = t2:=by rw[← hS]
 have es3:s'.AG = s.AG:=by rw[← hS]
 have es4:s'.A6 = ths:=by rw[← hS]
 have es5:s'.AK = List.replicate w2.length false:=by rw[← hS]
 have hths8:DT l AO to_ s.A6 = some s'.A6:=by rw[es4];exact hths
 rw[← hE];have ew:s.AA.length = s'.AA.length:=by rw[es1];exact hl2.symm
 have et:s.A0.length = s'.A0.length:=by rw[es2];exact ht2.symm
 have em:(List.replicate s.AA.length [Value.bool false]).flatten = s'.AK.map Value.bool:=by rw[es5,hl2];simp
 have el:s'.AK.length = s'.AA.length:=by rw[es5,es1,Yy]
 rw[em,← es1,← es2,ew,et];refine Aw [(b19,C AQ (eSt s' (S0 bw s'.AA.length s'.AA.length) (S0 bt s'.A0.length ct) (S0 bm s'.AA.length s'.AA.length) (SN) (SN) pv')),(b2,C AQ (cl z28)),(b1,C AQ (eSt s wv tv mv thv ov pv)),(bw,C AX (s'.AA.map I ++ [])),(bt,C AI (Ac eRg s'.A0 ++ tsp)),(bm,C B7 (s'.AK.map Value.bool))] (G:=F) ?_;have hRR:=hR1.trans (hR2.trans (hR3.trans (hR5.trans (hR8.trans hRy))));have hpf:=Fz.flat hpv';change J Ry _ (l7d e _);refine Wr (E:=(b1,C AQ (eSt s wv tv mv thv ov pv)) :: (bw,C AX (s'.AA.map I ++ [])) :: (bt,C AI (Ac eRg s'.A0 ++ tsp)) :: (bm,C B7 (s'.AK.map Value.bool)) :: F) (h8.le hRy) (hlv8.le hRy) ω (hi98.le hRy) ω (hito.le hRy) hths8 hth hrl inferInstance he (λx hx=>?_) (λR' x hR' hx=>?_)
 ·show (true && (true && (true && (true && (true && (true && (true && (true && (flat x && (true && (flat pv' && (true && (true && true))))))))))))) = true;rw[hx,hpf];rfl
 ·refine B9 (A:=[(bw,C AX (s'.AA.map I ++ [])),(bt,C AI (Ac eRg s'.A0 ++ tsp)),(bm,C B7 (s'.AK.map Value.bool))]) (hRR.trans hR') ⟨bw,[],s'.AA.length,bt,tsp,ct,bm,x,pv',ω,ω,ω,ω,ω,hx,?_,rfl,?_⟩
  ·rw[es3];exact hpv'.le hR'
  ·rw[el]
theorem UX {R:RM} {b c:Nat} {l:List Rg} {sp:List Value} (h:R b = some (C AI (Ac eRg l ++ sp))) (hc:l.length≤c):Rgs R (S0 b l.length c) l:=by
 have e:=DL (f:=eRg) (w:=5) (λ_=>rfl) l;exact .inr ⟨b,0,c,AI,_,rfl,h,by rw[Yk,e];omega,by rw[Zr,← e,List.take_left],hc⟩
theorem Ut {R:RM} {b c:Nat} {l:List Bool} {sp:List Value} (h:R b = some (C B7 (l.map Value.bool ++ sp))) (hc:l.length≤c):Bls R (S0 b l.length c) l:=by
 have e:(l.map Value.bool).length = l.length * 1:=σ
 exact .inr ⟨b,0,c,B7,_,rfl,h,by rw[Yk,e];omega,by rw[Zr,← e,List.take_left],hc⟩
theorem Kg {l:List AU} {AO to_:List Int}:∀{ts r:List Th},DT l AO to_ ts = some r→r.length = ts.length
 | [],r,h=>by unfold DT at h;cases h;rfl
 | t :: ts,r,h=>by
  obtain⟨AC,rest,_,h2,rfl⟩:=KZ h;rw[Yt,Yt,Kg h2]
theorem Sl {s s' : Sm.Al} (h:Ex s = some s'):s'.A6.length = s.A6.length∧s'.old = []:=by
 unfold Ex at h;obtain⟨_,_,h⟩:=AD h;obtain⟨⟨_,_⟩,_,h⟩:=AD h;obtain⟨⟨_,_⟩,_,h⟩:=AD h;obtain⟨_,_,h⟩:=AD h;obtain⟨_,hths,h⟩:=AD h;obtain⟨_,_,h⟩:=AD h;simp only[Yu] at h;subst h;exact⟨Kg hths,rfl⟩
theorem SV {p n:Nat} {S S' : Sim} {g:Img} {R:RM} (hok:Ok R S g) (hp:Pr S) (hT:TOk S.A0) (hf:S.full = true) (hS:S.pause n = some S') :
  Fn P DZ [Pt p] R (Ab p S g) (D0 p S' λ_=>True):=by
 refine JN λF=>?_
 refine z_1 ?_;unfold Sim.pause at hS;split at hS
 ·cases hS
 rename_i hz;have hz:S.sz = true:=by simpa using hz
 obtain⟨s,hs,hS⟩:=AD hS;simp only[Yu] at hS;have hze:=G5 hz;have hhl:=hok.hl;refine jl (v:=.bool S.full) rfl ?_;rw[hf];refine DI ?_;refine jc (A:=Ab p S g) (XU hok hz) ?_;rintro _ R1 _ hR1 ⟨-,rfl,thv,hths,rfl⟩;have ok1:=hok.le hR1;unfold Ab;refine BQ (b:=g.wb) λR2 hR2 hbw=>BQ (b:=g.tb) λR3 hR3 hbt=>BQ (b:=g.mb) λR4 hR4 hbm=>?_
 have hR14:=(hR2.trans hR3).trans hR4;have ok4:=ok1.le hR14;have hst:StC R4 S.view (wS S g) (tS S g) (mS S g) thv g.old g.AG:=⟨CH (hR4 _ _ (hR3 _ _ hbw)) hok.wk,UX (hR4 _ _ hbt) hok.tk,Ut hbm hok.mk_,hths.le hR14,ok4.old,ok4.AG⟩;have hvl:S.view.A6.length = S.th.length:=by simp[Sim.view]
 obtain⟨hsl,hold⟩:=Sl hs;refine jc (A:=[]) (O0 hst hok.wl hT.n0 hT.n1 ω (λt ht=>?_) hze.2.2.2.1 hp.2 hs) ?_
 ·obtain⟨t',ht',rfl⟩:=ZK.1 ht;exact hze.2.2.2.2 _ ht'
 rintro _ R5 _ hR5 ⟨bw,wsp,cw,bt,tsp,ct,bm,thv',pv',w1,w2,w3,w4,w5,hths',hpv',rfl,rfl⟩;have ok5:=ok4.le hR5;obtain⟨ta,tc,htv⟩:=hths'.sl;have hpf:=Fz.flat hpv';have w1:s.AA.length = S.AA.length:=w1;have w2:s.A0.length = S.A0.length:=w2;have w3:s.AK.length = S.AA.length:=w3;have hwl:=hok.wl;have htl:=hok.tl;refine js (cs':=C0 { S with AA:=s.AA,A0:=s.A0,AK:=s.AK,Ad:=s.Ad,stop:=s.stop,full:=s.full,old:=s.old,AG:=s.AG,Aj:=s.Aj,BA:=s.BA } { g with wb:=bw,wc:=cw,wsp:=wsp,tb:=bt,tc:=ct,tsp:=tsp,mb:=bm,mc:=s.AK.length,msp:=[],Ae:=.bool s.Ae,want:=I s.want,A6:=thv',old:=SN,AG:=pv' }) rfl ?_ (by show 4 + 13≤35;omega) rfl ?_
 ·subst htv;show (true && (true && (true && (true && (true && (true && (true && (true && (true && (true && (flat pv' && (true && (true && true))))))))))))) = true;rw[hpf];rfl
 refine jl (v:=.bool s.Ae) rfl ?_;refine jbd (cs:=BF (Cd s.Ae 0) (SN)) rfl rfl ?_;generalize hS3:({ S with AA:=s.AA,A0:=s.A0,AK:=s.AK,Ad:=s.Ad,stop:=s.stop,full:=s.full,old:=s.old,AG:=s.AG,Aj:=s.Aj,BA:=s.BA,col:=Cd s.Ae 0 }:Sim) = S3;generalize hg3:({ g with wb:=bw,wc:=cw,wsp:=wsp,tb:=bt,tc:=ct,tsp:=tsp,mb:=bm,mc:=s.AK.length,msp:=[],Ae:=.bool s.Ae,want:=I s.want,A6:=thv',old:=SN,AG:=pv',AM:=SN }:Img) = g3;have eth:S3.th = S.th:=by rw[← hS3]
 have ethv:g3.A6 = thv':=by rw[← hg3]
 have ok3:Ok R5 S3 g3:=by
  subst hS3 hg3 htv;exact { ok5 with old:=.inl ⟨rfl,by rw[hold];rfl,by rw[hold];rfl⟩,AG:=hpv',AM:=.inl ⟨rfl,rfl,rfl⟩,wl:=by show s.AA.length≤1000;omega,tl:=by show s.A0.length≤1000;omega,ml:=by show s.AK.length≤1000;omega,fl:=⟨rfl,rfl,rfl⟩,wk:=w4,tk:=w5,mk_:=z_n _ }
 refine js (cs':=C0 S3 g3) rfl rfl (by exact Z0 rfl) (by rw[← hS3,← hg3];rfl) ?_;refine BI (D':=Ab p S3 g3 ++ F) (by
  have e:Ab p S3 g3 = (p,C Bg (C0 S3 g3)) :: (bw,C AX (s.AA.map I ++ wsp)) :: (bt,C AI (Ac eRg s.A0 ++ tsp)) :: (bm,C B7 (s.AK.map Value.bool ++ [])) :: (g.hb,C AY (E3 S.th g.rv ++ g.hsp)) :: evD S g:=by rw[← hS3,← hg3];rfl
  rw[e,ZN]
  exact ZH (l₁:=[(bw,C AX (s.AA.map I ++ wsp)),(bt,C AI (Ac eRg s.A0 ++ tsp)),(bm,C B7 (s.AK.map Value.bool))])) ?_
 have hSe:S' = { S3 with th:=s.A6.map λt=>thr0 t.AC t.next t.Ai }:=by rw[← hS3,← hS]
 clear hS hS3 hg3 hst;generalize hT' : (s.A6.map λt=>thr0 t.AC t.next t.Ai) = T' at hSe;have hTl:T'.length = S.th.length:=by rw[← hT',Z1];omega
 have hTg:∀k (h:k < T'.length) (h' : k < s.A6.length),T'[k] = thr0 (s.A6[k]).AC (s.A6[k]).next (s.A6[k]).Ai:=λk h h'=>by simp only[← hT',au]
 rw[← eth] at hTl hhl hvl;rw[hvl] at hsl;subst hSe;refine jlp (λm vs R' D'=>R' = R5∧∃(k:Nat) (g4:Img),k≤S3.th.length∧g4.A6 = thv'∧Ok R5 { S3 with th:=T'.take k ++ S3.th.drop k } g4∧D' = Ab p { S3 with th:=T'.take k ++ S3.th.drop k } g4 ++ F∧vs = [Pt p,I k]∧m = S3.th.length - k)
  (n:=S3.th.length) ⟨rfl,0,g3,ω,ethv,ok3,rfl,rfl,ω⟩ ?_
 rintro m e R6 D6 K ⟨hR,k,g4,hk,e4,ok4,hD,he,hm⟩ hK;subst hR;refine z_W ?_;clear hD;have hul:=Do (k:=k) hTl;refine jl (v:=.slice (some ⟨g4.hb,0,none⟩) (T'.take k ++ S3.th.drop k).length g4.hc) rfl (jln (jlt (jif (λhc=>?_) (λhc=>?_))));rotate_left
 ·have hc:S3.th.length≤k:=by have:=z_g hc;omega
  have ee:T'.take k ++ S3.th.drop k = T':=by rw[Ys ω,Yz ω,ZN]
  rw[ee] at ok4 ⊢;exact Ay (hR1.trans (hR14.trans hR5)) trivial rfl ok4
 have hc:k < S3.th.length:=by have:=z_f hc;omega
 have hcs:k < s.A6.length:=ω
 refine jl (v:=g4.A6) rfl ?_;rw[e4];refine jtr hths' hcs λb3 o3 ty cs rv hrv hb3 ho3 hrow3=>?_
 refine F0 hb3 ho3 hrow3 ?_;obtain⟨ra,rc,hrve⟩:=hrv.sl;subst hrve;refine ja λb30=>?_
 refine jS ([.slice ra (s.A6[k]).AC.length rc,I (s.A6[k]).next,.bool (s.A6[k]).busy,I (s.A6[k]).Ai]) ?_;refine jl (v:=.slice (some ⟨g4.hb,0,none⟩) (T'.take k ++ S3.th.drop k).length g4.hc) rfl ?_;refine jl (v:=.slice ra (s.A6[k]).AC.length rc) rfl (jl (v:=I (s.A6[k]).next) rfl (jl (v:=I (s.A6[k]).Ai) rfl ?_));refine jbd (cs:=Ak (thr0 (s.A6[k]).AC (s.A6[k]).next (s.A6[k]).Ai) (.slice ra (s.A6[k]).AC.length rc)) rfl rfl ?_;refine C5 ω ?_;refine jst (p:=p) (S:={ S3 with th:=T'.take k ++ S3.th.drop k }) (g:=g4) _ _ (by show k < (T'.take k ++ S3.th.drop k).length;omega) ok4.rvl (Fz.flat hrv) rfl rfl ?_;refine jad ?_;have ES:(T'.take k ++ S3.th.drop k).set k (thr0 (s.A6[k]).AC (s.A6[k]).next (s.A6[k]).Ai) = T'.take (k + 1) ++ S3.th.drop (k + 1):=by
  rw[← hTg k ω hcs];exact Ff hTl hc
 have ok5':=ok4.setT (i:=k) (t:=thr0 (s.A6[k]).AC (s.A6[k]).next (s.A6[k]).Ai) (v:=.slice ra (s.A6[k]).AC.length rc) hrv;dsimp only at ok5' ⊢;rw[ES] at ok5' ⊢;refine Aw (Ab p { S3 with th:=T'.take (k + 1) ++ S3.th.drop (k + 1) } { g4 with rv:=g4.rv.set k (.slice ra (s.A6[k]).AC.length rc) }) (G:=F) ?_;exact hK (S3.th.length - (k + 1)) _ _ _ ω ⟨rfl,k + 1,{ g4 with rv:=g4.rv.set k (.slice ra (s.A6[k]).AC.length rc) },ω,e4,ok5',rfl,rfl,rfl⟩
theorem RG {p n:Nat} {S S' : Sim} {g:Img} {R:RM} (hok:Ok R S g) (hp:Pr S) (hT:TOk S.A0) (hS:S.pause n = some S') :
  Fn P DZ [Pt p] R (Ab p S g) (D0 p S' λ_=>True):=by
 cases hf:S.full with
 | true=>exact SV hok hp hT hf hS
 | false=>exact Ps hok hp hT hf hS
end Go.Lf
end
