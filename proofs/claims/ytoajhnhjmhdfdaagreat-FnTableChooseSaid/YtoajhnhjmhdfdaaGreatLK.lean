/- A part of the proof of the given row: the walk of the law and of all that it calls. Conditions: none. -/
import Derived.Test.YtoajhnhjmhdfdaaGreatLJ
set_option linter.unusedVariables false
set_option linter.unusedSimpArgs false
section
namespace Go.Lf
open Go Sm
theorem PI {α β γ:Type} {f:α→β→γ} {a:α}:∀(l:List β),List.zipWith f (List.replicate l.length a) l = l.map (f a)
 | []=>rfl
 | b :: r=>by rw[List.length_cons,List.replicate_succ,List.zipWith_cons_cons,PI r,List.map_cons]
def eBg (c:Cfg) (pv w tv m thv v:Value):List Value:=I c.A6 :: I c.AB :: I c.AI :: pv :: (eNw w tv m thv ++ v :: (Af (CB false 0) (.slice none 0 0) ++ [.slice none 0 0,.bool false]))
theorem LJ {R:RM} {c:Cfg} {pv:Value} {AU:List (List Sm.Op)} (hc:BJ c = true) (hp:Dg R pv AU) :
  Fn P IC [.agg #[I c.A6,I c.AB,I c.AI],pv] R [] (λv R' A=>∃p g,v = .pointer (some ⟨p,0,none⟩)∧A = AV p (Sm.start c AU) g∧Ok R' (Sm.start c AU) g):=by
 refine Na λF=>?_
 unfold Hk;have hcc:=hc;unfold BJ at hc;simp only[z_b,z_d] at hc;obtain⟨pvs,hpf,-,-⟩:=id hp;obtain⟨pa,pc,hpv⟩:=hpf.sl;refine ja λb1=>?_
 rw[show cl (.agg #[I c.A6,I c.AB,I c.AI]) = [I c.A6,I c.AB,I c.AI] from rfl];refine jla (l:=[I c.A6,I c.AB,I c.AI]) (by simp) rfl ?_;refine jc (A:=[]) (Ob hcc) ?_;rintro v1 R1 A1 hR1 ⟨bw,cw,wsp,bt,ct,tsp,bm,thv,hcw,hctn,hths,rfl,rfl⟩;obtain⟨ha,hcap,htv⟩:=hths.sl;subst hpv htv;refine jex rfl (jex rfl (ja λb2=>?_));refine js (cs':=eNw (.slice (some ⟨bw,0,none⟩) (BH c).length cw) (.slice (some ⟨bt,0,none⟩) (AN c.A6).length ct) (.slice (some ⟨bm,0,none⟩) (c.A6.toNat * 16) (c.A6.toNat * 16)) (.slice ha (List.replicate c.AB.toNat (⟨[16],0,false,0⟩:Th)).length hcap)) rfl rfl (by exact z_n 13) rfl ?_;refine jla (l:=[I c.A6,I c.AB,I c.AI]) (by simp) rfl ?_;refine jla (l:=eNw (.slice (some ⟨bw,0,none⟩) (BH c).length cw) (.slice (some ⟨bt,0,none⟩) (AN c.A6).length ct) (.slice (some ⟨bm,0,none⟩) (c.A6.toNat * 16) (c.A6.toNat * 16)) (.slice ha (List.replicate c.AB.toNat (⟨[16],0,false,0⟩:Th)).length hcap)) (by exact z_n 13) rfl ?_;refine jbd (cs:=eBg c (.slice pa AU.length pc) (.slice (some ⟨bw,0,none⟩) (BH c).length cw) (.slice (some ⟨bt,0,none⟩) (AN c.A6).length ct) (.slice (some ⟨bm,0,none⟩) (c.A6.toNat * 16) (c.A6.toNat * 16)) (.slice ha (List.replicate c.AB.toNat (⟨[16],0,false,0⟩:Th)).length hcap) (.slice none 0 0)) rfl rfl ?_;refine ja λp=>?_
 generalize hE:(b2,C AM (eNw (.slice (some ⟨bw,0,none⟩) (BH c).length cw) (.slice (some ⟨bt,0,none⟩) (AN c.A6).length ct) (.slice (some ⟨bm,0,none⟩) (c.A6.toNat * 16) (c.A6.toNat * 16)) (.slice ha (List.replicate c.AB.toNat (⟨[16],0,false,0⟩:Th)).length hcap))) :: ([(bw,C AZ ((BH c).map I ++ wsp)),(bt,C AD (AW eRg (AT (AN c.A6) 1 ⟨3,-1,24,24,0⟩) ++ tsp)),(bm,C Az ((List.replicate (c.A6.toNat * 16) false).map Value.bool))] ++ (b1,C 67 [I c.A6,I c.AB,I c.AI]) :: ([] ++ F)) = E;have ea1:At E b1 (C 67 [I c.A6,I c.AB,I c.AI]):=by rw[← hE];exact inferInstance
 have ea2:At E b2 (C AM (eNw (.slice (some ⟨bw,0,none⟩) (BH c).length cw) (.slice (some ⟨bt,0,none⟩) (AN c.A6).length ct) (.slice (some ⟨bm,0,none⟩) (c.A6.toNat * 16) (c.A6.toNat * 16)) (.slice ha (List.replicate c.AB.toNat (⟨[16],0,false,0⟩:Th)).length hcap))):=by rw[← hE];exact inferInstance
 refine Au (D':=(p,C BL (eBg c (.slice pa AU.length pc) (.slice (some ⟨bw,0,none⟩) (BH c).length cw) (.slice (some ⟨bt,0,none⟩) (AN c.A6).length ct) (.slice (some ⟨bm,0,none⟩) (c.A6.toNat * 16) (c.A6.toNat * 16)) (.slice ha (List.replicate c.AB.toNat (⟨[16],0,false,0⟩:Th)).length hcap) (.slice none 0 0))) :: E) (by rw[← hE]) ?_;obtain⟨n,hn⟩:∃n:Nat,c.AB = n:=⟨c.AB.toNat,by omega⟩;have e17:∀(l:List Value),∀r∈l.map (Ab (thr0 [16] 0 0)),r.length = 17:=λl r hr=>by
  obtain⟨x,_,rfl⟩:=List.mem_map.1 hr;rfl
 refine AH (λvs R' D'=>R1.le R'∧∃(rvs:List Value) (v:Value) (A:Chs),rvs.length = n∧(∀x∈rvs,B9 R' x [16])∧SW 106 17 (rvs.map (Ab (thr0 [16] 0 0))) v A∧D' = A ++ (p,C BL (eBg c (.slice pa AU.length pc) (.slice (some ⟨bw,0,none⟩) (BH c).length cw) (.slice (some ⟨bt,0,none⟩) (AN c.A6).length ct) (.slice (some ⟨bm,0,none⟩) (c.A6.toNat * 16) (c.A6.toNat * 16)) (.slice ha (List.replicate c.AB.toNat (⟨[16],0,false,0⟩:Th)).length hcap) v)) :: E∧vs = [.pointer (some ⟨p,0,none⟩)]) (λK hK=>?_) ?_
 ·refine AH (λvs R' D'=>R1.le R'∧∃(rvs:List Value) (v:Value) (A:Chs),rvs.length = n∧(∀x∈rvs,B9 R' x [16])∧SW 106 17 (rvs.map (Ab (thr0 [16] 0 0))) v A∧D' = A ++ (p,C BL (eBg c (.slice pa AU.length pc) (.slice (some ⟨bw,0,none⟩) (BH c).length cw) (.slice (some ⟨bt,0,none⟩) (AN c.A6).length ct) (.slice (some ⟨bm,0,none⟩) (c.A6.toNat * 16) (c.A6.toNat * 16)) (.slice ha (List.replicate c.AB.toNat (⟨[16],0,false,0⟩:Th)).length hcap) v)) :: E∧vs = [.pointer (some ⟨p,0,none⟩)]) (λK2 hK2=>?_) ?_;rotate_left
  ·rintro e R2 D1 ⟨hR,rvs,v,A,hl,hrv,so,hD,he⟩;rw[hD];clear hD;simp only[List.map,lc,ln,lj,z_t] at he;simp only[he];exact hK _ _ _ ⟨hR,rvs,v,A,hl,hrv,so,rfl,rfl⟩
  refine jlp (λm vs R' D'=>∃i:Nat,i≤n∧m = n - i∧R1.le R'∧∃(rvs:List Value) (v:Value) (A:Chs),rvs.length = i∧(∀x∈rvs,B9 R' x [16])∧SW 106 17 (rvs.map (Ab (thr0 [16] 0 0))) v A∧D' = A ++ (p,C BL (eBg c (.slice pa AU.length pc) (.slice (some ⟨bw,0,none⟩) (BH c).length cw) (.slice (some ⟨bt,0,none⟩) (AN c.A6).length ct) (.slice (some ⟨bm,0,none⟩) (c.A6.toNat * 16) (c.A6.toNat * 16)) (.slice ha (List.replicate c.AB.toNat (⟨[16],0,false,0⟩:Th)).length hcap) v)) :: E∧vs = [.pointer (some ⟨b1,0,none⟩),.pointer (some ⟨b2,0,none⟩),.pointer (some ⟨p,0,none⟩),I i])
   (n:=n) ⟨0,by omega,by omega,RM.le.refl R1,[],.slice none 0 0,[],rfl,(λx hx=>by cases hx),.inl ⟨rfl,rfl,rfl⟩,rfl,rfl⟩ ?_
  rintro m e R2 D1 K3 ⟨i,hi,hm,hR,rvs,v,A,hl,hrv,so,hD,he⟩ hK3;rw[hD];clear hD;simp only[List.map,lc,ln,lj,z_t] at he;simp only[he];refine jfo (jl (v:=I c.AB) rfl (jlt (jif (λhd=>?_) (λhd=>?_))));rotate_left
  ·have hd:i = n:=by have:=z_g hd;omega
   subst hd;exact hK2 _ _ _ ⟨hR,rvs,v,A,hl,hrv,so,rfl,rfl⟩
  have hd:i < n:=by have:=z_f hd;omega
  obtain⟨sa,sc,hsl⟩:=so.sl;subst hsl;rw[List.length_map];refine jnc (jfo (jl (v:=.slice sa rvs.length sc) rfl ?_));refine jfo (jl (v:=.slice ha (List.replicate c.AB.toNat (⟨[16],0,false,0⟩:Th)).length hcap) rfl ?_);refine jtr (hths.le hR) (by rw[List.length_replicate];omega) λb3 o3 ty cs rv hrv3 hb3 ho3 hrow3=>?_
  rw[List.getElem_replicate] at hrv3 hrow3;refine jfo (jlr (v:=rv) hb3 (CJ hrow3 (f:=0) rfl) ?_);refine jc (A:=[]) (Br hrv3 (by decide)) ?_;rintro _ R3 _ hR3 ⟨b8,c8,sp8,hc8,hsp8,rfl,rfl⟩;refine Ba (b:=b8) λR4 hR4 hb8=>?_
  have hv2:B9 R4 (.slice (some ⟨b8,0,none⟩) 1 c8) [16]:=Bn (l:=[16]) (c:=c8) hb8 hc8;refine jbd (cs:=(Ab (thr0 [16] 0 0) (.slice (some ⟨b8,0,none⟩) 1 c8))) rfl rfl ?_;refine Ae (jl (v:=.slice sa rvs.length sc) rfl jev) ?_;refine jbs (cs:=(Ab (thr0 [16] 0 0) (.slice (some ⟨b8,0,none⟩) 1 c8))) rfl rfl λb9=>?_
  refine Ae (jl (v:=.slice sa rvs.length sc) rfl jev) ?_;refine Au (D':=(b9,C 106 (Ab (thr0 [16] 0 0) (.slice (some ⟨b8,0,none⟩) 1 c8))) :: (A ++ (p,C BL (eBg c (.slice pa AU.length pc) (.slice (some ⟨bw,0,none⟩) (BH c).length cw) (.slice (some ⟨bt,0,none⟩) (AN c.A6).length ct) (.slice (some ⟨bm,0,none⟩) (c.A6.toNat * 16) (c.A6.toNat * 16)) (.slice ha (List.replicate c.AB.toNat (⟨[16],0,false,0⟩:Th)).length hcap) (.slice sa rvs.length sc))) :: E)) (List.Perm.refl _) ?_;refine Av A (G:=(b9,C 106 (Ab (thr0 [16] 0 0) (.slice (some ⟨b8,0,none⟩) 1 c8))) :: (p,C BL (eBg c (.slice pa AU.length pc) (.slice (some ⟨bw,0,none⟩) (BH c).length cw) (.slice (some ⟨bt,0,none⟩) (AN c.A6).length ct) (.slice (some ⟨bm,0,none⟩) (c.A6.toNat * 16) (c.A6.toNat * 16)) (.slice ha (List.replicate c.AB.toNat (⟨[16],0,false,0⟩:Th)).length hcap) (.slice sa rvs.length sc))) :: E) ?_;have hx:BG R4 (A ++ ((b9,C 106 (Ab (thr0 [16] 0 0) (.slice (some ⟨b8,0,none⟩) 1 c8))) :: (p,C BL (eBg c (.slice pa AU.length pc) (.slice (some ⟨bw,0,none⟩) (BH c).length cw) (.slice (some ⟨bt,0,none⟩) (AN c.A6).length ct) (.slice (some ⟨bm,0,none⟩) (c.A6.toNat * 16) (c.A6.toNat * 16)) (.slice ha (List.replicate c.AB.toNat (⟨[16],0,false,0⟩:Th)).length hcap) (.slice sa rvs.length sc))) :: E)) (some ⟨b9,0,none⟩) (1 * 17) [(Ab (thr0 [16] 0 0) (.slice (some ⟨b8,0,none⟩) 1 c8))].flatten:=BG.held (t:=106) (cs:=(Ab (thr0 [16] 0 0) (.slice (some ⟨b8,0,none⟩) 1 c8))) (o:=0) (n:=1 * 17) (z_n 17);rw[List.length_map] at so;refine jaw so (e17 _) (by intro r hr;rw[List.mem_singleton.1 hr];rfl) rfl rfl rfl (by decide) (by rw[List.length_singleton,List.length_map];omega) hx λv' A' so'=>?_
  obtain⟨sa',sc',hsl'⟩:=so'.sl;have em:rvs.map (Ab (thr0 [16] 0 0)) ++ [(Ab (thr0 [16] 0 0) (.slice (some ⟨b8,0,none⟩) 1 c8))] = (rvs ++ [Value.slice (some ⟨b8,0,none⟩) 1 c8]).map (Ab (thr0 [16] 0 0)):=by rw[List.map_append];rfl
  rw[em] at so' hsl';subst hsl';refine jnc (jfo (js (cs':=eBg c (.slice pa AU.length pc) (.slice (some ⟨bw,0,none⟩) (BH c).length cw) (.slice (some ⟨bt,0,none⟩) (AN c.A6).length ct) (.slice (some ⟨bm,0,none⟩) (c.A6.toNat * 16) (c.A6.toNat * 16)) (.slice ha (List.replicate c.AB.toNat (⟨[16],0,false,0⟩:Th)).length hcap) (.slice sa' ((rvs ++ [Value.slice (some ⟨b8,0,none⟩) 1 c8]).map (Ab (thr0 [16] 0 0))).length sc')) rfl rfl (by simp[eBg,eNw,Af]) rfl ?_));refine Ac ⟨by omega,by omega⟩ ?_;refine Av A' (G:=(p,C BL (eBg c (.slice pa AU.length pc) (.slice (some ⟨bw,0,none⟩) (BH c).length cw) (.slice (some ⟨bt,0,none⟩) (AN c.A6).length ct) (.slice (some ⟨bm,0,none⟩) (c.A6.toNat * 16) (c.A6.toNat * 16)) (.slice ha (List.replicate c.AB.toNat (⟨[16],0,false,0⟩:Th)).length hcap) (.slice sa' ((rvs ++ [Value.slice (some ⟨b8,0,none⟩) 1 c8]).map (Ab (thr0 [16] 0 0))).length sc'))) :: E) ?_;refine hK3 (n - (i + 1)) _ _ _ (by omega) ⟨i + 1,by omega,rfl,(hR.trans hR3).trans hR4,rvs ++ [Value.slice (some ⟨b8,0,none⟩) 1 c8],_,A',by rw[List.length_append,hl];rfl,?_,so',rfl,rfl⟩;intro x hx;rcases List.mem_append.1 hx with hx | hx
  ·exact (hrv x hx).le (hR3.trans hR4)
  ·rw[List.mem_singleton.1 hx];exact hv2
 rintro e R2 D1 ⟨hR,rvs,v,A,hl,hrv,so,hD,he⟩;rw[hD];clear hD;simp only[List.map,lc,ln,lj,z_t] at he;simp only[he];rcases so with ⟨h1,_,_⟩ | ⟨hb,hc2,hsp,hcc2,hhsp,rfl,rfl⟩
 ·have:=congrArg List.length h1;rw[List.length_map,List.length_nil] at this;omega
 rw[List.length_map] at hcc2 ⊢;subst hE
 let g:Img:={ AU:=.slice pa AU.length pc,wb:=bw,wc:=cw,wsp:=wsp,tb:=bt,tc:=ct,tsp:=tsp,mb:=bm,mc:=c.A6.toNat * 16,msp:=[],Ad:=.bool false,want:=I 0,AB:=.slice ha (List.replicate c.AB.toNat (⟨[16],0,false,0⟩:Th)).length hcap,old:=.slice none 0 0,AQ:=.slice none 0 0,hb:=hb,hc:=hc2,hsp:=hsp,rv:=rvs,AE:=.slice none 0 0,ev:=none,esp:=[] }
 have hth:(Sm.start c AU).th = List.replicate rvs.length (thr0 [16] 0 0):=by
  rw[hl];show List.replicate c.AB.toNat _ = _;rw[hn,Int.toNat_natCast]
 have ezs:DQ (Sm.start c AU).th rvs = (rvs.map (Ab (thr0 [16] 0 0))).flatten:=by
  rw[hth];unfold DQ;rw[PI]
 have etl:(AT (AN c.A6) 1 (⟨3,-1,24,24,0⟩:Rg)).length = (AN c.A6).length:=by simp[AT]
 have htl:(AN c.A6).length = c.A6.toNat:=by
  unfold AN;rw[if_neg (by omega)];simp;omega
 have esim:Bg (Sm.start c AU) g = eBg c (.slice pa AU.length pc) (.slice (some ⟨bw,0,none⟩) (BH c).length cw) (.slice (some ⟨bt,0,none⟩) (AN c.A6).length ct) (.slice (some ⟨bm,0,none⟩) (c.A6.toNat * 16) (c.A6.toNat * 16)) (.slice ha (List.replicate c.AB.toNat (⟨[16],0,false,0⟩:Th)).length hcap) (.slice (some ⟨hb,0,none⟩) rvs.length hc2):=by
  have e1:(Sm.start c AU).th.length = rvs.length:=by rw[hth,List.length_replicate]
  have e2:(Sm.start c AU).A0.length = (AN c.A6).length:=etl;have e3:(Sm.start c AU).AO.length = c.A6.toNat * 16:=by show (List.replicate _ _).length = _;rw[List.length_replicate]
  unfold Bg;rw[e1,e2,e3];rfl
 have esd:AV p (Sm.start c AU) g = (p,C BL (eBg c (.slice pa AU.length pc) (.slice (some ⟨bw,0,none⟩) (BH c).length cw) (.slice (some ⟨bt,0,none⟩) (AN c.A6).length ct) (.slice (some ⟨bm,0,none⟩) (c.A6.toNat * 16) (c.A6.toNat * 16)) (.slice ha (List.replicate c.AB.toNat (⟨[16],0,false,0⟩:Th)).length hcap) (.slice (some ⟨hb,0,none⟩) rvs.length hc2))) :: (bw,C AZ ((BH c).map I ++ wsp)) :: (bt,C AD (AW eRg (AT (AN c.A6) 1 ⟨3,-1,24,24,0⟩) ++ tsp)) :: (bm,C Az ((List.replicate (c.A6.toNat * 16) false).map Value.bool ++ [])) :: (hb,C AR ((rvs.map (Ab (thr0 [16] 0 0))).flatten ++ hsp)) :: []:=by
  unfold AV;rw[esim];show _ :: _ :: _ :: _ :: (hb,C AR (DQ (Sm.start c AU).th rvs ++ hsp)) :: [] = _;rw[ezs];rfl
 refine Av [(p,C BL (eBg c (.slice pa AU.length pc) (.slice (some ⟨bw,0,none⟩) (BH c).length cw) (.slice (some ⟨bt,0,none⟩) (AN c.A6).length ct) (.slice (some ⟨bm,0,none⟩) (c.A6.toNat * 16) (c.A6.toNat * 16)) (.slice ha (List.replicate c.AB.toNat (⟨[16],0,false,0⟩:Th)).length hcap) (.slice (some ⟨hb,0,none⟩) rvs.length hc2))),(bw,C AZ ((BH c).map I ++ wsp)),(bt,C AD (AW eRg (AT (AN c.A6) 1 ⟨3,-1,24,24,0⟩) ++ tsp)),(bm,C Az ((List.replicate (c.A6.toNat * 16) false).map Value.bool)),(hb,C AR ((rvs.map (Ab (thr0 [16] 0 0))).flatten ++ hsp))] (G:=F) ?_;refine Au (D':=AV p (Sm.start c AU) g ++ F) (by rw[esd,List.append_nil]) ?_;refine BR (A:=AV p (Sm.start c AU) g) (hR1.trans hR) ⟨p,g,rfl,rfl,?_⟩;have hle:=hR1.trans hR;refine⟨?_,.inl ⟨rfl,rfl,rfl⟩,.inl ⟨rfl,rfl,rfl⟩,.inl ⟨rfl,rfl,rfl⟩,?_,?_,λ_=>rfl,(λb c h=>by cases h),?_,?_,?_,?_,⟨rfl,rfl,rfl⟩,?_,?_,?_⟩
 ·obtain⟨vs,h1,h2,h3⟩:=hp;exact⟨vs,h1.le hle,h2,λi hi=>by obtain⟨x,hx,ho⟩:=h3 i hi;exact⟨x,hx,ho.le hle⟩⟩
 ·rw[hth,List.length_replicate]
 ·intro i h h';have e:((Sm.start c AU).th[i]).A7 = [16]:=by
   simp only[hth,List.getElem_replicate];rfl
  rw[e];exact hrv _ (List.getElem_mem h')
 ·show (BH c).length≤1000;rw[(J3 hcc).2];omega
 ·show (AT (AN c.A6) 1 (⟨3,-1,24,24,0⟩:Rg)).length≤1000;omega
 ·show (List.replicate _ _).length≤1000;rw[List.length_replicate];omega
 ·rw[hth,List.length_replicate];omega
 ·exact hcw
 ·show (AT (AN c.A6) 1 (⟨3,-1,24,24,0⟩:Rg)).length≤ct;omega
 ·show (List.replicate _ _).length≤c.A6.toNat * 16;simp
end Go.Lf
end
section
namespace Go.Lf
open Go Sm
theorem OJ {p n:Nat} {S S' : Sim} {g:Img} {R:RM} (hok:Ok R S g) (hp:Pr S) (hT:TOk S.A0) (hf:S.full = false) (hS:S.pause n = some S') :
  Fn P Cy [.pointer (some ⟨p,0,none⟩)] R (AV p S g) (CT p S' λ_=>True):=by
 refine I4 λF=>?_
 unfold FK;unfold Sim.pause at hS;split at hS
 ·cases hS
 rename_i hz;have hz:S.sz = true:=by simpa using hz
 rw[if_neg (by rw[hf];decide)] at hS;dsimp only at hS;have htl:=hok.tl;have n1:=hT.n1;refine jl (v:=.bool S.full) rfl ?_;rw[hf];refine Cv ?_;refine jss (p:=p) { S with stop:=false } g rfl rfl (by decide) (by rfl) (by rfl) ?_;have ok1:Ok R { S with stop:=false } g:={ hok with };refine jl (v:=I S.col.want) rfl (jeq (jif (λh1=>?_) (λh1=>?_)))
 ·rw[if_pos (eq_of_beq h1)] at hS;simp only[Option.some.injEq] at hS;subst hS;refine jcS (p:=p) (by exact Nw ok1 hz) λ_ R2 g2 hR2 _ ok2=>?_
  exact Aj hR2 trivial rfl ok2
 rw[if_neg (ne_of_beq_false h1)] at hS;refine jeq (jif (λh2=>?_) (λh2=>?_))
 ·rw[if_pos (eq_of_beq h2)] at hS;refine jcS (p:=p) (by exact RG ok1 hp hS) λ_ R2 g2 hR2 _ ok2=>?_
  exact Aj hR2 trivial rfl ok2
 rw[if_neg (ne_of_beq_false h2)] at hS;refine jeq (jif (λh3=>?_) (λh3=>?_));rotate_left
 ·rw[if_neg (ne_of_beq_false h3)] at hS;refine jcS (p:=p) (by exact Sg ok1 hz hT hS) λ_ R2 g2 hR2 _ ok2=>?_
  exact Aj hR2 trivial rfl ok2
 rw[if_pos (eq_of_beq h3)] at hS;unfold Sim.update at hS;obtain⟨_,-,hS⟩:=AA hS;simp only[Option.some.injEq] at hS;refine jss (p:=p) { S with stop:=false,Aa:=3 } g rfl rfl (by decide) (by rfl) (by rfl) ?_;generalize hfn:(λ(i:Int) (x:Rg)=>{ x with AF:=x.top - AG i }) = f at hS;have hfx:∀(k:Nat) (x:Rg),f k x = { x with AF:=x.top - AG k }:=λk x=>by rw[← hfn]
 refine AH (λvs R' D'=>R' = R∧D' = AV p { S with stop:=false,Aa:=3,A0:=rows f S.A0 } g ++ F∧vs = [.pointer (some ⟨p,0,none⟩)]) (λK hK=>?_) ?_;rotate_left
 ·rintro e R1 D1 ⟨hR,hD,he⟩;subst hR;rw[hD];clear hD;simp only[List.map,lc,ln,lj,z_t] at he;simp only[he];refine jl (v:=.bool S.col.Ad) rfl (jl (v:=I S.col.want) rfl ?_);refine jbd (cs:=Af { CB S.col.Ad S.col.want with pc:=6,r:=1,p:=16 } (.slice none 0 0)) rfl rfl ?_;refine jss (p:=p) { S with stop:=false,Aa:=3,A0:=rows f S.A0,col:={ CB S.col.Ad S.col.want with pc:=6,r:=1,p:=16 } } { g with AE:=.slice none 0 0 } rfl rfl (by decide) (by rfl) (by rfl) ?_;subst hS;refine Aj (RM.le.refl R1) trivial rfl ?_;exact { ok1 with AE:=.inl ⟨rfl,rfl,rfl⟩,tl:=by simpa [rows] using hok.tl,tk:=by simpa [rows] using hok.tk }
 refine AH (λvs R' D'=>R' = R∧D' = AV p { S with stop:=false,Aa:=3,A0:=rows f S.A0 } g ++ F∧vs = [.pointer (some ⟨p,0,none⟩)]) (λK2 hK2=>?_) ?_;rotate_left
 ·rintro e R1 D1 ⟨hR,hD,he⟩;rw[hD];clear hD;simp only[List.map,lc,ln,lj,z_t] at he;simp only[he];exact hK _ _ _ ⟨hR,rfl,rfl⟩
 refine jlp (λm vs R' D'=>R' = R∧∃k:Nat,1≤k∧k≤S.A0.length + 1∧D' = AV p { S with stop:=false,Aa:=3,A0:=BP f k S.A0 } g ++ F∧vs = [.pointer (some ⟨p,0,none⟩),I k]∧m = S.A0.length + 1 - k)
  (n:=S.A0.length) ⟨rfl,1,z_n 1,by omega,by rw[GE],rfl,by omega⟩ ?_
 rintro m e R4 D4 K3 ⟨hR4,k,k0,k1,hD,he,hm⟩ hK3;subst hR4;rw[hD];clear hD;simp only[List.map,lc,ln,lj,z_t] at he;simp only[he];refine jl (v:=.slice (some ⟨g.tb,0,none⟩) (BP f k S.A0).length g.tc) rfl (jln (jlt (jif (λhc=>?_) (λhc=>?_))));rotate_left
 ·have hc:S.A0.length≤k:=by have:=z_g hc;rw[C0] at this;omega
  refine hK2 _ _ _ ⟨rfl,?_,rfl⟩;rw[G9 hc]
 have hc:k < S.A0.length:=by have:=z_f hc;rw[C0] at this;omega
 have RR:=hT.row k (by omega) (by omega);have t0:=RR.t0;have t1:=RR.t1;rw[Ch hc] at t0 t1;have hbase:=CZ (r:=(k:Int)) (by omega) (by omega);refine jl (v:=.slice (some ⟨g.tb,0,none⟩) (BP f k S.A0).length g.tc) rfl (Bc (by rw[C0];exact hc) ?_);refine OD (p:=p) (by simpa using hc) ?_;rw[show ({ S with stop:=false,Aa:=3,A0:=BP f k S.A0 }:Sim).A0[k]'(by simpa using hc) = S.A0[k] from GB (f:=f) hc];refine ja λb5=>?_
 refine js (cs':=eRg (S.A0[k])) rfl rfl (by simp) rfl ?_;refine jfo (jl (v:=I (S.A0[k]).top) rfl (jp (BA k) (DE ⟨by omega,by omega⟩ ?_)));refine jfo (Ae (jl (v:=I (S.A0[k]).top) rfl jev) ?_);refine js (cs':=eRg { S.A0[k] with AF:=(S.A0[k]).top - AG k }) rfl rfl (by simp) rfl ?_;refine jl (v:=.slice (some ⟨g.tb,0,none⟩) (BP f k S.A0).length g.tc) rfl ?_;refine jla (l:=eRg { S.A0[k] with AF:=(S.A0[k]).top - AG k }) (by simp) rfl ?_;refine Bc (by rw[C0];exact hc) ?_;refine Q3 (p:=p) (x:={ S.A0[k] with AF:=(S.A0[k]).top - AG k }) { S with stop:=false,Aa:=3,A0:=BP f (k + 1) S.A0 } (by simpa using hc) (by rw[← GJ k0 hc,hfx]) ?_;refine Ac ⟨by omega,by omega⟩ ?_;refine Av (AV p { S with stop:=false,Aa:=3,A0:=BP f (k + 1) S.A0 } g) (G:=F) ?_;exact hK3 (S.A0.length + 1 - (k + 1)) _ _ _ (by omega) ⟨rfl,k + 1,by omega,by omega,rfl,rfl,rfl⟩
end Go.Lf
end
section
namespace Go.Lf
open Go Sm
theorem NP {p n:Nat} {S S' : Sim} {g:Img} {R:RM} (hok:Ok R S g) (hpz:∀R g S1,Ok R S g→S.pause n = some S1→Fn P Cy [.pointer (some ⟨p,0,none⟩)] R (AV p S g) (CT p S1 λ_=>True)) (hS:S.collector n = some S') :
  Fn P Ek [.pointer (some ⟨p,0,none⟩)] R (AV p S g) (CT p S' λ_=>True):=by
 refine Ih λF=>?_
 unfold Ei;unfold Sim.collector at hS;refine jl (v:=.bool S.stop) rfl (jif (λh0=>?_) (λh0=>?_))
 ·rw[if_pos h0] at hS;refine jcS (p:=p) (by exact Ul hok) λ_ R2 g2 hR2 hr ok2=>?_
  subst hr;refine jif (λhc=>?_) (λhc=>?_)
  ·rw[if_pos hc] at hS;refine jcS (p:=p) (by exact hpz R2 g2 S' ok2 hS) λ_ R3 g3 hR3 _ ok3=>?_
   exact Aj (hR2.trans hR3) trivial rfl ok3
  ·rw[if_neg (by rw[hc];decide)] at hS;simp only[Option.some.injEq] at hS;subst hS;exact Aj hR2 trivial rfl ok2
 rw[if_neg (by rw[h0];decide)] at hS;refine jl (v:=I S.Aa) rfl (jeq (jif (λh1=>?_) (λh1=>?_)))
 ·rw[if_pos (eq_of_beq h1)] at hS;refine jl (v:=.bool S.col.Ad) rfl (jif (λh2=>?_) (λh2=>?_))
  ·rw[if_pos h2] at hS;refine HS (p:=p) hok λb=>?_
   obtain⟨a,cap,hsv,-⟩:=B9.reads (D:=[]) hok.AE;have hst0:=hok.AE;rw[hsv] at hst0 ⊢;refine js (cs':=Af { S.col with Ad:=false } (.slice a S.col.AE.length cap)) rfl rfl (by simp[Af]) rfl ?_;refine js (cs':=Af { S.col with Ad:=false,want:=1 } (.slice a S.col.AE.length cap)) rfl rfl (by simp[Af]) rfl ?_;refine Ga (p:=p) { S with col:={ S.col with Ad:=false,want:=1 } } (by exact hok) (by exact hst0) (by rfl) λg3 ok3=>?_
   refine jss (p:=p) { S with stop:=true,col:={ S.col with Ad:=false,want:=1 } } g3 rfl rfl (by decide) (by rfl) (by rfl) ?_;simp only[Option.some.injEq] at hS;subst hS;exact Aj (RM.le.refl R) trivial rfl { ok3 with }
  ·rw[if_neg (by rw[h2];decide)] at hS;simp only[Option.some.injEq] at hS;subst hS;exact Aj (RM.le.refl R) trivial rfl hok
 ·rw[if_neg (ne_of_beq_false h1)] at hS;refine jss (p:=p) { S with used:=false } g rfl rfl (by decide) (by rfl) (by rfl) ?_;refine jlp (λm vs R' D'=>R.le R'∧∃S1 g1,Ok R' S1 g1∧Sim.cloop m S1 = some S'∧D' = AV p S1 g1 ++ F∧vs = [.pointer (some ⟨p,0,none⟩)])
   (n:=n) ⟨RM.le.refl R,{ S with used:=false },g,{ hok with },hS,rfl,rfl⟩ ?_
  rintro m e R1 D1 K3 ⟨hR1,S1,g1,ok1,hdr,hD,he⟩ hK3;rw[hD];clear hD;simp only[List.map,lc,ln,lj,z_t] at he;simp only[he];cases m with
  | zero=>cases hdr
  | succ m=>
  unfold Sim.cloop at hdr;refine jan [.pointer (some ⟨p,0,none⟩)] ((!S1.used) && (!S1.stop)) (λK' hK'=>?_) (λe c u ho he=>?_)
  ·refine jl (v:=.bool S1.used) rfl (Bj (λh1=>?_) (λh1=>?_))
   ·refine jl (v:=.bool S1.stop) rfl (hK' _ _ _ (h1▸Aq) (by rw[h1,Bool.true_and]))
   ·exact hK' _ _ _ (h1▸As) (by rw[h1,Bool.false_and])
  simp only[List.map,lc,ln,lj,z_t] at he;simp only[he];rw[ho];refine jif (λhc=>?_) (λhc=>?_)
  ·rw[if_pos hc] at hdr;obtain⟨S2,h2,hdr⟩:=AA hdr;refine jcS (p:=p) (by exact U2 ok1 h2) λ_ R2 g2 hR2 _ ok2=>?_
   exact hK3 m _ _ _ (by omega) ⟨hR1.trans hR2,S2,g2,ok2,hdr,rfl,rfl⟩
  ·rw[if_neg (by rw[hc];decide)] at hdr;simp only[Option.some.injEq] at hdr;subst hdr;exact Aj hR1 trivial rfl ok1
theorem Rj {p:Nat} {S S' : Sim} {g:Img} {a:Int} {R:RM} (hok:Ok R S g) (ha:inR a) (hpz:∀R g S1,Ok R S g→S.pause S.fuel = some S1→Fn P Cy [.pointer (some ⟨p,0,none⟩)] R (AV p S g) (CT p S1 λ_=>True)) (hS:S.pick a = some S') :
  Fn P GA [.pointer (some ⟨p,0,none⟩),I a] R (AV p S g) (CT p S' λ_=>True):=by
 refine Nx λF=>?_
 unfold KO;unfold Sim.pick at hS;have hhl:=hok.hl;refine jl (v:=.slice (some ⟨g.hb,0,none⟩) S.th.length g.hc) rfl (jln ?_);refine jan [.pointer (some ⟨p,0,none⟩),I a,I S.th.length] ((decide (a≥0)) && (decide (a < S.th.length))) (λK' hK'=>?_) (λe c u ho he=>?_)
 ·refine jge (Bj (λh1=>?_) (λh1=>?_))
  ·refine jlt (hK' _ _ _ (h1▸Aq) (by rw[h1,Bool.true_and]))
  ·exact hK' _ _ _ (h1▸As) (by rw[h1,Bool.false_and])
 simp only[List.map,lc,ln,lj,z_t] at he;simp only[he];rw[ho];refine jif (λhc=>?_) (λhc=>?_)
 ·simp only[z_b,z_d] at hc;rw[if_pos ⟨by omega,by omega⟩] at hS;refine jcS (p:=p) (by exact S4 hok hS) λ_ R2 g2 hR2 _ ok2=>?_
  exact Aj hR2 trivial rfl ok2
 have hc:¬ (0≤a∧a < S.th.length):=by
  intro h;simp[h.1,h.2] at hc
 rw[if_neg hc] at hS;refine jeq (jif (λh1=>?_) (λh1=>?_))
 ·rw[if_pos (eq_of_beq h1)] at hS;refine jcS (p:=p) (by exact NP hok hpz hS) λ_ R2 g2 hR2 _ ok2=>?_
  exact Aj hR2 trivial rfl ok2
 rw[if_neg (ne_of_beq_false h1)] at hS;refine Ac ⟨by omega,by omega⟩ (jeq (jif (λh2=>?_) (λh2=>?_)))
 ·rw[if_pos (eq_of_beq h2)] at hS;simp only[Option.some.injEq] at hS;refine jss (p:=p) { S with col:={ S.col with Ad:=true } } g rfl rfl (by decide) (by rfl) (by rfl) ?_;subst hS;exact Aj (RM.le.refl R) trivial rfl { hok with }
 ·rw[if_neg (ne_of_beq_false h2)] at hS;simp only[Option.some.injEq] at hS;subst hS;exact Aj (RM.le.refl R) trivial rfl hok
end Go.Lf
end
section
namespace Go.Lf
open Go Sm
theorem jpg {R:RM} {D:Chs} {pv:Value} {AU:List (List Sm.Op)} {i:Nat} {k:Value→M} (hp:Dg R pv AU) (hi:i < AU.length) (H:∀x,Ops R x (AU[i])→J R D (k x)):J R D (IA 1 pv (I (i:Int)) λq=>L1 q k):=by
 obtain⟨vs,hf,hl,Bi⟩:=hp;obtain⟨x,hx,ho⟩:=Bi i hi;rcases hf with ⟨_,h2,_⟩ | ⟨b,o,cap,t,cs,rfl,h2,h3,h4,h5⟩
 ·omega
 ·refine jia (by omega) (by omega) ?_;rw[Int.toNat_natCast,Nat.mul_one];exact jlr h2 (CJ h4 hx) (H x ho)
theorem L6 {R:RM} {D:Chs} {c0:Cfg} {pv kv:Value} {AU:List (List Sm.Op)} {picks:List Int} (hp:Dg R pv AU) (hk:B9 R kv picks) :
  Ro IB [.agg #[I c0.A6,I c0.AB,I c0.AI],pv,kv] (.bool (CK c0 AU picks)) R D:=by
 refine NV λF=>?_
 unfold Ic;obtain⟨vs,hpf,-,-⟩:=id hp;have hps:=hpf.sl;refine ja λb=>?_
 rw[show cl (.agg #[I c0.A6,I c0.AB,I c0.AI]) = [I c0.A6,I c0.AB,I c0.AI] from rfl];refine jor [pv,kv] ((!BJ c0) || (((AU.length:Int) != c0.AB))) (λK' hK'=>?_) (λe c u ho he=>?_)
 ·refine jla (l:=[I c0.A6,I c0.AB,I c0.AI]) (by simp) rfl (jp (JY c0) (BW (λh1=>?_) (λh1=>?_)))
  ·refine Co hps (jfo (jl (v:=I c0.AB) rfl (jne (hK' _ _ _ (h1▸Ar) (by rw[h1,Bool.false_or])))))
  ·exact hK' _ _ _ (h1▸B7) (by rw[h1,Bool.true_or])
 simp only[List.map,lc,ln,lj,z_t] at he;simp only[he];refine jor [pv] ((!BJ c0 || ((AU.length:Int) != c0.AB)) || (decide ((picks.length:Int) > 4000))) (λK' hK'=>?_) (λe c u ho he=>?_)
 ·rw[ho];refine BW (λh1=>?_) (λh1=>?_)
  ·refine Co hk.sl (jgr (hK' _ _ _ (h1▸Ar) (by rw[h1,Bool.false_or])))
  ·exact hK' _ _ _ (h1▸B7) (by rw[h1,Bool.true_or])
 simp only[List.map,lc,ln,lj,z_t] at he;simp only[he];rw[ho];refine jif (λh0=>?_) (λh0=>?_)
 ·refine BV ?_;have:CK c0 AU picks = false:=by
   unfold CK;simp only[Bool.or_eq_true,Bool.not_eq_true',bne_iff_ne,ne_eq,z_d] at h0;rcases h0 with (h0 | h0) | h0
   ·rw[h0];simp
   ·rw[decide_eq_false h0];simp
   ·rw[decide_eq_false (show ¬ picks.length≤4000 by omega)];simp
  rw[this]
 have e0:CK c0 AU picks = AU.all λp=>decide (p.length≤40):=by
  simp only[Bool.or_eq_false_iff,Bool.not_eq_false',bne_eq_false_iff_eq,decide_eq_false_iff_not] at h0;unfold CK;rw[h0.1.1,decide_eq_true h0.1.2,decide_eq_true (show picks.length≤4000 by omega)];simp
 rw[e0];have hpl:AU.length≤3:=by
  simp only[Bool.or_eq_false_iff,Bool.not_eq_false',bne_eq_false_iff_eq,decide_eq_false_iff_not] at h0;have h1:=h0.1.1;unfold BJ at h1;simp only[z_b,z_d] at h1;omega
 refine jlp (λm vs R' D'=>R' = R∧D' = (b,C 67 [I c0.A6,I c0.AB,I c0.AI]) :: (D ++ F)∧∃i:Nat,i≤AU.length∧vs = [pv,I i]∧m = AU.length - i∧(AU.drop i).all (λp=>decide (p.length≤40)) = AU.all λp=>decide (p.length≤40))
  (n:=AU.length) ⟨rfl,rfl,0,by omega,rfl,by omega,by rw[List.drop_zero]⟩ ?_
 rintro m e R1 D1 K ⟨hR1,hD,i,hi,he,hm,Bi⟩ hK;subst hR1;rw[hD];clear hD;simp only[List.map,lc,ln,lj,z_t] at he;simp only[he];refine Co hps (jlt (jif (λhc=>?_) (λhc=>?_)))
 ·have hc:i < AU.length:=by have:=z_f hc;omega
  rw[List.drop_eq_getElem_cons hc,List.all_cons] at Bi;refine jpg hp hc λx hx=>Co (Fz.sl hx) (jgr (jif (λhq=>?_) (λhq=>?_)))
  ·refine BV ?_;have hq:=z_f hq;rw[← Bi,decide_eq_false (by omega),Bool.false_and]
  ·have hq:=z_g hq;rw[decide_eq_true (by omega),Bool.true_and] at Bi;refine Ac ⟨by omega,by omega⟩ ?_;exact hK (AU.length - (i + 1)) _ _ _ (by omega) ⟨rfl,rfl,i + 1,by omega,rfl,rfl,Bi⟩
 ·have hc:=z_g hc;refine BV ?_;rw[← Bi,List.drop_eq_nil_of_le (by omega)];rfl
end Go.Lf
end
section
namespace Go.Lf
open Go Sm
theorem Jb:∀(l:List Int) (a:Int) {S S1 S2:Sim},Sim.picks l S = some S1→S1.pick a = some S2→Sim.picks (l ++ [a]) S = some S2
 | [],a,S,S1,S2,h1,h2=>by
  unfold Sim.picks at h1;cases h1;show (S.pick a >>= λx=>Sim.picks [] x) = _;rw[h2];rfl
 | b :: l,a,S,S1,S2,h1,h2=>by
  unfold Sim.picks at h1;obtain⟨S3,h3,h1⟩:=AA h1;show (S.pick b >>= λx=>Sim.picks (l ++ [a]) x) = _;rw[h3];exact Jb l a h1 h2
theorem MY {R:RM} {c0:Cfg} {pv kv:Value} {AU:List (List Sm.Op)} {picks:List Int} {S' : Sim} (hp:Dg R pv AU) (hk:B9 R kv picks) (hok:CK c0 AU picks = true) (ha:∀a∈picks,inR a)
  (hS:Sim.picks picks (Sm.start c0 AU) = some S') (hz:S'.sz = true)
  (hpz:∀i S,Sim.picks (picks.take i) (Sm.start c0 AU) = some S→∀p R g S1,Ok R S g→S.pause S.fuel = some S1→Fn P Cy [.pointer (some ⟨p,0,none⟩)] R (AV p S g) (CT p S1 λ_=>True)) :
  Fn P EE [.agg #[I c0.A6,I c0.AB,I c0.AI],pv,kv] R [] (λv R' A=>∃p g rows thv A',Ok R' S' g∧Rw (CY R') rows S'.view.AB∧SW 78 4 rows thv A'∧A = A' ++ AV p S' g∧
   v = .tuple #[.agg (eSt S'.view (wS S' g) (tS S' g) (mS S' g) thv g.old g.AQ).toArray,evV S' g]):=by
 refine L2 λF=>?_
 unfold FV;have hcf:BJ c0 = true:=by
  unfold CK at hok;simp only[z_b] at hok;exact hok.1.1.1
 have hpl:picks.length≤4000:=by
  unfold CK at hok;simp only[z_b,z_d] at hok;exact hok.1.2
 refine ja λb1=>?_
 rw[show cl (.agg #[I c0.A6,I c0.AB,I c0.AI]) = [I c0.A6,I c0.AB,I c0.AI] from rfl];refine ja λb2=>?_
 refine jla (l:=[I c0.A6,I c0.AB,I c0.AI]) (by simp) rfl ?_;refine jro (L6 hp hk) ?_;rw[hok];refine Cv (jla (l:=[I c0.A6,I c0.AB,I c0.AI]) (by simp) rfl ?_);refine jc (A:=[]) (LJ hcf hp) ?_;rintro _ R1 _ hR1 ⟨p,g,rfl,rfl,ok⟩;refine AH (λvs R' D'=>R.le R'∧∃g1,Ok R' S' g1∧D' = AV p S' g1 ++ (b2,C AM (cl z58)) :: F∧vs = [.pointer (some ⟨b2,0,none⟩),.pointer (some ⟨p,0,none⟩)]) (λK hK=>?_) ?_
 ·refine AH (λvs R' D'=>R.le R'∧∃g1,Ok R' S' g1∧D' = AV p S' g1 ++ (b2,C AM (cl z58)) :: F∧vs = [.pointer (some ⟨b2,0,none⟩),.pointer (some ⟨p,0,none⟩)]) (λK2 hK2=>?_) ?_;rotate_left
  ·rintro e R2 D2 ⟨hR,g1,ok1,hD,he⟩;rw[hD];clear hD;simp only[List.map,lc,ln,lj,z_t] at he;simp only[he];exact hK _ _ _ ⟨hR,g1,ok1,rfl,rfl⟩
  refine Av (AV p (Sm.start c0 AU) g) (G:=(b2,C AM (cl z58)) :: (b1,C 67 [I c0.A6,I c0.AB,I c0.AI]) :: ([] ++ F)) ?_;refine jlp (λm vs R' D'=>R.le R'∧∃(i:Nat) (S1:Sim) (g1:Img),i≤picks.length∧Sim.picks (picks.take i) (Sm.start c0 AU) = some S1∧Sim.picks (picks.drop i) S1 = some S'∧Ok R' S1 g1∧D' = AV p S1 g1 ++ (b2,C AM (cl z58)) :: (b1,C 67 [I c0.A6,I c0.AB,I c0.AI]) :: ([] ++ F)∧vs = [kv,.pointer (some ⟨b2,0,none⟩),.pointer (some ⟨p,0,none⟩),I i]∧m = picks.length - i)
   (n:=picks.length) ⟨hR1,0,Sm.start c0 AU,g,by omega,rfl,by rw[List.drop_zero];exact hS,ok,rfl,rfl,by omega⟩ ?_
  rintro m e R2 D2 K3 ⟨hR,i,S1,g1,hi,hpk,hrest,ok1,hD,he,hm⟩ hK3;rw[hD];clear hD;simp only[List.map,lc,ln,lj,z_t] at he;simp only[he];have hk2:=hk.le hR;refine Co hk2.sl (jlt (jif (λhc=>?_) (λhc=>?_)));rotate_left
  ·have hc:=z_g hc;rw[List.drop_eq_nil_of_le (by omega)] at hrest;unfold Sim.picks at hrest;cases hrest;refine Au (D':=(b1,C 67 [I c0.A6,I c0.AB,I c0.AI]) :: (AV p S' g1 ++ (b2,C AM (cl z58)) :: F)) ?_ (CR ?_)
   ·rw[ln];exact ((List.Perm.swap _ _ _).append_left _).trans List.perm_middle
   exact hK2 _ _ _ ⟨hR,g1,ok1,rfl,rfl⟩
  have hc:i < picks.length:=by have:=z_f hc;omega
  rw[List.drop_eq_getElem_cons hc] at hrest;unfold Sim.picks at hrest;obtain⟨S2,h2,hrest⟩:=AA hrest;refine CN hk2 (by omega) (by omega) ?_;rw[getElem_congr_idx (Int.toNat_natCast i)];refine jcS (p:=p) (by exact Rj ok1 (ha _ (List.getElem_mem hc)) (hpz i S1 hpk p) h2) λ_ R3 g3 hR3 _ ok3=>?_
  refine Ac ⟨by omega,by omega⟩ ?_;refine hK3 (picks.length - (i + 1)) _ _ _ (by omega) ⟨hR.trans hR3,i + 1,S2,g3,by omega,?_,hrest,ok3,rfl,rfl,rfl⟩;rw[List.take_succ_eq_append_getElem hc];exact Jb _ _ hpk h2
 rintro e R2 D2 ⟨hR,g1,ok1,hD,he⟩;rw[hD];clear hD;simp only[List.map,lc,ln,lj,z_t] at he;simp only[he];refine jl (v:=evV S' g1) rfl ?_;refine jc (A:=AV p S' g1) (PP ok1 hz) ?_;rintro _ R3 _ hR3 ⟨rows,thv,A',hrw,so,rfl,rfl⟩;obtain⟨ta,tc,htv⟩:=so.sl;have hfl:flat thv = true:=by rw[htv];rfl
 have el:eSt S'.view (wS S' g1) (tS S' g1) (mS S' g1) thv g1.old g1.AQ = eVw S' g1 (.bool S'.col.Ad) (I S'.col.want) thv:=rfl;rw[el,List.append_assoc];refine Ae (jl (v:=evV S' g1) rfl jev) ?_;refine js (cs':=eVw S' g1 (.bool S'.col.Ad) (I S'.col.want) thv) rfl (KK ok1 rfl rfl hfl) (by exact z_n 13) rfl ?_;refine Ae (jl (v:=evV S' g1) rfl jev) ?_;refine jla (l:=eVw S' g1 (.bool S'.col.Ad) (I S'.col.want) thv) (by exact z_n 13) rfl ?_;refine Au (D':=(A' ++ AV p S' g1) ++ ((b2,C AM (eVw S' g1 (.bool S'.col.Ad) (I S'.col.want) thv)) :: F)) (by rw[List.append_assoc]) ?_;exact BR (A:=A' ++ AV p S' g1) (hR.trans hR3) ⟨p,g1,rows,thv,A',ok1.le hR3,hrw,so,rfl,rfl⟩
end Go.Lf
end
section
namespace Go.Lf
open Go Sm
def l7d (e24:Env) (K:Value→M):M:=
 CUT [2,19] (λJe25=>CUT [2,19] (λJe28=>LP [1,2,3,5,9,19,20] (λKe29 e29=>FO 8 (e29 1) λx30=>L1 x30 λx31=>LN x31 λx32=>BO .lss (e29 20) x32 λx33=>IF x33 (FO 8 (e29 1) λx34=>L1 x34 λx35=>IA 4 x35 (e29 20) λx36=>FO 1 x36 λx37=>L1 x37 λx38=>FO 8 (e29 1) λx39=>L1 x39 λx40=>IA 4 x40 (e29 20) λx41=>FO 3 x41 λx42=>L1 x42 λx43=>BD (cl z78) [(1,1,x38),(3,1,x43)] λx44=>AL 78 z78 λx45=>AND (L1 x34 λx46=>EV x46 x35)<|AND (L1 x37 λx47=>EV x47 x38)<|AND (L1 x39 λx48=>EV x48 x40)<|AND (L1 x42 λx49=>EV x49 x43)<|ST 4 x45 x44<|CUT [1,2,3,5,9,19,20,21] (λJe50=>FO 3 x45 λx94=>L1 x94 λx95=>BO .eql x95 (I 1) λx96=>IF x96 (FO 3 x45 λx97=>ST 1 x97 (I 2)<|Je50 [(e29 1),(e29 2),(e29 3),(e29 5),(e29 9),(e29 19),(e29 20),x45]) (Je50 [(e29 1),(e29 2),(e29 3),(e29 5),(e29 9),(e29 19),(e29 20),x45])) λe50=>CUT [1,2,3,5,9,19,20,21] (λJe51=>CUT [1,2,3,5,9,19,20,21] (λJe59=>LP [1,2,3,5,9,19,20,21,22] (λKe60 e60=>FO 8 (e60 1) λx61=>L1 x61 λx62=>IA 4 x62 (e60 20) λx63=>FO 0 x63 λx64=>L1 x64 λx65=>LN x65 λx66=>BO .lss (e60 22) x66 λx67=>IF x67 (CUT [1,2,3,5,9,19,20,21,22] (λJe68=>CUT [1,2,3,5,9,19,20,21,22] (λJe70=>FO 8 (e60 1) λx71=>L1 x71 λx72=>IA 4 x72 (e60 20) λx73=>FO 0 x73 λx74=>L1 x74 λx75=>IA 1 x75 (e60 22) λx76=>L1 x76 λx77=>CA P 121 [(e60 3),x77] λx78=>CA P 120 [(e60 5),x78] λx79=>BO .lss x79 (I 0) λx80=>IF x80 (FO 0 (e60 21) λx81=>L1 x81 λx82=>BS 3 1 (ZR 1 z3) [(0,1,(I 0))] λx83=>AP 3 1 8 (cl z3) x82 x83 λx84=>FO 0 (e60 21) λx85=>ST 1 x85 x84<|Je70 [(e60 1),(e60 2),(e60 3),(e60 5),(e60 9),(e60 19),(e60 20),(e60 21),(e60 22)]) (FO 0 (e60 21) λx86=>L1 x86 λx87=>IA 1 (e60 9) x79 λx88=>L1 x88 λx89=>BS 3 1 (ZR 1 z3) [(0,1,x89)] λx90=>AND (L1 x86 λx91=>EV x91 x87)<|AP 3 1 8 (cl z3) x87 x90 λx92=>FO 0 (e60 21) λx93=>ST 1 x93 x92<|Je70 [(e60 1),(e60 2),(e60 3),(e60 5),(e60 9),(e60 19),(e60 20),(e60 21),(e60 22)])) λe70=>Je68 [(e70 1),(e70 2),(e70 3),(e70 5),(e70 9),(e70 19),(e70 20),(e70 21),(e70 22)]) λe68=>BO .add (e68 22) (I 1) λx69=>Ke60 [(e68 1),(e68 2),(e68 3),(e68 5),(e68 9),(e68 19),(e68 20),(e68 21),x69]) (Je59 [(e60 1),(e60 2),(e60 3),(e60 5),(e60 9),(e60 19),(e60 20),(e60 21)])) [(e50 1),(e50 2),(e50 3),(e50 5),(e50 9),(e50 19),(e50 20),(e50 21),(I 0)]) λe59=>Je51 [(e59 1),(e59 2),(e59 3),(e59 5),(e59 9),(e59 19),(e59 20),(e59 21)]) λe51=>FO 8 (e51 19) λx52=>L1 x52 λx53=>LA 4 (e51 21) λx54=>BS 78 1 (ZR 1 z78) [(0,4,x54)] λx55=>AP 78 4 48 (cl z78) x53 x55 λx56=>FO 8 (e51 19) λx57=>ST 1 x57 x56<|BO .add (e51 20) (I 1) λx58=>Ke29 [(e51 1),(e51 2),(e51 3),(e51 5),(e51 9),(e51 19),x58]) (Je28 [(e29 2),(e29 19)])) [(e24 1),(e24 2),(e24 3),(e24 5),(e24 9),(e24 19),(I 0)]) λe28=>Je25 [(e28 2),(e28 19)]) λe25=>LA 13 (e25 19) λx26=>ST 13 (e25 2) x26<|LA 13 (e25 2) λx27=>K x27
theorem JT {l:List Am} {AF to_:List Int} {t:Th} {r ths:List Th} (h:DH l AF to_ (t :: r) = some ths):∃A7 rest,Cm l AF to_ t.A7 = some A7∧DH l AF to_ r = some rest∧ths = ⟨A7,t.next,false,if t.BC = 1 then 2 else t.BC⟩ :: rest:=by
 unfold DH at h;obtain⟨A7,h1,h⟩:=AA h;obtain⟨rest,h2,h⟩:=AA h;simp only[Option.some.injEq] at h;exact⟨A7,rest,h1,h2,h.symm⟩
theorem MF {l:List Am} {AF to_:List Int} {a:Int} {r out:List Int} (h:Cm l AF to_ (a :: r) = some out):∃z b rest,now l a = some z∧(if Bf AF z < 0 then some 0 else idx to_ (Bf AF z)) = some b∧Cm l AF to_ r = some rest∧out = b :: rest:=by
 unfold Cm at h;obtain⟨z,h1,h⟩:=AA h;obtain⟨b,h2,h⟩:=AA h;obtain⟨rest,h3,h⟩:=AA h;simp only[Option.some.injEq] at h;exact⟨z,b,rest,h1,h2,h3,h.symm⟩
theorem U5 {R:RM} {E:Chs} {s s' : Sm.CL} {wv tv mv thv ov pv lv v9 v w t m pv' : Value} {l:List Am} {AF to_:List Int} {ths:List Th} {b1 b2 b19:Nat} {e:Env} {K:Value→M}
  (h:StC R s wv tv mv thv ov pv) (hlv:Tgs R lv l) (hll:l.length < 1000000) (hlive:B9 R v9 AF) (hlvl:AF.length < 1000000) (hto:B9 R v to_) (hths:DH l AF to_ s.AB = some ths) (hn:s.AB.length < 1000000) (hrl:∀t∈s.AB,t.A7.length < 1000000)
  (ea1:At E b1 (C AM (eSt s wv tv mv thv ov pv))) (he:[e 1,e 2,e 3,e 5,e 9,e 19] = [.pointer (some ⟨b1,0,none⟩),.pointer (some ⟨b2,0,none⟩),lv,v9,v,.pointer (some ⟨b19,0,none⟩)])
  (hf:∀x,flat x = true→Bz (eSt s' w t m x (.slice none 0 0) pv') = true)
  (H:∀R' x,R.le R'→Ths R' x ths→J R' ((b19,C AM (eSt s' w t m x (.slice none 0 0) pv')) :: (b2,C AM (eSt s' w t m x (.slice none 0 0) pv')) :: E) (K (.agg (eSt s' w t m x (.slice none 0 0) pv').toArray))) :
  J R ((b19,C AM (eSt s' w t m (.slice none 0 0) (.slice none 0 0) pv')) :: (b2,C AM (cl z58)) :: E) (l7d e K):=by
 unfold l7d;simp only[lj,z_t] at he;simp only[he];refine AH (λvs R' D'=>R.le R'∧∃rows x A,Rw (CY R') rows ths∧SW 78 4 rows x A∧D' = A ++ (b19,C AM (eSt s' w t m x (.slice none 0 0) pv')) :: (b2,C AM (cl z58)) :: E∧vs = [.pointer (some ⟨b2,0,none⟩),.pointer (some ⟨b19,0,none⟩)]) (λK1 hK1=>?_) ?_;rotate_left
 ·rintro e R1 D1 ⟨hR,rows,x,A,hrw,so,hD,he⟩;rw[hD];clear hD;simp only[List.map,lc,ln,lj,z_t] at he;simp only[he];obtain⟨sa,sc,hsl⟩:=so.sl;subst hsl;refine jfw so (hrw.all λ_ _=>CY.len) λR3 hR3 hfz=>?_
  refine jla (l:=eSt s' w t m (.slice sa rows.length sc) (.slice none 0 0) pv') (by exact z_n 13) rfl ?_;refine js (cs':=eSt s' w t m (.slice sa rows.length sc) (.slice none 0 0) pv') rfl (hf _ rfl) (by exact z_n 13) rfl ?_;refine jla (l:=eSt s' w t m (.slice sa rows.length sc) (.slice none 0 0) pv') (by exact z_n 13) rfl ?_;exact H R3 _ (hR.trans hR3) ⟨rows,hrw.mono λ_ _=>CY.le hR3,hfz⟩
 refine AH (λvs R' D'=>R.le R'∧∃rows x A,Rw (CY R') rows ths∧SW 78 4 rows x A∧D' = A ++ (b19,C AM (eSt s' w t m x (.slice none 0 0) pv')) :: (b2,C AM (cl z58)) :: E∧vs = [.pointer (some ⟨b2,0,none⟩),.pointer (some ⟨b19,0,none⟩)]) (λK2 hK2=>?_) ?_;rotate_left
 ·rintro e R1 D1 ⟨hR,rows,x,A,hrw,so,hD,he⟩;rw[hD];clear hD;simp only[List.map,lc,ln,lj,z_t] at he;simp only[he];exact hK1 _ _ _ ⟨hR,rows,x,A,hrw,so,rfl,rfl⟩
 refine jlp (λmm vs R' D'=>R.le R'∧∃(i:Nat) (done rest:List Th) (rows:List (List Value)) (x:Value) (A:Chs),i≤s.AB.length∧DH l AF to_ (s.AB.drop i) = some rest∧ths = done ++ rest∧done.length = i∧Rw (CY R') rows done∧SW 78 4 rows x A∧D' = A ++ (b19,C AM (eSt s' w t m x (.slice none 0 0) pv')) :: (b2,C AM (cl z58)) :: E∧vs = [.pointer (some ⟨b1,0,none⟩),.pointer (some ⟨b2,0,none⟩),lv,v9,v,.pointer (some ⟨b19,0,none⟩),I i]∧mm = s.AB.length - i)
  (n:=s.AB.length) ⟨RM.le.refl R,0,[],ths,[],.slice none 0 0,[],by omega,hths,rfl,rfl,Rw.nil,.inl ⟨rfl,rfl,rfl⟩,rfl,rfl,by omega⟩ ?_
 rintro mm e R1 D1 K3 ⟨hR,i,done,rest,rows,x,A,hi,hnt,hdr,hdl,hrw,so,hD,he,hm⟩ hK3;rw[hD];clear hD;simp only[List.map,lc,ln,lj,z_t] at he;simp only[he];have h1:=h.le hR;have hlv1:=hlv.le hR;have hlive1:=hlive.le hR;have hto1:=hto.le hR;refine jl (v:=thv) rfl (Co h1.th.sl (jlt (jif (λhc=>?_) (λhc=>?_))));rotate_left
 ·have hc:=z_g hc;rw[List.drop_eq_nil_of_le (by omega)] at hnt;have:rest = []:=by unfold DH at hnt;simpa using hnt.symm
  subst this;rw[List.append_nil] at hdr;subst hdr;exact hK2 _ _ _ ⟨hR,rows,x,A,hrw,so,rfl,rfl⟩
 have hc:i < s.AB.length:=by have:=z_f hc;omega
 rw[List.drop_eq_getElem_cons hc] at hnt;obtain⟨A7,rest2,hroots,hrest2,rfl⟩:=JT hnt;have hri:=hrl _ (List.getElem_mem hc);refine jl (v:=thv) rfl (jtr h1.th hc λb3 o3 ty cs rv hrv hb3 ho3 hrow3=>?_);refine jfo (jlr (v:=I (s.AB[i]).next) hb3 (CJ hrow3 (f:=1) rfl) ?_);refine jl (v:=thv) rfl (jtr h1.th hc λb4 o4 ty4 cs4 rv4 hrv4 hb4 ho4 hrow4=>?_);refine jfo (jlr (v:=I (s.AB[i]).BC) hb4 (CJ hrow4 (f:=3) rfl) ?_);refine jbd (cs:=[.slice none 0 0,I (s.AB[i]).next,.bool false,I (s.AB[i]).BC]) rfl rfl ?_;refine ja λb21=>?_
 refine Ae (jl (v:=thv) rfl jev) (Ae (jlr (v:=I (s.AB[i]).next) hb3 (CJ hrow3 (f:=1) rfl) jev) (Ae (jl (v:=thv) rfl jev) (Ae (jlr (v:=I (s.AB[i]).BC) hb4 (CJ hrow4 (f:=3) rfl) jev) ?_)));refine js (cs':=[.slice none 0 0,I (s.AB[i]).next,.bool false,I (s.AB[i]).BC]) rfl rfl (by exact z_n 4) rfl ?_;generalize htr:(if (s.AB[i]).BC = 1 then 2 else (s.AB[i]).BC) = tr at hrw hdr;refine AH (λvs R' D'=>R' = R1∧D' = [] ++ (b21,C 78 [.slice none 0 0,I (s.AB[i]).next,.bool false,I tr]) :: (A ++ (b19,C AM (eSt s' w t m x (.slice none 0 0) pv')) :: (b2,C AM (cl z58)) :: E)∧vs = [.pointer (some ⟨b1,0,none⟩),.pointer (some ⟨b2,0,none⟩),lv,v9,v,.pointer (some ⟨b19,0,none⟩),I i,.pointer (some ⟨b21,0,none⟩)]) (λK4 hK4=>?_) ?_
 ·refine jfo (jl (v:=I (s.AB[i]).BC) rfl (jeq (jif (λh3=>?_) (λh3=>?_))))
  ·refine jfo (js (cs':=[.slice none 0 0,I (s.AB[i]).next,.bool false,I 2]) rfl rfl (by simp) rfl ?_);refine hK4 _ _ _ ⟨rfl,?_,rfl⟩;rw[← htr,if_pos (eq_of_beq h3)];rfl
  ·refine hK4 _ _ _ ⟨rfl,?_,rfl⟩;rw[← htr,if_neg (ne_of_beq_false h3)];rfl
 rintro e Rx D1 ⟨hRx,hD,he⟩;subst hRx;rw[hD];clear hD;simp only[List.map,lc,ln,lj,z_t] at he;simp only[he];refine AH (λvs R' D'=>R' = Rx∧∃rv A2,SO A7 rv A2∧D' = A2 ++ (b21,C 78 [rv,I (s.AB[i]).next,.bool false,I tr]) :: (A ++ (b19,C AM (eSt s' w t m x (.slice none 0 0) pv')) :: (b2,C AM (cl z58)) :: E)∧vs = [.pointer (some ⟨b1,0,none⟩),.pointer (some ⟨b2,0,none⟩),lv,v9,v,.pointer (some ⟨b19,0,none⟩),I i,.pointer (some ⟨b21,0,none⟩)]) (λK5 hK5=>?_) ?_
 ·refine AH (λvs R' D'=>R' = Rx∧∃rv A2,SO A7 rv A2∧D' = A2 ++ (b21,C 78 [rv,I (s.AB[i]).next,.bool false,I tr]) :: (A ++ (b19,C AM (eSt s' w t m x (.slice none 0 0) pv')) :: (b2,C AM (cl z58)) :: E)∧vs = [.pointer (some ⟨b1,0,none⟩),.pointer (some ⟨b2,0,none⟩),lv,v9,v,.pointer (some ⟨b19,0,none⟩),I i,.pointer (some ⟨b21,0,none⟩)]) (λK6 hK6=>?_) ?_;rotate_left
  ·rintro e R2 D2 ⟨hR2,rv,A2,so2,hD,he⟩;rw[hD];clear hD;simp only[List.map,lc,ln,lj,z_t] at he;simp only[he];exact hK5 _ _ _ ⟨hR2,rv,A2,so2,rfl,rfl⟩
  refine jlp (λmm vs R' D'=>R' = Rx∧∃(j:Nat) (done2 rest3:List Int) (rv:Value) (A2:Chs),j≤(s.AB[i]).A7.length∧Cm l AF to_ ((s.AB[i]).A7.drop j) = some rest3∧A7 = done2 ++ rest3∧done2.length = j∧SO done2 rv A2∧D' = A2 ++ (b21,C 78 [rv,I (s.AB[i]).next,.bool false,I tr]) :: (A ++ (b19,C AM (eSt s' w t m x (.slice none 0 0) pv')) :: (b2,C AM (cl z58)) :: E)∧vs = [.pointer (some ⟨b1,0,none⟩),.pointer (some ⟨b2,0,none⟩),lv,v9,v,.pointer (some ⟨b19,0,none⟩),I i,.pointer (some ⟨b21,0,none⟩),I j]∧mm = (s.AB[i]).A7.length - j)
   (n:=(s.AB[i]).A7.length) ⟨rfl,0,[],A7,.slice none 0 0,[],by omega,hroots,rfl,rfl,.inl ⟨rfl,rfl,rfl⟩,rfl,rfl,by omega⟩ ?_
  rintro m5 e Ry D5 K7 ⟨hRy,j,done2,rest3,rv,A2,hj,hnr,hrr,hd2,so2,hD,he,hm5⟩ hK7;subst hRy;rw[hD];clear hD;simp only[List.map,lc,ln,lj,z_t] at he;simp only[he];refine jl (v:=thv) rfl (jtr h1.th hc λb5 o5 ty5 cs5 rv5 hrv5 hb5 ho5 hrow5=>?_);refine jfo (jlr (v:=rv5) hb5 (CJ hrow5 (f:=0) rfl) (Co hrv5.sl (jlt (jif (λhd=>?_) (λhd=>?_)))));rotate_left
  ·have hd:=z_g hd;rw[List.drop_eq_nil_of_le (by omega)] at hnr;have:rest3 = []:=by unfold Cm at hnr;simpa using hnr.symm
   subst this;rw[List.append_nil] at hrr;subst hrr;exact hK6 _ _ _ ⟨rfl,rv,A2,so2,rfl,rfl⟩
  have hd:j < (s.AB[i]).A7.length:=by have:=z_f hd;omega
  rw[List.drop_eq_getElem_cons hd] at hnr;obtain⟨z,bz,rest4,hz,hbz,hrest4,rfl⟩:=MF hnr;refine AH (λvs R' D'=>R' = Ry∧∃rv A2,SO (done2 ++ [bz]) rv A2∧D' = A2 ++ (b21,C 78 [rv,I (s.AB[i]).next,.bool false,I tr]) :: (A ++ (b19,C AM (eSt s' w t m x (.slice none 0 0) pv')) :: (b2,C AM (cl z58)) :: E)∧vs = [.pointer (some ⟨b1,0,none⟩),.pointer (some ⟨b2,0,none⟩),lv,v9,v,.pointer (some ⟨b19,0,none⟩),I i,.pointer (some ⟨b21,0,none⟩),I j]) (λK8 hK8=>?_) ?_;rotate_left
  ·rintro e R2 D2 ⟨hR2,rv,A2,so2,hD,he⟩;subst hR2;rw[hD];clear hD;simp only[List.map,lc,ln,lj,z_t] at he;simp only[he];refine Ac ⟨by omega,by omega⟩ ?_;exact hK7 ((s.AB[i]).A7.length - (j + 1)) _ _ _ (by omega) ⟨rfl,j + 1,done2 ++ [bz],rest4,rv,A2,by omega,hrest4,by rw[hrr];simp,by rw[List.length_append,hd2];rfl,so2,rfl,rfl,rfl⟩
  refine AH (λvs R' D'=>R' = Ry∧∃rv A2,SO (done2 ++ [bz]) rv A2∧D' = A2 ++ (b21,C 78 [rv,I (s.AB[i]).next,.bool false,I tr]) :: (A ++ (b19,C AM (eSt s' w t m x (.slice none 0 0) pv')) :: (b2,C AM (cl z58)) :: E)∧vs = [.pointer (some ⟨b1,0,none⟩),.pointer (some ⟨b2,0,none⟩),lv,v9,v,.pointer (some ⟨b19,0,none⟩),I i,.pointer (some ⟨b21,0,none⟩),I j]) (λK9 hK9=>?_) ?_;rotate_left
  ·rintro e R2 D2 ⟨hR2,rv,A2,so2,hD,he⟩;rw[hD];clear hD;simp only[List.map,lc,ln,lj,z_t] at he;simp only[he];exact hK8 _ _ _ ⟨hR2,rv,A2,so2,rfl,rfl⟩
  obtain⟨sa,sn,sc,rfl⟩:=so2.sl;refine jl (v:=thv) rfl (jtr h1.th hc λb6 o6 ty6 cs6 rv6 hrv6 hb6 ho6 hrow6=>?_);refine jfo (jlr (v:=rv6) hb6 (CJ hrow6 (f:=0) rfl) (CN hrv6 (by omega) (by omega) ?_));rw[getElem_congr_idx (Int.toNat_natCast j)];refine jro (Io hlv1 (by omega) hz) (jro (Gk z (B9.rd hlive1) (by omega)) (jlt (jif (λh0=>?_) (λh0=>?_))))
  ·rw[if_pos (z_f h0)] at hbz;simp only[Option.some.injEq] at hbz;subst hbz;refine jfo (jl (v:=.slice sa sn sc) rfl ?_);refine jbs (cs:=[I 0]) rfl rfl λb7=>?_
   refine FU (A:=A2) so2 (by omega) λv' A' so'=>?_
   obtain⟨sa',sn',sc',rfl⟩:=so'.sl;refine jfo (js (cs':=[.slice sa' sn' sc',I (s.AB[i]).next,.bool false,I tr]) rfl rfl (by simp) rfl ?_);exact hK9 _ _ _ ⟨rfl,_,A',so',rfl,rfl⟩
  ·rw[if_neg (z_g h0)] at hbz;obtain⟨y0,y1,y2,y3⟩:=Ai hbz;refine jfo (jl (v:=.slice sa sn sc) rfl (CN hto1 y0 y1 ?_));rw[y3];refine jbs (cs:=[I bz]) rfl rfl λb7=>?_
   refine Ae (jl (v:=.slice sa sn sc) rfl jev) ?_;refine FU (A:=A2) so2 (by omega) λv' A' so'=>?_
   obtain⟨sa',sn',sc',rfl⟩:=so'.sl;refine jfo (js (cs':=[.slice sa' sn' sc',I (s.AB[i]).next,.bool false,I tr]) rfl rfl (by simp) rfl ?_);exact hK9 _ _ _ ⟨rfl,_,A',so',rfl,rfl⟩
 rintro e R2 D2 ⟨hR2,rv2,A2,so2,hD,he⟩;subst hR2;rw[hD];clear hD;simp only[List.map,lc,ln,lj,z_t] at he;simp only[he];refine Es so2 λR3 hR3 hint=>?_
 obtain⟨ua,uc,rfl⟩:=hint.sl;obtain⟨sa,sc,hsl⟩:=so.sl;subst hsl;refine jfo (jl (v:=(.slice sa rows.length sc)) rfl ?_);refine jla (l:=[.slice ua A7.length uc,I (s.AB[i]).next,.bool false,I tr]) (by exact z_n 4) rfl ?_;refine jbs (cs:=[.slice ua A7.length uc,I (s.AB[i]).next,.bool false,I tr]) rfl rfl λb9=>?_
 refine Av A (G:=(b9,C 78 [.slice ua A7.length uc,I (s.AB[i]).next,.bool false,I tr]) :: (b21,C 78 [.slice ua A7.length uc,I (s.AB[i]).next,.bool false,I tr]) :: ((b19,C AM (eSt s' w t m (.slice sa rows.length sc) (.slice none 0 0) pv')) :: (b2,C AM (cl z58)) :: E)) ?_;have hx:BG R3 (A ++ ((b9,C 78 [.slice ua A7.length uc,I (s.AB[i]).next,.bool false,I tr]) :: (b21,C 78 [.slice ua A7.length uc,I (s.AB[i]).next,.bool false,I tr]) :: ((b19,C AM (eSt s' w t m (.slice sa rows.length sc) (.slice none 0 0) pv')) :: (b2,C AM (cl z58)) :: E))) (some ⟨b9,0,none⟩) (1 * 4) [[.slice ua A7.length uc,I (s.AB[i]).next,.bool false,I tr]].flatten:=BG.held (t:=78) (cs:=[.slice ua A7.length uc,I (s.AB[i]).next,.bool false,I tr]) (o:=0) (n:=1 * 4) (z_n 4);have hrl:=hrw.1;refine jaw so (hrw.all λ_ _=>CY.len) (by intro r hr;rw[List.mem_singleton.1 hr];rfl) rfl rfl rfl (by decide) (by rw[List.length_singleton];omega) hx λv' A' so'=>?_
 obtain⟨sa',sc',hsl'⟩:=so'.sl;subst hsl';refine jfo (js (cs':=eSt s' w t m (.slice sa' (rows ++ [[.slice ua A7.length uc,I (s.AB[i]).next,.bool false,I tr]]).length sc') (.slice none 0 0) pv') rfl rfl (by simp[eSt]) rfl ?_);refine Ac ⟨by omega,by omega⟩ ?_;refine Av A' (G:=(b19,C AM (eSt s' w t m (.slice sa' (rows ++ [[.slice ua A7.length uc,I (s.AB[i]).next,.bool false,I tr]]).length sc') (.slice none 0 0) pv')) :: (b2,C AM (cl z58)) :: E) ?_;exact hK3 (s.AB.length - (i + 1)) _ _ _ (by omega) ⟨hR.trans hR3,i + 1,done ++ [⟨A7,(s.AB[i]).next,false,tr⟩],rest2,_,_,A',by omega,hrest2,by rw[hdr];simp,by rw[List.length_append,hdl];rfl,(hrw.mono λ_ _=>CY.le hR3).app (Rw.one ⟨_,rfl,hint⟩),so',rfl,rfl,rfl⟩
end Go.Lf
end
section
namespace Go.Lf
open Go Sm
set_option maxHeartbeats 4000000 in
theorem Qm {R:RM} {s s' : Sm.CL} {wv tv mv thv ov pv:Value} (h:StC R s wv tv mv thv ov pv) (hw:s.A5.length≤1000) (ht0:2≤s.A0.length) (ht1:s.A0.length≤12) (hth:s.AB.length < 1000000) (hrl:∀t∈s.AB,t.A7.length < 1000000)
  (hpl:s.AQ.length < 1000000) (hp:∀a∈s.AQ,AY a≤9223372036854775807) (hS:Fm s = some s') :
  Fn P Ji [.agg (eSt s wv tv mv thv ov pv).toArray] R [] (λv R' A=>∃bw wsp cw bt tsp ct bm thv' pv',s'.A5.length = s.A5.length∧s'.A0.length = s.A0.length∧s'.AO.length = s.A5.length∧s'.A5.length≤cw∧s'.A0.length≤ct∧Ths R' thv' s'.AB∧B9 R' pv' s'.AQ∧
   A = [(bw,C AZ (s'.A5.map I ++ wsp)),(bt,C AD (AW eRg s'.A0 ++ tsp)),(bm,C Az (s'.AO.map Value.bool))]∧
   v = .agg (eSt s' (.slice (some ⟨bw,0,none⟩) s'.A5.length cw) (.slice (some ⟨bt,0,none⟩) s'.A0.length ct) (.slice (some ⟨bm,0,none⟩) s'.AO.length s'.AO.length) thv' (.slice none 0 0) pv').toArray):=by
 refine OO λF=>?_
 unfold KJ;unfold Fm at hS;obtain⟨live0,hreach,hS⟩:=AA hS;obtain⟨⟨w1,t1⟩,hstay,hS⟩:=AA hS;obtain⟨⟨t2,to_⟩,hslide,hS⟩:=AA hS;obtain⟨w2,hmove,hS⟩:=AA hS;obtain⟨ths,hths,hS⟩:=AA hS;obtain⟨BQ,hful,hS⟩:=AA hS;simp only[Option.some.injEq] at hS;refine ja λb1=>?_
 rw[show cl (.agg (eSt s wv tv mv thv ov pv).toArray) = eSt s wv tv mv thv ov pv from rfl];refine ja λb2=>?_
 refine jla (l:=eSt s wv tv mv thv ov pv) (by exact z_n 13) rfl ?_;refine jc (A:=[]) (O8 h (by omega) (by omega)) ?_;rintro v R1 _ hR1 ⟨rfl,hq⟩;have hl0:∃lv ok,v = .tuple #[lv,.bool ok]∧Tgs R1 lv ((C5 s).getD []):=by
  cases hst:C5 s with
  | none=>rw[hst] at hq;exact⟨_,_,hq,[],Rw.nil,.inl ⟨rfl,rfl,rfl⟩⟩
  | some l=>rw[hst] at hq;obtain⟨lv,h1,h2⟩:=hq;exact⟨lv,true,h2,h1⟩
 have htb:TB ((C5 s).getD [])∧((C5 s).getD []).length≤16 * s.A0.length:=by
  cases hst:C5 s with
  | none=>exact⟨λt ht=>(by cases ht),by simp⟩
  | some l=>
   unfold C5 at hst;have:=Qx (by omega) hst;rw[List.length_tail] at this;exact⟨this.1,by simp;omega⟩
 generalize (C5 s).getD [] = l at hl0 htb hreach hstay hslide hmove hths;obtain⟨lv,okb,rfl,hlv⟩:=hl0;obtain⟨htb,hll⟩:=htb;have hlen0:=I7 hreach;refine jex rfl (jex rfl ?_);refine jla (l:=eSt s wv tv mv thv ov pv) (by exact z_n 13) rfl ?_;have h1:=h.le hR1;refine jc (A:=[]) (NJ h1 hlv (by omega) hreach hth (λt ht=>by have:=hrl t ht;omega) hpl (λt ht=>by have:=(htb t ht).2.2.1;omega)) ?_;rintro v8 R2 A8 hR2 so8;refine Es so8 λR3 hR3 hi8=>?_
 refine jc (A:=[]) (OQ hi8 (by omega)) ?_;rintro v9 R4 A9 hR4 ⟨hRR,so9⟩;subst hRR;refine Es so9 λR5 hR5 hi9=>?_
 have hR35:=(hR2.trans hR3).trans hR5;have h5:=h1.le hR35;have hlv5:=hlv.le hR35;have hslen:(Cr live0).length = live0.length:=by have:=Js live0 [];simpa [Cr] using this
 generalize hlive:Cr live0 = AF at hslide hmove hths hi9 hslen;refine jl (v:=tv) rfl (Co h5.t.sl ?_);refine jmk (JL (s.A0.length:Int)) ?_;intro v13 N hq13;unfold Tn at hq13;have htn:(AN (s.A0.length:Int)).length = s.A0.length:=by
  unfold AN;rw[if_neg (by omega)];simp;omega
 rw[if_neg (by intro hn;rw[hn] at htn;simp at htn;omega)] at hq13;obtain⟨sv,⟨bt,ct,tsp,hct,rfl,rfl⟩,rfl⟩:=hq13;refine jex rfl (jex rfl ?_);refine jl (v:=wv) rfl (Co h5.w.sl ?_);refine jms (by omega) (by omega) (by omega) λbw=>?_
 rw[Int.toNat_natCast];have htk:(List.replicate s.A5.length (cl z3)).flatten = (List.replicate s.A5.length (0:Int)).map I ++ []:=by
  rw[show cl z3 = [I 0] from rfl];simp[List.flatten_replicate_singleton]
 rw[htk];refine jla (l:=eSt s wv tv mv thv ov pv) (by exact z_n 13) rfl ?_;have hstay':=Rr (cw:=s.A5.length) (ct:=ct) (bw:=bw) (bt:=bt) (wsp:=[]) (tsp:=tsp) h5 hlv5 htb (by omega) hp hpl hstay;rw[List.length_replicate] at hstay';refine jc (A:=[(bw,C AZ ((List.replicate s.A5.length (0:Int)).map I ++ [])),(bt,C AD (AW eRg (AN (s.A0.length:Int)) ++ tsp))]) hstay' ?_;rintro _ R6 _ hR6 ⟨hRR6,hwl,htl,rfl⟩;subst hRR6;rw[htn] at htl ⊢;generalize hE:(b2,C AM (cl z58)) :: (b1,C AM (eSt s wv tv mv thv ov pv)) :: ([] ++ F) = E;have ea1:At E b1 (C AM (eSt s wv tv mv thv ov pv)):=by rw[← hE];exact inferInstance
 have slen:∀{r t0 to0},slide s.AQ l [] t0 r to0 = some (t2,to_)→t0 = t2∧to0 = to_:=λh=>by
  unfold slide at h;simpa using h
 refine Au (D':=[] ++ ((bw,C AZ (w1.map I ++ [])) :: (bt,C AD (AW eRg t1 ++ tsp)) :: E)) (by rw[← hE];exact List.Perm.refl _) ?_;refine AH (λvs R' D'=>R' = R6∧t2.length = s.A0.length∧to_.length = AF.length∧∃(v:Value) (A:Chs),SO to_ v A∧D' = A ++ ((bw,C AZ (w1.map I ++ [])) :: (bt,C AD (AW eRg t2 ++ tsp)) :: E)∧vs = [.pointer (some ⟨b1,0,none⟩),.pointer (some ⟨b2,0,none⟩),lv,v9,.slice (some ⟨bt,0,none⟩) s.A0.length ct,.slice (some ⟨bw,0,none⟩) s.A5.length s.A5.length,v]) (λK hK=>?_) ?_
 ·refine AH (λvs R' D'=>R' = R6∧t2.length = s.A0.length∧to_.length = AF.length∧∃(v:Value) (A:Chs),SO to_ v A∧D' = A ++ ((bw,C AZ (w1.map I ++ [])) :: (bt,C AD (AW eRg t2 ++ tsp)) :: E)∧vs = [.pointer (some ⟨b1,0,none⟩),.pointer (some ⟨b2,0,none⟩),lv,v9,.slice (some ⟨bt,0,none⟩) s.A0.length ct,.slice (some ⟨bw,0,none⟩) s.A5.length s.A5.length,v]) (λK2 hK2=>?_) ?_;rotate_left
  ·rintro e R7 D7 ⟨hR,ht2,hto,v,A,so,hD,he⟩;rw[hD];clear hD;simp only[List.map,lc,ln,lj,z_t] at he;simp only[he];exact hK _ _ _ ⟨hR,ht2,hto,v,A,so,rfl,rfl⟩
  refine jlp (λm vs R' D'=>R' = R6∧∃(i:Nat) (r:Int) (t0:List Rg) (to0:List Int) (v:Value) (A:Chs),i≤AF.length∧1≤r∧r≤12∧t0.length = s.A0.length∧to0.length = i∧slide s.AQ l (AF.drop i) t0 r to0 = some (t2,to_)∧SO to0 v A∧D' = A ++ ((bw,C AZ (w1.map I ++ [])) :: (bt,C AD (AW eRg t0 ++ tsp)) :: E)∧vs = [.pointer (some ⟨b1,0,none⟩),.pointer (some ⟨b2,0,none⟩),lv,v9,.slice (some ⟨bt,0,none⟩) s.A0.length ct,.slice (some ⟨bw,0,none⟩) s.A5.length s.A5.length,v,I r,I i]∧m = AF.length - i)
   (n:=AF.length) ⟨rfl,0,1,t1,[],.slice none 0 0,[],by omega,by omega,by omega,htl,rfl,hslide,.inl ⟨rfl,rfl,rfl⟩,rfl,rfl,by omega⟩ ?_
  rintro m e R7 D7 K3 ⟨hR,i,r,t0,to0,v,A,hi,hr1,hr2,ht0l,htol,hsl,so,hD,he,hm⟩ hK3;subst hR;rw[hD];clear hD;simp only[List.map,lc,ln,lj,z_t] at he;simp only[he];refine Co hi9.sl (jlt (jif (λhc=>?_) (λhc=>?_)));rotate_left
  ·have hc:=z_g hc;rw[List.drop_eq_nil_of_le (by omega)] at hsl;obtain⟨rfl,rfl⟩:=slen hsl;exact hK2 _ _ _ ⟨rfl,ht0l,by omega,v,A,so,rfl,rfl⟩
  have hc:i < AF.length:=by have:=z_f hc;omega
  rw[List.drop_eq_getElem_cons hc] at hsl;unfold slide at hsl;obtain⟨x,hx,hsl⟩:=AA hsl;obtain⟨k,hk,hkp,rfl⟩:=Ip hx;have hat:(l[k]).at_ = AF[i]:=by
   have:=List.find?_some hx;exact eq_of_beq this
  obtain⟨a0,a1,-,-⟩:=htb _ (List.getElem_mem hk);have hreg:AY AF[i]≤9223372036854775807:=by unfold AY;split<;>omega
  refine AH (λvs R' D'=>R' = R7∧∃(r:Int) (t0:List Rg) (to0:List Int) (v:Value) (A:Chs),1≤r∧r≤12∧t0.length = s.A0.length∧to0.length = i + 1∧slide s.AQ l (AF.drop (i + 1)) t0 r to0 = some (t2,to_)∧SO to0 v A∧D' = A ++ ((bw,C AZ (w1.map I ++ [])) :: (bt,C AD (AW eRg t0 ++ tsp)) :: E)∧vs = [.pointer (some ⟨b1,0,none⟩),.pointer (some ⟨b2,0,none⟩),lv,v9,.slice (some ⟨bt,0,none⟩) s.A0.length ct,.slice (some ⟨bw,0,none⟩) s.A5.length s.A5.length,v,I r,I i]) (λK4 hK4=>?_) ?_;rotate_left
  ·rintro e R8 D8 ⟨hR,r,t0,to0,v,A,q1,q2,q3,q4,q5,so,hD,he⟩;subst hR;rw[hD];clear hD;simp only[List.map,lc,ln,lj,z_t] at he;simp only[he];refine Ac ⟨by omega,by omega⟩ ?_;exact hK3 (AF.length - (i + 1)) _ _ _ (by omega) ⟨rfl,i + 1,r,t0,to0,v,A,by omega,q1,q2,q3,q4,q5,so,rfl,rfl,rfl⟩
  refine AH (λvs R' D'=>R' = R7∧∃(r:Int) (t0:List Rg) (to0:List Int) (v:Value) (A:Chs),1≤r∧r≤12∧t0.length = s.A0.length∧to0.length = i + 1∧slide s.AQ l (AF.drop (i + 1)) t0 r to0 = some (t2,to_)∧SO to0 v A∧D' = A ++ ((bw,C AZ (w1.map I ++ [])) :: (bt,C AD (AW eRg t0 ++ tsp)) :: E)∧vs = [.pointer (some ⟨b1,0,none⟩),.pointer (some ⟨b2,0,none⟩),lv,v9,.slice (some ⟨bt,0,none⟩) s.A0.length ct,.slice (some ⟨bw,0,none⟩) s.A5.length s.A5.length,v,I r,I i]) (λK5 hK5=>?_) ?_;rotate_left
  ·rintro e R8 D8 ⟨hR,r,t0,to0,v,A,q1,q2,q3,q4,q5,so,hD,he⟩;rw[hD];clear hD;simp only[List.map,lc,ln,lj,z_t] at he;simp only[he];exact hK4 _ _ _ ⟨hR,r,t0,to0,v,A,q1,q2,q3,q4,q5,so,rfl,rfl⟩
  refine CN hi9 (by omega) (by omega) ?_;rw[getElem_congr_idx (Int.toNat_natCast i)];refine jro (Ge _ hlv5 (by omega)) ?_;rw[hkp];refine jtg hlv5 hk λb3 o3 ty3 cs3 rv nv hrv hnv hb3 ho3 hrow3=>?_
  have g2:(cs3.drop (o3 + 2)).take 2 = [I (l[k]).sh.refs,I (l[k]).sh.nums]:=by
   have:=congrArg (λx=>(x.drop 2).take 2) hrow3;simp only[List.drop_take,List.drop_drop,List.take_take] at this;simpa [eTh] using this
  refine jfo (Of hb3 (by omega) g2 (jp (Bp (l[k]).sh) ?_));obtain⟨sz0,sz1⟩:=Mi (l[k]).sh;generalize AC (l[k]).sh = size at hsl sz0 sz1 ⊢;refine jla (t:=AM) (cs:=eSt s wv tv mv thv ov pv) (l:=eSt s wv tv mv thv ov pv) (by exact z_n 13) rfl ?_;refine CN hi9 (by omega) (by omega) ?_;rw[getElem_congr_idx (Int.toNat_natCast i)];refine jp (Ck _ hreg) (Ae (jla (t:=AM) (cs:=eSt s wv tv mv thv ov pv) (l:=eSt s wv tv mv thv ov pv) (by exact z_n 13) rfl jev) ?_);refine jro (Jn (AY AF[i]) h5 hp hpl) (jif (λhh=>?_) (λhh=>?_))
  ·rw[if_pos hh] at hsl;refine CN hi9 (by omega) (by omega) ?_;rw[getElem_congr_idx (Int.toNat_natCast i)];refine jbs (cs:=[I AF[i]]) rfl rfl λb4=>?_
   refine FU (A:=A) so (by omega) λv' A' so'=>?_
   exact hK5 _ _ _ ⟨rfl,r,t0,_,v',A',hr1,hr2,ht0l,by rw[List.length_append,htol];rfl,hsl,so',rfl,rfl⟩
  rw[if_neg (by rw[hh];decide)] at hsl;obtain⟨r2,hnx,hsl⟩:=AA hsl;refine AH (λvs R' D'=>R' = R7∧D' = A ++ ((bw,C AZ (w1.map I ++ [])) :: (bt,C AD (AW eRg t0 ++ tsp)) :: E)∧vs = [.pointer (some ⟨b1,0,none⟩),.pointer (some ⟨b2,0,none⟩),lv,v9,.slice (some ⟨bt,0,none⟩) s.A0.length ct,.slice (some ⟨bw,0,none⟩) s.A5.length s.A5.length,v,I r2,I i,I size]) (λK6 hK6=>?_) ?_
  ·refine AH (λvs R' D'=>R' = R7∧D' = A ++ ((bw,C AZ (w1.map I ++ [])) :: (bt,C AD (AW eRg t0 ++ tsp)) :: E)∧vs = [.pointer (some ⟨b1,0,none⟩),.pointer (some ⟨b2,0,none⟩),lv,v9,.slice (some ⟨bt,0,none⟩) s.A0.length ct,.slice (some ⟨bw,0,none⟩) s.A5.length s.A5.length,v,I r2,I i,I size]) (λK7 hK7=>?_) ?_;rotate_left
   ·rintro e R8 D8 ⟨hR,hD,he⟩;rw[hD];clear hD;simp only[List.map,lc,ln,lj,z_t] at he;simp only[he];exact hK6 _ _ _ ⟨hR,rfl,rfl⟩
   refine jlp (λm vs R' D'=>R' = R7∧∃r:Int,1≤r∧r + m≤30∧G5 s.AQ t0 size m r = some r2∧D' = A ++ ((bw,C AZ (w1.map I ++ [])) :: (bt,C AD (AW eRg t0 ++ tsp)) :: E)∧vs = [.pointer (some ⟨b1,0,none⟩),.pointer (some ⟨b2,0,none⟩),lv,v9,.slice (some ⟨bt,0,none⟩) s.A0.length ct,.slice (some ⟨bw,0,none⟩) s.A5.length s.A5.length,v,I r,I i,I size])
    (n:=t0.length + 2) ⟨rfl,r,hr1,by omega,hnx,rfl,rfl⟩ ?_
   clear hnx;rintro m2 e R8 D8 K8 ⟨hR,r,hr1,hrm,hnx,hD,he⟩ hK8;subst hR;rw[hD];clear hD;simp only[List.map,lc,ln,lj,z_t] at he;simp only[he];cases m2 with
   | zero=>cases hnx
   | succ m2=>
   unfold G5 at hnx;refine AH (λvs R' D'=>R' = R8∧D' = A ++ ((bw,C AZ (w1.map I ++ [])) :: (bt,C AD (AW eRg t0 ++ tsp)) :: E)∧∃bn:Bool,(bn = true→G5 s.AQ t0 size m2 (r + 1) = some r2)∧(bn = false→r = r2)∧vs = [.pointer (some ⟨b1,0,none⟩),.pointer (some ⟨b2,0,none⟩),lv,v9,.slice (some ⟨bt,0,none⟩) s.A0.length ct,.slice (some ⟨bw,0,none⟩) s.A5.length s.A5.length,v,I r,I i,I size,.bool bn]) (λK9 hK9=>?_) ?_;rotate_left
   ·rintro e R9 D9 ⟨hR,hD,bn,hb1,hb2,he⟩;subst hR;rw[hD];clear hD;simp only[List.map,lc,ln,lj,z_t] at he;simp only[he];cases bn with
    | true=>
     refine F7 (Ac ⟨by omega,by omega⟩ ?_);exact hK8 m2 _ _ _ (by omega) ⟨rfl,r + 1,by omega,by omega,hb1 rfl,rfl,rfl⟩
    | false=>
     have:=hb2 rfl;subst this;exact Cv (hK7 _ _ _ ⟨rfl,rfl,rfl⟩)
   refine jla (t:=AM) (cs:=eSt s wv tv mv thv ov pv) (l:=eSt s wv tv mv thv ov pv) (by exact z_n 13) rfl (jro (Jn r h5 hp hpl) ?_);cases hhr:Bt s.AQ r with
   | true=>
    rw[if_pos hhr] at hnx;refine Cb (jtf (C4 λe he=>?_));simp only[List.map,lc,ln,lj,z_t] at he;simp only[he];refine jtf (Da (Ae jev ?_));exact hK9 _ _ _ ⟨rfl,rfl,true,λ_=>hnx,(λh=>by cases h),rfl⟩
   | false=>
    rw[if_neg (by rw[hhr];decide)] at hnx;obtain⟨row,hrow,hnx⟩:=AA hnx;obtain⟨sum,hsum,hnx⟩:=AA hnx;obtain⟨rfl,hin⟩:=Ak hsum;obtain⟨y0,y1,y2,y3⟩:=Ai hrow;obtain⟨k2,rfl⟩:∃k2:Nat,r = k2:=⟨r.toNat,by omega⟩;have hk2:k2 < t0.length:=by omega
    have ey:t0[k2] = row:=by rw[← y3];exact getElem_congr_idx (by omega)
    have brr:0≤AG k2∧AG k2≤176:=by unfold AG;split<;>omega
    refine Cb (jff (Bc (by omega) (jfo (jl (v:=I row.top) (by rw[Nat.zero_add];exact BT (f:=2) hk2 (by rw[ey];rfl)) (Ac hin (C4 λe he=>?_))))));simp only[List.map,lc,ln,lj,z_t] at he;simp only[he];refine jff (jp (BA k2) (Ac ⟨by omega,by omega⟩ (jgr (DU (Ae (jl (v:=I row.top) (by rw[Nat.zero_add];exact BT (f:=2) hk2 (by rw[ey];rfl)) jev) ?_)))));refine hK9 _ _ _ ⟨rfl,rfl,decide (row.top + size > AG k2 + 16),λhb=>?_,λhb=>?_,rfl⟩
    ·rw[if_pos (by have:=z_f hb;omega)] at hnx;exact hnx
    ·rw[if_neg (by have:=z_g hb;omega)] at hnx;simpa using hnx
  rintro e R8 D8 ⟨hR,hD,he⟩;subst hR;rw[hD];clear hD;simp only[List.map,lc,ln,lj,z_t] at he;simp only[he];obtain⟨row,hrow,hsl⟩:=AA hsl;obtain⟨sum,hsum,hsl⟩:=AA hsl;obtain⟨rfl,hin⟩:=Ak hsum;obtain⟨y0,y1,y2,y3⟩:=Ai hrow;have hr2k:1≤r2:=by
   have:∀(n:Nat) (r:Int),1≤r→G5 s.AQ t0 size n r = some r2→1≤r2:=by
    intro n;induction n with
    | zero=>intro r _ h;cases h
    | succ n ih=>
     intro r hr h;unfold G5 at h;split at h
     ·exact ih _ (by omega) h
     ·obtain⟨_,_,h⟩:=AA h;obtain⟨_,_,h⟩:=AA h;split at h
      ·exact ih _ (by omega) h
      ·cases h;exact hr
   exact this _ _ hr1 hnx
  obtain⟨k2,rfl⟩:∃k2:Nat,r2 = k2:=⟨r2.toNat,by omega⟩;have hk2:k2 < t0.length:=by omega
  have ey:t0[k2] = row:=by rw[← y3];exact getElem_congr_idx (by omega)
  refine Bc (by omega) (Ej hk2 ?_);rw[ey];refine ja λb5=>?_
  refine js (cs':=eRg row) rfl rfl (by simp) rfl ?_;refine jfo (jl (v:=I row.top) rfl ?_);refine jbs (cs:=[I row.top]) rfl rfl λb4=>?_
  refine FU (A:=A) so (by omega) λv' A' so'=>?_
  refine js (cs':=eRg { row with kind:=3 }) rfl rfl (by simp) rfl ?_;refine jfo (jl (v:=I row.top) rfl (Ac hin ?_));refine jfo (js (cs':=eRg { row with kind:=3,top:=row.top + size }) rfl rfl (by simp) rfl ?_);refine jfo (jl (v:=I (row.top + size)) rfl ?_);refine jfo (js (cs':=eRg { row with kind:=3,top:=row.top + size,Ah:=row.top + size }) rfl rfl (by simp) rfl ?_);refine jla (l:=eRg { row with kind:=3,top:=row.top + size,Ah:=row.top + size }) (by simp) rfl ?_;refine Bc (by omega) (EJ (t:=t0) (x:={ row with kind:=3,top:=row.top + size,Ah:=row.top + size }) hk2 ?_);refine Av A' (G:=(bw,C AZ (w1.map I ++ [])) :: (bt,C AD (AW eRg (t0.set k2 { row with kind:=3,top:=row.top + size,Ah:=row.top + size }) ++ tsp)) :: E) ?_;exact hK5 _ _ _ ⟨rfl,k2,t0.set k2 { row with kind:=3,top:=row.top + size,Ah:=row.top + size },_,v',A',by omega,by omega,by rw[List.length_set];exact ht0l,by rw[List.length_append,htol];rfl,by simpa [AT] using hsl,so',rfl,rfl⟩
 clear hslide slen;rintro e R7 D7 ⟨hR,ht2,hto,v,A,so,hD,he⟩;subst hR;rw[hD];clear hD;simp only[List.map,lc,ln,lj,z_t] at he;simp only[he];refine Es so λR8 hR8 hito=>?_
 have h8:=h5.le hR8;have hlv8:=hlv5.le hR8;have hi98:=hi9.le hR8;refine AH (λvs R' D'=>R' = R8∧w2.length = s.A5.length∧D' = (bw,C AZ (w2.map I ++ [])) :: (bt,C AD (AW eRg t2 ++ tsp)) :: E∧vs = [.pointer (some ⟨b1,0,none⟩),.pointer (some ⟨b2,0,none⟩),lv,v9,.slice (some ⟨bt,0,none⟩) s.A0.length ct,.slice (some ⟨bw,0,none⟩) s.A5.length s.A5.length,v]) (λK hK=>?_) ?_
 ·refine AH (λvs R' D'=>R' = R8∧w2.length = s.A5.length∧D' = (bw,C AZ (w2.map I ++ [])) :: (bt,C AD (AW eRg t2 ++ tsp)) :: E∧vs = [.pointer (some ⟨b1,0,none⟩),.pointer (some ⟨b2,0,none⟩),lv,v9,.slice (some ⟨bt,0,none⟩) s.A0.length ct,.slice (some ⟨bw,0,none⟩) s.A5.length s.A5.length,v]) (λK2 hK2=>?_) ?_;rotate_left
  ·rintro e R9 D9 ⟨hR,hl2,hD,he⟩;rw[hD];clear hD;simp only[List.map,lc,ln,lj,z_t] at he;simp only[he];exact hK _ _ _ ⟨hR,hl2,rfl,rfl⟩
  refine jlp (λm vs R' D'=>R' = R8∧∃(i:Nat) (w:List Int),i≤AF.length∧w.length = s.A5.length∧Ez l AF to_ (AF.drop i) (to_.drop i) w = some w2∧D' = (bw,C AZ (w.map I ++ [])) :: (bt,C AD (AW eRg t2 ++ tsp)) :: E∧vs = [.pointer (some ⟨b1,0,none⟩),.pointer (some ⟨b2,0,none⟩),lv,v9,.slice (some ⟨bt,0,none⟩) s.A0.length ct,.slice (some ⟨bw,0,none⟩) s.A5.length s.A5.length,v,I i]∧m = AF.length - i)
   (n:=AF.length) ⟨rfl,0,w1,by omega,hwl,hmove,rfl,rfl,by omega⟩ ?_
  rintro m e R9 D9 K3 ⟨hR,i,w,hi,hwl1,hmv,hD,he,hm⟩ hK3;subst hR;rw[hD];clear hD;simp only[List.map,lc,ln,lj,z_t] at he;simp only[he];refine Co hi98.sl (jlt (jif (λhc=>?_) (λhc=>?_)));rotate_left
  ·have hc:=z_g hc;rw[List.drop_eq_nil_of_le (by omega)] at hmv;have:w = w2:=by unfold Ez at hmv;simpa using hmv
   subst this;exact hK2 _ _ _ ⟨rfl,hwl1,rfl,rfl⟩
  have hc:i < AF.length:=by have:=z_f hc;omega
  rw[List.drop_eq_getElem_cons hc,List.drop_eq_getElem_cons (show i < to_.length by omega)] at hmv;unfold Ez at hmv;obtain⟨x,hx,hmv⟩:=AA hmv;obtain⟨k,hk,hkp,rfl⟩:=Ip hx;obtain⟨wa,hwa,hmv⟩:=AA hmv;obtain⟨wb,hwb,hmv⟩:=AA hmv;obtain⟨wc,hwc,hmv⟩:=AA hmv;obtain⟨wd,hwd,hmv⟩:=AA hmv;refine AH (λvs R' D'=>R' = R9∧wd.length = s.A5.length∧D' = (bw,C AZ (wd.map I ++ [])) :: (bt,C AD (AW eRg t2 ++ tsp)) :: E∧vs = [.pointer (some ⟨b1,0,none⟩),.pointer (some ⟨b2,0,none⟩),lv,v9,.slice (some ⟨bt,0,none⟩) s.A0.length ct,.slice (some ⟨bw,0,none⟩) s.A5.length s.A5.length,v,I i]) (λK4 hK4=>?_) ?_;rotate_left
  ·rintro e R8 D8 ⟨hR,hld,hD,he⟩;subst hR;rw[hD];clear hD;simp only[List.map,lc,ln,lj,z_t] at he;simp only[he];refine Ac ⟨by omega,by omega⟩ ?_;exact hK3 (AF.length - (i + 1)) _ _ _ (by omega) ⟨rfl,i + 1,wd,by omega,hld,hmv,rfl,rfl,rfl⟩
  refine AH (λvs R' D'=>R' = R9∧wd.length = s.A5.length∧D' = (bw,C AZ (wd.map I ++ [])) :: (bt,C AD (AW eRg t2 ++ tsp)) :: E∧vs = [.pointer (some ⟨b1,0,none⟩),.pointer (some ⟨b2,0,none⟩),lv,v9,.slice (some ⟨bt,0,none⟩) s.A0.length ct,.slice (some ⟨bw,0,none⟩) s.A5.length s.A5.length,v,I i]) (λK5 hK5=>?_) ?_;rotate_left
  ·rintro e R8 D8 ⟨hR,hld,hD,he⟩;rw[hD];clear hD;simp only[List.map,lc,ln,lj,z_t] at he;simp only[he];exact hK4 _ _ _ ⟨hR,hld,rfl,rfl⟩
  obtain⟨y,hy⟩:∃y,to_[i]'(by omega) = y:=⟨_,rfl⟩;rw[hy] at hwa hwb hwc hwd;obtain⟨q1,q2,q3⟩:=EY hwa;obtain⟨q4,q5,q6⟩:=EY hwb;obtain⟨-,-,tr,tn⟩:=htb _ (List.getElem_mem hk);have hla:wa.length = w.length:=by rw[q3,List.length_set]
  have hlb:wb.length = wa.length:=by rw[q6,List.length_set]
  have ty:to_[((i:Nat):Int).toNat]'(by omega) = y:=by rw[← hy];exact getElem_congr_idx (Int.toNat_natCast i)
  refine CN hi98 (by omega) (by omega) ?_;rw[getElem_congr_idx (Int.toNat_natCast i)];refine jro (Ge _ hlv8 (by omega)) ?_;rw[hkp];refine jtg hlv8 hk λb3 o3 ty3 cs3 rv nv hrv hnv hb3 ho3 hrow3=>?_
  obtain⟨ra,rc,rfl⟩:=hrv.sl;obtain⟨na,nc,rfl⟩:=hnv.sl;refine Of hb3 ho3 hrow3 (ja λb15=>?_);refine js (cs':=eTh l[k] (.slice ra l[k].refs.length rc) (.slice na l[k].nums.length nc)) rfl rfl (by exact z_n 6) rfl ?_;refine CN hito (by omega) (by omega) (CN hito (by omega) (by omega) ?_);rw[ty];refine jia q1 (by omega) (jsi (l:=w) (sp:=[]) (by omega) ?_);rw[← q3];refine UC hito (by omega) (by omega) λq hq=>hq _ _ ?_
  rw[ty] at hq ⊢;refine Ac ⟨by omega,by omega⟩ (jfo (jla (t:=B8) (cs:=eTh l[k] (.slice ra l[k].refs.length rc) (.slice na l[k].nums.length nc)) (l:=[I l[k].sh.refs,I l[k].sh.nums]) (by exact (by decide:4≤6)) rfl (jp (DZ l[k].sh) ?_)));refine jia q4 (by omega) (Ae (hq _ _ jev) (jsi (l:=wa) (sp:=[]) (by omega) ?_));rw[← q6];refine AH (λvs R' D'=>R' = R9∧wc.length = s.A5.length∧D' = (b15,C B8 (eTh l[k] (.slice ra l[k].refs.length rc) (.slice na l[k].nums.length nc))) :: (bw,C AZ (wc.map I ++ [])) :: (bt,C AD (AW eRg t2 ++ tsp)) :: E∧vs = [.pointer (some ⟨b1,0,none⟩),.pointer (some ⟨b2,0,none⟩),lv,v9,.slice (some ⟨bt,0,none⟩) s.A0.length ct,.slice (some ⟨bw,0,none⟩) s.A5.length s.A5.length,v,I i,.pointer (some ⟨b15,0,none⟩)]) (λK6 hK6=>?_) ?_
  ·refine AH (λvs R' D'=>R' = R9∧wc.length = s.A5.length∧D' = (b15,C B8 (eTh l[k] (.slice ra l[k].refs.length rc) (.slice na l[k].nums.length nc))) :: (bw,C AZ (wc.map I ++ [])) :: (bt,C AD (AW eRg t2 ++ tsp)) :: E∧vs = [.pointer (some ⟨b1,0,none⟩),.pointer (some ⟨b2,0,none⟩),lv,v9,.slice (some ⟨bt,0,none⟩) s.A0.length ct,.slice (some ⟨bw,0,none⟩) s.A5.length s.A5.length,v,I i,.pointer (some ⟨b15,0,none⟩)]) (λK7 hK7=>?_) ?_;rotate_left
   ·rintro e R8 D8 ⟨hR,hlc,hD,he⟩;rw[hD];clear hD;simp only[List.map,lc,ln,lj,z_t] at he;simp only[he];exact hK6 _ _ _ ⟨hR,hlc,rfl,rfl⟩
   refine jlp (λm vs R' D'=>R' = R9∧∃(j:Nat) (w5:List Int),j≤l[k].refs.length∧w5.length = s.A5.length∧Ft l AF to_ w5 (y + 2 + j) (l[k].refs.drop j) = some wc∧D' = (b15,C B8 (eTh l[k] (.slice ra l[k].refs.length rc) (.slice na l[k].nums.length nc))) :: (bw,C AZ (w5.map I ++ [])) :: (bt,C AD (AW eRg t2 ++ tsp)) :: E∧vs = [.pointer (some ⟨b1,0,none⟩),.pointer (some ⟨b2,0,none⟩),lv,v9,.slice (some ⟨bt,0,none⟩) s.A0.length ct,.slice (some ⟨bw,0,none⟩) s.A5.length s.A5.length,v,I i,.pointer (some ⟨b15,0,none⟩),I j]∧m = l[k].refs.length - j)
    (n:=l[k].refs.length) ⟨rfl,0,wb,by omega,by omega,by simpa using hwc,rfl,rfl,by omega⟩ ?_
   rintro m5 e R8 D8 K8 ⟨hR,j,w5,hj,hl5,hrw5,hD,he,hm5⟩ hK8;subst hR;rw[hD];clear hD;simp only[List.map,lc,ln,lj,z_t] at he;simp only[he];refine jl (v:=.slice ra l[k].refs.length rc) rfl (jln (jlt (jif (λhd=>?_) (λhd=>?_))));rotate_left
   ·have hd:=z_g hd;rw[List.drop_eq_nil_of_le (by omega)] at hrw5;have:w5 = wc:=by unfold Ft at hrw5;simpa using hrw5
    subst this;exact hK7 _ _ _ ⟨rfl,hl5,rfl,rfl⟩
   have hd:j < l[k].refs.length:=by have:=z_f hd;omega
   rw[List.drop_eq_getElem_cons hd] at hrw5;unfold Ft at hrw5;obtain⟨z,hz,hrw5⟩:=AA hrw5;obtain⟨w6,hw6,hrw5⟩:=AA hrw5;refine AH (λvs R' D'=>R' = R8∧w6.length = s.A5.length∧D' = (b15,C B8 (eTh l[k] (.slice ra l[k].refs.length rc) (.slice na l[k].nums.length nc))) :: (bw,C AZ (w6.map I ++ [])) :: (bt,C AD (AW eRg t2 ++ tsp)) :: E∧vs = [.pointer (some ⟨b1,0,none⟩),.pointer (some ⟨b2,0,none⟩),lv,v9,.slice (some ⟨bt,0,none⟩) s.A0.length ct,.slice (some ⟨bw,0,none⟩) s.A5.length s.A5.length,v,I i,.pointer (some ⟨b15,0,none⟩),I j]) (λK9 hK9=>?_) ?_;rotate_left
   ·rintro e Rx D9 ⟨hR,hl6,hD,he⟩;subst hR;rw[hD];clear hD;simp only[List.map,lc,ln,lj,z_t] at he;simp only[he];refine Ac ⟨by omega,by omega⟩ ?_;exact hK8 (l[k].refs.length - (j + 1)) _ _ _ (by omega) ⟨rfl,j + 1,w6,by omega,hl6,by rw[← hrw5];congr 1;omega,rfl,rfl,rfl⟩
   refine AH (λvs R' D'=>R' = R8∧w6.length = s.A5.length∧D' = (b15,C B8 (eTh l[k] (.slice ra l[k].refs.length rc) (.slice na l[k].nums.length nc))) :: (bw,C AZ (w6.map I ++ [])) :: (bt,C AD (AW eRg t2 ++ tsp)) :: E∧vs = [.pointer (some ⟨b1,0,none⟩),.pointer (some ⟨b2,0,none⟩),lv,v9,.slice (some ⟨bt,0,none⟩) s.A0.length ct,.slice (some ⟨bw,0,none⟩) s.A5.length s.A5.length,v,I i,.pointer (some ⟨b15,0,none⟩),I j]) (λK10 hK10=>?_) ?_;rotate_left
   ·rintro e Rx D9 ⟨hR,hl6,hD,he⟩;rw[hD];clear hD;simp only[List.map,lc,ln,lj,z_t] at he;simp only[he];exact hK9 _ _ _ ⟨hR,hl6,rfl,rfl⟩
   refine jl (v:=.slice ra l[k].refs.length rc) rfl (CN hrv (by omega) (by omega) ?_);rw[getElem_congr_idx (Int.toNat_natCast j)];refine jro (Io hlv8 (by omega) hz) (jro (Gk z (B9.rd hi98) (by omega)) (jge (jif (λh0=>?_) (λh0=>?_))))
   ·have h0:=z_f h0;rw[if_pos (by omega)] at hw6;obtain⟨u,hu,hw6⟩:=AA hw6;obtain⟨u0,u1,u2,u3⟩:=Ai hu;obtain⟨p1,p2,p3⟩:=EY hw6;refine CN hito (by omega) (by omega) ?_;rw[ty];refine Ac ⟨by omega,by omega⟩ (Ac ⟨by omega,by omega⟩ (CN hito u0 u1 ?_));rw[u3];refine jia p1 (by omega) (jsi (l:=w5) (sp:=[]) (by omega) ?_);rw[← p3];exact hK10 _ _ _ ⟨rfl,by rw[p3,List.length_set];exact hl5,rfl,rfl⟩
   ·have h0:=z_g h0;rw[if_neg (by omega)] at hw6;have:w5 = w6:=by simpa using hw6
    subst this;exact hK10 _ _ _ ⟨rfl,hl5,rfl,rfl⟩
  rintro e R8 D8 ⟨hR,hlc,hD,he⟩;subst hR;rw[hD];clear hD;simp only[List.map,lc,ln,lj,z_t] at he;simp only[he];refine AH (λvs R' D'=>R' = R8∧wd.length = s.A5.length∧D' = (bw,C AZ (wd.map I ++ [])) :: (bt,C AD (AW eRg t2 ++ tsp)) :: E∧vs = [.pointer (some ⟨b1,0,none⟩),.pointer (some ⟨b2,0,none⟩),lv,v9,.slice (some ⟨bt,0,none⟩) s.A0.length ct,.slice (some ⟨bw,0,none⟩) s.A5.length s.A5.length,v,I i]) (λK7 hK7=>?_) ?_;rotate_left
  ·rintro e Rx D9 ⟨hR,hl6,hD,he⟩;rw[hD];clear hD;simp only[List.map,lc,ln,lj,z_t] at he;simp only[he];exact hK5 _ _ _ ⟨hR,hl6,rfl,rfl⟩
  refine jlp (λm vs R' D'=>R' = R8∧∃(j:Nat) (w5:List Int),j≤l[k].nums.length∧w5.length = s.A5.length∧wrs w5 (y + 2 + l[k].refs.length + j) (l[k].nums.drop j) = some wd∧D' = (b15,C B8 (eTh l[k] (.slice ra l[k].refs.length rc) (.slice na l[k].nums.length nc))) :: (bw,C AZ (w5.map I ++ [])) :: (bt,C AD (AW eRg t2 ++ tsp)) :: E∧vs = [.pointer (some ⟨b1,0,none⟩),.pointer (some ⟨b2,0,none⟩),lv,v9,.slice (some ⟨bt,0,none⟩) s.A0.length ct,.slice (some ⟨bw,0,none⟩) s.A5.length s.A5.length,v,I i,.pointer (some ⟨b15,0,none⟩),I j]∧m = l[k].nums.length - j)
   (n:=l[k].nums.length) ⟨rfl,0,wc,by omega,by omega,by simpa using hwd,rfl,rfl,by omega⟩ ?_
  rintro m5 e Rx D9 K8 ⟨hR,j,w5,hj,hl5,hrw5,hD,he,hm5⟩ hK8;subst hR;rw[hD];clear hD;simp only[List.map,lc,ln,lj,z_t] at he;simp only[he];refine jfo (jl (v:=.slice na l[k].nums.length nc) rfl (jln (jlt (jif (λhd=>?_) (λhd=>?_)))));rotate_left
  ·have hd:=z_g hd;rw[List.drop_eq_nil_of_le (by omega)] at hrw5;have:w5 = wd:=by unfold wrs at hrw5;simpa using hrw5
   subst this;exact CR (hK7 _ _ _ ⟨rfl,hl5,rfl,rfl⟩)
  have hd:j < l[k].nums.length:=by have:=z_f hd;omega
  rw[List.drop_eq_getElem_cons hd] at hrw5;unfold wrs at hrw5;obtain⟨w6,hw6,hrw5⟩:=AA hrw5;obtain⟨p1,p2,p3⟩:=EY hw6;refine CN hito (by omega) (by omega) ?_;rw[ty];refine Ac ⟨by omega,by omega⟩ (jfo (jl (v:=.slice ra l[k].refs.length rc) rfl (jln (Ac ⟨by omega,by omega⟩ (Ac ⟨by omega,by omega⟩ ?_)))));refine jfo (jl (v:=.slice na l[k].nums.length nc) rfl (CN hnv (by omega) (by omega) ?_));rw[getElem_congr_idx (Int.toNat_natCast j)];refine jia p1 (by omega) (jsi (l:=w5) (sp:=[]) (by omega) (Ac ⟨by omega,by omega⟩ ?_));rw[← p3];exact hK8 (l[k].nums.length - (j + 1)) _ _ _ (by omega) ⟨rfl,j + 1,w6,by omega,by rw[p3,List.length_set];exact hl5,by rw[← hrw5];congr 1;omega,rfl,rfl,rfl⟩
 rintro e Rw D9 ⟨hRw,hl2,hD,he⟩;subst hRw;rw[hD];clear hD;simp only[List.map,lc,ln,lj,z_t] at he;simp only[he];obtain⟨rfl,hfin⟩:=Ak hful;refine AH (λvs R' D'=>Rw.le R'∧∃bm b19 pv',B9 R' pv' s.AQ∧D' = (b19,C AM (eSt s' (.slice (some ⟨bw,0,none⟩) s.A5.length s.A5.length) (.slice (some ⟨bt,0,none⟩) s.A0.length ct) (.slice (some ⟨bm,0,none⟩) s.A5.length s.A5.length) (.slice none 0 0) (.slice none 0 0) (pv'))) :: (bm,C Az ((List.replicate s.A5.length [Value.bool false]).flatten)) :: (bw,C AZ (w2.map I ++ [])) :: (bt,C AD (AW eRg t2 ++ tsp)) :: E∧vs = [.pointer (some ⟨b1,0,none⟩),.pointer (some ⟨b2,0,none⟩),lv,v9,v,.pointer (some ⟨b19,0,none⟩)]) (λK hK=>?_) ?_
 ·refine jln (jl (v:=.bool s.Ad) rfl (jl (v:=pv) rfl (jl (v:=I s.Ap) rfl (jl (v:=I s.BQ) rfl (Ac hfin ?_)))));refine E2 ?_ (E2 ?_ (DT ?_))
  ·refine jms (by omega) (by omega) (by omega) λbm=>?_
   rw[Int.toNat_natCast];refine Ae (jl (v:=.bool s.Ad) rfl jev) (Ae (jl (v:=pv) rfl jev) (Ae (jl (v:=I s.Ap) rfl jev) (Ae (jl (v:=I s.BQ) rfl jev) ?_)));refine E2 ?_ (DT ?_)
   ·refine jc (A:=[]) (Br h8.p hpl) ?_;rintro _ Ry _ hRy ⟨bp,cp,spp,hcp,hspp,rfl,rfl⟩;refine Ba (b:=bp) λRz hRz hbp=>QA ?_
    have hpv:=Bn (c:=cp) hbp hcp;refine jbd (cs:=(eSt s' (.slice (some ⟨bw,0,none⟩) s.A5.length s.A5.length) (.slice (some ⟨bt,0,none⟩) s.A0.length ct) (.slice (some ⟨bm,0,none⟩) s.A5.length s.A5.length) (.slice none 0 0) (.slice none 0 0) (.slice (some ⟨bp,0,none⟩) s.AQ.length cp))) rfl (by rw[← hS];rfl) ?_;refine Ae (jl (v:=.bool s.Ad) rfl jev) (Ae (jl (v:=I s.Ap) rfl jev) (Ae (jl (v:=I s.BQ) rfl jev) ?_));refine ja λb19=>?_
    refine Ae (jl (v:=.bool s.Ad) rfl jev) (Ae (jl (v:=I s.Ap) rfl jev) (Ae (jl (v:=I s.BQ) rfl jev) ?_));refine js (cs':=(eSt s' (.slice (some ⟨bw,0,none⟩) s.A5.length s.A5.length) (.slice (some ⟨bt,0,none⟩) s.A0.length ct) (.slice (some ⟨bm,0,none⟩) s.A5.length s.A5.length) (.slice none 0 0) (.slice none 0 0) (.slice (some ⟨bp,0,none⟩) s.AQ.length cp))) rfl rfl (by exact z_n 13) rfl ?_;refine Av [(b19,C AM (eSt s' (.slice (some ⟨bw,0,none⟩) s.A5.length s.A5.length) (.slice (some ⟨bt,0,none⟩) s.A0.length ct) (.slice (some ⟨bm,0,none⟩) s.A5.length s.A5.length) (.slice none 0 0) (.slice none 0 0) (.slice (some ⟨bp,0,none⟩) s.AQ.length cp))),(bm,C Az ((List.replicate s.A5.length [Value.bool false]).flatten))] (G:=(bw,C AZ (w2.map I ++ [])) :: (bt,C AD (AW eRg t2 ++ tsp)) :: E) ?_;exact hK _ _ _ ⟨hRy.trans hRz,bm,b19,_,hpv,rfl,rfl⟩
   ·refine ja λb19=>?_
    refine Ae (jl (v:=.bool s.Ad) rfl jev) (Ae (jl (v:=pv) rfl jev) (Ae (jl (v:=I s.Ap) rfl jev) (Ae (jl (v:=I s.BQ) rfl jev) ?_)));refine jc (A:=[]) (Br h8.p hpl) ?_;rintro _ Ry _ hRy ⟨bp,cp,spp,hcp,hspp,rfl,rfl⟩;refine Ba (b:=bp) λRz hRz hbp=>QA ?_
    have hpv:=Bn (c:=cp) hbp hcp;refine jbd (cs:=(eSt s' (.slice (some ⟨bw,0,none⟩) s.A5.length s.A5.length) (.slice (some ⟨bt,0,none⟩) s.A0.length ct) (.slice (some ⟨bm,0,none⟩) s.A5.length s.A5.length) (.slice none 0 0) (.slice none 0 0) (.slice (some ⟨bp,0,none⟩) s.AQ.length cp))) rfl (by rw[← hS];rfl) ?_;refine Ae (jl (v:=.bool s.Ad) rfl jev) (Ae (jl (v:=I s.Ap) rfl jev) (Ae (jl (v:=I s.BQ) rfl jev) ?_));refine js (cs':=(eSt s' (.slice (some ⟨bw,0,none⟩) s.A5.length s.A5.length) (.slice (some ⟨bt,0,none⟩) s.A0.length ct) (.slice (some ⟨bm,0,none⟩) s.A5.length s.A5.length) (.slice none 0 0) (.slice none 0 0) (.slice (some ⟨bp,0,none⟩) s.AQ.length cp))) rfl rfl (by exact z_n 13) rfl ?_;refine Av [(b19,C AM (eSt s' (.slice (some ⟨bw,0,none⟩) s.A5.length s.A5.length) (.slice (some ⟨bt,0,none⟩) s.A0.length ct) (.slice (some ⟨bm,0,none⟩) s.A5.length s.A5.length) (.slice none 0 0) (.slice none 0 0) (.slice (some ⟨bp,0,none⟩) s.AQ.length cp))),(bm,C Az ((List.replicate s.A5.length [Value.bool false]).flatten))] (G:=(bw,C AZ (w2.map I ++ [])) :: (bt,C AD (AW eRg t2 ++ tsp)) :: E) ?_;exact hK _ _ _ ⟨hRy.trans hRz,bm,b19,_,hpv,rfl,rfl⟩
  ·refine jc (A:=[]) (Br h8.p hpl) ?_;rintro _ Ry _ hRy ⟨bp,cp,spp,hcp,hspp,rfl,rfl⟩;refine Ba (b:=bp) λRz hRz hbp=>QA ?_
   have hpv:=Bn (c:=cp) hbp hcp;refine Ae (jl (v:=.bool s.Ad) rfl jev) (Ae (jl (v:=I s.Ap) rfl jev) (Ae (jl (v:=I s.BQ) rfl jev) ?_));refine E2 ?_ (DT ?_)
   ·refine jms (by omega) (by omega) (by omega) λbm=>?_
    rw[Int.toNat_natCast];refine jbd (cs:=(eSt s' (.slice (some ⟨bw,0,none⟩) s.A5.length s.A5.length) (.slice (some ⟨bt,0,none⟩) s.A0.length ct) (.slice (some ⟨bm,0,none⟩) s.A5.length s.A5.length) (.slice none 0 0) (.slice none 0 0) (.slice (some ⟨bp,0,none⟩) s.AQ.length cp))) rfl (by rw[← hS];rfl) ?_;refine Ae (jl (v:=.bool s.Ad) rfl jev) (Ae (jl (v:=I s.Ap) rfl jev) (Ae (jl (v:=I s.BQ) rfl jev) ?_));refine ja λb19=>?_
    refine Ae (jl (v:=.bool s.Ad) rfl jev) (Ae (jl (v:=I s.Ap) rfl jev) (Ae (jl (v:=I s.BQ) rfl jev) ?_));refine js (cs':=(eSt s' (.slice (some ⟨bw,0,none⟩) s.A5.length s.A5.length) (.slice (some ⟨bt,0,none⟩) s.A0.length ct) (.slice (some ⟨bm,0,none⟩) s.A5.length s.A5.length) (.slice none 0 0) (.slice none 0 0) (.slice (some ⟨bp,0,none⟩) s.AQ.length cp))) rfl rfl (by exact z_n 13) rfl ?_;refine Av [(b19,C AM (eSt s' (.slice (some ⟨bw,0,none⟩) s.A5.length s.A5.length) (.slice (some ⟨bt,0,none⟩) s.A0.length ct) (.slice (some ⟨bm,0,none⟩) s.A5.length s.A5.length) (.slice none 0 0) (.slice none 0 0) (.slice (some ⟨bp,0,none⟩) s.AQ.length cp))),(bm,C Az ((List.replicate s.A5.length [Value.bool false]).flatten))] (G:=(bw,C AZ (w2.map I ++ [])) :: (bt,C AD (AW eRg t2 ++ tsp)) :: E) ?_;exact hK _ _ _ ⟨hRy.trans hRz,bm,b19,_,hpv,rfl,rfl⟩
   ·refine ja λb19=>?_
    refine Ae (jl (v:=.bool s.Ad) rfl jev) (Ae (jl (v:=I s.Ap) rfl jev) (Ae (jl (v:=I s.BQ) rfl jev) ?_));refine jms (by omega) (by omega) (by omega) λbm=>?_
    rw[Int.toNat_natCast];refine jbd (cs:=(eSt s' (.slice (some ⟨bw,0,none⟩) s.A5.length s.A5.length) (.slice (some ⟨bt,0,none⟩) s.A0.length ct) (.slice (some ⟨bm,0,none⟩) s.A5.length s.A5.length) (.slice none 0 0) (.slice none 0 0) (.slice (some ⟨bp,0,none⟩) s.AQ.length cp))) rfl (by rw[← hS];rfl) ?_;refine Ae (jl (v:=.bool s.Ad) rfl jev) (Ae (jl (v:=I s.Ap) rfl jev) (Ae (jl (v:=I s.BQ) rfl jev) ?_));refine js (cs':=(eSt s' (.slice (some ⟨bw,0,none⟩) s.A5.length s.A5.length) (.slice (some ⟨bt,0,none⟩) s.A0.length ct) (.slice (some ⟨bm,0,none⟩) s.A5.length s.A5.length) (.slice none 0 0) (.slice none 0 0) (.slice (some ⟨bp,0,none⟩) s.AQ.length cp))) rfl rfl (by exact z_n 13) rfl ?_;refine Av [(b19,C AM (eSt s' (.slice (some ⟨bw,0,none⟩) s.A5.length s.A5.length) (.slice (some ⟨bt,0,none⟩) s.A0.length ct) (.slice (some ⟨bm,0,none⟩) s.A5.length s.A5.length) (.slice none 0 0) (.slice none 0 0) (.slice (some ⟨bp,0,none⟩) s.AQ.length cp))),(bm,C Az ((List.replicate s.A5.length [Value.bool false]).flatten))] (G:=(bw,C AZ (w2.map I ++ [])) :: (bt,C AD (AW eRg t2 ++ tsp)) :: E) ?_;exact hK _ _ _ ⟨hRy.trans hRz,bm,b19,_,hpv,rfl,rfl⟩
  ·refine ja λb19=>?_
   refine Ae (jl (v:=.bool s.Ad) rfl jev) (Ae (jl (v:=pv) rfl jev) (Ae (jl (v:=I s.Ap) rfl jev) (Ae (jl (v:=I s.BQ) rfl jev) ?_)));refine E2 ?_ (DT ?_)
   ·refine jms (by omega) (by omega) (by omega) λbm=>?_
    rw[Int.toNat_natCast];refine Ae (jl (v:=.bool s.Ad) rfl jev) (Ae (jl (v:=pv) rfl jev) (Ae (jl (v:=I s.Ap) rfl jev) (Ae (jl (v:=I s.BQ) rfl jev) ?_)));refine jc (A:=[]) (Br h8.p hpl) ?_;rintro _ Ry _ hRy ⟨bp,cp,spp,hcp,hspp,rfl,rfl⟩;refine Ba (b:=bp) λRz hRz hbp=>QA ?_
    have hpv:=Bn (c:=cp) hbp hcp;refine jbd (cs:=(eSt s' (.slice (some ⟨bw,0,none⟩) s.A5.length s.A5.length) (.slice (some ⟨bt,0,none⟩) s.A0.length ct) (.slice (some ⟨bm,0,none⟩) s.A5.length s.A5.length) (.slice none 0 0) (.slice none 0 0) (.slice (some ⟨bp,0,none⟩) s.AQ.length cp))) rfl (by rw[← hS];rfl) ?_;refine Ae (jl (v:=.bool s.Ad) rfl jev) (Ae (jl (v:=I s.Ap) rfl jev) (Ae (jl (v:=I s.BQ) rfl jev) ?_));refine js (cs':=(eSt s' (.slice (some ⟨bw,0,none⟩) s.A5.length s.A5.length) (.slice (some ⟨bt,0,none⟩) s.A0.length ct) (.slice (some ⟨bm,0,none⟩) s.A5.length s.A5.length) (.slice none 0 0) (.slice none 0 0) (.slice (some ⟨bp,0,none⟩) s.AQ.length cp))) rfl rfl (by exact z_n 13) rfl ?_;refine Av [(b19,C AM (eSt s' (.slice (some ⟨bw,0,none⟩) s.A5.length s.A5.length) (.slice (some ⟨bt,0,none⟩) s.A0.length ct) (.slice (some ⟨bm,0,none⟩) s.A5.length s.A5.length) (.slice none 0 0) (.slice none 0 0) (.slice (some ⟨bp,0,none⟩) s.AQ.length cp))),(bm,C Az ((List.replicate s.A5.length [Value.bool false]).flatten))] (G:=(bw,C AZ (w2.map I ++ [])) :: (bt,C AD (AW eRg t2 ++ tsp)) :: E) ?_;exact hK _ _ _ ⟨hRy.trans hRz,bm,b19,_,hpv,rfl,rfl⟩
   ·refine jc (A:=[]) (Br h8.p hpl) ?_;rintro _ Ry _ hRy ⟨bp,cp,spp,hcp,hspp,rfl,rfl⟩;refine Ba (b:=bp) λRz hRz hbp=>QA ?_
    have hpv:=Bn (c:=cp) hbp hcp;refine Ae (jl (v:=.bool s.Ad) rfl jev) (Ae (jl (v:=I s.Ap) rfl jev) (Ae (jl (v:=I s.BQ) rfl jev) ?_));refine jms (by omega) (by omega) (by omega) λbm=>?_
    rw[Int.toNat_natCast];refine jbd (cs:=(eSt s' (.slice (some ⟨bw,0,none⟩) s.A5.length s.A5.length) (.slice (some ⟨bt,0,none⟩) s.A0.length ct) (.slice (some ⟨bm,0,none⟩) s.A5.length s.A5.length) (.slice none 0 0) (.slice none 0 0) (.slice (some ⟨bp,0,none⟩) s.AQ.length cp))) rfl (by rw[← hS];rfl) ?_;refine Ae (jl (v:=.bool s.Ad) rfl jev) (Ae (jl (v:=I s.Ap) rfl jev) (Ae (jl (v:=I s.BQ) rfl jev) ?_));refine js (cs':=(eSt s' (.slice (some ⟨bw,0,none⟩) s.A5.length s.A5.length) (.slice (some ⟨bt,0,none⟩) s.A0.length ct) (.slice (some ⟨bm,0,none⟩) s.A5.length s.A5.length) (.slice none 0 0) (.slice none 0 0) (.slice (some ⟨bp,0,none⟩) s.AQ.length cp))) rfl rfl (by exact z_n 13) rfl ?_;refine Av [(b19,C AM (eSt s' (.slice (some ⟨bw,0,none⟩) s.A5.length s.A5.length) (.slice (some ⟨bt,0,none⟩) s.A0.length ct) (.slice (some ⟨bm,0,none⟩) s.A5.length s.A5.length) (.slice none 0 0) (.slice none 0 0) (.slice (some ⟨bp,0,none⟩) s.AQ.length cp))),(bm,C Az ((List.replicate s.A5.length [Value.bool false]).flatten))] (G:=(bw,C AZ (w2.map I ++ [])) :: (bt,C AD (AW eRg t2 ++ tsp)) :: E) ?_;exact hK _ _ _ ⟨hRy.trans hRz,bm,b19,_,hpv,rfl,rfl⟩
 rintro e Ry D9 ⟨hRy,bm,b19,pv',hpv',hD,he⟩;rw[hD];clear hD;have es1:s'.A5 = w2:=by rw[← hS]
 have es2:s'.A0 = t2:=by rw[← hS]
 have es3:s'.AQ = s.AQ:=by rw[← hS]
 have es4:s'.AB = ths:=by rw[← hS]
 have es5:s'.AO = List.replicate w2.length false:=by rw[← hS]
 have hths8:DH l AF to_ s.AB = some s'.AB:=by rw[es4];exact hths
 rw[← hE];have ew:s.A5.length = s'.A5.length:=by rw[es1];exact hl2.symm
 have et:s.A0.length = s'.A0.length:=by rw[es2];exact ht2.symm
 have em:(List.replicate s.A5.length [Value.bool false]).flatten = s'.AO.map Value.bool:=by rw[es5,hl2];simp
 have el:s'.AO.length = s'.A5.length:=by rw[es5,es1,List.length_replicate]
 rw[em,← es1,← es2,ew,et];refine Av [(b19,C AM (eSt s' (.slice (some ⟨bw,0,none⟩) s'.A5.length s'.A5.length) (.slice (some ⟨bt,0,none⟩) s'.A0.length ct) (.slice (some ⟨bm,0,none⟩) s'.A5.length s'.A5.length) (.slice none 0 0) (.slice none 0 0) pv')),(b2,C AM (cl z58)),(b1,C AM (eSt s wv tv mv thv ov pv)),(bw,C AZ (s'.A5.map I ++ [])),(bt,C AD (AW eRg s'.A0 ++ tsp)),(bm,C Az (s'.AO.map Value.bool))] (G:=F) ?_;have hRR:=hR1.trans (hR2.trans (hR3.trans (hR5.trans (hR8.trans hRy))));have hpf:=Fz.flat hpv';change J Ry _ (l7d e _);refine U5 (E:=(b1,C AM (eSt s wv tv mv thv ov pv)) :: (bw,C AZ (s'.A5.map I ++ [])) :: (bt,C AD (AW eRg s'.A0 ++ tsp)) :: (bm,C Az (s'.AO.map Value.bool)) :: F) (h8.le hRy) (hlv8.le hRy) (by omega) (hi98.le hRy) (by omega) (hito.le hRy) hths8 hth hrl inferInstance he (λx hx=>?_) (λR' x hR' hx=>?_)
 ·show (true && (true && (true && (true && (true && (true && (true && (true && (flat x && (true && (flat pv' && (true && (true && true))))))))))))) = true;rw[hx,hpf];rfl
 ·refine BR (A:=[(bw,C AZ (s'.A5.map I ++ [])),(bt,C AD (AW eRg s'.A0 ++ tsp)),(bm,C Az (s'.AO.map Value.bool))]) (hRR.trans hR') ⟨bw,[],s'.A5.length,bt,tsp,ct,bm,x,pv',by omega,by omega,by omega,by omega,by omega,hx,?_,rfl,?_⟩
  ·rw[es3];exact hpv'.le hR'
  ·rw[el]
end Go.Lf
end
section
namespace Go.Lf
open Go Sm
theorem UL {R:RM} {b c:Nat} {l:List Rg} {sp:List Value} (h:R b = some (C AD (AW eRg l ++ sp))) (hc:l.length≤c):Rgs R (.slice (some ⟨b,0,none⟩) l.length c) l:=by
 have e:=DW (f:=eRg) (w:=5) (λ_=>rfl) l;exact .inr ⟨b,0,c,AD,_,rfl,h,by rw[List.length_append,e];omega,by rw[List.drop_zero,← e,List.take_left],hc⟩
theorem Rl {R:RM} {b c:Nat} {l:List Bool} {sp:List Value} (h:R b = some (C Az (l.map Value.bool ++ sp))) (hc:l.length≤c):Bls R (.slice (some ⟨b,0,none⟩) l.length c) l:=by
 have e:(l.map Value.bool).length = l.length * 1:=by simp
 exact .inr ⟨b,0,c,Az,_,rfl,h,by rw[List.length_append,e];omega,by rw[List.drop_zero,← e,List.take_left],hc⟩
theorem Jc {l:List Am} {AF to_:List Int}:∀{ts r:List Th},DH l AF to_ ts = some r→r.length = ts.length
 | [],r,h=>by unfold DH at h;cases h;rfl
 | t :: ts,r,h=>by
  obtain⟨A7,rest,_,h2,rfl⟩:=JT h;rw[List.length_cons,List.length_cons,Jc h2]
theorem Pq {s s' : Sm.CL} (h:Fm s = some s'):s'.AB.length = s.AB.length∧s'.old = []:=by
 unfold Fm at h;obtain⟨_,_,h⟩:=AA h;obtain⟨⟨_,_⟩,_,h⟩:=AA h;obtain⟨⟨_,_⟩,_,h⟩:=AA h;obtain⟨_,_,h⟩:=AA h;obtain⟨_,hths,h⟩:=AA h;obtain⟨_,_,h⟩:=AA h;simp only[Option.some.injEq] at h;subst h;exact⟨Jc hths,rfl⟩
theorem QY {p n:Nat} {S S' : Sim} {g:Img} {R:RM} (hok:Ok R S g) (hp:Pr S) (hT:TOk S.A0) (hf:S.full = true) (hS:S.pause n = some S') :
  Fn P Cy [.pointer (some ⟨p,0,none⟩)] R (AV p S g) (CT p S' λ_=>True):=by
 refine I4 λF=>?_
 unfold FK;unfold Sim.pause at hS;split at hS
 ·cases hS
 rename_i hz;have hz:S.sz = true:=by simpa using hz
 obtain⟨s,hs,hS⟩:=AA hS;simp only[Option.some.injEq] at hS;have hze:=En hz;have hhl:=hok.hl;refine jl (v:=.bool S.full) rfl ?_;rw[hf];refine F7 ?_;refine jc (A:=AV p S g) (Ui hok hz) ?_;rintro _ R1 _ hR1 ⟨-,rfl,thv,hths,rfl⟩;have ok1:=hok.le hR1;unfold AV;refine Ba (b:=g.wb) λR2 hR2 hbw=>Ba (b:=g.tb) λR3 hR3 hbt=>Ba (b:=g.mb) λR4 hR4 hbm=>?_
 have hR14:=(hR2.trans hR3).trans hR4;have ok4:=ok1.le hR14;have hst:StC R4 S.view (wS S g) (tS S g) (mS S g) thv g.old g.AQ:=⟨Bn (hR4 _ _ (hR3 _ _ hbw)) hok.wk,UL (hR4 _ _ hbt) hok.tk,Rl hbm hok.mk_,hths.le hR14,ok4.old,ok4.AQ⟩;have hvl:S.view.AB.length = S.th.length:=by simp[Sim.view]
 obtain⟨hsl,hold⟩:=Pq hs;refine jc (A:=[]) (Qm hst hok.wl hT.n0 hT.n1 (by omega) (λt ht=>?_) hze.2.2.2.1 hp.2 hs) ?_
 ·obtain⟨t',ht',rfl⟩:=List.mem_map.1 ht;exact hze.2.2.2.2 _ ht'
 rintro _ R5 _ hR5 ⟨bw,wsp,cw,bt,tsp,ct,bm,thv',pv',w1,w2,w3,w4,w5,hths',hpv',rfl,rfl⟩;have ok5:=ok4.le hR5;obtain⟨ta,tc,htv⟩:=hths'.sl;have hpf:=Fz.flat hpv';have w1:s.A5.length = S.A5.length:=w1;have w2:s.A0.length = S.A0.length:=w2;have w3:s.AO.length = S.A5.length:=w3;have hwl:=hok.wl;have htl:=hok.tl;refine js (cs':=Bg { S with A5:=s.A5,A0:=s.A0,AO:=s.AO,Aa:=s.Aa,stop:=s.stop,full:=s.full,old:=s.old,AQ:=s.AQ,Ap:=s.Ap,BQ:=s.BQ } { g with wb:=bw,wc:=cw,wsp:=wsp,tb:=bt,tc:=ct,tsp:=tsp,mb:=bm,mc:=s.AO.length,msp:=[],Ad:=.bool s.Ad,want:=I s.want,AB:=thv',old:=.slice none 0 0,AQ:=pv' }) rfl ?_ (by show 4 + 13≤35;omega) rfl ?_
 ·subst htv;show (true && (true && (true && (true && (true && (true && (true && (true && (true && (true && (flat pv' && (true && (true && true))))))))))))) = true;rw[hpf];rfl
 refine jl (v:=.bool s.Ad) rfl ?_;refine jbd (cs:=Af (CB s.Ad 0) (.slice none 0 0)) rfl rfl ?_;generalize hS3:({ S with A5:=s.A5,A0:=s.A0,AO:=s.AO,Aa:=s.Aa,stop:=s.stop,full:=s.full,old:=s.old,AQ:=s.AQ,Ap:=s.Ap,BQ:=s.BQ,col:=CB s.Ad 0 }:Sim) = S3;generalize hg3:({ g with wb:=bw,wc:=cw,wsp:=wsp,tb:=bt,tc:=ct,tsp:=tsp,mb:=bm,mc:=s.AO.length,msp:=[],Ad:=.bool s.Ad,want:=I s.want,AB:=thv',old:=.slice none 0 0,AQ:=pv',AE:=.slice none 0 0 }:Img) = g3;have eth:S3.th = S.th:=by rw[← hS3]
 have ethv:g3.AB = thv':=by rw[← hg3]
 have ok3:Ok R5 S3 g3:=by
  subst hS3 hg3 htv;exact { ok5 with old:=.inl ⟨rfl,by rw[hold];rfl,by rw[hold];rfl⟩,AQ:=hpv',AE:=.inl ⟨rfl,rfl,rfl⟩,wl:=by show s.A5.length≤1000;omega,tl:=by show s.A0.length≤1000;omega,ml:=by show s.AO.length≤1000;omega,fl:=⟨rfl,rfl,rfl⟩,wk:=w4,tk:=w5,mk_:=z_n _ }
 refine js (cs':=Bg S3 g3) rfl rfl (by exact Nat.le_of_ble_eq_true rfl) (by rw[← hS3,← hg3];rfl) ?_;refine Au (D':=AV p S3 g3 ++ F) (by
  have e:AV p S3 g3 = (p,C BL (Bg S3 g3)) :: (bw,C AZ (s.A5.map I ++ wsp)) :: (bt,C AD (AW eRg s.A0 ++ tsp)) :: (bm,C Az (s.AO.map Value.bool ++ [])) :: (g.hb,C AR (DQ S.th g.rv ++ g.hsp)) :: evD S g:=by rw[← hS3,← hg3];rfl
  rw[e,List.append_nil]
  exact List.perm_middle (l₁:=[(bw,C AZ (s.A5.map I ++ wsp)),(bt,C AD (AW eRg s.A0 ++ tsp)),(bm,C Az (s.AO.map Value.bool))])) ?_
 have hSe:S' = { S3 with th:=s.AB.map λt=>thr0 t.A7 t.next t.BC }:=by rw[← hS3,← hS]
 clear hS hS3 hg3 hst;generalize hT' : (s.AB.map λt=>thr0 t.A7 t.next t.BC) = T' at hSe;have hTl:T'.length = S.th.length:=by rw[← hT',List.length_map];omega
 have hTg:∀k (h:k < T'.length) (h' : k < s.AB.length),T'[k] = thr0 (s.AB[k]).A7 (s.AB[k]).next (s.AB[k]).BC:=λk h h'=>by simp only[← hT',List.getElem_map]
 rw[← eth] at hTl hhl hvl;rw[hvl] at hsl;subst hSe;refine jlp (λm vs R' D'=>R' = R5∧∃(k:Nat) (g4:Img),k≤S3.th.length∧g4.AB = thv'∧Ok R5 { S3 with th:=T'.take k ++ S3.th.drop k } g4∧D' = AV p { S3 with th:=T'.take k ++ S3.th.drop k } g4 ++ F∧vs = [.pointer (some ⟨p,0,none⟩),I k]∧m = S3.th.length - k)
  (n:=S3.th.length) ⟨rfl,0,g3,by omega,ethv,ok3,rfl,rfl,by omega⟩ ?_
 rintro m e R6 D6 K ⟨hR,k,g4,hk,e4,ok4,hD,he,hm⟩ hK;subst hR;rw[hD];clear hD;simp only[List.map,lc,ln,lj,z_t] at he;simp only[he];have hul:=EI (k:=k) hTl;refine jl (v:=.slice (some ⟨g4.hb,0,none⟩) (T'.take k ++ S3.th.drop k).length g4.hc) rfl (jln (jlt (jif (λhc=>?_) (λhc=>?_))));rotate_left
 ·have hc:S3.th.length≤k:=by have:=z_g hc;omega
  have ee:T'.take k ++ S3.th.drop k = T':=by rw[List.take_of_length_le (by omega),List.drop_eq_nil_of_le (by omega),List.append_nil]
  rw[ee] at ok4 ⊢;exact Aj (hR1.trans (hR14.trans hR5)) trivial rfl ok4
 have hc:k < S3.th.length:=by have:=z_f hc;omega
 have hcs:k < s.AB.length:=by omega
 refine jl (v:=g4.AB) rfl ?_;rw[e4];refine jtr hths' hcs λb3 o3 ty cs rv hrv hb3 ho3 hrow3=>?_
 refine Of hb3 ho3 hrow3 ?_;obtain⟨ra,rc,hrve⟩:=hrv.sl;subst hrve;refine ja λb30=>?_
 refine js (cs':=[.slice ra (s.AB[k]).A7.length rc,I (s.AB[k]).next,.bool (s.AB[k]).busy,I (s.AB[k]).BC]) rfl rfl (by exact z_n 4) rfl ?_;refine jl (v:=.slice (some ⟨g4.hb,0,none⟩) (T'.take k ++ S3.th.drop k).length g4.hc) rfl ?_;refine jl (v:=.slice ra (s.AB[k]).A7.length rc) rfl (jl (v:=I (s.AB[k]).next) rfl (jl (v:=I (s.AB[k]).BC) rfl ?_));refine jbd (cs:=Ab (thr0 (s.AB[k]).A7 (s.AB[k]).next (s.AB[k]).BC) (.slice ra (s.AB[k]).A7.length rc)) rfl rfl ?_;refine Bc (by omega) ?_;refine jst (p:=p) (S:={ S3 with th:=T'.take k ++ S3.th.drop k }) (g:=g4) _ _ (by show k < (T'.take k ++ S3.th.drop k).length;omega) ok4.rvl (Fz.flat hrv) rfl rfl ?_;refine Ac ⟨by omega,by omega⟩ ?_;have Kk:(T'.take k ++ S3.th.drop k).set k (thr0 (s.AB[k]).A7 (s.AB[k]).next (s.AB[k]).BC) = T'.take (k + 1) ++ S3.th.drop (k + 1):=by
  rw[← hTg k (by omega) hcs];exact KW hTl hc
 have ok5':=ok4.setT (i:=k) (t:=thr0 (s.AB[k]).A7 (s.AB[k]).next (s.AB[k]).BC) (v:=.slice ra (s.AB[k]).A7.length rc) hrv;dsimp only at ok5' ⊢;rw[Kk] at ok5' ⊢;refine Av (AV p { S3 with th:=T'.take (k + 1) ++ S3.th.drop (k + 1) } { g4 with rv:=g4.rv.set k (.slice ra (s.AB[k]).A7.length rc) }) (G:=F) ?_;exact hK (S3.th.length - (k + 1)) _ _ _ (by omega) ⟨rfl,k + 1,{ g4 with rv:=g4.rv.set k (.slice ra (s.AB[k]).A7.length rc) },by omega,e4,ok5',rfl,rfl,rfl⟩
theorem PY {p n:Nat} {S S' : Sim} {g:Img} {R:RM} (hok:Ok R S g) (hp:Pr S) (hT:TOk S.A0) (hS:S.pause n = some S') :
  Fn P Cy [.pointer (some ⟨p,0,none⟩)] R (AV p S g) (CT p S' λ_=>True):=by
 cases hf:S.full with
 | true=>exact QY hok hp hT hf hS
 | false=>exact OJ hok hp hT hf hS
end Go.Lf
end
section
namespace Go.Lf
open Go Sm
theorem U8 (x:Int) (w:World):(Go.convert 5 3 (.int .u8 x):Sem Value).run P w = .ok (.int .i64 (IntKind.i64.wrap x)) w:=by
 kernel_rfl
def Bsl (R:RM) (v:Value) (n:Nat):Prop:=∃a cap,v = .slice a n cap∧n≤cap∧(n = 0∨∃b o,a = some ⟨b,o,none⟩∧∀i,i < n→∃t cs fz x,R b = some (.cells cs t fz)∧cs[o + i]? = some (.int .u8 x)∧0≤x∧x < 256)
theorem Bsl.le {R R' : RM} {v:Value} {n:Nat} (h:R.le R') (H:Bsl R v n):Bsl R' v n:=by
 obtain⟨a,cap,h1,h2,h3 | ⟨b,o,h3,h4⟩⟩:=H
 ·exact⟨a,cap,h1,h2,.inl h3⟩
 ·exact⟨a,cap,h1,h2,.inr ⟨b,o,h3,λi hi=>by obtain⟨t,cs,fz,x,q1,q2⟩:=h4 i hi;exact⟨t,cs,fz,x,h _ _ q1,q2⟩⟩⟩
section rules
variable {R:RM} {D:Chs} {k:Value→M}
theorem jcv {x:Int} (h:inR x) (H:J R D (k (I x))):J R D (X P (Go.convert 5 3 (.int .u8 x)) k):=by
 intro h' hs w hw;rw[U8,EG h];subst hw;exact⟨Ax.refl _,H _ hs⟩
theorem VZ {x y:Int} (hx:0≤x∧x < 4611686018427387904) (hy:0≤y∧y < 4611686018427387904) (H:∀z:Int,0≤z→z < 4611686018427387904→J R D (k (I z))):J R D (BO .xor (I x) (I y) k):=by
 have e:BO .xor (I x) (I y) k = k (.int .i64 (IntKind.i64.wrap (BitVec.ofInt 64 x ^^^ BitVec.ofInt 64 y).toNat)):=rfl;have h1:(BitVec.ofInt 64 x ^^^ BitVec.ofInt 64 y).toNat < 2 ^ 62:=by
  rw[BitVec.toNat_xor];have hb:∀z:Int,0≤z∧z < 4611686018427387904→(BitVec.ofInt 64 z).toNat < 2 ^ 62:=λz hz=>by
   rw[BitVec.toNat_ofInt];omega
  exact Nat.xor_lt_two_pow (hb x hx) (hb y hy)
 rw[e,EG ⟨by omega,by omega⟩];exact H _ (by omega) (by omega)
theorem Sr {v:Value} {n:Nat} {i:Int} (h:Bsl R v n) (h0:0≤i) (h1:i < n)
  (H:∀(q:Value) (x:Int),0≤x→x < 256→(∀(D' : Chs) (k' : Value→M),J R D' (k' (.int .u8 x))→J R D' (L1 q k'))→J R D (k q)):J R D (IA 1 v (I i) k):=by
 obtain⟨a,cap,rfl,hn,h2 | ⟨b,o,rfl,hc⟩⟩:=h
 ·omega
 ·obtain⟨t,cs,fz,x,hb,hx,x0,x1⟩:=hc i.toNat (by omega);refine jia h0 (by omega) (H _ x x0 x1 λD' k' hk=>?_);rw[Nat.mul_one];intro h hs;exact⟨.int .u8 x,by simp only[Go.Lf.hc,hs.rd b _ hb];exact hx,hk h hs⟩
end rules
def Byt (R:RM) (v:Value):Prop:=∃a n cap,v = .slice a n cap∧Bsl R v n∧n≤1000000
theorem Byt.le {R R' : RM} {v:Value} (h:R.le R') (H:Byt R v):Byt R' v:=by
 obtain⟨a,n,cap,h1,h2,h3⟩:=H;exact⟨a,n,cap,h1,h2.le h,h3⟩
@[reducible] def rdO (v:Value) (m:Int):Obj:=C 54 [v,I m]
theorem Uj {R:RM} {rb:Nat} {v:Value} {n m:Int} (hb:Byt R v) (hm:0≤m∧m < 1000000000) :
  Fn P EF [.pointer (some ⟨rb,0,none⟩),I n] R [(rb,rdO v m)] (λv' R' A=>R' = R∧A = [(rb,rdO v (m + 1))]∧∃x,v' = I x∧0≤x∧(x < n∨x = 0)):=by
 refine Kt λF=>?_
 unfold Fw;obtain⟨a,l,cap,rfl,hf,hl⟩:=hb;refine jl (v:=I m) rfl (Ac ⟨by omega,by omega⟩ (js (cs':=[.slice a l cap,I (m + 1)]) rfl rfl (by simp) rfl ?_));refine jor [.pointer (some ⟨rb,0,none⟩),I n] (decide (n < 1) || ((l:Int) == 0)) (λK' hK'=>?_) (λe c u ho he=>?_)
 ·refine jlt (BW (λh1=>?_) (λh1=>?_))
  ·refine jl (v:=.slice a l cap) rfl (jln (jeq (hK' _ _ _ (h1▸Ar) (by rw[h1,Bool.false_or]))))
  ·exact hK' _ _ _ (h1▸B7) (by rw[h1,Bool.true_or])
 simp only[List.map,lc,ln,lj,z_t] at he;simp only[he];rw[ho];have fin:∀x:Int,0≤x→(x < n∨x = 0)→J R ((rb,C 54 [.slice a l cap,I (m + 1)]) :: F) (ED R F (λv' R' A=>R' = R∧A = [(rb,rdO (.slice a l cap) (m + 1))]∧∃x,v' = I x∧0≤x∧(x < n∨x = 0)) (I x)):=λx x0 x1=>
  BR (A:=[(rb,rdO (.slice a l cap) (m + 1))]) (RM.le.refl R) ⟨rfl,rfl,x,rfl,x0,x1⟩
 refine jif (λh0=>fin 0 (by omega) (.inr rfl)) (λh0=>?_);simp only[Bool.or_eq_false_iff,decide_eq_false_iff_not,beq_eq_false_iff_ne] at h0;obtain⟨n1,l1⟩:=h0;have tm:∀x y:Int,0≤x→0 < y→0≤x.tmod y∧x.tmod y < y:=λx y hx hy=>⟨Int.tmod_nonneg y hx,Int.tmod_lt_of_pos x hy⟩
 refine jl (v:=I (m + 1)) rfl (DE ⟨by omega,by omega⟩ ?_);rw[show m + 1 - 1 = m from by omega];refine jl (v:=.slice a l cap) rfl (jln (jlt (jif (λh1=>?_) (λh1=>?_))))
 ·have h1:=z_f h1;refine jl (v:=.slice a l cap) rfl (Sr hf hm.1 h1 λq x x0 x1 hq=>?_);refine hq _ _ ?_;refine @jcv _ _ _ _ ⟨by omega,by omega⟩ (SX (by omega) ?_);obtain⟨t0,t1⟩:=tm x n x0 (by omega);exact fin _ t0 (.inl t1)
 ·refine AH (λvs R' D'=>R' = R∧D' = (rb,C 54 [.slice a l cap,I (m + 1)]) :: F∧∃x:Int,0≤x∧x < 1000000000000∧vs = [I n,I x]) (λK hK=>?_) ?_
  ·obtain⟨k0,k1⟩:=tm m l hm.1 (by omega);obtain⟨k2,k3⟩:=tm (m * 7 + 3) l (by omega) (by omega);have q0:0≤m.tdiv l:=Int.tdiv_nonneg hm.1 (by omega);have q1:m.tdiv l≤m:=by
    rw[Int.tdiv_eq_ediv_of_nonneg hm.1];exact Int.ediv_le_self _ hm.1
   refine jl (v:=.slice a l cap) rfl ?_;refine jl (v:=.slice a l cap) rfl (jln ?_);refine SX (by omega) ?_;refine Sr hf k0 k1 λqa x x0 x1 hqa=>?_
   refine hqa _ _ ?_;refine jl (v:=.slice a l cap) rfl (GC ⟨by omega,by omega⟩ (Ac ⟨by omega,by omega⟩ (jl (v:=.slice a l cap) rfl (jln (SX (by omega) (Sr hf k2 k3 λqb y y0 y1 hqb=>?_))))));refine hqb _ _ ?_;refine GC ⟨by omega,by omega⟩ (jl (v:=.slice a l cap) rfl (jln (Sc (by omega) ⟨by omega,by omega⟩ (GC ⟨by omega,by omega⟩ ?_))));refine E2 ?_ (DT ?_)
   ·refine @jcv _ _ _ _ ⟨by omega,by omega⟩ (GC ⟨by omega,by omega⟩ ?_);refine Ae (jl (v:=.slice a l cap) rfl jev) (Ae (jl (v:=.slice a l cap) rfl jev) (Ae (hqb _ _ jev) (Ae (jl (v:=.slice a l cap) rfl jev) ?_)));refine @jcv _ _ _ _ ⟨by omega,by omega⟩ (GC ⟨by omega,by omega⟩ (Ac ⟨by omega,by omega⟩ (Ac ⟨by omega,by omega⟩ (Ac ⟨by omega,by omega⟩ ?_))));refine Ae (jl (v:=.slice a l cap) rfl jev) ?_;exact hK _ _ _ ⟨rfl,rfl,_,by omega,by omega,rfl⟩
   ·refine @jcv _ _ _ _ ⟨by omega,by omega⟩ (GC ⟨by omega,by omega⟩ ?_);refine Ae (jl (v:=.slice a l cap) rfl jev) (Ae (jl (v:=.slice a l cap) rfl jev) (Ae (hqa _ _ jev) (Ae (jl (v:=.slice a l cap) rfl jev) ?_)));refine @jcv _ _ _ _ ⟨by omega,by omega⟩ (GC ⟨by omega,by omega⟩ (Ac ⟨by omega,by omega⟩ (Ac ⟨by omega,by omega⟩ (Ac ⟨by omega,by omega⟩ ?_))));refine Ae (jl (v:=.slice a l cap) rfl jev) ?_;exact hK _ _ _ ⟨rfl,rfl,_,by omega,by omega,rfl⟩
  rintro e R1 D1 ⟨hR,hD,x,x0,x1,he⟩;subst hR;rw[hD];clear hD;simp only[List.map,lc,ln,lj,z_t] at he;simp only[he];have e1:x.tdiv 64 = x / 64:=Int.tdiv_eq_ediv_of_nonneg x0;refine Sc (by decide) (by rw[e1];constructor<;>omega) ?_;rw[e1];refine VZ ⟨x0,by omega⟩ ⟨by omega,by omega⟩ λz z0 z1=>SX (by omega) ?_
  obtain⟨t0,t1⟩:=tm z n z0 (by omega);exact fin _ t0 (.inl t1)
theorem jpk {R:RM} {D E:Chs} {rb:Nat} {v:Value} {n m:Int} {k:Value→M} (hb:Byt R v) (hm:0≤m∧m < 1000000000) [t:Tk D rb (rdO v m) E] (H:∀x,0≤x→(x < n∨x = 0)→J R ((rb,rdO v (m + 1)) :: E) (k (I x))) :
  J R D (CA P EF [.pointer (some ⟨rb,0,none⟩),I n] k):=by
 refine jc (A:=[(rb,rdO v m)]) (F:=E) (s:=⟨t.p⟩) (Uj hb hm) ?_;rintro _ _ _ _ ⟨rfl,rfl,x,rfl,x0,x1⟩;exact H x x0 x1
end Go.Lf
end
