/- A part of the proof of the given row: the walk of the law and of all that it calls. Conditions: none. -/
import Derived.Test.YtoajhnhjmhdfdaaGreatLE
set_option linter.unusedVariables false
set_option linter.unusedSimpArgs false
section
namespace Go.Lf
open Go Sm
theorem QE {S:Sim} {i:Int} {t:Thr} {o:Sm.Op} (h:S.opOf i t = some o):∃p,idx S.AU i = some p∧idx p t.next = some o:=by
 unfold Sim.opOf at h;split at h
 ·exact⟨_,by assumption,h⟩
 ·cases h
theorem TU {R:RM} {F:Chs} {p b:Nat} {S:Sim} {g:Img} {i:Int} {t:Thr} {v:Value} {o:Sm.Op} {k:Value→M} (hok:Ok R S g) (ho:S.opOf i t = some o)
  (H:∀b2,J R ((b2,C 99 (eOp o)) :: (b,C AR (Ab t v)) :: (AV p S g ++ F)) (k (.pointer (some ⟨b2,0,none⟩)))) :
  J R ((b,C AR (Ab t v)) :: (AV p S g ++ F)) (L1 (.pointer (some ⟨p,3,none⟩)) λx9=>IA 1 x9 (I i) λx10=>L1 x10 λx11=>L1 (.pointer (some ⟨b,0 + 1,none⟩)) λx13=>IA 8 x11 x13 λx14=>LA 8 x14 λx15=>AL 99 z99 λx16=>
   AND (L1 (.pointer (some ⟨p,3,none⟩)) λx17=>EV x17 x9)<|AND (L1 x10 λx18=>EV x18 x11)<|AND (L1 (.pointer (some ⟨b,0 + 1,none⟩)) λx19=>EV x19 x13)<|AND (LA 8 x14 λx20=>EV x20 x15)<|ST 8 x16 x15<|k x16):=by
 obtain⟨pr,h1,h2⟩:=QE ho;obtain⟨i0,i1,i2,i3⟩:=Ai h1;obtain⟨n0,n1,n2,n3⟩:=Ai h2;obtain⟨vs,f1,f2,f3⟩:=hok.AU;obtain⟨x,f4,f5⟩:=f3 i.toNat i2;rw[i3] at f5;rcases f1 with ⟨_,h,_⟩ | ⟨bp,op_,cp,tp,cs,e1,e2,e3,e4,e5⟩
 ·omega
 rcases f5 with ⟨_,h,_⟩ | ⟨bo,oo,co,to_,co2,q1,q2,q3,q4,q5⟩
 ·omega
 have l1:J R ((b,C AR (Ab t v)) :: (AV p S g ++ F)) (L1 (.pointer (some ⟨p,3,none⟩)) λx9=>IA 1 x9 (I i) λx10=>L1 x10 λx11=>L1 (.pointer (some ⟨b,0 + 1,none⟩)) λx13=>IA 8 x11 x13 λx14=>LA 8 x14 λx15=>AL 99 z99 λx16=>
   AND (L1 (.pointer (some ⟨p,3,none⟩)) λx17=>EV x17 x9)<|AND (L1 x10 λx18=>EV x18 x11)<|AND (L1 (.pointer (some ⟨b,0 + 1,none⟩)) λx19=>EV x19 x13)<|AND (LA 8 x14 λx20=>EV x20 x15)<|ST 8 x16 x15<|k x16):=by
  have hx:cs[op_ + i.toNat * 1]? = some x:=by
   have:=congrArg (λl=>l[i.toNat]?) e4;simp only[List.getElem?_take,List.getElem?_drop] at this;rw[if_pos (by omega)] at this;rw[Nat.mul_one,this,f4]
  have ho8:(co2.drop (oo + t.next.toNat * 8)).take 8 = eOp o:=by
   have:=Cq (f:=eOp) (w:=8) (λ_=>rfl) (sp:=[]) n2;rw[List.append_nil,n3,← q4,List.drop_take,List.drop_drop,List.take_take] at this;rw[← this];congr 1;omega
  refine jl (v:=g.AU) rfl ?_;rw[e1];refine jia i0 (by omega) (jlr e2 hx ?_);rw[q1];refine jl (v:=I t.next) rfl ?_;refine jia n0 (by omega) ?_;refine Of q2 (by omega) ho8 ?_;refine ja λb2=>?_
  refine Ae (jl (v:=g.AU) rfl (by rw[e1];exact jev)) ?_;refine Ae (jlr e2 (by rw[hx,q1]) jev) ?_;refine Ae (jl (v:=I t.next) rfl jev) ?_;refine Ae (Of q2 (by omega) ho8 jev) ?_;refine js (cs':=eOp o) rfl rfl (by exact z_n 8) (by rfl) (H b2)
 exact l1
theorem U7 {o:Sm.Op} {A7:List Int} (h8:o.kind = 8) (h:Ct o A7 0 = 0):0 < A7.length:=by
 by_cases c:0 < A7.length
 ·exact c
 ·exfalso;have:A7 = []:=List.length_eq_zero_iff.1 (by omega);subst this;unfold Ct at h;simp[h8] at h
theorem S9 {S S' : Sim} {i a c:Int} (h:S.event i a c = some S'):S.sz = true:=by
 unfold Sim.event at h;split at h
 ·cases h
 ·rename_i hz;simpa using hz
theorem S6 {S:Sim} {i:Int} {t t' : Thr} (h:(S.setT i t').sz = true) (ht:idx S.th i = some t):t'.A7.length < 1000000:=by
 obtain⟨i0,i1,i2,i3⟩:=Ai ht;refine (En h).2.2.2.2 t' ?_;show t'∈AT S.th i t';unfold AT;exact List.mem_of_getElem? (List.getElem?_set_self (by omega))
theorem T6 {p:Nat} {S S' : Sim} {g:Img} {i:Int} {R:RM} (hok:Ok R S g) (hS:S.begin_ i = some S') :
  Fn P Hg [.pointer (some ⟨p,0,none⟩),I i] R (AV p S g) (CT p S' λ_=>True):=by
 refine Ni λF=>?_
 unfold IJ;obtain⟨t,ht,hS⟩:=AA hS;obtain⟨o,ho,hS⟩:=AA hS;obtain⟨h0,h1,h2,h3⟩:=Ai ht;refine Ey (p:=p) hok ht rfl λb a cap hv=>?_
 refine TU (p:=p) hok ho λb2=>?_
 refine jla (l:=eOp o) (by exact z_n 8) (by rfl) ?_;refine jp (UX o) (jif (λhb=>?_) (λhb=>?_))
 ·rw[if_pos hb] at hS;refine jcS (p:=p) (by exact Cj hok hS) λ_ R2 g2 hR2 hr ok2=>?_
  exact Aj hR2 trivial rfl ok2
 rw[if_neg (by rw[hb];decide)] at hS;refine jla (l:=eOp o) (by exact z_n 8) (by rfl) ?_;refine jl (v:=.slice a t.A7.length cap) rfl ?_;refine jrp (Pp o 0 hv) (jne (jif (λhc=>?_) (λhc=>?_)))
 ·have hc:Ct o t.A7 0≠0:=by simpa using hc
  simp only[if_pos hc] at hS;refine jcS (p:=p) (by exact Cj hok hS) λ_ R2 g2 hR2 hr ok2=>?_
  exact Aj hR2 trivial rfl ok2
 have hc:Ct o t.A7 0 = 0:=by simpa using hc
 simp only[if_neg (show ¬ Ct o t.A7 0≠0 from λh=>h hc)] at hS;refine jl (v:=I o.kind) rfl (jeq (jif (λh8=>?_) (λh8=>?_)))
 ·have h8:=eq_of_beq h8;rw[if_pos h8] at hS;have hn:=U7 h8 hc;have hsz:=S6 (S9 hS) ht;have hl1:t.A7.length≤1000000:=by simp at hsz;omega
  refine jl (v:=.slice a t.A7.length cap) rfl (jl (v:=.slice a t.A7.length cap) rfl (jln (DE ⟨by omega,by omega⟩ ?_)));refine Ri hv (by omega) (by omega) λv1 hv1=>?_
  rw[show ((t.A7.length:Int) - 1).toNat = t.A7.length - 1 from by omega] at hv1;refine jc (A:=[]) (Br hv1 (by simp;omega)) ?_;rintro _ R' _ hR ⟨b4,c4,sp4,hc4,hsp4,rfl,rfl⟩;refine Ba (b:=b4) λR2 hR2 hb4=>?_
  have hv2:=Bn (c:=c4) hb4 hc4;have ok2:=(hok.le hR).le hR2;refine js (cs':=Ab { t with A7:=t.A7.take (t.A7.length - 1) } (.slice (some ⟨b4,0,none⟩) (t.A7.take (t.A7.length - 1)).length c4)) rfl rfl (by simp[Ab]) rfl ?_;refine Ex (p:=p) (S.setT i { t with A7:=t.A7.take (t.A7.length - 1) }) (by exact ok2) h0 (by exact h1) (by exact hv2) (by rfl) λg3 ok3=>?_
  refine jcS (p:=p) (by exact Cj ok3 hS) λ_ R4 g4 hR4 hr ok4=>?_
  exact Aj ((hR.trans hR2).trans hR4) trivial rfl ok4
 have h8:o.kind≠8:=by simpa using h8
 rw[if_neg h8] at hS;refine jeq (jif (λh9=>?_) (λh9=>?_))
 ·have h9:=eq_of_beq h9;rw[if_pos h9] at hS;obtain⟨r,hr,hS⟩:=AA hS;obtain⟨r0,r1,r2,r3⟩:=Ai hr;refine jl (v:=.slice a t.A7.length cap) rfl (jl (v:=I o.a) rfl ?_);refine CN hv r0 r1 ?_;rw[r3];refine jcS (p:=p) (by exact Ln hok hS) λ_ R2 g2 hR2 hr ok2=>?_
  exact Aj hR2 trivial rfl ok2
 have h9:o.kind≠9:=by simpa using h9
 rw[if_neg h9] at hS;refine jeq (jif (λk1=>?_) (λk1=>?_))
 ·have k1:=eq_of_beq k1;rw[if_pos k1] at hS;cases hS;refine js (cs':=Ab { t with pc:=30 } (.slice a t.A7.length cap)) rfl rfl (by simp[Ab]) rfl ?_;refine Ex (p:=p) (S.setT i { t with pc:=30 }) (by exact hok) h0 (by exact h1) (by exact hv) (by rfl) λg3 ok3=>?_
  exact Aj (RM.le.refl _) trivial rfl ok3
 have k1:o.kind≠1:=by simpa using k1
 rw[if_neg k1] at hS;obtain⟨ra,hra,hS⟩:=AA hS;obtain⟨a0,a1,a2,a3⟩:=Ai hra;obtain⟨t2,ht2,hS⟩:=AA hS;obtain⟨t3,ht3,hS⟩:=AA hS;cases hS;refine js (cs':=Ab { t with pc:=1 } (.slice a t.A7.length cap)) rfl rfl (by simp[Ab]) rfl ?_;refine jl (v:=.slice a t.A7.length cap) rfl (jl (v:=I o.a) rfl (CN hv a0 a1 ?_));rw[a3];refine js (cs':=Ab { t with pc:=1,h:=ra } (.slice a t.A7.length cap)) rfl rfl (by simp[Ab]) rfl ?_;have ht2r:t2.A7 = t.A7:=by
  split at ht2
  ·obtain⟨x,_,hx⟩:=AA ht2;cases hx;rfl
  ·cases ht2;rfl
 have ht3r:t3.A7 = t.A7:=by
  split at ht3
  ·obtain⟨x,_,hx⟩:=AA ht3;cases hx;exact ht2r
  ·cases ht3;exact ht2r
 refine AH (λvs R' D'=>R' = R∧D' = (b2,C 99 (eOp o)) :: (b,C AR (Ab t2 (.slice a t.A7.length cap))) :: (AV p S g ++ F)∧vs = [.pointer (some ⟨p,0,none⟩),I i,.pointer (some ⟨b,0,none⟩),.pointer (some ⟨b2,0,none⟩)]) (λK' hK'=>?_) ?_
 ·refine jor [.pointer (some ⟨p,0,none⟩),I i,.pointer (some ⟨b,0,none⟩),.pointer (some ⟨b2,0,none⟩)] ((o.kind == 3) || (o.kind == 6)) (λK' hK'=>?_) (λe c u ho he=>?_)
  ·refine jl (v:=I o.kind) rfl (jeq (BW (λh1=>?_) (λh1=>?_)))
   ·refine jl (v:=I o.kind) rfl (jeq (hK' _ _ _ (h1▸Ar) (by rw[h1,Bool.false_or])))
   ·exact hK' _ _ _ (h1▸B7) (by rw[h1,Bool.true_or])
  simp only[List.map,lc,ln,lj,z_t] at he;simp only[he];refine jor [.pointer (some ⟨p,0,none⟩),I i,.pointer (some ⟨b,0,none⟩),.pointer (some ⟨b2,0,none⟩)] (((o.kind == 3) || (o.kind == 6)) || (o.kind == 7)) (λK' hK'=>?_) (λe c u ho he=>?_)
  ·rw[ho];refine BW (λh1=>?_) (λh1=>?_)
   ·refine jl (v:=I o.kind) rfl (jeq (hK' _ _ _ (h1▸Ar) (by rw[h1,Bool.false_or])))
   ·exact hK' _ _ _ (h1▸B7) (by rw[h1,Bool.true_or])
  simp only[List.map,lc,ln,lj,z_t] at he;simp only[he];rw[ho];refine jif (λhk=>?_) (λhk=>?_)
  ·rw[if_pos (by simpa [or_assoc,and_assoc] using hk)] at ht2;obtain⟨rb,hrb,ht2⟩:=AA ht2;obtain⟨b0,b1,b2',b3⟩:=Ai hrb;cases ht2;refine jl (v:=.slice a t.A7.length cap) rfl (jl (v:=I o.b) rfl (CN hv b0 b1 ?_));rw[b3];refine js (cs':=Ab { t with pc:=1,h:=ra,g:=rb } (.slice a t.A7.length cap)) rfl rfl (by simp[Ab]) rfl ?_;exact hK' _ _ _ ⟨rfl,rfl,rfl⟩
  ·rw[if_neg (by simpa [or_assoc,and_assoc] using hk)] at ht2;cases ht2;exact hK' _ _ _ ⟨rfl,rfl,rfl⟩
 ·rintro e R5 D3 ⟨rfl,hD,he⟩;rw[hD];clear hD;simp only[List.map,lc,ln,lj,z_t] at he;simp only[he];refine AH (λvs R' D'=>R' = R5∧(∃G,D' = (b,C AR (Ab t3 (.slice a t.A7.length cap))) :: (AV p S g ++ G)∧G = F)∧vs = [.pointer (some ⟨p,0,none⟩),I i,.pointer (some ⟨b,0,none⟩)]) (λK' hK'=>?_) ?_
  ·refine jl (v:=I o.kind) rfl (jeq (jif (λhk=>?_) (λhk=>?_)))
   ·rw[if_pos (eq_of_beq hk)] at ht3;obtain⟨rc,hrc,ht3⟩:=AA ht3;cases ht3;rw[ht2r] at hrc;obtain⟨b0,b1,b2',b3⟩:=Ai hrc;refine jl (v:=.slice a t.A7.length cap) rfl (jl (v:=I o.c) rfl (CN hv b0 b1 ?_));rw[b3];refine js (cs':=Ab { t2 with k:=rc } (.slice a t.A7.length cap)) rfl rfl (by simp[Ab]) rfl ?_;exact CR (hK' _ _ _ ⟨rfl,⟨_,rfl,rfl⟩,rfl⟩)
   ·rw[if_neg (ne_of_beq_false hk)] at ht3;cases ht3;exact CR (hK' _ _ _ ⟨rfl,⟨_,rfl,rfl⟩,rfl⟩)
  ·rintro e _ D3 ⟨rfl,⟨G,hD,hG⟩,he⟩;rw[hD,hG];clear hD;simp only[List.map,lc,ln,lj,z_t] at he;simp only[he];refine Ex (p:=p) (S.setT i t3) (by exact hok) h0 (by exact h1) (by rw[ht3r];exact hv) (by rfl) λg3 ok3=>?_
   exact Aj (RM.le.refl _) trivial rfl ok3
end Go.Lf
end
section
namespace Go.Lf
open Go Sm
instance (priority:=low) Sp.app (D A E F:Chs) [s:Sp D A E]:Sp (D ++ F) A (E ++ F):=⟨by rw[← List.append_assoc];exact s.p.append_right F⟩
theorem QA {R:RM} {D:Chs} {m:M} (H:J R D m):J R ([] ++ D) m:=H
theorem Vc {R:RM} {D G:Chs} {p b c:Nat} {S:Sim} {g:Img} {t' : List Rg} {sp:List Value} {m:M} [w:Fd D p S g G]
  (H:J R (AV p { S with A0:=t' } { g with tb:=b,tc:=c,tsp:=sp } ++ G) m) :
  J R ((b,C AD (AW eRg t' ++ sp)) :: D) (ST 1 (.pointer (some ⟨p,5,none⟩)) (.slice (some ⟨b,0,none⟩) t'.length c) m):=by
 refine Au ((w.ex.cons _).trans List.perm_middle.symm) ?_;have e2:Bg { S with A0:=t' } { g with tb:=b,tc:=c,tsp:=sp } = (Bg S g).set 5 (.slice (some ⟨b,0,none⟩) t'.length c):=by
  simp[Bg,evV]
 refine js (D:=AV p S g ++ (b,C AD (AW eRg t' ++ sp)) :: G) (t:=BL) (cs:=Bg S g) (cs':=Bg { S with A0:=t' } { g with tb:=b,tc:=c,tsp:=sp })
  (D':=(p,C BL (Bg { S with A0:=t' } { g with tb:=b,tc:=c,tsp:=sp })) :: ((g.wb,C AZ (S.A5.map I ++ g.wsp)) :: (g.tb,C AD (AW eRg S.A0 ++ g.tsp)) :: (g.mb,C Az (S.AO.map Value.bool ++ g.msp)) :: (g.hb,C AR (DQ S.th g.rv ++ g.hsp)) :: evD S g ++ (b,C AD (AW eRg t' ++ sp)) :: G)) rfl rfl (by simp[Bg]) (by rw[e2,show cl (Value.slice (some ⟨b,0,none⟩) t'.length c) = [Value.slice (some ⟨b,0,none⟩) t'.length c] from rfl,FR (by simp[Bg])]) ?_ (u:=?_)
 ·unfold AV;exact inferInstance
 ·refine Av ((p,C BL (Bg { S with A0:=t' } { g with tb:=b,tc:=c,tsp:=sp })) :: (g.wb,C AZ (S.A5.map I ++ g.wsp)) :: (b,C AD (AW eRg t' ++ sp)) :: (g.mb,C Az (S.AO.map Value.bool ++ g.msp)) :: (g.hb,C AR (DQ S.th g.rv ++ g.hsp)) :: evD S g) (G:=G) ?_;exact H
theorem Nh {R:RM} {D G:Chs} {p b c:Nat} {S:Sim} {g:Img} {t' : List Rg} {sp:List Value} {m:M} [w:Fd D p S g G]
  (H:J R (AV p { S with A0:=t' } { g with tb:=b,tc:=c,tsp:=sp } ++ G) m) :
  J R ([(b,C AD (AW eRg t' ++ sp))] ++ D) (ST 1 (.pointer (some ⟨p,5,none⟩)) (.slice (some ⟨b,0,none⟩) t'.length c) m):=Vc (D:=D) H
theorem CH {S S1:Sim} {a v:Int} (h:S.read a = some (v,S1)):S1 = { S with used:=true }:=by
 simp only[Sim.read] at h;split at h
 ·cases h;rfl
 ·cases h
theorem DY {S S1:Sim} {a v:Int} (h:S.write a v = some S1):S1 = { S with used:=true,A5:=AT S.A5 a v }:=by
 simp only[Sim.write] at h;split at h
 ·cases h;rfl
 ·cases h
theorem UY {S S1:Sim} {a v:Int} (h:S.top a v = some S1):∃t,S1 = { S with A0:=t }:=by
 unfold Sim.top at h;split at h
 ·split at h
  ·cases h;exact⟨_,rfl⟩
  ·cases h
 ·cases h
theorem Ok.tab {R:RM} {S:Sim} {g:Img} (ok:Ok R S g) {t' : List Rg} (hl:t'.length≤1000) (b c:Nat) (sp:List Value) (hc:t'.length≤c):Ok R { S with A0:=t' } { g with tb:=b,tc:=c,tsp:=sp }:=
 ⟨ok.AU,ok.old,ok.AQ,ok.AE,ok.rvl,ok.rv,ok.ev0,ok.ev1,ok.wl,hl,ok.ml,ok.hl,ok.fl,ok.wk,hc,ok.mk_⟩
theorem KD {t t' : List Rg} {o size d:Int} (h:BB t o size = some (t',d)):t'.length = t.length:=by
 unfold BB at h;split at h
 ·rename_i hg;simp only[z_b,z_d] at hg;have T:=BI.1 hg.1.1.1.1;rcases EQ (size:=size) T hg.1.1.1.2 hg.1.1.2 hg.1.2 hg.2 with h2 | ⟨t2,d2,h2,P⟩
  ·unfold BB at h2;rw[if_pos (by simpa using hg)] at h2;rw[h2] at h;cases h
  ·unfold BB at h2;rw[if_pos (by simpa using hg)] at h2;rw[h2] at h;cases h;exact P.len
 ·cases h
theorem QL {p:Nat} {S S' : Sim} {g:Img} {i:Int} {R:RM} (hok:Ok R S g) (hS:S.copying i = some S') :
  Fn P Fg [.pointer (some ⟨p,0,none⟩),I i] R (AV p S g) (CT p S' λ_=>True):=by
 refine Kr λF=>?_
 unfold Fq;obtain⟨t,ht,hS⟩:=AA hS;obtain⟨h0,h1,h2,h3⟩:=Ai ht;refine Ey (p:=p) hok ht rfl λb a cap hv=>?_
 refine AH (λvs R' D'=>R.le R'∧∃S1 g1 t1 G,S' = S1.setT i t1∧S1.th = S.th∧t1.A7 = t.A7∧Ok R' S1 g1∧D' = AV p S1 g1 ++ (b,C AR (Ab t1 (.slice a t.A7.length cap))) :: G∧G = F∧vs = [.pointer (some ⟨p,0,none⟩),I i,.pointer (some ⟨b,0,none⟩)]) (λK hK=>?_) ?_;rotate_left
 ·rintro e R2 D2 ⟨hR,S1,g1,t1,G,rfl,hth,hr,ok1,rfl,rfl,he⟩;simp only[List.map,lc,ln,lj,z_t] at he;simp only[he];refine Ex (p:=p) (S1.setT i t1) (by exact ok1) h0 (by rw[hth];exact h1) (by rw[hr];exact hv.le hR) (by rfl) λg3 ok3=>?_
  exact Aj hR trivial rfl ok3
 refine jl (v:=I t.pc) rfl ?_;refine AH (λvs R' D'=>R.le R'∧∃S1 g1 t1 G,S' = S1.setT i t1∧S1.th = S.th∧t1.A7 = t.A7∧Ok R' S1 g1∧D' = AV p S1 g1 ++ (b,C AR (Ab t1 (.slice a t.A7.length cap))) :: G∧G = F∧vs = [.pointer (some ⟨p,0,none⟩),I i,.pointer (some ⟨b,0,none⟩)]) (λK2 hK2=>?_) ?_;rotate_left
 ·rintro e R2 D2 ⟨hR,S1,g1,t1,G,e1,hth,hr,ok1,rfl,rfl,he⟩;simp only[List.map,lc,ln,lj,z_t] at he;simp only[he];exact hK _ _ _ ⟨hR,S1,g1,t1,_,e1,hth,hr,ok1,rfl,rfl,rfl⟩
 refine jeq (jif (λc20=>?_) (λc20=>?_))
 ·have c20:=eq_of_beq c20;rw[if_pos c20] at hS;obtain⟨q,hq,hS⟩:=AA hS;obtain⟨rfl,hin⟩:=Ak hq;obtain⟨⟨w,S1⟩,hrd,hS⟩:=AA hS;have e1:=CH hrd;subst e1;dsimp only at hS;refine jl (v:=I t.src) rfl (Ac hin ?_);refine jcS (p:=p) (by exact CX hok hrd) λ_ R1 g1 hR1 hr ok1=>?_
  subst hr;refine jp (Dk w) (jex rfl (jex rfl ?_));refine ja λb3=>?_
  refine js (cs':=[I (AJ w).1.refs,I (AJ w).1.nums]) rfl rfl (by exact z_n 2) rfl ?_;refine jla (l:=[I (AJ w).1.refs,I (AJ w).1.nums]) (by exact z_n 2) (by rfl) ?_;refine jp (Bp (AJ w).1) ?_;refine js (cs':=Ab { t with size:=AC (AJ w).1 } (.slice a t.A7.length cap)) rfl rfl (by simp[Ab]) rfl ?_;refine jl (v:=.slice (some ⟨g1.tb,0,none⟩) S.A0.length g1.tc) rfl ?_;refine jl (v:=I (AC (AJ w).1)) rfl ?_;refine jmk (by exact F3 (t:=S.A0) (sp:=g1.tsp) i (AC (AJ w).1) (by have:=hok.tl;omega)) ?_;intro v N hq2;cases hrm:BB S.A0 i (AC (AJ w).1) with
  | none=>
   rw[hrm] at hq2;obtain⟨rfl,rfl⟩:=hq2;rw[hrm] at hS;refine jex rfl (jex rfl (jex rfl (F7 ?_)));refine jcS (p:=p) (by exact RO ok1 hS) λ_ R2 g2 hR2 hr ok2=>?_
   exact Aj (hR1.trans hR2) trivial rfl ok2
  | some td=>
   obtain⟨t',d⟩:=td;rw[hrm] at hq2;obtain⟨sv,⟨b4,c4,sp4,hc4,rfl,rfl⟩,rfl⟩:=hq2;rw[hrm] at hS;simp only[Option.some.injEq] at hS;have hlen:=KD hrm;refine jex rfl (jex rfl (jex rfl (Cv ?_)));refine Nh (p:=p) ?_;refine js (cs':=Ab { t with size:=AC (AJ w).1,dst:=d } (.slice a t.A7.length cap)) rfl rfl (by simp[Ab]) rfl ?_;refine js (cs':=Ab { t with size:=AC (AJ w).1,dst:=d,i:=1 } (.slice a t.A7.length cap)) rfl rfl (by simp[Ab]) rfl ?_;refine js (cs':=Ab { t with size:=AC (AJ w).1,dst:=d,i:=1,pc:=21 } (.slice a t.A7.length cap)) rfl rfl (by simp[Ab]) rfl ?_;refine Av (AV p { S with used:=true,A0:=t' } { g1 with tb:=b4,tc:=c4,tsp:=sp4 }) (G:=(b,C AR (Ab { t with size:=AC (AJ w).1,dst:=d,i:=1,pc:=21 } (.slice a t.A7.length cap))) :: F) ?_;exact hK2 _ _ _ ⟨hR1,{ S with used:=true,A0:=t' },{ g1 with tb:=b4,tc:=c4,tsp:=sp4 },{ t with size:=AC (AJ w).1,dst:=d,i:=1,pc:=21 },_,hS.symm,rfl,rfl,ok1.tab (by rw[hlen];exact hok.tl) _ _ _ hc4,rfl,rfl,rfl⟩
 have c20:t.pc≠20:=by simpa using c20
 rw[if_neg c20] at hS;refine jeq (jif (λc21=>?_) (λc21=>?_))
 ·have c21:=eq_of_beq c21;rw[if_pos c21] at hS;obtain⟨q,hq,hS⟩:=AA hS;obtain⟨rfl,hin⟩:=Ak hq;obtain⟨⟨w,S1⟩,hrd,hS⟩:=AA hS;have e1:=CH hrd;subst e1;cases hS;refine jl (v:=I t.src) rfl (jl (v:=I t.i) rfl (Ac hin ?_));refine jcS (p:=p) (by exact CX hok hrd) λ_ R1 g1 hR1 hr ok1=>?_
  subst hr;refine js (cs':=Ab { t with word:=w } (.slice a t.A7.length cap)) rfl rfl (by simp[Ab]) rfl ?_;refine js (cs':=Ab { t with word:=w,pc:=22 } (.slice a t.A7.length cap)) rfl rfl (by simp[Ab]) rfl ?_;exact hK2 _ _ _ ⟨hR1,{ S with used:=true },g1,{ t with word:=w,pc:=22 },_,rfl,rfl,rfl,ok1,rfl,rfl,rfl⟩
 have c21:t.pc≠21:=by simpa using c21
 rw[if_neg c21] at hS;refine jeq (jif (λc22=>?_) (λc22=>?_))
 ·have c22:=eq_of_beq c22;rw[if_pos c22] at hS;obtain⟨q,hq,hS⟩:=AA hS;obtain⟨rfl,hin⟩:=Ak hq;obtain⟨S1,hwr,hS⟩:=AA hS;have e1:=DY hwr;subst e1;obtain⟨n,hn,hS⟩:=AA hS;obtain⟨rfl,hin2⟩:=Ak hn;cases hS;refine jl (v:=I t.dst) rfl (jl (v:=I t.i) rfl (Ac hin (jl (v:=I t.word) rfl ?_)));refine jcS (p:=p) (by exact DA hok hwr) λ_ R1 g1 hR1 hr ok1=>?_
  refine jl (v:=I t.i) rfl (Ac hin2 ?_);refine js (cs':=Ab { t with i:=t.i + 1 } (.slice a t.A7.length cap)) rfl rfl (by simp[Ab]) rfl ?_;refine js (cs':=Ab { t with i:=t.i + 1,pc:=21 } (.slice a t.A7.length cap)) rfl rfl (by simp[Ab]) rfl ?_;refine jl (v:=I (t.i + 1)) rfl (jl (v:=I t.size) rfl (jeq (jif (λhz=>?_) (λhz=>?_))))
  ·refine js (cs':=Ab { t with i:=t.i + 1,pc:=23 } (.slice a t.A7.length cap)) rfl rfl (by simp[Ab]) rfl ?_;exact hK2 _ _ _ ⟨hR1,{ S with used:=true,A5:=AT S.A5 (t.dst + t.i) t.word },g1,{ t with i:=t.i + 1,pc:=23 },_,(by rw[if_pos (eq_of_beq hz)]),rfl,rfl,ok1,rfl,rfl,rfl⟩
  ·exact hK2 _ _ _ ⟨hR1,{ S with used:=true,A5:=AT S.A5 (t.dst + t.i) t.word },g1,{ t with i:=t.i + 1,pc:=21 },_,(by rw[if_neg (ne_of_beq_false hz)]),rfl,rfl,ok1,rfl,rfl,rfl⟩
 have c22:t.pc≠22:=by simpa using c22
 rw[if_neg c22] at hS;refine jeq (jif (λc23=>?_) (λc23=>?_))
 ·have c23:=eq_of_beq c23;rw[if_pos c23] at hS;obtain⟨S1,hwr,hS⟩:=AA hS;have e1:=DY hwr;subst e1;cases hS;refine jl (v:=I t.dst) rfl (jl (v:=I t.dst) rfl ?_);refine jcS (p:=p) (by exact DA hok hwr) λ_ R1 g1 hR1 hr ok1=>?_
  refine js (cs':=Ab { t with pc:=24 } (.slice a t.A7.length cap)) rfl rfl (by simp[Ab]) rfl ?_;exact hK2 _ _ _ ⟨hR1,{ S with used:=true,A5:=AT S.A5 t.dst t.dst },g1,{ t with pc:=24 },_,rfl,rfl,rfl,ok1,rfl,rfl,rfl⟩
 have c23:t.pc≠23:=by simpa using c23
 rw[if_neg c23] at hS;refine jeq (jif (λc24=>?_) (λc24=>?_));rotate_left
 ·rw[if_neg (ne_of_beq_false c24)] at hS;cases hS;refine Au List.perm_middle.symm (hK2 _ _ _ ⟨RM.le.refl _,S,g,t,_,rfl,rfl,rfl,hok,rfl,rfl,rfl⟩)
 have c24:=eq_of_beq c24;rw[if_pos c24] at hS;split at hS
 ·cases hS
 rename_i hret;have hret:0≤t.ret∧t.ret≤100:=Classical.not_not.1 hret;have hinr:inR (t.ret + 1):=⟨by omega,by omega⟩;obtain⟨⟨w,S1⟩,hrd,hS⟩:=AA hS;have e1:=CH hrd;subst e1;dsimp only at hS;refine jl (v:=I t.src) rfl ?_;refine jcS (p:=p) (by exact CX hok hrd) λ_ R1 g1 hR1 hr ok1=>?_
 subst hr;have hhold:∀x,(BN t t.ret x).A7 = t.A7:=λx=>by simp only[BN];split<;>(try split)<;>(try split)<;>rfl
 refine AH (λvs R' D'=>R.le R'∧∃S2 g2 G x,S' = S2.setT i (BN t t.ret x)∧S2.th = S.th∧Ok R' S2 g2∧D' = AV p S2 g2 ++ (b,C AR (Ab t (.slice a t.A7.length cap))) :: G∧G = F∧vs = [.pointer (some ⟨p,0,none⟩),I i,.pointer (some ⟨b,0,none⟩),I x]) (λK3 hK3=>?_) ?_;rotate_left
 ·rintro e R2 D2 ⟨hR,S2,g2,G,x,rfl,hth,ok2,rfl,rfl,he⟩;simp only[List.map,lc,ln,lj,z_t] at he;simp only[he];refine jla (cs:=Ab t (.slice a t.A7.length cap)) (t:=AR) (l:=Ab t (.slice a t.A7.length cap)) (z_n 17) rfl ?_;refine jl (v:=I t.ret) rfl ?_;refine jp (Mj t a t.A7.length cap t.ret x hinr) ?_;refine js (cs':=Ab (BN t t.ret x) (.slice a t.A7.length cap)) rfl rfl (by exact z_n 17) rfl ?_;exact hK2 _ _ _ ⟨hR,S2,g2,BN t t.ret x,_,rfl,hth,hhold x,ok2,rfl,rfl,rfl⟩
 refine jl (v:=I t.src) rfl (jeq (jif (λhw=>?_) (λhw=>?_)))
 ·have hw:=eq_of_beq hw;rw[if_pos hw] at hS;obtain⟨S2,hwr,hS⟩:=AA hS;have e2:=DY hwr;subst e2;obtain⟨S3,htp,hS⟩:=AA hS;cases hS;obtain⟨t3,e3⟩:=UY htp;refine jl (v:=I t.src) rfl (jl (v:=I t.dst) rfl ?_);refine jcS (p:=p) (by exact DA ok1 hwr) λ_ R2 g2 hR2 hr ok2=>?_
  refine jl (v:=I t.dst) rfl (jl (v:=I t.size) rfl ?_);refine jcS (p:=p) (by exact Sb ok2 htp) λ_ R3 g3 hR3 hr ok3=>?_
  refine jl (v:=I t.dst) rfl ?_;exact hK3 _ _ _ ⟨(hR1.trans hR2).trans hR3,S3,g3,_,t.dst,rfl,by rw[e3],ok3,rfl,rfl,rfl⟩
 ·rw[if_neg (ne_of_beq_false hw)] at hS;cases hS;exact hK3 _ _ _ ⟨hR1,{ S with used:=true },g1,_,w,rfl,rfl,ok1,rfl,rfl,rfl⟩
end Go.Lf
end
section
namespace Go.Lf
open Go Sm
theorem UE {S S1:Sim} {v:Int} (h:S.oldV v = some S1):S1.th = S.th:=by
 simp only[Sim.oldV] at h;split at h
 ·cases h
 ·cases h;split<;>rfl
theorem TW {p:Nat} {S S' : Sim} {g:Img} {i:Int} {R:RM} (hok:Ok R S g) (hS:S.field i = some S') :
  Fn P I3 [.pointer (some ⟨p,0,none⟩),I i] R (AV p S g) (CT p S' λ_=>True):=by
 refine Mz λF=>?_
 unfold IK;obtain⟨t,ht,hS⟩:=AA hS;obtain⟨o,ho,hS⟩:=AA hS;obtain⟨q1,hq1,hS⟩:=AA hS;obtain⟨ref,hq2,hS⟩:=AA hS;obtain⟨q3,hq3,hS⟩:=AA hS;obtain⟨num,hq4,hS⟩:=AA hS;obtain⟨rfl,in1⟩:=Ak hq1;obtain⟨rfl,in2⟩:=Ak hq2;obtain⟨rfl,in3⟩:=Ak hq3;obtain⟨rfl,in4⟩:=Ak hq4;obtain⟨h0,h1,h2,h3⟩:=Ai ht;refine Ey (p:=p) hok ht rfl λb a cap hv=>?_
 refine TU (p:=p) hok ho λb2=>?_
 refine jl (v:=I t.h) rfl (Ac in1 (jl (v:=I o.f) rfl (Ac in2 (jl (v:=I t.h) rfl (Ac in1 (jl (v:=I t.sh.refs) rfl (Ac in3 (jl (v:=I o.f) rfl (Ac in4 (jl (v:=I t.pc) rfl ?_))))))))));refine AH (λvs R' D'=>R' = R∧D' = (b2,C 99 (eOp o)) :: (b,C AR (Ab t (.slice a t.A7.length cap))) :: (AV p S g ++ F)∧∃v:Bool,vs = [.pointer (some ⟨p,0,none⟩),I i,.pointer (some ⟨b,0,none⟩),.pointer (some ⟨b2,0,none⟩),I (t.h + 2 + o.f),I (t.h + 2 + t.sh.refs + o.f),I t.pc,.bool v]∧(v = true↔t.pc = 5∨t.pc = 12)) (λK hK=>?_) ?_
 ·refine jeq (jif (λh=>hK _ _ _ ⟨rfl,rfl,_,rfl,?_⟩) (λh=>jeq (hK _ _ _ ⟨rfl,rfl,_,rfl,?_⟩)))
  ·rw[h];simp[eq_of_beq h]
  ·simp[ne_of_beq_false h]
 rintro e R1 D1 ⟨rfl,hD,v,he,hv5⟩;rw[hD];clear hD;simp only[List.map,lc,ln,lj,z_t] at he;simp only[he];refine jif (λhvt=>?_) (λhvf=>?_)
 ·rw[if_pos (hv5.1 hvt)] at hS;obtain⟨⟨w,S1⟩,hrd,hS⟩:=AA hS;refine jcS (p:=p) (by exact CX hok hrd) λ_ R2 g2 hR2 hr ok2=>?_
  subst hr;refine jcS (p:=p) (by exact UD ok2 hS) λ_ R3 g3 hR3 hr ok3=>?_
  exact Aj (hR2.trans hR3) trivial rfl ok3
 rw[if_neg (λh=>by rw[hv5.2 h] at hvf;cases hvf)] at hS;refine jeq (jif (λc=>?_) (λc=>?_))
 ·rw[if_pos (eq_of_beq c)] at hS;obtain⟨⟨w,S1⟩,hrd,hS⟩:=AA hS;have e1:=CH hrd;subst e1;obtain⟨S2,hol,hS⟩:=AA hS;cases hS;have e2:=UE hol;refine jcS (p:=p) (by exact CX hok hrd) λ_ R2 g2 hR2 hr ok2=>?_
  subst hr;refine jcS (p:=p) (by exact Tw ok2 hol) λ_ R3 g3 hR3 hr ok3=>?_
  refine js (cs':=Ab { t with pc:=7 } (.slice a t.A7.length cap)) rfl rfl (by simp[Ab]) rfl ?_;refine Ex (p:=p) (S2.setT i { t with pc:=7 }) (by exact ok3) h0 (by rw[e2];exact h1) (by exact hv.le (hR2.trans hR3)) (by rfl) λg4 ok4=>?_
  exact Aj (hR2.trans hR3) trivial rfl ok4
 rw[if_neg (ne_of_beq_false c)] at hS;refine jeq (jif (λc=>?_) (λc=>?_))
 ·rw[if_pos (eq_of_beq c)] at hS;obtain⟨S1,hwr,hS⟩:=AA hS;refine jl (v:=I t.g) rfl ?_;refine jcS (p:=p) (by exact DA hok hwr) λ_ R2 g2 hR2 hr ok2=>?_
  refine jcS (p:=p) (by exact Cj ok2 hS) λ_ R3 g3 hR3 hr ok3=>?_
  exact Aj (hR2.trans hR3) trivial rfl ok3
 rw[if_neg (ne_of_beq_false c)] at hS;refine jeq (jif (λc=>?_) (λc=>?_))
 ·rw[if_pos (eq_of_beq c)] at hS;obtain⟨S1,hwr,hS⟩:=AA hS;refine jl (v:=I o.v) rfl ?_;refine jcS (p:=p) (by exact DA hok hwr) λ_ R2 g2 hR2 hr ok2=>?_
  refine jcS (p:=p) (by exact Cj ok2 hS) λ_ R3 g3 hR3 hr ok3=>?_
  exact Aj (hR2.trans hR3) trivial rfl ok3
 rw[if_neg (ne_of_beq_false c)] at hS;refine jeq (jif (λc=>?_) (λc=>?_))
 ·rw[if_pos (eq_of_beq c)] at hS;obtain⟨⟨w,S1⟩,hrd,hS⟩:=AA hS;refine jcS (p:=p) (by exact CX hok hrd) λ_ R2 g2 hR2 hr ok2=>?_
  subst hr;refine jcS (p:=p) (by exact Cj ok2 hS) λ_ R3 g3 hR3 hr ok3=>?_
  exact Aj (hR2.trans hR3) trivial rfl ok3
 rw[if_neg (ne_of_beq_false c)] at hS;refine jeq (jif (λc=>?_) (λc=>?_))
 ·rw[if_pos (eq_of_beq c)] at hS;obtain⟨⟨w,S1⟩,hrd,hS⟩:=AA hS;refine jcS (p:=p) (by exact CX hok hrd) λ_ R2 g2 hR2 hr ok2=>?_
  subst hr;refine jcS (p:=p) (by exact Qn ok2 hS) λ_ R3 g3 hR3 hr ok3=>?_
  exact Aj (hR2.trans hR3) trivial rfl ok3
 rw[if_neg (ne_of_beq_false c)] at hS;refine jeq (jif (λc=>?_) (λc=>?_))
 ·rw[if_pos (eq_of_beq c)] at hS;obtain⟨⟨w,S1⟩,hrd,hS⟩:=AA hS;have e1:=CH hrd;subst e1;dsimp only at hS;refine jl (v:=I t.u) rfl ?_;refine jcS (p:=p) (by exact CX hok hrd) λ_ R2 g2 hR2 hr ok2=>?_
  subst hr;refine jeq (Ae (jl (v:=I t.u) rfl jev) (jif (λc2=>?_) (λc2=>?_)))
  ·rw[if_pos (eq_of_beq c2)] at hS;obtain⟨S2,hwr,hS⟩:=AA hS;refine jl (v:=I t.k) rfl ?_;refine jcS (p:=p) (by exact DA ok2 hwr) λ_ R3 g3 hR3 hr ok3=>?_
   refine jcS (p:=p) (by exact Cj ok3 hS) λ_ R4 g4 hR4 hr ok4=>?_
   exact Aj ((hR2.trans hR3).trans hR4) trivial rfl ok4
  ·rw[if_neg (ne_of_beq_false c2)] at hS;cases hS;refine js (cs':=Ab { t with pc:=10 } (.slice a t.A7.length cap)) rfl rfl (by simp[Ab]) rfl ?_;refine Ex (p:=p) (({ S with used:=true }:Sim).setT i { t with pc:=10 }) (by exact ok2) h0 (by exact h1) (by exact hv.le hR2) (by rfl) λg4 ok4=>?_
   exact Aj hR2 trivial rfl ok4
 rw[if_neg (ne_of_beq_false c)] at hS;refine jeq (jif (λc=>?_) (λc=>?_))
 ·rw[if_pos (eq_of_beq c)] at hS;refine jl (v:=I t.v) rfl (jl (v:=I t.g) rfl (jeq (jif (λc2=>?_) (λc2=>?_))))
  ·rw[if_pos (eq_of_beq c2)] at hS;cases hS;refine js (cs':=Ab { t with pc:=14 } (.slice a t.A7.length cap)) rfl rfl (by simp[Ab]) rfl ?_;refine Ex (p:=p) (S.setT i { t with pc:=14 }) (by exact hok) h0 (by exact h1) (by exact hv) (by rfl) λg4 ok4=>?_
   exact Aj (RM.le.refl _) trivial rfl ok4
  ·rw[if_neg (ne_of_beq_false c2)] at hS;obtain⟨⟨w,S1⟩,hrd,hS⟩:=AA hS;refine jcS (p:=p) (by exact CX hok hrd) λ_ R2 g2 hR2 hr ok2=>?_
   subst hr;refine jcS (p:=p) (by exact Qn ok2 hS) λ_ R3 g3 hR3 hr ok3=>?_
   exact Aj (hR2.trans hR3) trivial rfl ok3
 ·rw[if_neg (ne_of_beq_false c)] at hS;cases hS;exact Aj (RM.le.refl _) trivial rfl hok
theorem Td {p:Nat} {S S' : Sim} {g:Img} {i:Int} {R:RM} (hok:Ok R S g) (hS:S.shape i = some S') :
  Fn P Hc [.pointer (some ⟨p,0,none⟩),I i] R (AV p S g) (CT p S' λ_=>True):=by
 refine MU λF=>?_
 unfold Hv;obtain⟨t,ht,hS⟩:=AA hS;split at hS
 ·cases hS
 rename_i hsz;have hsz:=En (by simpa using hsz:S.sz = true);obtain⟨o,hop,hS⟩:=AA hS;obtain⟨h0,h1,h2,h3⟩:=Ai ht;refine Ey (p:=p) hok ht rfl λb a cap hv=>?_
 refine TU (p:=p) hok hop λb2=>?_
 refine jl (v:=I o.kind) rfl (jeq (jif (λc=>?_) (λc=>?_)))
 ·rw[if_pos (eq_of_beq c)] at hS;refine jl (v:=I t.h) rfl (jl (v:=I t.g) rfl (jeq (jp (Ts (t.h == t.g)) ?_)));refine jcS (p:=p) (by exact Cj hok hS) λ_ R3 g3 hR3 hr ok3=>?_
  exact Aj hR3 trivial rfl ok3
 rw[if_neg (ne_of_beq_false c)] at hS;refine jor [.pointer (some ⟨p,0,none⟩),I i,.pointer (some ⟨b,0,none⟩),.pointer (some ⟨b2,0,none⟩)] ((o.kind == 10) || (o.kind == 11)) (λK' hK'=>?_) (λe c u ho he=>?_)
 ·refine jl (v:=I o.kind) rfl (jeq (BW (λh1=>?_) (λh1=>?_)))
  ·refine jl (v:=I o.kind) rfl (jeq (hK' _ _ _ (h1▸Ar) (by rw[h1,Bool.false_or])))
  ·exact hK' _ _ _ (h1▸B7) (by rw[h1,Bool.true_or])
 simp only[List.map,lc,ln,lj,z_t] at he;simp only[he];rw[ho];refine jif (λhk=>?_) (λhk=>?_)
 ·rw[if_pos (by simpa using hk)] at hS;refine jl (v:=g.AQ) rfl (jl (v:=I o.kind) rfl (jl (v:=I t.h) rfl ?_));refine jc (A:=[]) (Si o.kind t.h hok.AQ (by exact hsz.2.2.2.1)) ?_;intro v R1 A hR1 hq;have ok1:=hok.le hR1;cases hp:Ed S.AQ o.kind t.h with
  | none=>
   rw[hp] at hq hS;obtain⟨rfl,rfl⟩:=hq;refine jex rfl (jex rfl (F7 ?_));refine jcS (p:=p) (D:=(b2,C 99 (eOp o)) :: (b,C AR (Ab t (.slice a t.A7.length cap))) :: (AV p S g ++ F)) (by exact Cj ok1 hS) λ_ R3 g3 hR3 hr ok3=>?_
   exact Aj (hR1.trans hR3) trivial rfl ok3
  | some l=>
   rw[hp] at hq hS;obtain⟨sv,⟨b4,c4,sp4,hc4,hsp4,rfl,rfl⟩,rfl⟩:=hq;refine jex rfl (jex rfl (Cv ?_));refine Ba (b:=b4) λR2 hR2 hb4=>?_
   have hv2:=Bn (c:=c4) hb4 hc4;refine Au (D':=(b2,C 99 (eOp o)) :: (b,C AR (Ab t (.slice a t.A7.length cap))) :: (AV p S g ++ F)) (List.Perm.refl _) ?_;refine jss { S with AQ:=l } { g with AQ:=.slice (some ⟨b4,0,none⟩) l.length c4 } rfl rfl (by decide) (by rfl) (by rfl) ?_;refine jcS (p:=p) (by exact Cj (S:={ S with AQ:=l }) { ok1.le hR2 with AQ:=hv2 } hS) λ_ R3 g3 hR3 hr ok3=>?_
   exact Aj ((hR1.trans hR2).trans hR3) trivial rfl ok3
 rw[if_neg (by simpa using hk)] at hS;obtain⟨q,hq,hS⟩:=AA hS;obtain⟨rfl,hin⟩:=Ak hq;obtain⟨⟨w,S1⟩,hrd,hS⟩:=AA hS;have e1:=CH hrd;subst e1;dsimp only at hS;refine jl (v:=I t.h) rfl (Ac hin ?_);refine jcS (p:=p) (by exact CX hok hrd) λ_ R1 g1 hR1 hr ok1=>?_
 subst hr;refine jp (Dk w) (jex rfl (jex rfl ?_));refine ja λb3=>?_
 refine js (cs':=[I (AJ w).1.refs,I (AJ w).1.nums]) rfl rfl (by exact z_n 2) rfl ?_;refine jla (l:=eOp o) (by exact z_n 8) (by rfl) ?_;refine jl (v:=I (AJ w).1.refs) rfl (jl (v:=I (AJ w).1.nums) rfl ?_);refine jp (Pn o (AJ w).1.refs (AJ w).1.nums) (jif (λhf=>?_) (λhf=>?_))
 ·rw[if_pos hf] at hS;refine jcS (p:=p) (by exact Cj ok1 hS) λ_ R3 g3 hR3 hr ok3=>?_
  exact Aj (hR1.trans hR3) trivial rfl ok3
 rw[if_neg (by rw[hf];decide)] at hS;refine jla (l:=[I (AJ w).1.refs,I (AJ w).1.nums]) (by exact z_n 2) (by rfl) ?_;refine js (cs':=Ab { t with sh:=(AJ w).1 } (.slice a t.A7.length cap)) rfl rfl (by simp[Ab]) rfl ?_;have fin:∀(R2:RM) (D2:Chs) (q:Int) (m:M),q = (if o.kind = 2 then 5 else if o.kind = 3 then (if S.Aa = 1 then 6 else 7) else if o.kind = 4 then 8 else if o.kind = 5 then 9 else if o.kind = 7 then 10 else t.pc)→S' = ({ S with used:=true }:Sim).setT i { t with sh:=(AJ w).1,pc:=q }:=λR2 D2 q m hq=>by
  rw[hq];simp only[Option.some.injEq] at hS;exact hS.symm
 refine AH (λvs R' D'=>R' = R1∧∃q,S' = ({ S with used:=true }:Sim).setT i { t with sh:=(AJ w).1,pc:=q }∧D' = AV p { S with used:=true } g1 ++ (b,C AR (Ab { t with sh:=(AJ w).1,pc:=q } (.slice a t.A7.length cap))) :: F∧vs = [.pointer (some ⟨p,0,none⟩),I i,.pointer (some ⟨b,0,none⟩)]) (λK hK=>?_) ?_;rotate_left
 ·rintro e R2 D2 ⟨rfl,q,rfl,hD,he⟩;rw[hD];clear hD;simp only[List.map,lc,ln,lj,z_t] at he;simp only[he];refine Ex (p:=p) (({ S with used:=true }:Sim).setT i { t with sh:=(AJ w).1,pc:=q }) (by exact ok1) h0 (by exact h1) (by exact hv.le hR1) (by rfl) λg4 ok4=>?_
  exact Aj hR1 trivial rfl ok4
 refine jl (v:=I o.kind) rfl ?_;refine AH (λvs R' D'=>R' = R1∧∃q,S' = ({ S with used:=true }:Sim).setT i { t with sh:=(AJ w).1,pc:=q }∧D' = AV p { S with used:=true } g1 ++ (b,C AR (Ab { t with sh:=(AJ w).1,pc:=q } (.slice a t.A7.length cap))) :: F∧vs = [.pointer (some ⟨p,0,none⟩),I i,.pointer (some ⟨b,0,none⟩)]) (λK2 hK2=>?_) ?_;rotate_left
 ·rintro e R2 D2 ⟨rfl,q,hq,hD,he⟩;rw[hD];clear hD;simp only[List.map,lc,ln,lj,z_t] at he;simp only[he];exact hK _ _ _ ⟨rfl,q,hq,rfl,rfl⟩
 have leaf:∀q:Int,q = (if o.kind = 2 then 5 else if o.kind = 3 then (if S.Aa = 1 then 6 else 7) else if o.kind = 4 then 8 else if o.kind = 5 then 9 else if o.kind = 7 then 10 else t.pc)→
   J R1 ((b3,C 92 [I (AJ w).1.refs,I (AJ w).1.nums]) :: (AV p { S with used:=true } g1 ++ (b2,C 99 (eOp o)) :: (b,C AR (Ab { t with sh:=(AJ w).1,pc:=q } (.slice a t.A7.length cap))) :: F)) (K2 [.pointer (some ⟨p,0,none⟩),I i,.pointer (some ⟨b,0,none⟩)]):=λq hq=>by
  refine Av (AV p { S with used:=true } g1) (G:=(b,C AR (Ab { t with sh:=(AJ w).1,pc:=q } (.slice a t.A7.length cap))) :: F) ?_;exact hK2 _ _ _ ⟨rfl,q,fin R1 [] q (λ_=>True) hq,rfl,rfl⟩
 refine jeq (jif (λc2=>?_) (λc2=>?_))
 ·refine js (cs':=Ab { t with sh:=(AJ w).1,pc:=5 } (.slice a t.A7.length cap)) rfl rfl (by simp[Ab]) rfl ?_;exact leaf 5 (by rw[if_pos (eq_of_beq c2)])
 refine jeq (jif (λc3=>?_) (λc3=>?_))
 ·refine js (cs':=Ab { t with sh:=(AJ w).1,pc:=7 } (.slice a t.A7.length cap)) rfl rfl (by simp[Ab]) rfl ?_;refine jl (v:=I S.Aa) rfl (jeq (jif (λph=>?_) (λph=>?_)))
  ·refine js (cs':=Ab { t with sh:=(AJ w).1,pc:=6 } (.slice a t.A7.length cap)) rfl rfl (by simp[Ab]) rfl ?_;exact leaf 6 (by rw[if_neg (ne_of_beq_false c2),if_pos (eq_of_beq c3),if_pos (eq_of_beq ph)])
  ·exact leaf 7 (by rw[if_neg (ne_of_beq_false c2),if_pos (eq_of_beq c3),if_neg (ne_of_beq_false ph)])
 refine jeq (jif (λc4=>?_) (λc4=>?_))
 ·refine js (cs':=Ab { t with sh:=(AJ w).1,pc:=8 } (.slice a t.A7.length cap)) rfl rfl (by simp[Ab]) rfl ?_;exact leaf 8 (by rw[if_neg (ne_of_beq_false c2),if_neg (ne_of_beq_false c3),if_pos (eq_of_beq c4)])
 refine jeq (jif (λc5=>?_) (λc5=>?_))
 ·refine js (cs':=Ab { t with sh:=(AJ w).1,pc:=9 } (.slice a t.A7.length cap)) rfl rfl (by simp[Ab]) rfl ?_;exact leaf 9 (by rw[if_neg (ne_of_beq_false c2),if_neg (ne_of_beq_false c3),if_neg (ne_of_beq_false c4),if_pos (eq_of_beq c5)])
 refine jeq (jif (λc7=>?_) (λc7=>?_))
 ·refine js (cs':=Ab { t with sh:=(AJ w).1,pc:=10 } (.slice a t.A7.length cap)) rfl rfl (by simp[Ab]) rfl ?_;exact leaf 10 (by rw[if_neg (ne_of_beq_false c2),if_neg (ne_of_beq_false c3),if_neg (ne_of_beq_false c4),if_neg (ne_of_beq_false c5),if_pos (eq_of_beq c7)])
 ·exact leaf t.pc (by rw[if_neg (ne_of_beq_false c2),if_neg (ne_of_beq_false c3),if_neg (ne_of_beq_false c4),if_neg (ne_of_beq_false c5),if_neg (ne_of_beq_false c7)])
end Go.Lf
end
section
namespace Go.Lf
open Go Sm
theorem SE {p:Nat} {S S' : Sim} {g:Img} {i:Int} {R:RM} (hok:Ok R S g) (hS:S.making i = some S') :
  Fn P GM [.pointer (some ⟨p,0,none⟩),I i] R (AV p S g) (CT p S' λ_=>True):=by
 refine Ll λF=>?_
 unfold Gu;obtain⟨t,ht,hS⟩:=AA hS;obtain⟨o,hop,hS⟩:=AA hS;obtain⟨h0,h1,h2,h3⟩:=Ai ht;refine Ey (p:=p) hok ht rfl λb a cap hv=>?_
 refine TU (p:=p) hok hop λb2=>?_
 refine AH (λvs R' D'=>R.le R'∧∃S1 g1 t1,S1.th = S.th∧t1.A7 = t.A7∧Ok R' S1 g1∧t.pc≠30∧t.pc≠31∧(let t2:={ t1 with pc:=33 };let S2:=S1.setT i t2;if t2.i = t2.size then (do (← S2.top t2.dst t2.size).push i t2.dst) else some S2) = some S'∧
   D' = AV p S1 g1 ++ (b,C AR (Ab t1 (.slice a t.A7.length cap))) :: F∧vs = [.pointer (some ⟨p,0,none⟩),I i,.pointer (some ⟨b,0,none⟩)]) (λK hK=>?_) ?_
 rotate_left
 ·rintro e R2 D2 ⟨hR,S1,g1,t1,hth,hr,ok1,_,_,hS,hD,he⟩;rw[hD];clear hD;simp only[List.map,lc,ln,lj,z_t] at he;simp only[he];dsimp only at hS;refine js (cs':=Ab { t1 with pc:=33 } (.slice a t.A7.length cap)) rfl rfl (by simp[Ab]) rfl ?_;refine Ex (p:=p) (S1.setT i { t1 with pc:=33 }) (by exact ok1) h0 (by rw[hth];exact h1) (by rw[hr];exact hv.le hR) (by rfl) λg3 ok3=>?_
  refine jl (v:=I t1.i) rfl (jl (v:=I t1.size) rfl (jeq (jif (λhz=>?_) (λhz=>?_))))
  ·rw[if_pos (eq_of_beq hz)] at hS;obtain⟨S3,htp,hS⟩:=AA hS;refine jl (v:=I t1.dst) rfl (jl (v:=I t1.size) rfl ?_);refine jcS (p:=p) (by exact Sb ok3 htp) λ_ R4 g4 hR4 hr ok4=>?_
   refine jl (v:=I t1.dst) rfl ?_;refine jcS (p:=p) (by exact Ln ok4 hS) λ_ R5 g5 hR5 hr ok5=>?_
   exact Aj ((hR.trans hR4).trans hR5) trivial rfl ok5
  ·rw[if_neg (ne_of_beq_false hz)] at hS;cases hS;exact Aj hR trivial rfl ok3
 refine jl (v:=I t.pc) rfl ?_;refine AH (λvs R' D'=>R.le R'∧∃S1 g1 t1,S1.th = S.th∧t1.A7 = t.A7∧Ok R' S1 g1∧t.pc≠30∧t.pc≠31∧(let t2:={ t1 with pc:=33 };let S2:=S1.setT i t2;if t2.i = t2.size then (do (← S2.top t2.dst t2.size).push i t2.dst) else some S2) = some S'∧
   D' = AV p S1 g1 ++ (b,C AR (Ab t1 (.slice a t.A7.length cap))) :: F∧vs = [.pointer (some ⟨p,0,none⟩),I i,.pointer (some ⟨b,0,none⟩)]) (λK2 hK2=>?_) ?_
 rotate_left
 ·rintro e R2 D2 ⟨hR,S1,g1,t1,hth,hr,ok1,n1,n2,hS,hD,he⟩;rw[hD];clear hD;simp only[List.map,lc,ln,lj,z_t] at he;simp only[he];exact hK _ _ _ ⟨hR,S1,g1,t1,hth,hr,ok1,n1,n2,hS,rfl,rfl⟩
 refine jeq (jif (λc30=>?_) (λc30=>?_))
 ·have c30:=eq_of_beq c30;rw[if_pos c30] at hS;dsimp only at hS;refine jfo (jla (l:=[I o.sh.refs,I o.sh.nums]) (by exact z_n 8) (by rfl) ?_);refine jp (Bp o.sh) ?_;refine js (cs':=Ab { t with size:=AC o.sh } (.slice a t.A7.length cap)) rfl rfl (by simp[Ab]) rfl ?_;refine jl (v:=.slice (some ⟨g.tb,0,none⟩) S.A0.length g.tc) rfl ?_;refine jl (v:=I (AC o.sh)) rfl ?_;refine jmk (by exact F3 (t:=S.A0) (sp:=g.tsp) i (AC o.sh) (by have:=hok.tl;omega)) ?_;intro v N hq2;cases hrm:BB S.A0 i (AC o.sh) with
  | none=>
   rw[hrm] at hq2 hS;obtain⟨rfl,rfl⟩:=hq2;dsimp only at hS;refine Au (D':=(b2,C 99 (eOp o)) :: (b,C AR (Ab { t with size:=AC o.sh } (.slice a t.A7.length cap))) :: (AV p S g ++ F)) (List.Perm.refl _) ?_;refine jex rfl (jex rfl (jex rfl ?_));refine AH (λvs R' D'=>R' = R∧D' = (b2,C 99 (eOp o)) :: (b,C AR (Ab { t with size:=AC o.sh } (.slice a t.A7.length cap))) :: (AV p S g ++ F)∧∃c u,vs = [.pointer (some ⟨p,0,none⟩),I i,.pointer (some ⟨b,0,none⟩),.slice none 0 0,I 0,.bool false,c,u]∧Eu c u (t.BC == 2)) (λK3 hK3=>?_) ?_
   ·refine jtt (jl (v:=I t.BC) rfl (jeq (hK3 _ _ _ ⟨rfl,rfl,_,_,rfl,Aq⟩)))
   ·rintro e R2 D2 ⟨rfl,hD,c,u,he,ha⟩;rw[hD];clear hD;simp only[List.map,lc,ln,lj,z_t] at he;simp only[he];rw[ha];refine jif (λh2=>?_) (λh2=>?_)
    ·rw[if_pos (eq_of_beq h2)] at hS;refine jcS (p:=p) (by exact Cj hok hS) λ_ R3 g3 hR3 hr ok3=>?_
     exact Aj hR3 trivial rfl ok3
    ·rw[if_neg (ne_of_beq_false h2)] at hS;refine F7 ?_;refine jcS (p:=p) (by exact RO hok hS) λ_ R3 g3 hR3 hr ok3=>?_
     exact Aj hR3 trivial rfl ok3
  | some td=>
   obtain⟨t',d⟩:=td;rw[hrm] at hq2 hS;obtain⟨sv,⟨b4,c4,sp4,hc4,rfl,rfl⟩,rfl⟩:=hq2;simp only[Option.some.injEq] at hS;have hlen:=KD hrm;refine jex rfl (jex rfl (jex rfl ?_));refine AH (λvs R' D'=>R' = R∧D' = [(b4,C AD (AW eRg t' ++ sp4))] ++ ((b2,C 99 (eOp o)) :: (b,C AR (Ab { t with size:=AC o.sh } (.slice a t.A7.length cap))) :: (AV p S g ++ F))∧∃c u,vs = [.pointer (some ⟨p,0,none⟩),I i,.pointer (some ⟨b,0,none⟩),.slice (some ⟨b4,0,none⟩) t'.length c4,I d,.bool true,c,u]∧Eu c u false) (λK3 hK3=>?_) ?_
   ·exact jft (hK3 _ _ _ ⟨rfl,rfl,_,_,rfl,As⟩)
   ·rintro e R2 D2 ⟨rfl,hD,c,u,he,ha⟩;rw[hD];clear hD;simp only[List.map,lc,ln,lj,z_t] at he;simp only[he];rw[ha];refine Cv (Cv ?_);refine Nh (p:=p) ?_;refine js (cs':=Ab { t with size:=AC o.sh,dst:=d } (.slice a t.A7.length cap)) rfl rfl (by simp[Ab]) rfl ?_;refine js (cs':=Ab { t with size:=AC o.sh,dst:=d,i:=2 } (.slice a t.A7.length cap)) rfl rfl (by simp[Ab]) rfl ?_;refine js (cs':=Ab { t with size:=AC o.sh,dst:=d,i:=2,pc:=31 } (.slice a t.A7.length cap)) rfl rfl (by simp[Ab]) rfl ?_;refine Ex (p:=p) (({ S with A0:=t' }:Sim).setT i { t with size:=AC o.sh,dst:=d,i:=2,pc:=31 }) (by exact hok.tab (by rw[hlen];exact hok.tl) _ _ _ hc4) h0 (by exact h1) (by exact hv) (by rfl) λg3 ok3=>?_
    subst hS;exact Aj (RM.le.refl _) trivial rfl ok3
 have c30:t.pc≠30:=by simpa using c30
 rw[if_neg c30] at hS;refine jeq (jif (λc31=>?_) (λc31=>?_))
 ·have c31:=eq_of_beq c31;rw[if_pos c31] at hS;obtain⟨S1,hwr,hS⟩:=AA hS;have e1:=DY hwr;subst e1;cases hS;refine jl (v:=I t.dst) rfl (jl (v:=I t.dst) rfl ?_);refine jcS (p:=p) (by exact DA hok hwr) λ_ R1 g1 hR1 hr ok1=>?_
  refine js (cs':=Ab { t with pc:=32 } (.slice a t.A7.length cap)) rfl rfl (by simp[Ab]) rfl ?_;refine Ex (p:=p) (({ S with used:=true,A5:=AT S.A5 t.dst t.dst }:Sim).setT i { t with pc:=32 }) (by exact ok1) h0 (by exact h1) (by exact hv.le hR1) (by rfl) λg3 ok3=>?_
  exact Aj hR1 trivial rfl ok3
 have c31:t.pc≠31:=by simpa using c31
 rw[if_neg c31] at hS;obtain⟨⟨S2,t2⟩,hst,hS⟩:=AA hS;dsimp only at hS;refine jeq (jif (λc32=>?_) (λc32=>?_))
 ·have c32:=eq_of_beq c32;rw[if_pos c32] at hst;obtain⟨q,hq,hst⟩:=AA hst;obtain⟨rfl,hin⟩:=Ak hq;obtain⟨S1,hwr,hst⟩:=AA hst;have e1:=DY hwr;subst e1;cases hst;refine jl (v:=I t.dst) rfl (Ac hin ?_);refine jfo (jla (l:=[I o.sh.refs,I o.sh.nums]) (by exact z_n 8) (by rfl) ?_);refine jp (DZ o.sh) (Ae (jl (v:=I t.dst) rfl jev) ?_);refine jcS (p:=p) (by exact DA hok hwr) λ_ R1 g1 hR1 hr ok1=>?_
  refine Av (AV p { S with used:=true,A5:=AT S.A5 (t.dst + 1) (Ag o.sh) } g1) (G:=(b,C AR (Ab t (.slice a t.A7.length cap))) :: F) ?_;exact hK2 _ _ _ ⟨hR1,{ S with used:=true,A5:=AT S.A5 (t.dst + 1) (Ag o.sh) },g1,t,rfl,rfl,ok1,c30,c31,hS,rfl,rfl⟩
 have c32:t.pc≠32:=by simpa using c32
 rw[if_neg c32] at hst;refine jeq (jif (λc33=>?_) (λc33=>?_))
 ·have c33:=eq_of_beq c33;rw[if_pos c33] at hst;obtain⟨q,hq,hst⟩:=AA hst;obtain⟨rfl,hin⟩:=Ak hq;obtain⟨S1,hwr,hst⟩:=AA hst;have e1:=DY hwr;subst e1;obtain⟨n,hn,hst⟩:=AA hst;obtain⟨rfl,hin2⟩:=Ak hn;cases hst;refine jl (v:=I t.dst) rfl (jl (v:=I t.i) rfl (Ac hin ?_));refine jcS (p:=p) (by exact DA hok hwr) λ_ R1 g1 hR1 hr ok1=>?_
  refine jl (v:=I t.i) rfl (Ac hin2 ?_);refine js (cs':=Ab { t with i:=t.i + 1 } (.slice a t.A7.length cap)) rfl rfl (by simp[Ab]) rfl ?_;refine Av (AV p { S with used:=true,A5:=AT S.A5 (t.dst + t.i) 0 } g1) (G:=(b,C AR (Ab { t with i:=t.i + 1 } (.slice a t.A7.length cap))) :: F) ?_;exact hK2 _ _ _ ⟨hR1,{ S with used:=true,A5:=AT S.A5 (t.dst + t.i) 0 },g1,{ t with i:=t.i + 1 },rfl,rfl,ok1,c30,c31,hS,rfl,rfl⟩
 have c33:t.pc≠33:=by simpa using c33
 rw[if_neg c33] at hst;cases hst;refine Av (AV p S g) (G:=(b,C AR (Ab t (.slice a t.A7.length cap))) :: F) ?_;exact hK2 _ _ _ ⟨RM.le.refl _,S,g,t,rfl,rfl,hok,c30,c31,hS,rfl,rfl⟩
end Go.Lf
end
section
namespace Go.Lf
open Go Sm
theorem N9 {l:List Thr} {rv sp:List Value} {i f:Nat} {v:Value} (h:i < l.length) (h' : i < rv.length) (hv:(Ab (l[i]) (rv[i]))[f]? = some v):(DQ l rv ++ sp)[i * 17 + f]? = some v:=by
 have:=Pf (sp:=sp) h h';have e2:=congrArg (λl=>l[f]?) this;simp only[List.getElem?_take,List.getElem?_drop] at e2;have hf:f < 17:=by
  by_cases c:f < 17
  ·exact c
  ·have:(Ab (l[i]) (rv[i]))[f]? = none:=List.getElem?_eq_none (by show 17≤f;omega);rw[this] at hv;cases hv
 rw[if_pos hf] at e2;rw[e2,hv]
theorem jpc {R:RM} {D G:Chs} {p:Nat} {S:Sim} {g:Img} {i:Int} {t:Thr} {k:Value→M} [w:Fd D p S g G] (hok:Ok R S g) (ht:idx S.th i = some t) (H:J R D (k (I t.pc))) :
  J R D (L1 (.pointer (some ⟨p,17,none⟩)) λx=>IA 17 x (I i) λy=>FO 3 y λz=>L1 z k):=by
 obtain⟨h0,h1,h2,h3⟩:=Ai ht;have h2' : i.toNat < g.rv.length:=by have:=hok.rvl;omega
 have H' : J R (AV p S g ++ G) (k (I t.pc)):=Au w.ex.symm H;have l1:J R (AV p S g ++ G) (L1 (.pointer (some ⟨p,17,none⟩)) λx=>IA 17 x (I i) λy=>FO 3 y λz=>L1 z k):=by
  refine jl rfl (jia h0 h1 (jl (v:=I t.pc) ?_ H'));rw[Nat.zero_add];exact N9 h2 h2' (by rw[h3];rfl)
 exact Au w.ex l1
theorem S4 {n p:Nat} {S S' : Sim} {g:Img} {i:Int} {R:RM} (hok:Ok R S g) (hS:S.thread n i = some S') :
  Fn P Gt [.pointer (some ⟨p,0,none⟩),I i] R (AV p S g) (CT p S' λ_=>True):=by
 refine Lr λF=>?_
 unfold Gy;obtain⟨t,ht,hS⟩:=AA hS;obtain⟨h0,h1,h2,h3⟩:=Ai ht;refine Ey (p:=p) hok ht rfl λb a cap hv=>?_
 refine jl (v:=I t.pc) rfl (jeq (jif (λhp=>?_) (λhp=>?_)))
 ·rw[if_pos (eq_of_beq hp)] at hS;refine AH (λvs R' D'=>R' = R∧D' = (b,C AR (Ab t (.slice a t.A7.length cap))) :: (AV p S g ++ F)∧∃c u v,vs = [.pointer (some ⟨p,0,none⟩),I i,c,u]∧Eu c u v∧(if v = true then S.begin_ i else some S) = some S') (λK hK=>?_) ?_;rotate_left
  ·rintro e R1 D1 ⟨rfl,hD,c,u,v,he,ha,hq⟩;rw[hD];clear hD;simp only[List.map,lc,ln,lj,z_t] at he;simp only[he];rw[ha];refine jif (λhc=>?_) (λhc=>?_)
   ·rw[if_pos hc] at hq;refine jcS (p:=p) (by exact T6 hok hq) λ_ R2 g2 hR2 hr ok2=>?_
    exact Aj hR2 trivial rfl ok2
   ·rw[if_neg (by rw[hc];decide)] at hq;cases hq;exact Aj (RM.le.refl _) trivial rfl hok
  refine jl (v:=.bool S.stop) rfl ?_;cases hst:S.stop with
  | true=>
   rw[hst,if_pos rfl] at hS;exact jft (hK _ _ _ ⟨rfl,rfl,_,_,false,rfl,As,by rw[if_neg (by decide)];exact hS⟩)
  | false=>
   rw[hst,if_neg (by decide)] at hS;obtain⟨pr,hpr,hS⟩:=AA hS;obtain⟨i0,i1,i2,i3⟩:=Ai hpr;refine jtt (jl (v:=I t.next) rfl (jl (v:=g.AU) rfl ?_));obtain⟨vs,f1,f2,f3⟩:=hok.AU;obtain⟨x,f4,f5⟩:=f3 i.toNat i2;rw[i3] at f5;rcases f1 with ⟨_,h,_⟩ | ⟨bp,op_,cp,tp,cs,e1,e2,e3,e4,e5⟩
   ·omega
   have hx:cs[op_ + i.toNat * 1]? = some x:=by
    have:=congrArg (λl=>l[i.toNat]?) e4;simp only[List.getElem?_take,List.getElem?_drop] at this;rw[if_pos (by omega)] at this;rw[Nat.mul_one,this,f4]
   rw[e1];refine jia i0 (by omega) (jlr e2 hx (HV f5 (jlt (hK _ _ _ ⟨rfl,rfl,_,_,_,rfl,Aq,?_⟩))));by_cases hc:t.next < pr.length
   ·rw[if_pos hc] at hS;rw[if_pos (decide_eq_true hc)];exact hS
   ·rw[if_neg hc] at hS;rw[if_neg (by rw[decide_eq_false hc];decide)];exact hS
 ·rw[if_neg (ne_of_beq_false hp)] at hS;refine jss { S with used:=false } g rfl rfl (by decide) (by rfl) (by rfl) ?_;refine Av (AV p { S with used:=false } g) (G:=F) ?_;refine jlp (λm vs R' D'=>R.le R'∧∃S1 g1,Ok R' S1 g1∧D' = AV p S1 g1 ++ F∧vs = [.pointer (some ⟨p,0,none⟩),I i]∧Sim.tloop m S1 i = some S') (n:=n) ⟨RM.le.refl _,{ S with used:=false },g,{ hok with },rfl,rfl,hS⟩ ?_;rintro m e R1 D1 K ⟨hR,S1,g1,ok1,hD,he,hl⟩ hK;rw[hD];clear hD;simp only[List.map,lc,ln,lj,z_t] at he;simp only[he];cases m with
  | zero=>cases hl
  | succ m=>
   obtain⟨t1,ht1,hl⟩:=AA hl;refine AH (λvs R' D'=>R' = R1∧D' = AV p S1 g1 ++ F∧∃c u,vs = [.pointer (some ⟨p,0,none⟩),I i,c,u]∧Eu c u (!S1.used && t1.pc != 0)) (λK2 hK2=>?_) ?_
   ·refine jl (v:=.bool S1.used) rfl ?_;cases hu:S1.used with
    | true=>exact jft (hK2 _ _ _ ⟨rfl,rfl,_,_,rfl,by rw[hu];exact As⟩)
    | false=>
     refine jtt (jpc (p:=p) ok1 ht1 (jne (hK2 _ _ _ ⟨rfl,rfl,_,_,rfl,?_⟩)));rw[hu];exact Aq
   rintro e R2 D2 ⟨rfl,hD,c,u,he,ha⟩;rw[hD];clear hD;simp only[List.map,lc,ln,lj,z_t] at he;simp only[he];rw[ha];refine jif (λhc=>?_) (λhc=>?_);rotate_left
   ·rw[if_pos (by
     cases hu:S1.used
     ·rw[hu] at hc;right;simpa using hc
     ·exact .inl rfl)] at hl
    cases hl;exact Aj hR trivial rfl ok1
   have hc' : ¬ (S1.used = true∨t1.pc = 0):=by
    simp only[z_b,Bool.not_eq_true',bne_iff_ne,ne_eq] at hc;rintro (h | h)
    ·rw[hc.1] at h;cases h
    ·exact hc.2 h
   rw[if_neg hc'] at hl;obtain⟨S2,hst,hl⟩:=AA hl;unfold Sim.tstep at hst;rw[ht1] at hst;simp only[Option.bind_eq_bind,z_o] at hst;refine AH (λvs R' D'=>R.le R'∧∃g2,Ok R' S2 g2∧D' = AV p S2 g2 ++ F∧vs = [.pointer (some ⟨p,0,none⟩),I i]) (λK3 hK3=>?_) ?_;rotate_left
   ·rintro e R3 D3 ⟨hR3,g2,ok2,hD,he⟩;rw[hD];clear hD;simp only[List.map,lc,ln,lj,z_t] at he;simp only[he];exact hK m _ _ _ (by omega) ⟨hR3,S2,g2,ok2,rfl,rfl,hl⟩
   refine jpc (p:=p) ok1 ht1 ?_;refine AH (λvs R' D'=>R.le R'∧∃g2,Ok R' S2 g2∧D' = AV p S2 g2 ++ F∧vs = [.pointer (some ⟨p,0,none⟩),I i]) (λK4 hK4=>?_) ?_;rotate_left
   ·rintro e R3 D3 ⟨hR3,g2,ok2,hD,he⟩;rw[hD];clear hD;simp only[List.map,lc,ln,lj,z_t] at he;simp only[he];exact hK3 _ _ _ ⟨hR3,g2,ok2,rfl,rfl⟩
   refine jor [.pointer (some ⟨p,0,none⟩),I i,I t1.pc] ((decide (t1.pc≤3)) || (t1.pc == 11)) (λK' hK'=>?_) (λe c u ho he=>?_)
   ·refine jle (BW (λh1=>?_) (λh1=>?_))
    ·refine jeq (hK' _ _ _ (h1▸Ar) (by rw[h1,Bool.false_or]))
    ·exact hK' _ _ _ (h1▸B7) (by rw[h1,Bool.true_or])
   simp only[List.map,lc,ln,lj,z_t] at he;simp only[he];refine jor [.pointer (some ⟨p,0,none⟩),I i,I t1.pc] ((decide (t1.pc≤3) || t1.pc == 11) || (t1.pc == 15)) (λK' hK'=>?_) (λe c u ho he=>?_)
   ·rw[ho];refine BW (λh1=>?_) (λh1=>?_)
    ·refine jeq (hK' _ _ _ (h1▸Ar) (by rw[h1,Bool.false_or]))
    ·exact hK' _ _ _ (h1▸B7) (by rw[h1,Bool.true_or])
   simp only[List.map,lc,ln,lj,z_t] at he;simp only[he];rw[ho];refine jif (λc1=>?_) (λc1=>?_)
   ·rw[if_pos (by simpa [or_assoc] using c1)] at hst;refine jcS (p:=p) (by exact QW ok1 hst) λ_ R2 g2 hR2 hr ok2=>?_
    exact hK4 _ _ _ ⟨hR.trans hR2,g2,ok2,rfl,rfl⟩
   rw[if_neg (by
    intro h
    have:((decide (t1.pc≤3) || t1.pc == 11) || t1.pc == 15) = true:=by simpa [or_assoc] using h
    rw[c1] at this;cases this)] at hst
   refine jeq (jif (λc2=>?_) (λc2=>?_))
   ·rw[if_pos (eq_of_beq c2)] at hst;refine jcS (p:=p) (by exact Td ok1 hst) λ_ R2 g2 hR2 hr ok2=>?_
    exact hK4 _ _ _ ⟨hR.trans hR2,g2,ok2,rfl,rfl⟩
   rw[if_neg (ne_of_beq_false c2)] at hst;refine jge (jif (λc3=>?_) (λc3=>?_))
   ·rw[if_pos (z_f c3)] at hst;refine jcS (p:=p) (by exact SE ok1 hst) λ_ R2 g2 hR2 hr ok2=>?_
    exact hK4 _ _ _ ⟨hR.trans hR2,g2,ok2,rfl,rfl⟩
   rw[if_neg (z_g c3)] at hst;refine jge (jif (λc4=>?_) (λc4=>?_))
   ·rw[if_pos (z_f c4)] at hst;refine jcS (p:=p) (by exact QL ok1 hst) λ_ R2 g2 hR2 hr ok2=>?_
    exact hK4 _ _ _ ⟨hR.trans hR2,g2,ok2,rfl,rfl⟩
   rw[if_neg (z_g c4)] at hst;refine jcS (p:=p) (by exact TW ok1 hst) λ_ R2 g2 hR2 hr ok2=>?_
   exact hK4 _ _ _ ⟨hR.trans hR2,g2,ok2,rfl,rfl⟩
theorem Ul {p:Nat} {S:Sim} {g:Img} {R:RM} (hok:Ok R S g) :
  Fn P JJ [.pointer (some ⟨p,0,none⟩)] R (AV p S g) (CT p S (· = .bool S.calm)):=by
 refine O1 λF=>?_
 unfold J7;refine jlp (λn vs R' D'=>R' = R∧D' = AV p S g ++ F∧∃i:Nat,i≤S.th.length∧vs = [.pointer (some ⟨p,0,none⟩),I i]∧n = S.th.length - i∧∀k (h:k < S.th.length),k < i→(S.th[k]).pc = 0)
  (n:=S.th.length) ⟨rfl,rfl,0,by omega,rfl,by omega,λk _ h=>by omega⟩ ?_
 rintro n e R1 D1 K ⟨rfl,hD,i,hi,he,hn,Bi⟩ hK;rw[hD];clear hD;simp only[List.map,lc,ln,lj,z_t] at he;simp only[he];have hl:=hok.hl;refine jl (v:=.slice (some ⟨g.hb,0,none⟩) S.th.length g.hc) rfl (jln (jlt (jif (λhc=>?_) (λhc=>?_))))
 ·have hc:i < S.th.length:=by have:=z_f hc;omega
  have ht:idx S.th i = some (S.th[i]):=by unfold idx;rw[if_pos (by omega),Int.toNat_natCast,List.getElem?_eq_getElem hc]
  refine jpc (p:=p) hok ht (jne (jif (λhp=>?_) (λhp=>?_)))
  ·refine Aj (RM.le.refl _) ?_ rfl hok;have hp:(S.th[i]).pc≠0:=by simpa using hp
   have:S.calm = false:=by
    unfold Sim.calm;rw[List.all_eq_false];exact⟨S.th[i],List.getElem_mem hc,by simpa using hp⟩
   rw[this]
  ·have hp:(S.th[i]).pc = 0:=by simpa using hp
   refine Ac ⟨by omega,by omega⟩ ?_;refine hK (S.th.length - (i + 1)) _ _ _ (by omega) ⟨rfl,rfl,i + 1,by omega,rfl,rfl,λk hk hki=>?_⟩;by_cases c:k = i
   ·subst c;exact hp
   ·exact Bi k hk (by omega)
 ·have hc:¬ i < S.th.length:=by have:=z_g hc;omega
  refine Aj (RM.le.refl _) ?_ rfl hok;have:S.calm = true:=by
   unfold Sim.calm;rw[List.all_eq_true];intro x hx;obtain⟨k,hk,rfl⟩:=List.getElem_of_mem hx;simpa using Bi k hk (by omega)
  rw[this]
end Go.Lf
end
section
namespace Go.Lf
open Go Sm
instance (priority:=low) Sp.appr (X D A F:Chs) [s:Sp D A F]:Sp (X ++ D) A (X ++ F):=⟨(s.p.append_left X).trans (by rw[← List.append_assoc,← List.append_assoc];exact List.Perm.append_right F List.perm_append_comm)⟩
section col
variable {R:RM} {D G:Chs} {p:Nat} {S:Sim} {g:Img} {m:M} {k:Value→M}
theorem Nr {x:Col} {sv:Value} (h:flat sv = true):Bz (Af x sv) = true:=by
 show (true && (true && (true && (flat sv && true)))) = true;rw[h];rfl
theorem HS [w:Fd D p S g G] (hok:Ok R S g) (H:∀b,J R ((b,C Al (Af S.col g.AE)) :: D) (k (.pointer (some ⟨b,0,none⟩)))) :
  J R D (LA 15 (.pointer (some ⟨p,18,none⟩)) λx3=>AL Al z94 λx4=>ST 15 x4 x3 (k x4)):=by
 refine Au w.ex ?_;refine jla (t:=BL) (cs:=Bg S g) (l:=Af S.col g.AE) (by show 18 + 15≤35;omega) rfl ?_;refine ja λb=>?_
 refine js (cs':=Af S.col g.AE) rfl (Nr (Fz.flat hok.AE)) (by exact z_n 15) (by rfl) ?_;exact Au (w.ex.symm.cons _) (H b)
theorem Ga {b:Nat} {x:Col} {sv:Value} (S' : Sim) [w:Fd D p S g G] [at_:At D b (C Al (Af x sv))] (hok:Ok R S g) (hv:B9 R sv x.AE) (hS:S' = { S with col:=x })
  (H:∀g',Ok R S' g'→J R (AV p S' g' ++ G) m):J R D (LA 15 (.pointer (some ⟨b,0,none⟩)) λx10=>ST 15 (.pointer (some ⟨p,18,none⟩)) x10 m):=by
 subst hS;refine jla (t:=Al) (cs:=Af x sv) (l:=Af x sv) (z_n 15) rfl ?_;refine jss (p:=p) { S with col:=x } { g with AE:=sv } rfl (Nr (Fz.flat hv)) (by decide) (by rfl) (by rfl) ?_;exact H _ { hok with AE:=hv }
theorem jsm {i:Nat} {v:Bool} (S' : Sim) [w:Fd D p S g G] (hi:i < S.AO.length) (hS:S' = { S with AO:=S.AO.set i v }) (H:J R (AV p S' g ++ G) m):J R D (ST 1 (.pointer (some ⟨g.mb,i,none⟩)) (.bool v) m):=by
 subst hS;intro h hs;refine js (R:=R) (D:=AV p S g ++ G) (t:=Az) (cs:=S.AO.map Value.bool ++ g.msp) (cs':=(S.AO.set i v).map Value.bool ++ g.msp) (D':=AV p { S with AO:=S.AO.set i v } g ++ G) rfl rfl (by simp;omega) ?_ H h (hs.perm w.ex) (u:=?_)
 ·rw[show cl (Value.bool v) = [Value.bool v] from rfl,FR (by simp;omega),List.set_append_left _ _ (by simpa using hi),List.map_set]
 ·have e1:Bg { S with AO:=S.AO.set i v } g = Bg S g:=by simp[Bg,evV]
  unfold AV evD;rw[e1];exact inferInstance
end col
theorem J8 {x x' : Col} (a:Option Addr) (n c:Nat) (h:FA x = some x'):Pu JP [.agg (Af x (.slice a n c)).toArray] (.agg (Af x' (.slice a n c)).toArray):=by
 intro R;refine Oi λF=>?_
 unfold K9;obtain⟨i,hi,h⟩:=AA h;obtain⟨rfl,hin⟩:=Ak hi;simp only[Option.some.injEq] at h;subst h;refine ja λb=>ja λb2=>?_
 have e:cl (.agg (Af x (.slice a n c)).toArray) = Af x (.slice a n c):=rfl;rw[e];refine jl (v:=I x.i) rfl (Ac hin ?_);refine js (cs':=Af { x with i:=x.i + 1 } (.slice a n c)) rfl rfl (by simp[Af]) rfl ?_;refine js (cs':=Af { x with i:=x.i + 1,pc:=7 } (.slice a n c)) rfl rfl (by simp[Af]) rfl ?_;refine AH (λvs R' D'=>R' = R∧D' = (b2,C 94 (cl z94)) :: (b,C 94 (Af { x with i:=x.i + 1,pc:=if x.i + 1 = x.sh.refs then 6 else 7 } (.slice a n c))) :: ([] ++ F)∧vs = [.pointer (some ⟨b,0,none⟩),.pointer (some ⟨b2,0,none⟩)]) (λK hK=>?_) ?_
 ·refine jl (v:=I (x.i + 1)) rfl (jl (v:=I x.sh.refs) rfl (jeq (jif (λhc=>?_) (λhc=>?_))))
  ·refine js (cs':=Af { x with i:=x.i + 1,pc:=6 } (.slice a n c)) rfl rfl (by simp[Af]) rfl ?_;exact hK _ _ _ ⟨rfl,by rw[if_pos (eq_of_beq hc)],rfl⟩
  ·exact hK _ _ _ ⟨rfl,by rw[if_neg (ne_of_beq_false hc)],rfl⟩
 ·rintro e R1 D1 ⟨rfl,hD,he⟩;rw[hD];clear hD;simp only[List.map,lc,ln,lj,z_t] at he;simp only[he];refine jla (l:=Af { x with i:=x.i + 1,pc:=if x.i + 1 = x.sh.refs then 6 else 7 } (.slice a n c)) (by exact z_n 15) (by rfl) ?_;refine js (cs':=Af { x with i:=x.i + 1,pc:=if x.i + 1 = x.sh.refs then 6 else 7 } (.slice a n c)) rfl rfl (by exact z_n 15) (by rfl) ?_;refine jla (l:=Af { x with i:=x.i + 1,pc:=if x.i + 1 = x.sh.refs then 6 else 7 } (.slice a n c)) (by exact z_n 15) (by rfl) ?_;exact BR (A:=[]) (RM.le.refl _) rfl
theorem Sl {p:Nat} {S S' : Sim} {g:Img} {R:RM} (hok:Ok R S g) (hS:S.look = some S') :
  Fn P KI [.pointer (some ⟨p,0,none⟩)] R (AV p S g) (CT p S' λ_=>True):=by
 refine Nv λF=>?_
 unfold J2;unfold Sim.look at hS;split at hS
 ·cases hS
 rename_i hsz;have hsz:=En (by simpa using hsz:S.sz = true);dsimp only at hS;obtain⟨q1,hq1,hS⟩:=AA hS;obtain⟨rfl,in1⟩:=Ak hq1;obtain⟨q2,hq2,hS⟩:=AA hS;obtain⟨rfl,in2⟩:=Ak hq2;obtain⟨⟨v,S1⟩,hrd,hS⟩:=AA hS;have e1:=CH hrd;subst e1;dsimp only at hS;obtain⟨i1,hi1,hS⟩:=AA hS;obtain⟨rfl,in3⟩:=Ak hi1;refine HS (p:=p) hok λb=>?_
 obtain⟨a,cap,hsv,-⟩:=B9.reads (D:=[]) hok.AE;rw[hsv];have hst0:=hok.AE;rw[hsv] at hst0;refine jl (v:=I S.col.p) rfl (Ac in1 (jl (v:=I S.col.i) rfl (Ac in2 ?_)));refine jcS (p:=p) (by exact CX hok hrd) λ_ R1 g1 hR1 hr ok1=>?_
 subst hr;refine AH (λvs R' D'=>R1.le R'∧∃a2 n2 c2,B9 R' (.slice a2 n2 c2) (if v≠0 then S.col.AE ++ [v] else S.col.AE)∧D' = AV p { S with used:=true } g1 ++ (b,C Al (Af { S.col with AE:=if v≠0 then S.col.AE ++ [v] else S.col.AE } (.slice a2 n2 c2))) :: F∧vs = [.pointer (some ⟨p,0,none⟩),.pointer (some ⟨b,0,none⟩)]) (λK hK=>?_) ?_
 ·refine jne (jif (λhv=>?_) (λhv=>?_))
  ·have hv:v≠0:=by simpa using hv
   refine jl (v:=.slice a S.col.AE.length cap) rfl ?_;refine jc (A:=[]) (Br (hst0.le hR1) (by exact hsz.2.2.1)) ?_;rintro _ R' _ hR ⟨b4,c,sp,hc,hsp,rfl,rfl⟩;refine jbs (cs:=[I v]) rfl rfl λb1=>?_
   refine TC (v:=v) hc hsp (by exact hsz.2.2.1) (BG.held (t:=AZ) (cs:=[I v]) (o:=0) (n:=1 * 1) (z_n 1)) λb' c' sp' hc' hsp'=>?_
   refine Ba (b:=b') λR2 hR2 hb'=>?_
   have hi:=Bn (c:=c') hb' (by simpa using hc');rw[List.length_append,List.length_singleton] at hi;refine js (cs':=Af { S.col with AE:=S.col.AE ++ [v] } (.slice (some ⟨b',0,none⟩) (S.col.AE.length + 1) c')) rfl rfl (by simp[Af]) rfl ?_;refine Av (AV p { S with used:=true } g1) (G:=(b,C Al (Af { S.col with AE:=S.col.AE ++ [v] } (.slice (some ⟨b',0,none⟩) (S.col.AE.length + 1) c'))) :: F) ?_;refine hK _ _ _ ⟨hR.trans hR2,some ⟨b',0,none⟩,S.col.AE.length + 1,c',by rw[if_pos hv];exact hi,by rw[if_pos hv],rfl⟩
  ·have hv:¬ v≠0:=by simpa using hv
   exact hK _ _ _ ⟨RM.le.refl _,a,S.col.AE.length,cap,by rw[if_neg hv];exact hst0.le hR1,by rw[if_neg hv],rfl⟩
 ·rintro e R2 D2 ⟨hR2,a2,n2,c2,hi,hD,he⟩;rw[hD];clear hD;simp only[List.map,lc,ln,lj,z_t] at he;simp only[he];have ok2:=ok1.le hR2;generalize hnew:(if v≠0 then S.col.AE ++ [v] else S.col.AE) = st2 at hi hS ⊢;refine jl (v:=I S.col.i) rfl (Ac in3 ?_);refine js (cs':=Af { S.col with AE:=st2,i:=S.col.i + 1 } (.slice a2 n2 c2)) rfl rfl (by simp[Af]) rfl ?_;refine AH (λvs R' D'=>R' = R2∧D' = AV p { S with used:=true } g1 ++ (b,C Al (Af { S.col with AE:=st2,i:=S.col.i + 1,pc:=if S.col.i + 1 = S.col.sh.refs then 1 else S.col.pc } (.slice a2 n2 c2))) :: F∧vs = [.pointer (some ⟨p,0,none⟩),.pointer (some ⟨b,0,none⟩)]) (λK hK=>?_) ?_
  ·refine jl (v:=I (S.col.i + 1)) rfl (jl (v:=I S.col.sh.refs) rfl (jeq (jif (λhc=>?_) (λhc=>?_))))
   ·refine js (cs':=Af { S.col with AE:=st2,i:=S.col.i + 1,pc:=1 } (.slice a2 n2 c2)) rfl rfl (by simp[Af]) rfl ?_;exact hK _ _ _ ⟨rfl,by rw[if_pos (eq_of_beq hc)],rfl⟩
   ·exact hK _ _ _ ⟨rfl,by rw[if_neg (ne_of_beq_false hc)],rfl⟩
  ·rintro e R3 D3 ⟨rfl,hD,he⟩;rw[hD];clear hD;simp only[List.map,lc,ln,lj,z_t] at he;simp only[he];refine Ga (p:=p) (({ S with used:=true }:Sim).setC { S.col with AE:=st2,i:=S.col.i + 1,pc:=if S.col.i + 1 = S.col.sh.refs then 1 else S.col.pc }) (by exact ok2) (by exact hi) (by rfl) λg3 ok3=>?_
   simp only[Option.some.injEq] at hS;subst hS;exact Aj (hR1.trans hR2) trivial rfl ok3
end Go.Lf
end
section
namespace Go.Lf
open Go Sm
theorem RI {p:Nat} {S S' : Sim} {g:Img} {R:RM} (hok:Ok R S g) (hS:S.mark = some S') :
  Fn P KR [.pointer (some ⟨p,0,none⟩)] R (AV p S g) (CT p S' λ_=>True):=by
 refine O2 λF=>?_
 unfold JQ;unfold Sim.mark at hS;split at hS
 ·cases hS
 rename_i hsz;have hsz:=En (by simpa using hsz:S.sz = true);dsimp only at hS;refine HS (p:=p) hok λb=>?_
 obtain⟨a,cap,hsv,-⟩:=B9.reads (D:=[]) hok.AE;rw[hsv];have hst0:=hok.AE;rw[hsv] at hst0;refine jl (v:=.slice a S.col.AE.length cap) rfl (jln (jeq (jif (λh0=>?_) (λh0=>?_))))
 ·have h0:S.col.AE.length = 0:=by have:=eq_of_beq h0;omega
  rw[if_pos h0] at hS;refine AH (λvs R' D'=>R.le R'∧∃S2 g2 x2 sv2,S' = { S2 with col:=x2 }∧Ok R' S2 g2∧B9 R' sv2 x2.AE∧D' = AV p S2 g2 ++ (b,C Al (Af x2 sv2)) :: F∧vs = [.pointer (some ⟨p,0,none⟩),.pointer (some ⟨b,0,none⟩)]) (λK hK=>?_) ?_;rotate_left
  ·rintro e R2 D2 ⟨hR2,S2,g2,x2,sv2,e1,ok2,hi,hD,he⟩;rw[hD];clear hD;simp only[List.map,lc,ln,lj,z_t] at he;simp only[he];refine Ga (p:=p) { S2 with col:=x2 } (by exact ok2) (by exact hi) (by rfl) λg3 ok3=>?_
   subst e1;exact Aj hR2 trivial rfl ok3
  refine jl (v:=g.old) rfl (HV hok.old (jeq (jif (λh1=>?_) (λh1=>?_))))
  ·have h1:S.old = []:=by have:=eq_of_beq h1;exact List.length_eq_zero_iff.1 (by omega)
   rw[h1] at hS;simp only[Option.some.injEq] at hS;refine jss (p:=p) { S with stop:=true } g rfl rfl (by decide) (by rfl) (by rfl) ?_;refine js (cs':=Af { S.col with want:=2 } (.slice a S.col.AE.length cap)) rfl rfl (by simp[Af]) rfl ?_;exact hK _ _ _ ⟨RM.le.refl _,{ S with stop:=true },g,{ S.col with want:=2 },_,hS.symm▸by rw[h1],{ hok with },hst0,rfl,rfl⟩
  ·have h1:S.old.length≠0:=by have:=ne_of_beq_false h1;omega
   obtain⟨a0,l,hol⟩:∃a l,S.old = a :: l:=by cases h:S.old with | nil=>rw[h] at h1;exact absurd rfl h1 | cons a l=>exact⟨a,l,rfl⟩
   rw[hol] at hS;simp only[Option.some.injEq] at hS;refine jl (v:=g.old) rfl (CN hok.old (by omega) (by omega) ?_);have e0:S.old[(0:Int).toNat]'(by simp;omega) = a0:=by simp[hol]
   rw[e0];refine jbs (cs:=[I a0]) rfl rfl λb1=>?_
   refine js (cs':=Af { S.col with AE:=[a0] } (.slice (some ⟨b1,0,none⟩) 1 1)) rfl rfl (by simp[Af]) rfl ?_;refine Ba (b:=b1) λR2 hR2 hb1=>?_
   have hi1:B9 R2 (.slice (some ⟨b1,0,none⟩) [a0].length 1) [a0]:=Bn (l:=[a0]) (c:=1) (sp:=[]) (by simpa using hb1) (z_n 1);refine jl (v:=g.old) rfl (Uv (hok.old.le hR2) (by omega) (by rw[hol];simp;omega) λv1 hv1=>?_);rw[hol] at hv1;refine jc (A:=[]) (Br (l:=l) hv1 (by have:=hsz.2.1;rw[hol] at this;simp at this;omega)) ?_;rintro _ R3 _ hR3 ⟨b4,c4,sp4,hc4,hsp4,rfl,rfl⟩;refine Ba (b:=b4) λR4 hR4 hb4=>?_
   have hi4:=Bn (c:=c4) hb4 hc4;refine jss (p:=p) { S with old:=l } { g with old:=.slice (some ⟨b4,0,none⟩) l.length c4 } rfl rfl (by decide) (by rfl) (by rfl) ?_;have hR:=(hR2.trans hR3).trans hR4;refine Av (AV p { S with old:=l } { g with old:=.slice (some ⟨b4,0,none⟩) l.length c4 }) (G:=(b,C Al (Af { S.col with AE:=[a0] } (.slice (some ⟨b1,0,none⟩) 1 1))) :: F) ?_;exact hK _ _ _ ⟨hR,{ S with old:=l },{ g with old:=.slice (some ⟨b4,0,none⟩) l.length c4 },{ S.col with AE:=[a0] },_,hS.symm,{ hok.le hR with old:=hi4 },(hi1.le hR3).le hR4,rfl,rfl⟩
 have h0:S.col.AE.length≠0:=by have:=ne_of_beq_false h0;omega
 rw[if_neg h0] at hS;obtain⟨av,hav,hS⟩:=AA hS;obtain⟨row,hrow,hS⟩:=AA hS;obtain⟨go,hgo,hS⟩:=AA hS;obtain⟨r0,r1,r2,r3⟩:=Ai hrow;have htl:=hok.tl;have hlast:S.col.AE[S.col.AE.length - 1]'(by omega) = av:=by
  rw[List.getLast?_eq_getElem?] at hav;rw[List.getElem?_eq_getElem (by omega)] at hav;exact Option.some.inj hav
 have hss:=hsz.2.2.1;refine jl (v:=.slice a S.col.AE.length cap) rfl (jl (v:=.slice a S.col.AE.length cap) rfl (jln (DE ⟨by omega,by omega⟩ ?_)));refine CN hst0 (by omega) (by omega) ?_;have e0:S.col.AE[((S.col.AE.length:Int) - 1).toNat]'(by omega) = av:=by
  rw[← hlast];congr 1;omega
 rw[e0];refine jl (v:=.slice a S.col.AE.length cap) rfl (jl (v:=.slice a S.col.AE.length cap) rfl (jln (DE ⟨by omega,by omega⟩ ?_)));refine Ri hst0 (by omega) (by omega) λv1 hv1=>?_
 rw[show ((S.col.AE.length:Int) - 1).toNat = S.col.AE.length - 1 from by omega,← List.dropLast_eq_take] at hv1;refine jc (A:=[]) (Br hv1 (by simp;omega)) ?_;rintro _ R1 _ hR1 ⟨b4,c4,sp4,hc4,hsp4,rfl,rfl⟩;refine Ba (b:=b4) λR2 hR2 hb4=>?_
 have hi4:=Bn (c:=c4) hb4 hc4;have hR12:=hR1.trans hR2;have ok2:=hok.le hR12;refine js (cs':=Af { S.col with AE:=S.col.AE.dropLast } (.slice (some ⟨b4,0,none⟩) S.col.AE.dropLast.length c4)) rfl rfl (by simp[Af]) rfl ?_;refine jp (Ck av (by omega)) ?_;refine AH (λvs R' D'=>R2.le R'∧∃S3 g3 x3,S' = { S3 with col:=x3 }∧Ok R' S3 g3∧x3.AE = S.col.AE.dropLast∧D' = AV p S3 g3 ++ (b,C Al (Af x3 (.slice (some ⟨b4,0,none⟩) S.col.AE.dropLast.length c4))) :: F∧vs = [.pointer (some ⟨p,0,none⟩),.pointer (some ⟨b,0,none⟩)]) (λK hK=>?_) ?_;rotate_left
 ·rintro e R3 D3 ⟨hR3,S3,g3,x3,e1,ok3,ex,hD,he⟩;rw[hD];clear hD;simp only[List.map,lc,ln,lj,z_t] at he;simp only[he];refine Ga (p:=p) { S3 with col:=x3 } (by exact ok3) (by rw[ex];exact hi4.le hR3) (by rfl) λg4 ok4=>?_
  subst e1;exact Aj (hR12.trans hR3) trivial rfl ok4
 refine AH (λvs R' D'=>R' = R2∧D' = (b,C Al (Af { S.col with AE:=S.col.AE.dropLast } (.slice (some ⟨b4,0,none⟩) S.col.AE.dropLast.length c4))) :: (AV p S g ++ F)∧∃c u,vs = [.pointer (some ⟨p,0,none⟩),.pointer (some ⟨b,0,none⟩),I av,I (AY av),c,u]∧Eu c u go) (λK2 hK2=>?_) ?_
 ·refine jl (v:=.slice (some ⟨g.tb,0,none⟩) S.A0.length g.tc) rfl (jia r0 r1 ?_);refine jl (v:=I row.Ah) (by rw[Nat.zero_add];exact BT (f:=3) r2 (by rw[r3];rfl)) (jlt ?_);by_cases hlt:av < row.Ah
  ·rw[if_pos hlt] at hgo;obtain⟨mk,hmk,hgo⟩:=AA hgo;cases hgo;obtain⟨m0,m1,m2,m3⟩:=Ai hmk;rw[decide_eq_true hlt];refine jtt (jl (v:=.slice (some ⟨g.mb,0,none⟩) S.AO.length g.mc) rfl (jia m0 m1 ?_));refine jl (v:=.bool mk) (by rw[Nat.zero_add,Nat.mul_one,HO m2,m3]) ?_;exact hK2 _ _ _ ⟨rfl,rfl,_,_,rfl,Aq⟩
  ·rw[if_neg hlt] at hgo;cases hgo;rw[decide_eq_false hlt];exact jft (hK2 _ _ _ ⟨rfl,rfl,_,_,rfl,As⟩)
 rintro e R3 D3 ⟨hR3,hD,c,u,he,ha⟩;subst hR3;rw[hD];clear hD;simp only[List.map,lc,ln,lj,z_t] at he;simp only[he];rw[ha];refine jif (λhg=>?_) (λhg=>?_)
 ·rw[hg,if_pos rfl] at hS;rw[hg] at hgo;have hm:idx S.AO av = some false:=by
   split at hgo
   ·obtain⟨mk,hmk,hgo⟩:=AA hgo;cases mk
    ·exact hmk
    ·cases hgo
   ·cases hgo
  obtain⟨m0,m1,m2,m3⟩:=Ai hm;obtain⟨q1,hq1,hS⟩:=AA hS;obtain⟨rfl,in1⟩:=Ak hq1;obtain⟨⟨w,S1⟩,hrd,hS⟩:=AA hS;have e1:=CH hrd;subst e1;dsimp only at hS;obtain⟨lv,hlv,hS⟩:=AA hS;obtain⟨rfl,in2⟩:=Ak hlv;simp only[Option.some.injEq] at hS;refine jl (v:=.slice (some ⟨g.mb,0,none⟩) S.AO.length g.mc) rfl (jia m0 m1 ?_);rw[Nat.zero_add,Nat.mul_one];refine jsm (p:=p) { S with AO:=AT S.AO av true } (by exact m2) (by rfl) ?_;refine Ac in1 ?_;have ok3:Ok R3 { S with AO:=AT S.AO av true } g:={ ok2 with ml:=by simpa [AT] using ok2.ml,mk_:=by simpa [AT] using ok2.mk_ };refine jcS (p:=p) (by exact CX ok3 hrd) λ_ R4 g4 hR4 hr ok4=>?_
  subst hr;refine jp (Dk w) (jex rfl (jex rfl ?_));refine ja λb5=>?_
  refine js (cs':=[I (AJ w).1.refs,I (AJ w).1.nums]) rfl rfl (by exact z_n 2) rfl ?_;refine jl (v:=.slice (some ⟨g4.tb,0,none⟩) S.A0.length g4.tc) rfl (jia r0 r1 ?_);refine OD (p:=p) (by exact r2) ?_;have er:({ S with used:=true,AO:=AT S.AO av true }:Sim).A0[(AY av).toNat]'r2 = row:=r3;rw[er];refine ja λb6=>?_
  refine js (cs':=eRg row) rfl rfl (by simp) rfl ?_;refine jl (v:=I row.AF) rfl ?_;refine jla (l:=[I (AJ w).1.refs,I (AJ w).1.nums]) (by exact z_n 2) (by rfl) ?_;refine jp (Bp (AJ w).1) (Ac in2 (Ae (jl (v:=I row.AF) rfl jev) ?_));refine js (cs':=eRg { row with AF:=row.AF + AC (AJ w).1 }) rfl rfl (by simp) rfl ?_;refine jl (v:=.slice (some ⟨g4.tb,0,none⟩) S.A0.length g4.tc) rfl ?_;refine jla (l:=eRg { row with AF:=row.AF + AC (AJ w).1 }) (by simp) rfl ?_;refine jia r0 r1 ?_;refine Q3 (p:=p) (x:={ row with AF:=row.AF + AC (AJ w).1 }) { S with used:=true,AO:=AT S.AO av true,A0:=AT S.A0 (AY av) { row with AF:=row.AF + AC (AJ w).1 } } (by exact r2) (by rfl) ?_;have ok5:Ok R4 { S with used:=true,AO:=AT S.AO av true,A0:=AT S.A0 (AY av) { row with AF:=row.AF + AC (AJ w).1 } } g4:={ ok4 with tl:=by simpa [AT] using ok4.tl,tk:=by simpa [AT] using ok4.tk };refine js (cs':=Af { S.col with AE:=S.col.AE.dropLast,p:=av } (.slice (some ⟨b4,0,none⟩) S.col.AE.dropLast.length c4)) rfl rfl (by simp[Af]) rfl ?_;refine js (cs':=Af { S.col with AE:=S.col.AE.dropLast,p:=av,i:=0 } (.slice (some ⟨b4,0,none⟩) S.col.AE.dropLast.length c4)) rfl rfl (by simp[Af]) rfl ?_;refine jla (l:=[I (AJ w).1.refs,I (AJ w).1.nums]) (by exact z_n 2) (by rfl) ?_;refine js (cs':=Af { S.col with AE:=S.col.AE.dropLast,p:=av,i:=0,sh:=(AJ w).1 } (.slice (some ⟨b4,0,none⟩) S.col.AE.dropLast.length c4)) rfl rfl (by simp[Af]) rfl ?_;refine jl (v:=I (AJ w).1.refs) rfl (jgr (jif (λhc=>?_) (λhc=>?_)))
  ·rw[if_pos (z_f hc)] at hS;refine js (cs':=Af { S.col with AE:=S.col.AE.dropLast,p:=av,i:=0,sh:=(AJ w).1,pc:=2 } (.slice (some ⟨b4,0,none⟩) S.col.AE.dropLast.length c4)) rfl rfl (by simp[Af]) rfl ?_;refine Av (AV p { S with used:=true,AO:=AT S.AO av true,A0:=AT S.A0 (AY av) { row with AF:=row.AF + AC (AJ w).1 } } g4) (G:=(b,C Al (Af { S.col with AE:=S.col.AE.dropLast,p:=av,i:=0,sh:=(AJ w).1,pc:=2 } (.slice (some ⟨b4,0,none⟩) S.col.AE.dropLast.length c4))) :: F) ?_;exact hK _ _ _ ⟨hR4,_,g4,{ S.col with AE:=S.col.AE.dropLast,p:=av,i:=0,sh:=(AJ w).1,pc:=2 },hS.symm,ok5,rfl,rfl,rfl⟩
  ·rw[if_neg (z_g hc)] at hS;refine Av (AV p { S with used:=true,AO:=AT S.AO av true,A0:=AT S.A0 (AY av) { row with AF:=row.AF + AC (AJ w).1 } } g4) (G:=(b,C Al (Af { S.col with AE:=S.col.AE.dropLast,p:=av,i:=0,sh:=(AJ w).1 } (.slice (some ⟨b4,0,none⟩) S.col.AE.dropLast.length c4))) :: F) ?_;exact hK _ _ _ ⟨hR4,{ S with used:=true,AO:=AT S.AO av true,A0:=AT S.A0 (AY av) { row with AF:=row.AF + AC (AJ w).1 } },g4,{ S.col with AE:=S.col.AE.dropLast,p:=av,i:=0,sh:=(AJ w).1 },hS.symm,ok5,rfl,rfl,rfl⟩
 ·rw[hg,if_neg (by decide)] at hS;simp only[Option.some.injEq] at hS;refine Av (AV p S g) (G:=(b,C Al (Af { S.col with AE:=S.col.AE.dropLast } (.slice (some ⟨b4,0,none⟩) S.col.AE.dropLast.length c4))) :: F) ?_;exact hK _ _ _ ⟨RM.le.refl _,S,g,{ S.col with AE:=S.col.AE.dropLast },hS.symm,ok2,rfl,rfl,rfl⟩
end Go.Lf
end
section
namespace Go.Lf
open Go Sm
theorem TX {p:Nat} {S S' : Sim} {g:Img} {R:RM} (hok:Ok R S g) (hS:S.carry = some S') :
  Fn P I9 [.pointer (some ⟨p,0,none⟩)] R (AV p S g) (CT p S' λ_=>True):=by
 refine Mm λF=>?_
 unfold Hl;unfold Sim.carry at hS;dsimp only at hS;refine HS (p:=p) hok λb=>?_
 obtain⟨a,cap,hsv,-⟩:=B9.reads (D:=[]) hok.AE;rw[hsv];have hst0:=hok.AE;rw[hsv] at hst0;refine AH (λvs R' D'=>R.le R'∧∃S2 g2 x2,S' = S2.setC x2∧Ok R' S2 g2∧x2.AE = S.col.AE∧D' = AV p S2 g2 ++ (b,C Al (Af x2 (.slice a S.col.AE.length cap))) :: F∧vs = [.pointer (some ⟨p,0,none⟩),.pointer (some ⟨b,0,none⟩)]) (λK hK=>?_) ?_;rotate_left
 ·rintro e R2 D2 ⟨hR2,S2,g2,x2,e1,ok2,ex,hD,he⟩;rw[hD];clear hD;simp only[List.map,lc,ln,lj,z_t] at he;simp only[he];refine Ga (p:=p) (S2.setC x2) (by exact ok2) (by rw[ex];exact hst0.le hR2) (by rfl) λg3 ok3=>?_
  subst e1;exact Aj hR2 trivial rfl ok3
 refine jl (v:=I S.col.pc) rfl ?_;refine AH (λvs R' D'=>R.le R'∧∃S2 g2 x2,S' = S2.setC x2∧Ok R' S2 g2∧x2.AE = S.col.AE∧D' = AV p S2 g2 ++ (b,C Al (Af x2 (.slice a S.col.AE.length cap))) :: F∧vs = [.pointer (some ⟨p,0,none⟩),.pointer (some ⟨b,0,none⟩)]) (λK2 hK2=>?_) ?_;rotate_left
 ·rintro e R2 D2 ⟨hR2,S2,g2,x2,e1,ok2,ex,hD,he⟩;rw[hD];clear hD;simp only[List.map,lc,ln,lj,z_t] at he;simp only[he];exact hK _ _ _ ⟨hR2,S2,g2,x2,e1,ok2,ex,rfl,rfl⟩
 refine jeq (jif (λc20=>?_) (λc20=>?_))
 ·rw[if_pos (eq_of_beq c20)] at hS;obtain⟨q,hq,hS⟩:=AA hS;obtain⟨rfl,hin⟩:=Ak hq;obtain⟨⟨w,S1⟩,hrd,hS⟩:=AA hS;have e1:=CH hrd;subst e1;dsimp only at hS;refine jl (v:=I S.col.src) rfl (Ac hin ?_);refine jcS (p:=p) (by exact CX hok hrd) λ_ R1 g1 hR1 hr ok1=>?_
  subst hr;refine jp (Dk w) (jex rfl (jex rfl ?_));refine ja λb3=>?_
  refine js (cs':=[I (AJ w).1.refs,I (AJ w).1.nums]) rfl rfl (by exact z_n 2) rfl ?_;refine jla (l:=[I (AJ w).1.refs,I (AJ w).1.nums]) (by exact z_n 2) (by rfl) ?_;refine jp (Bp (AJ w).1) ?_;refine js (cs':=Af { S.col with size:=AC (AJ w).1 } (.slice a S.col.AE.length cap)) rfl rfl (by simp[Af]) rfl ?_;refine jl (v:=.slice (some ⟨g1.tb,0,none⟩) S.A0.length g1.tc) rfl ?_;refine jl (v:=.slice (some ⟨g1.hb,0,none⟩) S.th.length g1.hc) rfl (jln ?_);refine jl (v:=I (AC (AJ w).1)) rfl ?_;refine jmk (by exact F3 (t:=S.A0) (sp:=g1.tsp) S.th.length (AC (AJ w).1) (by have:=hok.tl;omega)) ?_;intro v N hq2;cases hrm:BB S.A0 S.th.length (AC (AJ w).1) with
  | none=>
   rw[hrm] at hq2 hS;obtain⟨rfl,rfl⟩:=hq2;simp only[Option.some.injEq] at hS;subst hS;refine jex rfl (jex rfl (jex rfl (F7 ?_)));refine jss (p:=p) { S with used:=true,full:=true } g1 rfl rfl (by decide) (by rfl) (by rfl) ?_;refine jss (p:=p) { S with used:=true,full:=true,stop:=true } g1 rfl rfl (by decide) (by rfl) (by rfl) ?_;exact Aj hR1 trivial rfl { ok1 with }
  | some td=>
   obtain⟨t',d⟩:=td;rw[hrm] at hq2 hS;obtain⟨sv,⟨b4,c4,sp4,hc4,rfl,rfl⟩,rfl⟩:=hq2;simp only[Option.some.injEq] at hS;have hlen:=KD hrm;refine jex rfl (jex rfl (jex rfl (Cv ?_)));refine Nh (p:=p) ?_;refine js (cs':=Af { S.col with size:=AC (AJ w).1,dst:=d } (.slice a S.col.AE.length cap)) rfl rfl (by simp[Af]) rfl ?_;refine js (cs':=Af { S.col with size:=AC (AJ w).1,dst:=d,i:=1 } (.slice a S.col.AE.length cap)) rfl rfl (by simp[Af]) rfl ?_;refine js (cs':=Af { S.col with size:=AC (AJ w).1,dst:=d,i:=1,pc:=21 } (.slice a S.col.AE.length cap)) rfl rfl (by simp[Af]) rfl ?_;refine Av (AV p { S with used:=true,A0:=t' } { g1 with tb:=b4,tc:=c4,tsp:=sp4 }) (G:=(b,C Al (Af { S.col with size:=AC (AJ w).1,dst:=d,i:=1,pc:=21 } (.slice a S.col.AE.length cap))) :: F) ?_;exact hK2 _ _ _ ⟨hR1,{ S with used:=true,A0:=t' },{ g1 with tb:=b4,tc:=c4,tsp:=sp4 },{ S.col with size:=AC (AJ w).1,dst:=d,i:=1,pc:=21 },hS.symm,ok1.tab (by rw[hlen];exact hok.tl) _ _ _ hc4,rfl,rfl,rfl⟩
 rw[if_neg (ne_of_beq_false c20)] at hS;refine jeq (jif (λc21=>?_) (λc21=>?_))
 ·rw[if_pos (eq_of_beq c21)] at hS;obtain⟨q,hq,hS⟩:=AA hS;obtain⟨rfl,hin⟩:=Ak hq;obtain⟨⟨w,S1⟩,hrd,hS⟩:=AA hS;have e1:=CH hrd;subst e1;cases hS;refine jl (v:=I S.col.src) rfl (jl (v:=I S.col.i) rfl (Ac hin ?_));refine jcS (p:=p) (by exact CX hok hrd) λ_ R1 g1 hR1 hr ok1=>?_
  subst hr;refine js (cs':=Af { S.col with word:=w } (.slice a S.col.AE.length cap)) rfl rfl (by simp[Af]) rfl ?_;refine js (cs':=Af { S.col with word:=w,pc:=22 } (.slice a S.col.AE.length cap)) rfl rfl (by simp[Af]) rfl ?_;exact hK2 _ _ _ ⟨hR1,{ S with used:=true },g1,{ S.col with word:=w,pc:=22 },rfl,ok1,rfl,rfl,rfl⟩
 rw[if_neg (ne_of_beq_false c21)] at hS;refine jeq (jif (λc22=>?_) (λc22=>?_))
 ·rw[if_pos (eq_of_beq c22)] at hS;obtain⟨q,hq,hS⟩:=AA hS;obtain⟨rfl,hin⟩:=Ak hq;obtain⟨S1,hwr,hS⟩:=AA hS;have e1:=DY hwr;subst e1;obtain⟨n,hn,hS⟩:=AA hS;obtain⟨rfl,hin2⟩:=Ak hn;cases hS;refine jl (v:=I S.col.dst) rfl (jl (v:=I S.col.i) rfl (Ac hin (jl (v:=I S.col.word) rfl ?_)));refine jcS (p:=p) (by exact DA hok hwr) λ_ R1 g1 hR1 hr ok1=>?_
  refine jl (v:=I S.col.i) rfl (Ac hin2 ?_);refine js (cs':=Af { S.col with i:=S.col.i + 1 } (.slice a S.col.AE.length cap)) rfl rfl (by simp[Af]) rfl ?_;refine js (cs':=Af { S.col with i:=S.col.i + 1,pc:=21 } (.slice a S.col.AE.length cap)) rfl rfl (by simp[Af]) rfl ?_;refine jl (v:=I (S.col.i + 1)) rfl (jl (v:=I S.col.size) rfl (jeq (jif (λhz=>?_) (λhz=>?_))))
  ·refine js (cs':=Af { S.col with i:=S.col.i + 1,pc:=23 } (.slice a S.col.AE.length cap)) rfl rfl (by simp[Af]) rfl ?_;exact hK2 _ _ _ ⟨hR1,{ S with used:=true,A5:=AT S.A5 (S.col.dst + S.col.i) S.col.word },g1,{ S.col with i:=S.col.i + 1,pc:=23 },(by rw[if_pos (eq_of_beq hz)]),ok1,rfl,rfl,rfl⟩
  ·exact hK2 _ _ _ ⟨hR1,{ S with used:=true,A5:=AT S.A5 (S.col.dst + S.col.i) S.col.word },g1,{ S.col with i:=S.col.i + 1,pc:=21 },(by rw[if_neg (ne_of_beq_false hz)]),ok1,rfl,rfl,rfl⟩
 rw[if_neg (ne_of_beq_false c22)] at hS;refine jeq (jif (λc23=>?_) (λc23=>?_))
 ·rw[if_pos (eq_of_beq c23)] at hS;obtain⟨S1,hwr,hS⟩:=AA hS;have e1:=DY hwr;subst e1;cases hS;refine jl (v:=I S.col.dst) rfl (jl (v:=I S.col.dst) rfl ?_);refine jcS (p:=p) (by exact DA hok hwr) λ_ R1 g1 hR1 hr ok1=>?_
  refine js (cs':=Af { S.col with pc:=24 } (.slice a S.col.AE.length cap)) rfl rfl (by simp[Af]) rfl ?_;exact hK2 _ _ _ ⟨hR1,{ S with used:=true,A5:=AT S.A5 S.col.dst S.col.dst },g1,{ S.col with pc:=24 },rfl,ok1,rfl,rfl,rfl⟩
 rw[if_neg (ne_of_beq_false c23)] at hS;refine jeq (jif (λc24=>?_) (λc24=>?_));rotate_left
 ·rw[if_neg (ne_of_beq_false c24)] at hS;cases hS;exact Au List.perm_middle.symm (hK2 _ _ _ ⟨RM.le.refl _,S,g,S.col,rfl,hok,rfl,rfl,rfl⟩)
 rw[if_pos (eq_of_beq c24)] at hS;obtain⟨⟨w,S1⟩,hrd,hS⟩:=AA hS;have e1:=CH hrd;subst e1;dsimp only at hS;obtain⟨S3,h3,hS⟩:=AA hS;cases hS;refine AH (λvs R' D'=>R.le R'∧∃g2,Ok R' S3 g2∧D' = AV p S3 g2 ++ (b,C Al (Af S.col (.slice a S.col.AE.length cap))) :: F∧vs = [.pointer (some ⟨p,0,none⟩),.pointer (some ⟨b,0,none⟩)]) (λK3 hK3=>?_) ?_;rotate_left
 ·rintro e R2 D2 ⟨hR,g2,ok2,hD,he⟩;rw[hD];clear hD;simp only[List.map,lc,ln,lj,z_t] at he;simp only[he];refine js (cs':=Af { S.col with pc:=5 } (.slice a S.col.AE.length cap)) rfl rfl (by simp[Af]) rfl ?_;exact hK2 _ _ _ ⟨hR,S3,g2,{ S.col with pc:=5 },rfl,ok2,rfl,rfl,rfl⟩
 refine jl (v:=I S.col.src) rfl (jl (v:=I S.col.src) rfl ?_);refine jcS (p:=p) (by exact CX hok hrd) λ_ R1 g1 hR1 hr ok1=>?_
 subst hr;refine jeq (Ae (jl (v:=I S.col.src) rfl jev) (jif (λhw=>?_) (λhw=>?_)))
 ·rw[if_pos (eq_of_beq hw)] at h3;obtain⟨S2,hwr,h3⟩:=AA h3;refine jl (v:=I S.col.src) rfl (jl (v:=I S.col.dst) rfl ?_);refine jcS (p:=p) (by exact DA ok1 hwr) λ_ R2 g2 hR2 hr ok2=>?_
  refine jl (v:=I S.col.dst) rfl (jl (v:=I S.col.size) rfl ?_);refine jcS (p:=p) (by exact Sb ok2 h3) λ_ R3 g3 hR3 hr ok3=>?_
  exact hK3 _ _ _ ⟨(hR1.trans hR2).trans hR3,g3,ok3,rfl,rfl⟩
 ·rw[if_neg (ne_of_beq_false hw)] at h3;cases h3;exact hK3 _ _ _ ⟨hR1,g1,ok1,rfl,rfl⟩
end Go.Lf
end
section
namespace Go.Lf
open Go Sm
theorem Lo {R:RM} {S:Sim} {g:Img} {r:Int} {row:Rg} (h:idx S.A0 r = some row) {f:Nat} {v:Value} (hv:(eRg row)[f]? = some v):(AW eRg S.A0 ++ g.tsp)[0 + r.toNat * 5 + f]? = some v:=by
 obtain⟨h0,h1,h2,h3⟩:=Ai h;rw[Nat.zero_add];exact BT (f:=f) h2 (by rw[h3];exact hv)
theorem UU {p:Nat} {S S' : Sim} {g:Img} {R:RM} (hok:Ok R S g) (hS:S.walk = some S') :
  Fn P JN [.pointer (some ⟨p,0,none⟩)] R (AV p S g) (CT p S' λ_=>True):=by
 refine P3 λF=>?_
 unfold KB;unfold Sim.walk at hS;dsimp only at hS;obtain⟨⟨r,q⟩,hwo,hS⟩:=AA hS;dsimp only at hS;have htl:=hok.tl;have hml:=hok.ml;refine HS (p:=p) hok λb=>?_
 obtain⟨a,cap,hsv,-⟩:=B9.reads (D:=[]) hok.AE;rw[hsv];have hst0:=hok.AE;rw[hsv] at hst0;refine AH (λvs R' D'=>R' = R∧D' = (b,C Al (Af { S.col with r:=r,p:=q } (.slice a S.col.AE.length cap))) :: (AV p S g ++ F)∧vs = [.pointer (some ⟨p,0,none⟩),.pointer (some ⟨b,0,none⟩)]) (λK hK=>?_) ?_
 ·refine AH (λvs R' D'=>R' = R∧D' = (b,C Al (Af { S.col with r:=r,p:=q } (.slice a S.col.AE.length cap))) :: (AV p S g ++ F)∧vs = [.pointer (some ⟨p,0,none⟩),.pointer (some ⟨b,0,none⟩)]) (λK2 hK2=>?_) ?_;rotate_left
  ·rintro e R2 D2 ⟨rfl,hD,he⟩;rw[hD];clear hD;simp only[List.map,lc,ln,lj,z_t] at he;simp only[he];exact hK _ _ _ ⟨rfl,rfl,rfl⟩
  refine jlp (λn vs R' D'=>R' = R∧∃r1 q1,D' = (b,C Al (Af { S.col with r:=r1,p:=q1 } (.slice a S.col.AE.length cap))) :: (AV p S g ++ F)∧vs = [.pointer (some ⟨p,0,none⟩),.pointer (some ⟨b,0,none⟩)]∧S.walkOut n r1 q1 = some (r,q))
   (n:=S.A0.length + 2) ⟨rfl,S.col.r,S.col.p,rfl,rfl,hwo⟩ ?_
  rintro n e R1 D1 K3 ⟨hR1,r1,q1,hD,he,hw⟩ hK3;subst hR1;rw[hD];clear hD;simp only[List.map,lc,ln,lj,z_t] at he;simp only[he];cases n with
  | zero=>cases hw
  | succ n=>
   unfold Sim.walkOut at hw;refine jl (v:=I r1) rfl (jl (v:=.slice (some ⟨g.tb,0,none⟩) S.A0.length g.tc) rfl (jln (jlt (jif (λhc=>?_) (λhc=>?_)))));rotate_left
   ·rw[if_neg (z_g hc)] at hw;cases hw;exact hK2 _ _ _ ⟨rfl,rfl,rfl⟩
   have hc:=z_f hc;rw[if_pos hc] at hw;obtain⟨row,hrow,hw⟩:=AA hw;obtain⟨q2,hwi,hw⟩:=AA hw;obtain⟨r0,r1',r2,r3⟩:=Ai hrow;refine jl (v:=.slice (some ⟨g.tb,0,none⟩) S.A0.length g.tc) rfl (jl (v:=I r1) rfl (jia r0 r1' ?_));have hget:=Cq (f:=eRg) (w:=5) (λ_=>rfl) (sp:=g.tsp) r2;rw[r3] at hget;refine jla (l:=eRg row) (by rw[Nat.zero_add];exact E6 r2) (by rw[Nat.zero_add];exact hget) ?_;refine ja λb5=>?_
   refine Ae (jl (v:=.slice (some ⟨g.tb,0,none⟩) S.A0.length g.tc) rfl jev) (Ae (jl (v:=I r1) rfl jev) ?_);refine Ae (jla (l:=eRg row) (by rw[Nat.zero_add];exact E6 r2) (by rw[Nat.zero_add];exact hget) jev) ?_;refine js (cs':=eRg row) rfl rfl (by exact z_n 5) rfl ?_;refine AH (λvs R' D'=>R' = R1∧D' = (b5,C 29 (eRg row)) :: (b,C Al (Af { S.col with r:=r1,p:=q2 } (.slice a S.col.AE.length cap))) :: (AV p S g ++ F)∧vs = [.pointer (some ⟨p,0,none⟩),.pointer (some ⟨b,0,none⟩),.pointer (some ⟨b5,0,none⟩)]) (λK4 hK4=>?_) ?_
   ·refine AH (λvs R' D'=>R' = R1∧D' = (b5,C 29 (eRg row)) :: (b,C Al (Af { S.col with r:=r1,p:=q2 } (.slice a S.col.AE.length cap))) :: (AV p S g ++ F)∧vs = [.pointer (some ⟨p,0,none⟩),.pointer (some ⟨b,0,none⟩),.pointer (some ⟨b5,0,none⟩)]) (λK5 hK5=>?_) ?_;rotate_left
    ·rintro e R2 D2 ⟨rfl,hD,he⟩;rw[hD];clear hD;simp only[List.map,lc,ln,lj,z_t] at he;simp only[he];exact hK4 _ _ _ ⟨rfl,rfl,rfl⟩
    refine jlp (λm vs R' D'=>R' = R1∧∃q3,D' = (b5,C 29 (eRg row)) :: (b,C Al (Af { S.col with r:=r1,p:=q3 } (.slice a S.col.AE.length cap))) :: (AV p S g ++ F)∧vs = [.pointer (some ⟨p,0,none⟩),.pointer (some ⟨b,0,none⟩),.pointer (some ⟨b5,0,none⟩)]∧HM S.AO row m q3 = some q2)
     (n:=20) ⟨rfl,q1,rfl,rfl,hwi⟩ ?_
    rintro m e R2 D2 K6 ⟨hR2,q3,hD,he,hwi⟩ hK6;subst hR2;rw[hD];clear hD;simp only[List.map,lc,ln,lj,z_t] at he;simp only[he];cases m with
    | zero=>cases hwi
    | succ m=>
     unfold HM at hwi;refine jan [.pointer (some ⟨p,0,none⟩),.pointer (some ⟨b,0,none⟩),.pointer (some ⟨b5,0,none⟩)] ((row.kind == 4) && (decide (q3 < row.top))) (λK' hK'=>?_) (λe c u ho he=>?_)
     ·refine jl (v:=I row.kind) rfl (jeq (Bj (λh1=>?_) (λh1=>?_)))
      ·refine jl (v:=I q3) rfl (jl (v:=I row.top) rfl (jlt (hK' _ _ _ (h1▸Aq) (by rw[h1,Bool.true_and]))))
      ·exact hK' _ _ _ (h1▸As) (by rw[h1,Bool.false_and])
     simp only[List.map,lc,ln,lj,z_t] at he;simp only[he];by_cases hk:row.kind = 4∧q3 < row.top
     ·rw[if_pos hk] at hwi;obtain⟨mk,hmk,hwi⟩:=AA hwi;obtain⟨m0,m1,m2,m3⟩:=Ai hmk;have hkb:(row.kind == 4 && decide (q3 < row.top)) = true:=by simp[hk.1,hk.2]
      refine jan [.pointer (some ⟨p,0,none⟩),.pointer (some ⟨b,0,none⟩),.pointer (some ⟨b5,0,none⟩)] (!mk) (λK' hK'=>?_) (λe c u ho2 he=>?_)
      ·rw[ho,hkb];refine jtt (jl (v:=.slice (some ⟨g.mb,0,none⟩) S.AO.length g.mc) rfl (jl (v:=I q3) rfl (jia m0 m1 ?_)));refine jl (v:=.bool mk) (by rw[Nat.zero_add,Nat.mul_one,HO m2,m3]) ?_;exact hK' _ _ _ Aq rfl
      ·simp only[List.map,lc,ln,lj,z_t] at he;simp only[he];rw[ho2];cases mk with
       | true=>
        simp only[if_true] at hwi;cases hwi;exact Cv (hK5 _ _ _ ⟨rfl,rfl,rfl⟩)
       | false=>
        simp only[Bool.false_eq_true,if_false] at hwi;refine F7 (jl (v:=I q3) rfl (Ac ⟨by omega,by omega⟩ ?_));refine js (cs':=Af { S.col with r:=r1,p:=q3 + 1 } (.slice a S.col.AE.length cap)) rfl rfl (by simp[Af]) rfl ?_;exact hK6 m _ _ _ (by omega) ⟨rfl,q3 + 1,rfl,rfl,hwi⟩
     ·rw[if_neg hk] at hwi;have hkb:(row.kind == 4 && decide (q3 < row.top)) = false:=by
       rw[Bool.and_eq_false_iff,decide_eq_false_iff_not,beq_eq_false_iff_ne];by_cases h:row.kind = 4
       ·exact .inr λh2=>hk ⟨h,h2⟩
       ·exact .inl h
      refine jan [.pointer (some ⟨p,0,none⟩),.pointer (some ⟨b,0,none⟩),.pointer (some ⟨b5,0,none⟩)] false (λK' hK'=>?_) (λe c u ho2 he=>?_)
      ·rw[ho,hkb];exact jft (hK' _ _ _ As rfl)
      ·simp only[List.map,lc,ln,lj,z_t] at he;simp only[he];rw[ho2];cases hwi;exact Cv (hK5 _ _ _ ⟨rfl,rfl,rfl⟩)
   ·rintro e R2 D2 ⟨hR2,hD,he⟩;subst hR2;rw[hD];clear hD;simp only[List.map,lc,ln,lj,z_t] at he;simp only[he];refine jan [.pointer (some ⟨p,0,none⟩),.pointer (some ⟨b,0,none⟩)] ((row.kind == 4) && (decide (q2 < row.top))) (λK' hK'=>?_) (λe c u ho he=>?_)
    ·refine jl (v:=I row.kind) rfl (jeq (Bj (λh1=>?_) (λh1=>?_)))
     ·refine jl (v:=I q2) rfl (jl (v:=I row.top) rfl (jlt (hK' _ _ _ (h1▸Aq) (by rw[h1,Bool.true_and]))))
     ·exact hK' _ _ _ (h1▸As) (by rw[h1,Bool.false_and])
    simp only[List.map,lc,ln,lj,z_t] at he;simp only[he];rw[ho];refine jif (λhk=>?_) (λhk=>?_)
    ·rw[if_pos (by simpa using hk)] at hw;cases hw;exact CR (hK2 _ _ _ ⟨rfl,rfl,rfl⟩)
    ·rw[if_neg (by intro h;simp[h.1,h.2] at hk)] at hw;refine jl (v:=I r1) rfl (Ac ⟨by omega,by omega⟩ ?_);refine js (cs':=Af { S.col with r:=r1 + 1,p:=q2 } (.slice a S.col.AE.length cap)) rfl rfl (by simp[Af]) rfl ?_;refine jl (v:=I (r1 + 1)) rfl (GC ⟨by omega,by omega⟩ ?_);refine js (cs':=Af { S.col with r:=r1 + 1,p:=(r1 + 1) * 16 } (.slice a S.col.AE.length cap)) rfl rfl (by simp[Af]) rfl ?_;exact CR (hK3 n _ _ _ (by omega) ⟨rfl,r1 + 1,(r1 + 1) * 16,rfl,rfl,hw⟩)
 ·rintro e R2 D2 ⟨hR2,hD,he⟩;subst hR2;rw[hD];clear hD;simp only[List.map,lc,ln,lj,z_t] at he;simp only[he];refine jl (v:=I r) rfl (jl (v:=.slice (some ⟨g.tb,0,none⟩) S.A0.length g.tc) rfl (jln (jeq (jif (λhc=>?_) (λhc=>?_)))))
  ·rw[if_pos (by have:=eq_of_beq hc;exact this)] at hS;cases hS;refine jss (p:=p) { S with stop:=true } g rfl rfl (by decide) (by rfl) (by rfl) ?_;refine js (cs':=Af { S.col with r:=r,p:=q,want:=3 } (.slice a S.col.AE.length cap)) rfl rfl (by simp[Af]) rfl ?_;refine Ga (p:=p) { S with stop:=true,col:={ S.col with r:=r,p:=q,want:=3 } } (by exact { hok with }) (by exact hst0) (by rfl) λg3 ok3=>?_
   exact Aj (RM.le.refl _) trivial rfl ok3
  ·rw[if_neg (by have:=ne_of_beq_false hc;exact this)] at hS;obtain⟨q1,hq1,hS⟩:=AA hS;obtain⟨rfl,in1⟩:=Ak hq1;obtain⟨⟨w,S1⟩,hrd,hS⟩:=AA hS;have hrd2:=hrd;simp only[Sim.read] at hrd2;have hq0:0≤q:=by
    split at hrd2
    ·exact (Ai (by assumption)).1
    ·cases hrd2
   have hin:inR q:=⟨by omega,by have:=in1.2;omega⟩;have e1:=CH hrd;subst e1;simp only[Option.some.injEq] at hS;refine jl (v:=I q) rfl (Ac in1 ?_);refine js (cs':=Af { S.col with r:=r,p:=q + 1 } (.slice a S.col.AE.length cap)) rfl rfl (by simp[Af]) rfl ?_;have esub:q + 1 - 1 = q:=by omega
   refine AH (λvs R' D'=>R2.le R'∧∃g2,Ok R' { S with used:=true } g2∧D' = AV p { S with used:=true } g2 ++ (b,C Al (Af (if w = q then { S.col with r:=r,p:=q + 1,src:=q,pc:=20 } else { S.col with r:=r,p:=q + 1 }) (.slice a S.col.AE.length cap))) :: F∧vs = [.pointer (some ⟨p,0,none⟩),.pointer (some ⟨b,0,none⟩)]) (λK hK=>?_) ?_
   ·refine jl (v:=I (q + 1)) rfl (DE (by rw[esub];exact hin) (jl (v:=I (q + 1)) rfl (DE (by rw[esub];exact hin) ?_)));rw[esub];refine jcS (p:=p) (by exact CX hok hrd) λ_ R1 g1 hR1 hr ok1=>?_
    subst hr;refine jeq (Ae (jl (v:=I (q + 1)) rfl ?_) (jif (λhw=>?_) (λhw=>?_)))
    ·exact jev
    ·refine jl (v:=I (q + 1)) rfl (DE (by rw[esub];exact hin) ?_);rw[esub];refine js (cs':=Af { S.col with r:=r,p:=q + 1,src:=q } (.slice a S.col.AE.length cap)) rfl rfl (by simp[Af]) rfl ?_;refine js (cs':=Af { S.col with r:=r,p:=q + 1,src:=q,pc:=20 } (.slice a S.col.AE.length cap)) rfl rfl (by simp[Af]) rfl ?_;exact hK _ _ _ ⟨hR1,g1,ok1,by rw[if_pos (eq_of_beq hw)],rfl⟩
    ·exact hK _ _ _ ⟨hR1,g1,ok1,by rw[if_neg (ne_of_beq_false hw)],rfl⟩
   ·rintro e R3 D3 ⟨hR3,g2,ok2,hD,he⟩;rw[hD];clear hD;simp only[List.map,lc,ln,lj,z_t] at he;simp only[he];have hx:(if w = q then { S.col with r:=r,p:=q + 1,src:=q,pc:=20 } else { S.col with r:=r,p:=q + 1 }:Col).AE = S.col.AE:=by split<;>rfl
    refine Ga (p:=p) (({ S with used:=true }:Sim).setC (if w = q then { S.col with r:=r,p:=q + 1,src:=q,pc:=20 } else { S.col with r:=r,p:=q + 1 })) (by exact ok2) (by rw[hx];exact hst0.le hR3) (by rfl) λg3 ok3=>?_
    subst hS;exact Aj hR3 trivial rfl ok3
end Go.Lf
end
section
namespace Go.Lf
open Go Sm
theorem jgu {R:RM} {D:Chs} {w:Bool} {a b:M} (H:J R D b):J R D (GT (.tuple #[]) w a b):=H
theorem Sv {p:Nat} {S S' : Sim} {g:Img} {R:RM} (hok:Ok R S g) (hS:S.renew = some S') :
  Fn P IW [.pointer (some ⟨p,0,none⟩)] R (AV p S g) (CT p S' λ_=>True):=by
 refine NA λF=>?_
 unfold Hb;unfold Sim.renew at hS;dsimp only at hS;have htl:=hok.tl;have hml:=hok.ml;refine HS (p:=p) hok λb=>?_
 obtain⟨a,cap,hsv,-⟩:=B9.reads (D:=[]) hok.AE;rw[hsv];have hst0:=hok.AE;rw[hsv] at hst0;refine AH (λvs R' D'=>R.le R'∧∃S2 g2 x2,S' = S2.setC x2∧Ok R' S2 g2∧x2.AE = S.col.AE∧D' = AV p S2 g2 ++ (b,C Al (Af x2 (.slice a S.col.AE.length cap))) :: F∧vs = [.pointer (some ⟨p,0,none⟩),.pointer (some ⟨b,0,none⟩)]) (λK hK=>?_) ?_;rotate_left
 ·rintro e R2 D2 ⟨hR2,S2,g2,x2,e1,ok2,ex,hD,he⟩;rw[hD];clear hD;simp only[List.map,lc,ln,lj,z_t] at he;simp only[he];refine Ga (p:=p) (S2.setC x2) (by exact ok2) (by rw[ex];exact hst0.le hR2) (by rfl) λg3 ok3=>?_
  subst e1;exact Aj hR2 trivial rfl ok3
 refine jl (v:=I S.col.pc) rfl ?_;refine AH (λvs R' D'=>R.le R'∧∃S2 g2 x2,S' = S2.setC x2∧Ok R' S2 g2∧x2.AE = S.col.AE∧D' = AV p S2 g2 ++ (b,C Al (Af x2 (.slice a S.col.AE.length cap))) :: F∧vs = [.pointer (some ⟨p,0,none⟩),.pointer (some ⟨b,0,none⟩)]) (λK2 hK2=>?_) ?_;rotate_left
 ·rintro e R2 D2 ⟨hR2,S2,g2,x2,e1,ok2,ex,hD,he⟩;rw[hD];clear hD;simp only[List.map,lc,ln,lj,z_t] at he;simp only[he];exact hK _ _ _ ⟨hR2,S2,g2,x2,e1,ok2,ex,rfl,rfl⟩
 have back:∀(R' : RM) (S2:Sim) (g2:Img) (x2:Col),R.le R'→S' = S2.setC x2→Ok R' S2 g2→x2.AE = S.col.AE→J R' (AV p S2 g2 ++ (b,C Al (Af x2 (.slice a S.col.AE.length cap))) :: F) (K2 [.pointer (some ⟨p,0,none⟩),.pointer (some ⟨b,0,none⟩)]):=λR' S2 g2 x2 h1 h2 h3 h4=>hK2 _ _ _ ⟨h1,S2,g2,x2,h2,h3,h4,rfl,rfl⟩
 refine jeq (jif (λc6=>?_) (λc6=>?_))
 ·rw[if_pos (eq_of_beq c6)] at hS;obtain⟨⟨r,q⟩,hro,hS⟩:=AA hS;dsimp only at hS;refine AH (λvs R' D'=>R' = R∧D' = (b,C Al (Af { S.col with r:=r,p:=q } (.slice a S.col.AE.length cap))) :: (AV p S g ++ F)∧vs = [.pointer (some ⟨p,0,none⟩),.pointer (some ⟨b,0,none⟩)]) (λK3 hK3=>?_) ?_
  ·refine AH (λvs R' D'=>R' = R∧D' = (b,C Al (Af { S.col with r:=r,p:=q } (.slice a S.col.AE.length cap))) :: (AV p S g ++ F)∧vs = [.pointer (some ⟨p,0,none⟩),.pointer (some ⟨b,0,none⟩)]) (λK4 hK4=>?_) ?_;rotate_left
   ·rintro e R2 D2 ⟨hR2,hD,he⟩;subst hR2;rw[hD];clear hD;simp only[List.map,lc,ln,lj,z_t] at he;simp only[he];exact hK3 _ _ _ ⟨rfl,rfl,rfl⟩
   refine jlp (λn vs R' D'=>R' = R∧∃r1 q1,D' = (b,C Al (Af { S.col with r:=r1,p:=q1 } (.slice a S.col.AE.length cap))) :: (AV p S g ++ F)∧vs = [.pointer (some ⟨p,0,none⟩),.pointer (some ⟨b,0,none⟩)]∧S.renewTo n r1 q1 = some (r,q))
    (n:=S.A0.length + 2) ⟨rfl,S.col.r,S.col.p,rfl,rfl,hro⟩ ?_
   rintro n e R1 D1 K5 ⟨hR1,r1,q1,hD,he,hw⟩ hK5;subst hR1;rw[hD];clear hD;simp only[List.map,lc,ln,lj,z_t] at he;simp only[he];cases n with
   | zero=>cases hw
   | succ n=>
    unfold Sim.renewTo at hw;refine AH (λvs R' D'=>R' = R1∧D' = (b,C Al (Af { S.col with r:=r1,p:=q1 } (.slice a S.col.AE.length cap))) :: (AV p S g ++ F)∧∃v:Bool,vs = [.pointer (some ⟨p,0,none⟩),.pointer (some ⟨b,0,none⟩),.bool v]∧((v = true∧S.renewTo n (r1 + 1) ((r1 + 1) * 16) = some (r,q)∧r1 < S.A0.length∧0≤r1)∨(v = false∧r1 = r∧q1 = q))) (λK6 hK6=>?_) ?_;rotate_left
    ·rintro e R2 D2 ⟨hR2,hD,v,he,hv⟩;subst hR2;rw[hD];clear hD;simp only[List.map,lc,ln,lj,z_t] at he;simp only[he];rcases hv with ⟨rfl,hw2,hlt,hge⟩ | ⟨rfl,rfl,rfl⟩
     ·refine F7 (jl (v:=I r1) rfl (Ac ⟨by omega,by omega⟩ ?_));refine js (cs':=Af { S.col with r:=r1 + 1,p:=q1 } (.slice a S.col.AE.length cap)) rfl rfl (by simp[Af]) rfl ?_;refine jl (v:=I (r1 + 1)) rfl (GC ⟨by omega,by omega⟩ ?_);refine js (cs':=Af { S.col with r:=r1 + 1,p:=(r1 + 1) * 16 } (.slice a S.col.AE.length cap)) rfl rfl (by simp[Af]) rfl ?_;exact hK5 n _ _ _ (by omega) ⟨rfl,r1 + 1,(r1 + 1) * 16,rfl,rfl,hw2⟩
     ·exact Cv (hK4 _ _ _ ⟨rfl,rfl,rfl⟩)
    by_cases hc:r1 < S.A0.length
    ·rw[if_pos hc] at hw;obtain⟨row,hrow,hw⟩:=AA hw;obtain⟨vv,hvv,hw⟩:=AA hw;obtain⟨r0,r1',r2,r3⟩:=Ai hrow;refine Cb (jl (v:=I r1) rfl (jl (v:=.slice (some ⟨g.tb,0,none⟩) S.A0.length g.tc) rfl (jln (jlt ?_))));rw[decide_eq_true hc];refine jtt (jl (v:=.slice (some ⟨g.tb,0,none⟩) S.A0.length g.tc) rfl (jl (v:=I r1) rfl (jia r0 r1' ?_)));refine jl (v:=I row.kind) (Lo (R:=R1) hrow (f:=0) rfl) (jeq ?_);by_cases hk:row.kind = 4
     ·rw[if_pos hk] at hvv;cases hvv;rw[show (row.kind == 4) = true from by simp[hk]];refine jtf (C4 λe he=>?_);simp only[List.map,lc,ln,lj,z_t] at he;simp only[he];refine jtf (Cb (jtf (C4 λe he=>?_)));simp only[List.map,lc,ln,lj,z_t] at he;simp only[he];refine Cb (jtt (Da (C4 λe he=>?_)));simp only[List.map,lc,ln,lj,z_t] at he;simp only[he];refine Da (Ae (jtf jev) (Ae (jtf jev) (Ae (jtf jev) (Ae (jtf jev) ?_))));exact hK6 _ _ _ ⟨rfl,rfl,true,rfl,.inl ⟨rfl,hw,hc,r0⟩⟩
     ·rw[if_neg hk] at hvv;obtain⟨bl,hbl,hvv⟩:=AA hvv;obtain⟨rfl,hin⟩:=Ak hbl;cases hvv;rw[show (row.kind == 4) = false from by simp[hk]];refine jff (jl (v:=I q1) rfl (jl (v:=I r1) rfl (jl (v:=.slice (some ⟨g.tb,0,none⟩) S.A0.length g.tc) rfl (jl (v:=I r1) rfl (jia r0 r1' ?_)))));refine jl (v:=I row.AF) (Lo (R:=R1) hrow (f:=4) rfl) (C4 λe he=>?_);simp only[List.map,lc,ln,lj,z_t] at he;simp only[he];refine jff (jp (BA r1) (Cb (jff (Ac hin (jge (C4 λe he=>?_))))));simp only[List.map,lc,ln,lj,z_t] at he;simp only[he];refine Cb (jtt (DU (C4 λe he=>?_)));simp only[List.map,lc,ln,lj,z_t] at he;simp only[he];refine Da (Ae (jff (jl (v:=I q1) rfl jev)) (Ae (jff (jl (v:=.slice (some ⟨g.tb,0,none⟩) S.A0.length g.tc) rfl jev)) (Ae (jff (jl (v:=I r1) rfl jev)) (Ae (jff (jl (v:=I row.AF) (Lo (R:=R1) hrow (f:=4) rfl) jev)) ?_))));refine hK6 _ _ _ ⟨rfl,rfl,decide (q1≥AG r1 + row.AF),rfl,?_⟩;by_cases hd:AG r1 + row.AF≤q1
      ·rw[decide_eq_true hd,if_pos rfl] at hw;exact .inl ⟨decide_eq_true hd,hw,hc,r0⟩
      ·rw[decide_eq_false hd,if_neg (by decide)] at hw;cases hw;exact .inr ⟨decide_eq_false hd,rfl,rfl⟩
    ·rw[if_neg hc] at hw;simp only[Option.some.injEq,Prod.mk.injEq] at hw;refine Cb (jl (v:=I r1) rfl (jl (v:=.slice (some ⟨g.tb,0,none⟩) S.A0.length g.tc) rfl (jln (jlt ?_))));rw[decide_eq_false hc];refine jft (C4 λe he=>?_);simp only[List.map,lc,ln,lj,z_t] at he;simp only[he];refine jgu (Cb (jgu (C4 λe he=>?_)));simp only[List.map,lc,ln,lj,z_t] at he;simp only[he];refine Cb (jft (C4 λe he=>?_));simp only[List.map,lc,ln,lj,z_t] at he;simp only[he];refine DU (Ae (jgu jev) (Ae (jgu jev) (Ae (jgu jev) (Ae (jgu jev) ?_))));exact hK6 _ _ _ ⟨rfl,rfl,false,rfl,.inr ⟨rfl,hw.1,hw.2⟩⟩
  ·rintro e R2 D2 ⟨hR2,hD,he⟩;subst hR2;rw[hD];clear hD;simp only[List.map,lc,ln,lj,z_t] at he;simp only[he];refine jl (v:=I r) rfl (jl (v:=.slice (some ⟨g.tb,0,none⟩) S.A0.length g.tc) rfl (jln (jeq (jif (λhc=>?_) (λhc=>?_)))))
   ·rw[if_pos (by have:=eq_of_beq hc;exact this)] at hS;refine jss (p:=p) { S with stop:=true } g rfl rfl (by decide) (by rfl) (by rfl) ?_;refine js (cs':=Af { S.col with r:=r,p:=q,want:=0 } (.slice a S.col.AE.length cap)) rfl rfl (by simp[Af]) rfl ?_;exact back _ { S with stop:=true } g { S.col with r:=r,p:=q,want:=0 } (RM.le.refl _) (Option.some.inj hS).symm { hok with } rfl
   ·rw[if_neg (by have:=ne_of_beq_false hc;exact this)] at hS;obtain⟨q1,hq1,hS⟩:=AA hS;obtain⟨rfl,in1⟩:=Ak hq1;obtain⟨⟨w,S1⟩,hrd,hS⟩:=AA hS;have e1:=CH hrd;subst e1;dsimp only at hS;obtain⟨q2,hq2,hS⟩:=AA hS;obtain⟨rfl,in2⟩:=Ak hq2;obtain⟨row,hrow,hS⟩:=AA hS;obtain⟨go,hgo,hS⟩:=AA hS;obtain⟨r0,r1',r2,r3⟩:=Ai hrow;refine jl (v:=I q) rfl ?_;refine js (cs':=Af { S.col with r:=r,p:=q,f:=q } (.slice a S.col.AE.length cap)) rfl rfl (by simp[Af]) rfl ?_;refine jl (v:=I q) rfl (Ac in1 ?_);refine jcS (p:=p) (by exact CX hok hrd) λ_ R1 g1 hR1 hr ok1=>?_
    subst hr;refine jp (Dk w) (jex rfl (jex rfl ?_));refine ja λb3=>?_
    refine js (cs':=[I (AJ w).1.refs,I (AJ w).1.nums]) rfl rfl (by exact z_n 2) rfl ?_;refine jla (l:=[I (AJ w).1.refs,I (AJ w).1.nums]) (by exact z_n 2) (by rfl) ?_;refine js (cs':=Af { S.col with r:=r,p:=q,f:=q,sh:=(AJ w).1 } (.slice a S.col.AE.length cap)) rfl rfl (by simp[Af]) rfl ?_;refine jl (v:=I q) rfl ?_;refine jfo (jla (l:=[I (AJ w).1.refs,I (AJ w).1.nums]) (by simp[Af]) (by rfl) ?_);refine jp (Bp (AJ w).1) (Ac in2 (Ae (jl (v:=I q) rfl jev) ?_));refine js (cs':=Af { S.col with r:=r,p:=q + AC (AJ w).1,f:=q,sh:=(AJ w).1 } (.slice a S.col.AE.length cap)) rfl rfl (by simp[Af]) rfl ?_;refine js (cs':=Af { S.col with r:=r,p:=q + AC (AJ w).1,f:=q,sh:=(AJ w).1,i:=0 } (.slice a S.col.AE.length cap)) rfl rfl (by simp[Af]) rfl ?_;refine AH (λvs R' D'=>R' = R1∧D' = AV p { S with used:=true } g1 ++ (b,C Al (Af { S.col with r:=r,p:=q + AC (AJ w).1,f:=q,sh:=(AJ w).1,i:=0 } (.slice a S.col.AE.length cap))) :: F∧∃c u,vs = [.pointer (some ⟨p,0,none⟩),.pointer (some ⟨b,0,none⟩),c,u]∧Eu c u go) (λK7 hK7=>?_) ?_
    ·refine Av (AV p { S with used:=true } g1) (G:=(b,C Al (Af { S.col with r:=r,p:=q + AC (AJ w).1,f:=q,sh:=(AJ w).1,i:=0 } (.slice a S.col.AE.length cap))) :: F) ?_;refine jl (v:=I (AJ w).1.refs) rfl (jgr ?_);by_cases hrf:0 < (AJ w).1.refs
     ·rw[if_pos hrf] at hgo;rw[decide_eq_true (show (AJ w).1.refs > 0 from hrf)];refine jtt (jl (v:=I q) rfl (jl (v:=.slice (some ⟨g1.tb,0,none⟩) S.A0.length g1.tc) rfl (jl (v:=I r) rfl (jia r0 r1' ?_))));refine jl (v:=I row.Ah) (Lo (R:=R1) (S:=S) hrow (f:=3) rfl) (jge ?_);by_cases ht:row.Ah≤q
      ·rw[if_pos ht] at hgo;cases hgo;rw[decide_eq_true (show q≥row.Ah from ht)];exact jtf (Da (hK7 _ _ _ ⟨rfl,rfl,_,_,rfl,Aq⟩))
      ·rw[if_neg ht] at hgo;rw[decide_eq_false (show ¬ q≥row.Ah from ht)];obtain⟨m0,m1,m2,m3⟩:=Ai hgo;refine jff (jl (v:=.slice (some ⟨g1.mb,0,none⟩) S.AO.length g1.mc) rfl (jl (v:=I q) rfl (jia m0 m1 ?_)));refine jl (v:=.bool go) (by rw[Nat.zero_add,Nat.mul_one];show (S.AO.map Value.bool ++ g1.msp)[q.toNat]? = _;rw[HO m2,m3]) ?_;exact DU (hK7 _ _ _ ⟨rfl,rfl,_,_,rfl,Aq⟩)
     ·rw[if_neg hrf] at hgo;cases hgo;rw[decide_eq_false (show ¬ (AJ w).1.refs > 0 from hrf)];exact jft (hK7 _ _ _ ⟨rfl,rfl,_,_,rfl,As⟩)
    ·rintro e R3 D3 ⟨hR3,hD,c,u,he,ha⟩;subst hR3;rw[hD];clear hD;simp only[List.map,lc,ln,lj,z_t] at he;simp only[he];rw[ha];refine jif (λhg=>?_) (λhg=>?_)
     ·rw[if_pos hg] at hS;refine js (cs':=Af { S.col with r:=r,p:=q + AC (AJ w).1,f:=q,sh:=(AJ w).1,i:=0,pc:=7 } (.slice a S.col.AE.length cap)) rfl rfl (by simp[Af]) rfl ?_;exact back _ { S with used:=true } g1 { S.col with r:=r,p:=q + AC (AJ w).1,f:=q,sh:=(AJ w).1,i:=0,pc:=7 } hR1 (Option.some.inj hS).symm ok1 rfl
     ·rw[if_neg (by rw[hg];decide)] at hS;exact back _ { S with used:=true } g1 { S.col with r:=r,p:=q + AC (AJ w).1,f:=q,sh:=(AJ w).1,i:=0 } hR1 (Option.some.inj hS).symm ok1 rfl
 rw[if_neg (ne_of_beq_false c6)] at hS;refine jeq (jif (λc7=>?_) (λc7=>?_))
 ·rw[if_pos (eq_of_beq c7)] at hS;obtain⟨q1,hq1,hS⟩:=AA hS;obtain⟨rfl,in1⟩:=Ak hq1;obtain⟨q2,hq2,hS⟩:=AA hS;obtain⟨rfl,in2⟩:=Ak hq2;obtain⟨⟨w,S1⟩,hrd,hS⟩:=AA hS;have e1:=CH hrd;subst e1;dsimp only at hS;obtain⟨fr,hfr,hS⟩:=AA hS;refine jl (v:=I S.col.f) rfl (Ac in1 (jl (v:=I S.col.i) rfl (Ac in2 ?_)));refine jcS (p:=p) (by exact CX hok hrd) λ_ R1 g1 hR1 hr ok1=>?_
  subst hr;refine js (cs':=Af { S.col with v:=w } (.slice a S.col.AE.length cap)) rfl rfl (by simp[Af]) rfl ?_;refine jl (v:=I w) rfl ?_;refine jcS (p:=p) (by exact Jx ok1 hfr) λ_ R2 g2 hR2 hr ok2=>?_
  subst hr;refine jif (λhf=>?_) (λhf=>?_)
  ·rw[if_pos hf] at hS;refine js (cs':=Af { S.col with v:=w,pc:=8 } (.slice a S.col.AE.length cap)) rfl rfl (by simp[Af]) rfl ?_;exact back _ { S with used:=true } g2 { S.col with v:=w,pc:=8 } (hR1.trans hR2) (Option.some.inj hS).symm ok2 rfl
  ·rw[if_neg (by rw[hf];decide)] at hS;obtain⟨x2,hx,hS⟩:=AA hS;have ex:x2.AE = S.col.AE:=by
    obtain⟨i1,_,h⟩:=AA hx;cases h;rfl
   refine jla (l:=Af { S.col with v:=w } (.slice a S.col.AE.length cap)) (by exact z_n 15) (by rfl) ?_;refine jp (J8 (x:={ S.col with v:=w }) a S.col.AE.length cap hx) ?_;refine js (cs':=Af x2 (.slice a S.col.AE.length cap)) rfl rfl (by exact z_n 15) rfl ?_;exact back _ { S with used:=true } g2 x2 (hR1.trans hR2) (Option.some.inj hS).symm ok2 ex
 rw[if_neg (ne_of_beq_false c7)] at hS;refine jeq (jif (λc8=>?_) (λc8=>?_))
 ·rw[if_pos (eq_of_beq c8)] at hS;obtain⟨⟨w,S1⟩,hrd,hS⟩:=AA hS;have e1:=CH hrd;subst e1;dsimp only at hS;refine jl (v:=I S.col.v) rfl ?_;refine jcS (p:=p) (by exact CX hok hrd) λ_ R1 g1 hR1 hr ok1=>?_
  subst hr;refine js (cs':=Af { S.col with word:=w } (.slice a S.col.AE.length cap)) rfl rfl (by simp[Af]) rfl ?_;refine js (cs':=Af { S.col with word:=w,pc:=9 } (.slice a S.col.AE.length cap)) rfl rfl (by simp[Af]) rfl ?_;refine jl (v:=I w) rfl (jl (v:=I S.col.v) rfl (jeq (jif (λhf=>?_) (λhf=>?_))))
  ·rw[if_pos (eq_of_beq hf)] at hS;obtain⟨x2,hx,hS⟩:=AA hS;have ex:x2.AE = S.col.AE:=by
    obtain⟨i1,_,h⟩:=AA hx;cases h;rfl
   refine jla (l:=Af { S.col with word:=w,pc:=9 } (.slice a S.col.AE.length cap)) (by exact z_n 15) (by rfl) ?_;refine jp (J8 (x:={ S.col with word:=w,pc:=9 }) a S.col.AE.length cap hx) ?_;refine js (cs':=Af x2 (.slice a S.col.AE.length cap)) rfl rfl (by exact z_n 15) rfl ?_;exact back _ { S with used:=true } g1 x2 hR1 (Option.some.inj hS).symm ok1 ex
  ·rw[if_neg (ne_of_beq_false hf)] at hS;exact back _ { S with used:=true } g1 { S.col with word:=w,pc:=9 } hR1 (Option.some.inj hS).symm ok1 rfl
 rw[if_neg (ne_of_beq_false c8)] at hS;refine jeq (jif (λc9=>?_) (λc9=>?_));rotate_left
 ·rw[if_neg (ne_of_beq_false c9)] at hS;exact Au List.perm_middle.symm (back _ S g S.col (RM.le.refl _) (Option.some.inj hS).symm hok rfl)
 rw[if_pos (eq_of_beq c9)] at hS;obtain⟨q1,hq1,hS⟩:=AA hS;obtain⟨rfl,in1⟩:=Ak hq1;obtain⟨q2,hq2,hS⟩:=AA hS;obtain⟨rfl,in2⟩:=Ak hq2;obtain⟨⟨w,S1⟩,hrd,hS⟩:=AA hS;have e1:=CH hrd;subst e1;dsimp only at hS;obtain⟨S3,h3,hS⟩:=AA hS;obtain⟨x2,hx,hS⟩:=AA hS;have ex:x2.AE = S.col.AE:=by
  obtain⟨i1,_,h⟩:=AA hx;cases h;rfl
 refine AH (λvs R' D'=>R.le R'∧∃g2,Ok R' S3 g2∧D' = AV p S3 g2 ++ (b,C Al (Af S.col (.slice a S.col.AE.length cap))) :: F∧vs = [.pointer (some ⟨p,0,none⟩),.pointer (some ⟨b,0,none⟩)]) (λK3 hK3=>?_) ?_;rotate_left
 ·rintro e R2 D2 ⟨hR,g2,ok2,hD,he⟩;rw[hD];clear hD;simp only[List.map,lc,ln,lj,z_t] at he;simp only[he];refine jla (l:=Af S.col (.slice a S.col.AE.length cap)) (by exact z_n 15) (by rfl) ?_;refine jp (J8 (x:=S.col) a S.col.AE.length cap hx) ?_;refine js (cs':=Af x2 (.slice a S.col.AE.length cap)) rfl rfl (by exact z_n 15) rfl ?_;exact back _ S3 g2 x2 hR (Option.some.inj hS).symm ok2 ex
 refine jl (v:=I S.col.f) rfl (Ac in1 (jl (v:=I S.col.i) rfl (Ac in2 (jl (v:=I S.col.v) rfl ?_))));refine jcS (p:=p) (by exact CX hok hrd) λ_ R1 g1 hR1 hr ok1=>?_
 subst hr;refine jeq (Ae (jl (v:=I S.col.v) rfl jev) (jif (λhw=>?_) (λhw=>?_)))
 ·rw[if_pos (eq_of_beq hw)] at h3;refine jl (v:=I S.col.f) rfl (Ac in1 (jl (v:=I S.col.i) rfl (Ac in2 (jl (v:=I S.col.word) rfl ?_))));refine jcS (p:=p) (by exact DA ok1 h3) λ_ R2 g2 hR2 hr ok2=>?_
  exact hK3 _ _ _ ⟨hR1.trans hR2,g2,ok2,rfl,rfl⟩
 ·rw[if_neg (ne_of_beq_false hw)] at h3;cases h3;exact hK3 _ _ _ ⟨hR1,g1,ok1,rfl,rfl⟩
end Go.Lf
end
