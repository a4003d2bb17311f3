/- A part of the proof of the given row: the walk of the law and of all that it calls. Conditions: none. -/
import Derived.Shelf.Sort.Plain
import Derived.Shelf.Lay
import Derived.Test.YtlagojobcbkpdaaGreatDN
set_option linter.unusedVariables false
set_option linter.unusedSimpArgs false
set_option maxRecDepth 100000
section
namespace Go.Lf
open Go Sm
def RgZ (R:RM) (v:Value) (t:List Rg):Prop:=∃b c sp,v = S0 b t.length c∧R b = some (C AI (Ac eRg t ++ sp))∧t.length≤c
theorem RgZ.le {R R' : RM} {v:Value} {t:List Rg} (h:R.le R') (H:RgZ R v t):RgZ R' v t:=by
 obtain⟨b,c,sp,h1,h2,h3⟩:=H;exact⟨b,c,sp,h1,h _ _ h2,h3⟩
structure SF (R:RM) (s:Sm.Al) (wv tv mv thv ov pv:Value):Prop where
 c:StC R s wv tv mv thv ov pv
 z:RgZ R tv s.A0
 b:StB 9 s
theorem SF.le {R R' : RM} {s:Sm.Al} {wv tv mv thv ov pv:Value} (h:R.le R') (H:SF R s wv tv mv thv ov pv):SF R' s wv tv mv thv ov pv:=⟨H.c.le h,H.z.le h,H.b⟩
theorem Ef {a:Int} (h0:0≤a) (h1:a < 1000000):Pu He [I a] (I (AN a)):=by
 intro R;refine N9 λF=>?_
 refine z_1 ?_;have e1:a.tdiv 16 = a / 16:=Zk h0;refine jlt (jif (λh=>?_) (λh=>?_))
 ·have h:=z_f h;omega
 ·refine MX δ (by rw[e1];constructor<;>omega) ?_;rw[e1];exact B9 (A:=[]) (RM.le.refl R) (by unfold AN;rw[if_neg ω])
section st
variable {R:RM} {s:Sm.Al} {wv tv mv thv ov pv:Value}
theorem S8 (h:SF R s wv tv mv thv ov pv):Ro GA [.agg (eSt s wv tv mv thv ov pv).toArray] (.bool (Eb s)) R []:=by
 refine Ja λF=>?_
 refine z_1 ?_;refine ja λb=>?_
 rw[show cl (.agg (eSt s wv tv mv thv ov pv).toArray) = eSt s wv tv mv thv ov pv from rfl];obtain⟨tb,tc,sp,rfl,hb,htc⟩:=h.z;obtain⟨wa,wc,rfl⟩:=h.c.w.sl;obtain⟨ma,mc,rfl⟩:=h.c.m.sl;have t0:=h.b.t0;have t1:=h.b.t1;have wl:=h.b.wl;have eq:(s.AA.length:Int).tdiv 16 = (s.AA.length / 16:Nat):=by rw[Zk ω];omega
 refine jan [Pt b] ((BM s.AA.length) && (BT s.A0)) (λK' hK'=>?_) (λe c u ho he=>?_)
 ·refine jl (v:=.slice wa s.AA.length wc) rfl (jp (GZ wa s.AA.length wc ω) (Bt (λh1=>?_) (λh1=>?_)))
  ·refine jl (v:=S0 tb s.A0.length tc) rfl (YF hb (λR' _=>OL (t:=s.A0) (sp:=sp) ω) (hK' _ _ _ (h1▸Ax) (by rw[h1,Z2])))
  ·exact hK' _ _ _ (h1▸BB) (by rw[h1,Z3])
 refine z_V ?_;refine jan [Pt b] ((BM s.AA.length && BT s.A0) && ((s.A0.length:Int) == (s.AA.length:Int).tdiv 16)) (λK' hK'=>?_) (λe c u ho he=>?_)
 ·rw[ho];refine Bt (λh1=>?_) (λh1=>?_)
  ·refine jl (v:=S0 tb s.A0.length tc) rfl (jln (jl (v:=.slice wa s.AA.length wc) rfl (jln (MX δ ⟨ω,ω⟩ (jeq (hK' _ _ _ (h1▸Ax) (by rw[h1,Z2])))))))
  ·exact hK' _ _ _ (h1▸BB) (by rw[h1,Z3])
 refine z_V ?_;refine jan [] ((BM s.AA.length && BT s.A0 && ((s.A0.length:Int) == (s.AA.length:Int).tdiv 16)) && ((s.AK.length:Int) == (s.AA.length:Int))) (λK' hK'=>?_) (λe c u ho he=>?_)
 ·rw[ho];refine Bt (λh1=>?_) (λh1=>?_)
  ·refine jl (v:=.slice ma s.AK.length mc) rfl (jln (jl (v:=.slice wa s.AA.length wc) rfl (jln (jeq (hK' _ _ _ (h1▸Ax) (by rw[h1,Z2]))))))
  ·exact hK' _ _ _ (h1▸BB) (by rw[h1,Z3])
 refine z_V ?_;rw[ho];refine BU ?_;have e1:((s.A0.length:Int) == ((s.AA.length / 16:Nat):Int)) = (s.A0.length == s.AA.length / 16):=by rw[Zb,beq_iff_eq,beq_iff_eq];omega
 have e2:((s.AK.length:Int) == (s.AA.length:Int)) = (s.AK.length == s.AA.length):=by rw[Zb,beq_iff_eq,beq_iff_eq];omega
 rw[eq,e1,e2];rfl
theorem Ki (h:SF R s wv tv mv thv ov pv) {a:Int} (h0:0≤a) (h1:a < 1000000):Ro GP [.agg (eSt s wv tv mv thv ov pv).toArray,I a] (.bool (Di s a)) R []:=by
 refine KB λF=>?_
 refine z_2 ?_;refine ja λb=>?_
 rw[show cl (.agg (eSt s wv tv mv thv ov pv).toArray) = eSt s wv tv mv thv ov pv from rfl];obtain⟨tb,tc,sp,rfl,hb,htc⟩:=h.z;refine jp (Ef h0 h1) ?_;refine jan [Pt b,I (AN a)] ((decide (AN a≥0)) && (decide (AN a < s.A0.length))) (λK' hK'=>?_) (λe c u ho he=>?_)
 ·refine jge (Bt (λh1=>?_) (λh1=>?_))
  ·refine jl (v:=S0 tb s.A0.length tc) rfl (jln (jlt (hK' _ _ _ (h1▸Ax) (by rw[h1,Z2]))))
  ·exact hK' _ _ _ (h1▸BB) (by rw[h1,Z3])
 refine z_V ?_;refine jan [] (decide (AN a≥0) && decide (AN a < s.A0.length) && ((rv s.A0 (AN a)).kind == 4)) (λK' hK'=>?_) (λe c u ho he=>?_)
 ·rw[ho];refine Bt (λh1=>?_) (λh1=>?_)
  ·have h2:=h1;simp only[z_b,z_d] at h2;obtain⟨r,hr⟩:∃r:Nat,AN a = r:=⟨(AN a).toNat,ω⟩;have hlt:r < s.A0.length:=ω
   refine jl (v:=S0 tb s.A0.length tc) rfl ?_;rw[hr];refine C5 hlt (jfo (jlr (v:=I (s.A0[r]).kind) hb (by rw[Z6];exact C6 (f:=0) hlt rfl) (jeq (hK' _ _ ((s.A0[r]).kind == 4) (by rw[← hr,h1];exact Ax) ?_))));rw[h1,hr,E5 hlt,Z2]
  ·exact hK' _ _ _ (h1▸BB) (by rw[h1,Z3])
 refine z_V ?_;rw[ho];exact BU rfl
theorem DR {r:Nat}:∀(l:List Th),(∀t∈l,t.AC.length≤r)→(l.flatMap (·.AC)).length≤r * l.length
 | [],_=>σ
 | t :: l,h=>by
  have h1:=h t σ;have h2:=DR l (λt ht=>h t (by simp[ht]));rw[List.flatMap_cons,Yk,Yt,Nat.mul_succ];omega
theorem Si (h:SF R s wv tv mv thv ov pv):Fn P G8 [.agg (eSt s wv tv mv thv ov pv).toArray] R [] (λv R' A=>R' = R∧SO (Da s) v A):=by
 refine JZ λF=>?_
 refine z_1 ?_;refine ja λb=>?_
 rw[show cl (.agg (eSt s wv tv mv thv ov pv).toArray) = eSt s wv tv mv thv ov pv from rfl];have n1:=h.b.n1;have rl:=h.b.rl;have pl:=h.b.pl;have fl:=DR s.A6 rl;have fle:9 * s.A6.length≤27:=ω
 refine AR (λvs R' D'=>R' = R∧∃v A,SO (s.A6.flatMap (·.AC)) v A∧D' = A ++ ((b,C AQ (eSt s wv tv mv thv ov pv)) :: F)∧vs = [Pt b,v]) (λK hK=>?_) ?_
 ·refine jl (v:=thv) rfl (C4 h.c.th.sl ?_);refine AR (λvs R' D'=>R' = R∧∃v A,SO (s.A6.flatMap (·.AC)) v A∧D' = A ++ ((b,C AQ (eSt s wv tv mv thv ov pv)) :: F)∧vs = [Pt b,v]) (λK2 hK2=>?_) ?_
  ·refine jlp (λm vs R' D'=>R' = R∧∃(i:Nat) (v:Value) (A:Chs),i≤s.A6.length∧m = s.A6.length - i∧SO ((s.A6.take i).flatMap (·.AC)) v A∧D' = A ++ ((b,C AQ (eSt s wv tv mv thv ov pv)) :: F)∧vs = [Pt b,v,thv,I s.A6.length,I i]) (n:=s.A6.length) ⟨rfl,0,_,[],ω,rfl,.inl ⟨rfl,rfl,rfl⟩,rfl,rfl⟩ ?_;rintro m e R1 D1 K3 ⟨hR,i,v,A,hi,hm,so,hD,he⟩ hK3;subst hR;refine z_W ?_;refine jlt (jif (λhc=>?_) (λhc=>?_));rotate_left
   ·have hc:=z_g hc;rw[Ys ω] at so;exact hK2 _ _ _ ⟨rfl,v,A,so,rfl,rfl⟩
   have hc:i < s.A6.length:=by have:=z_f hc;omega
   obtain⟨ta,tcc,htv⟩:=h.c.th.sl;refine jtr h.c.th hc λb2 o2 ty cs rv hrv hb2 ho2 hrow=>?_
   refine F0 (l:=[rv,I (s.A6[i]).next,.bool (s.A6[i]).busy,I (s.A6[i]).Ai]) hb2 ho2 hrow (ja λb3=>?_);obtain⟨ra,rc,rfl⟩:=hrv.sl;refine jS ([.slice ra (s.A6[i]).AC.length rc,I (s.A6[i]).next,.bool (s.A6[i]).busy,I (s.A6[i]).Ai]) ?_;refine jl (v:=.slice ra (s.A6[i]).AC.length rc) rfl ?_;refine Bn ?_;obtain⟨xa,cx,hxv,hx⟩:=Fz.reads (D:=A ++ ((b,C AQ (eSt s wv tv mv thv ov pv)) :: F)) hrv;cases hxv;have hrl:=rl _ (Yq hc);have ftl:=DR (s.A6.take i) (λt ht=>rl t (ZO ht));have ftl2:9 * (s.A6.take i).length≤27:=by rw[Z5];omega
   refine jas so rfl ω hx λv' A' so'=>?_
   refine jad ?_;refine hK3 (s.A6.length - (i + 1)) _ _ _ ω ⟨rfl,i + 1,v',A',ω,rfl,?_,rfl,rfl⟩;rw[Yp hc,List.flatMap_append];simpa using so'
  rintro e R1 D1 ⟨hR,v,A,so,hD,he⟩;subst hR;refine z_W ?_;exact hK _ _ _ ⟨rfl,v,A,so,rfl,rfl⟩
 rintro e R1 D1 ⟨hR,v,A,so,hD,he⟩;subst hR;refine z_W ?_;obtain⟨pa,pc,rfl⟩:=h.c.p.sl;refine jl (v:=.slice pa s.AG.length pc) (by exact rfl) ?_;obtain⟨xa,cx,hxv,hx⟩:=Fz.reads (D:=A ++ ((b,C AQ (eSt s wv tv mv thv ov (.slice pa s.AG.length pc))) :: F)) h.c.p;cases hxv;refine jas so rfl ω hx λv' A' so'=>?_
 refine Aw A' (G:=F) ?_;exact B9 (A:=A') (RM.le.refl _) ⟨rfl,so'⟩
end st
theorem Mh:P.underlying 73 = some (.map 3 62):=by kernel_rfl
theorem Yd (w:World):(zeroValue 62).run P w = .ok z62 w:=by kernel_rfl
theorem Y9 (w:World):(Instr.makeMap 73 none).run P w = .ok (.map (some w.heap.size)) (w.alloc (.map #[] 0)):=rfl
def MpT (R:RM) (o:Obj) (l:List AU):Prop:=∃ps:List (Int × Value),Mg o ps∧ps.length = l.length∧∀i (h:i < ps.length) (h' : i < l.length),(ps[i]).1 = (l[i]).at_∧ThV R (ps[i]).2 (l[i])
theorem MpT.le {R R' : RM} {o:Obj} {l:List AU} (h:R.le R') (H:MpT R o l):MpT R' o l:=by
 obtain⟨ps,h1,h2,h3⟩:=H;exact⟨ps,h1,h2,λi a b=>⟨(h3 i a b).1,(h3 i a b).2.le h⟩⟩
theorem Px {R:RM} {x:Int}:∀{ps:List (Int × Value)} {l:List AU},ps.length = l.length→(∀i (h:i < ps.length) (h' : i < l.length),(ps[i]).1 = (l[i]).at_∧ThV R (ps[i]).2 (l[i]))→(BL l x = none∧lk ps x = none)∨∃t v,BL l x = some t∧lk ps x = some v∧ThV R v t
 | [],[],_,_=>.inl ⟨rfl,rfl⟩
 | p :: ps,t :: l,hl,h=>by
  obtain⟨h1,h2⟩:=h 0 σ σ;have h1:p.1 = t.at_:=h1;have h2:ThV R p.2 t:=h2;by_cases c:t.at_ = x
  ·refine .inr ⟨t,p.2,?_,?_,h2⟩
   ·unfold BL;rw[ae (by simpa using c)]
   ·unfold lk;rw[ae (by simpa [h1] using c)];rfl
  ·have ih:=Px (R:=R) (x:=x) (ps:=ps) (l:=l) (by simpa using hl) (λi a b=>h (i + 1) (by simpa using a) (by simpa using b));have e1:BL (t :: l) x = BL l x:=by unfold BL;rw[aQ (by simpa using c)]
   have e2:lk (p :: ps) x = lk ps x:=by unfold lk;rw[aQ (by simpa [h1] using c)]
   rw[e1,e2];exact ih
theorem Pm {R:RM} {D:Chs} {k:Value→M} {b:Nat} {o:Obj} {l:List AU} {x:Int} (c:Bool) (a:Li R D b o) (hm:MpT R o l)
  (H0:BL l x = none→J R D (k (if c then .tuple #[z62,.bool false] else z62)))
  (H1:∀t v,BL l x = some t→ThV R v t→J R D (k (if c then .tuple #[v,.bool true] else v))):J R D (X P (Instr.lookup 73 (.map (some b)) (I x) c) k):=by
 obtain⟨ps,h1,h2,h3⟩:=hm;refine @Un R D k 73 62 b o ps x z62 c a Mh Yd h1 ?_;rcases Px (R:=R) (x:=x) h2 h3 with ⟨e1,e2⟩ | ⟨t,v,e1,e2,e3⟩
 ·rw[e2];exact H0 e1
 ·rw[e2];exact H1 t v e1 e3
def QTm (r:Option (List AU)) (v:Value) (R:RM):Prop:=match r with
 | none=>v = .tuple #[.map none,.bool false]
 | some l=>∃mb o,R mb = some o∧MpT R o l∧v = .tuple #[.map (some mb),.bool true]
section st
variable {R:RM} {s:Sm.Al} {wv tv mv thv ov pv:Value}
set_option maxHeartbeats 1000000 in
theorem Pg (h:SF R s wv tv mv thv ov pv):Fn P Fh [.agg (eSt s wv tv mv thv ov pv).toArray] R [] (λv R' A=>A = []∧QTm (Ee s) v R'):=by
 refine IZ λF=>?_
 refine z_1 ?_;refine ja λb=>?_
 rw[show cl (.agg (eSt s wv tv mv thv ov pv).toArray) = eSt s wv tv mv thv ov pv from rfl];have t0:=h.b.t0;have t1:=h.b.t1;have wl:=h.b.wl;have wr:=h.b.wr;refine jla (l:=eSt s wv tv mv thv ov pv) (by exact z_n 13) rfl (jrp (S8 h) (jif (λh0=>?_) (λh0=>?_)))
 ·have h0:Eb s = false:=by simpa using h0
  refine B9 (A:=[]) (RM.le.refl R) ⟨rfl,?_⟩;have:Ee s = none:=by unfold Ee;rw[if_neg (by rw[h0];decide)]
  rw[this];exact rfl
 have h0:Eb s = true:=by simpa using h0
 have eth:Ee s = BJ s:=by unfold Ee;rw[if_pos h0]
 rw[eth];refine WG Y9 λmb o0 hm0=>?_
 refine AR (λvs R' D'=>R.le R'∧∃l o,BJ s = some l∧MpT R' o l∧D' = (mb,o) :: (b,C AQ (eSt s wv tv mv thv ov pv)) :: F∧vs = [.map (some mb)]) (λK hK=>?_) ?_;rotate_left
 ·rintro e R1 D1 ⟨hR,l,o,hl,hm,hD,he⟩;refine z_W ?_;refine BQ (b:=mb) λR2 hR2 hb=>?_
  refine B9 (A:=[]) (hR.trans hR2) ⟨rfl,?_⟩;rw[hl];exact⟨mb,o,hb,hm.le hR2,rfl⟩
 refine AR (λvs R' D'=>R.le R'∧∃l o,BJ s = some l∧MpT R' o l∧D' = (mb,o) :: (b,C AQ (eSt s wv tv mv thv ov pv)) :: F∧vs = [.map (some mb)]) (λK2 hK2=>?_) ?_;rotate_left
 ·rintro e R1 D1 ⟨hR,l,o,hl,hm,hD,he⟩;refine z_W ?_;exact hK _ _ _ ⟨hR,l,o,hl,hm,rfl,rfl⟩
 refine jlp (λm vs R' D'=>R.le R'∧∃(i:Nat) (l:List AU) (o:Obj),1≤i∧i≤s.A0.length + 1∧m = s.A0.length + 1 - i∧(match Be s.AA i (s.A0.drop i) with | none=>none | some l2=>some (l ++ l2)) = BJ s∧MpT R' o l∧(∀t∈l,t.at_ < 16 * i)∧D' = (mb,o) :: (b,C AQ (eSt s wv tv mv thv ov pv)) :: F∧vs = [Pt b,.map (some mb),I i])
  (n:=s.A0.length) ⟨RM.le.refl R,1,[],o0,ω,ω,ω,by unfold BJ;rw[List.drop_one];cases Be s.AA 1 s.A0.tail<;>rfl,⟨[],hm0,rfl,λi h=>absurd h σ⟩,(λt ht=>by cases ht),rfl,rfl⟩ ?_
 rintro m e R1 D1 K3 ⟨hR,i,l,o,hi0,hi1,hmm,hth,hm,hlt,hD,he⟩ hK3;refine z_W ?_;have h1:=h.le hR;refine jl (v:=tv) rfl (C4 h1.c.t.sl (jlt (jif (λhc=>?_) (λhc=>?_))));rotate_left
 ·have hc:=z_g hc;refine hK2 _ _ _ ⟨hR,l,o,?_,hm,rfl,rfl⟩;rw[← hth,Yz ω];simp[Be]
 have hc:i < s.A0.length:=by have:=z_f hc;omega
 rw[Yv hc] at hth;unfold Be at hth;refine AR (λvs R' D'=>R1.le R'∧∃l1 o,BN s.AA i (s.A0[i]).top = some l1∧MpT R' o (l ++ l1)∧D' = (mb,o) :: (b,C AQ (eSt s wv tv mv thv ov pv)) :: F∧vs = [Pt b,.map (some mb),I i]) (λK4 hK4=>?_) ?_;rotate_left
 ·rintro e R2 D2 ⟨hR2,l1,o1,hl1,hm1,hD,he⟩;refine z_W ?_;refine jad ?_;refine hK3 (s.A0.length + 1 - (i + 1)) _ _ _ ω ⟨hR.trans hR2,i + 1,l ++ l1,o1,ω,ω,ω,?_,hm1,λt ht=>?_,rfl,rfl⟩
  ·rw[← hth,hl1];dsimp only;cases Be s.AA (i + 1) (s.A0.drop (i + 1)) with
   | none=>rfl
   | some l2=>simp
  ·rcases ZB.1 ht with ht | ht
   ·have:=hlt t ht;omega
   ·have:=(Mw hl1).2 t ht;omega
 refine AR (λvs R' D'=>R1.le R'∧∃l1 o,BN s.AA i (s.A0[i]).top = some l1∧MpT R' o (l ++ l1)∧D' = (mb,o) :: (b,C AQ (eSt s wv tv mv thv ov pv)) :: F∧vs = [Pt b,.map (some mb),I i]) (λK5 hK5=>?_) ?_;rotate_left
 ·rintro e R2 D2 ⟨hR2,l1,o1,hl1,hm1,hD,he⟩;refine z_W ?_;exact hK4 _ _ _ ⟨hR2,l1,o1,hl1,hm1,rfl,rfl⟩
 refine jl (v:=wv) rfl (jl (v:=tv) rfl (jrg h1.c.t hc λb2 o2 ty cs hb ho hrow=>?_));refine jfo (jlr (v:=I (s.A0[i]).top) hb (CB hrow (f:=2) rfl) ?_);refine jc (A:=[]) (NU i (s.A0[i]).top h1.c.w ω wr) ?_;rintro _ R2 _ hR2 ⟨rfl,hq⟩;cases hti:BN s.AA i (s.A0[i]).top with
 | none=>
  rw[hti] at hq hth;subst hq;refine jex rfl (jex rfl (DI ?_));refine B9 (A:=[]) (hR.trans hR2) ⟨rfl,?_⟩;rw[← hth];exact rfl
 | some l1=>
  rw[hti] at hq;obtain⟨tv1,htg,rfl⟩:=hq;refine NL (jex rfl (jex rfl (CL (C4 htg.sl ?_))));obtain⟨as1,as2⟩:=Mw hti;have nd1:=K0 as1 (λx hx=>(as2 x hx).2.2.2.1);refine AR (λvs R' D'=>R' = R2∧∃o,MpT R' o (l ++ l1)∧D' = (mb,o) :: (b,C AQ (eSt s wv tv mv thv ov pv)) :: F∧vs = [Pt b,.map (some mb),I i]) (λK6 hK6=>?_) ?_;rotate_left
  ·rintro e R3 D3 ⟨hR3,o1,hm1,hD,he⟩;subst hR3;refine z_W ?_;exact hK5 _ _ _ ⟨hR2,l1,o1,hti,hm1,rfl,rfl⟩
  refine jlp (λm vs R' D'=>R' = R2∧∃(j:Nat) (o:Obj),j≤l1.length∧m = l1.length - j∧MpT R' o (l ++ l1.take j)∧D' = (mb,o) :: (b,C AQ (eSt s wv tv mv thv ov pv)) :: F∧vs = [Pt b,.map (some mb),I i,tv1,I l1.length,I j])
   (n:=l1.length) ⟨rfl,0,o,ω,rfl,by rw[List.take_zero,ZN];exact hm.le hR2,rfl,rfl⟩ ?_
  rintro m2 e R3 D3 K7 ⟨hR3,j,o1,hj,hm2,⟨ps,hmg,hpl,hps⟩,hD,he⟩ hK7;subst hR3;refine z_W ?_;refine jlt (jif (λhcj=>?_) (λhcj=>?_));rotate_left
  ·have hcj:=z_g hcj;rw[Ys ω] at hpl hps;exact hK6 _ _ _ ⟨rfl,o1,⟨ps,hmg,hpl,hps⟩,rfl,rfl⟩
  have hcj:j < l1.length:=by have:=z_f hcj;omega
  have hil:=QO hti;refine jtg htg hcj λb3 o3 ty3 cs3 rv nv hrv hnv hb3 ho3 hrow3=>?_
  obtain⟨ra,rc,rfl⟩:=hrv.sl;obtain⟨na,nc,rfl⟩:=hnv.sl;refine F0 (l:=eTh (l1[j]) (.slice ra (l1[j]).refs.length rc) (.slice na (l1[j]).nums.length nc)) hb3 ho3 hrow3 (ja λb4=>?_);refine jS (eTh (l1[j]) (.slice ra (l1[j]).refs.length rc) (.slice na (l1[j]).nums.length nc)) ?_;refine jl (v:=I (l1[j]).at_) rfl (jla (l:=eTh (l1[j]) (.slice ra (l1[j]).refs.length rc) (.slice na (l1[j]).nums.length nc)) (by exact z_n 6) rfl ?_);refine @XH _ _ _ 73 62 mb o1 _ ps _ _ _ Mh hmg λo' hmg'=>?_
  have hno:lk ps (l1[j]).at_ = none:=by
   rcases Px (R:=R3) (x:=(l1[j]).at_) hpl hps with ⟨_,e⟩ | ⟨t,v,e1,_,_⟩
   ·exact e
   ·exfalso;obtain⟨m1,m2⟩:=Bh e1;rcases ZB.1 m1 with m1 | m1
    ·have g1:=hlt t m1;have g2:=(as2 _ (Yq hcj)).1;omega
    ·obtain⟨q,hq,rfl⟩:=ZF m1;rw[Z5] at hq;rw[aW] at m2;have:=List.pairwise_iff_getElem.1 as1 q j ω hcj ω;have:=(as2 _ (Yq (show q < l1.length by omega))).2.2.2.1;omega
  have hup:up ps (l1[j]).at_ (.agg (eTh (l1[j]) (.slice ra (l1[j]).refs.length rc) (.slice na (l1[j]).nums.length nc)).toArray) = ps ++ [((l1[j]).at_,.agg (eTh (l1[j]) (.slice ra (l1[j]).refs.length rc) (.slice na (l1[j]).nums.length nc)).toArray)]:=by unfold up;rw[if_neg (by rw[hno];simp)]
  rw[hup] at hmg';refine jad ?_;refine Aw [(mb,o')] (G:=(b,C AQ (eSt s wv tv mv thv ov pv)) :: F) ?_;refine hK7 (l1.length - (j + 1)) _ _ _ ω ⟨rfl,j + 1,o',ω,rfl,⟨_,hmg',?_,λq hq hq'=>?_⟩,rfl,rfl⟩
  ·rw[Yp hcj,← Yr,Yk,Yk,hpl];rfl
  ·rw[Yk,Z7] at hq;have e:l ++ l1.take (j + 1) = (l ++ l1.take j) ++ [l1[j]]:=by rw[Yp hcj,Yr]
   simp only[e];by_cases c:q < ps.length
   ·rw[aE c,aE ω];exact hps q c ω
   ·rw[aB ω,aB ω];simp only[List.getElem_singleton];exact⟨trivial,_,_,rfl,hrv,hnv⟩
end st
theorem XS {R:RM} {D:Chs} {k:Value→M} {b:Nat} {o:Obj} {l:List AU} {x:Int} (a:Li R D b o) (hm:MpT R o l)
  (H:∀(n:AU) (nb:Bool) (rv nv:Value),nb = (BL l x).isSome→(nb = true→BL l x = some n)→BG R rv n.refs→BG R nv n.nums→J R D (k (.tuple #[.agg (eTh n rv nv).toArray,.bool nb]))):J R D (X P (Instr.lookup 73 (.map (some b)) (I x) true) k):=by
 refine @Pm R D k b o l x true a hm (λh=>?_) (λt v h hv=>?_)
 ·exact H CM false (SN) (SN) (by rw[h];rfl) (λh=>by cases h) (.inl ⟨rfl,rfl,rfl⟩) (.inl ⟨rfl,rfl,rfl⟩)
 ·obtain⟨rv,nv,rfl,h1,h2⟩:=hv;exact H t true rv nv (by rw[h];rfl) (λ_=>h) h1 h2
section st
variable {R:RM} {s:Sm.Al} {wv tv mv thv ov pv:Value}
theorem Tt {o:Obj} {l:List AU} {ps:List (Int × Value)} (h2:ps.length = l.length) (h3:∀i (h:i < ps.length) (h' : i < l.length),(ps[i]).1 = (l[i]).at_∧ThV R (ps[i]).2 (l[i])) {p:Int × Value} (hp:p∈ps):∃t∈l,p.1 = t.at_∧ThV R p.2 t:=by
 obtain⟨i,hi,rfl⟩:=ZF hp;exact⟨l[i],Yq ω,h3 i hi ω⟩
theorem XT {l:List AU} {ps:List (Int × Value)} (h2:ps.length = l.length) (h3:∀i (h:i < ps.length) (h' : i < l.length),(ps[i]).1 = (l[i]).at_∧ThV R (ps[i]).2 (l[i])) {t:AU} (ht:t∈l):∃p∈ps,p.1 = t.at_:=by
 obtain⟨i,hi,rfl⟩:=ZF ht;exact⟨ps[i]'(ω),Yq ω,(h3 i ω hi).1⟩
set_option maxHeartbeats 1000000 in
set_option maxRecDepth 4000 in
theorem Ox (h:SF R s wv tv mv thv ov pv) {mb:Nat} {o:Obj} {l:List AU} (hb:R mb = some o) (hm:MpT R o l) (tb:TB l) (nd:(l.map AU.at_).Nodup):Ro F9 [.agg (eSt s wv tv mv thv ov pv).toArray,.map (some mb)] (.bool (CY s l)) R []:=by
 refine Hi λF=>?_
 refine z_2 ?_;refine ja λb=>?_
 rw[show cl (.agg (eSt s wv tv mv thv ov pv).toArray) = eSt s wv tv mv thv ov pv from rfl];obtain⟨ps,hg,h2,h3⟩:=hm;refine @XZ _ _ _ 73 62 mb o ps (Li.fz hb) Mh hg λib it hit=>?_
 refine jlp (λm vs R' D'=>R' = R∧∃(rem don:List (Int × Value)) (it:Obj) (cur:Option (Int × Value)),m = rem.length∧ps.Perm (don ++ rem)∧ItG mb o it rem cur∧(∀p∈don,∀t∈l,p.1 = t.at_→CD s l t = true)∧D' = (ib,it) :: (b,C AQ (eSt s wv tv mv thv ov pv)) :: ([] ++ F)∧vs = [.map (some mb),Pt b,Pt ib])
  (n:=ps.length) ⟨rfl,ps,[],it,none,rfl,ZU _,hit,(λp hp=>by cases hp),rfl,rfl⟩ ?_
 rintro m e R1 D1 K ⟨hR,rem,don,it,cur,hmm,hpm,hit,hdn,hD,he⟩ hK;subst hR;refine z_W ?_;refine @Y4 _ _ _ mb ib o it _ ps rem cur _ (Li.fz hb) hg hit (λh0=>?_) (λp rem' it' hpr hit'=>?_)
 ·subst h0;refine jex rfl (CL ?_);refine BU ?_;congr 1;rw[eq_comm];unfold CY;rw[ZC];intro t ht;obtain⟨p,hp,hpt⟩:=XT h2 h3 ht;exact hdn p (by have:=hpm.mem_iff.1 hp;simpa using this) t ht hpt
 have hpp:p∈ps:=hpm.mem_iff.2 (ZB.2 (.inr (hpr.mem_iff.2 (.head _))));obtain⟨t,ht,hpt,rv,nv,hpv,hrv,hnv⟩:=Tt (o:=o) h2 h3 hpp;obtain⟨ra,rc,rfl⟩:=hrv.sl;obtain⟨na,nc,rfl⟩:=hnv.sl;have htb:=tb t ht;have hlen:rem'.length < m:=by rw[hmm,hpr.length_eq,Yt];omega
 have hpm' : ps.Perm ((don ++ [p]) ++ rem'):=hpm.trans (by
  rw[Yr]
  exact List.Perm.append_left don hpr)
 have huniq:∀t'∈l,p.1 = t'.at_→t' = t:=λt' ht' e=>by
  have e1:=Dn nd ht;have e2:=Dn nd ht';rw[← e,hpt,e1] at e2;exact (Zc e2).symm
 refine jex rfl (DI ?_);refine AR (λvs R' D'=>R' = R1∧CD s l t = true∧D' = (ib,it') :: (b,C AQ (eSt s wv tv mv thv ov pv)) :: ([] ++ F)∧vs = [.map (some mb),Pt b,Pt ib]) (λK2 hK2=>?_) ?_;rotate_left
 ·rintro e R2 D2 ⟨hR,hst,hD,he⟩;subst hR;refine z_W ?_;refine hK rem'.length _ _ _ hlen ⟨rfl,rem',don ++ [p],it',some p,rfl,hpm',hit',λq hq t' ht' e=>?_,rfl,rfl⟩;rcases ZB.1 hq with hq | hq
  ·exact hdn q hq t' ht' e
  ·rw[Z8.1 hq] at e;rw[huniq t' ht' e];exact hst
 refine @Xr _ _ _ mb ib o it' ps rem' p _ (Li.fz hb) hg hit' ?_;rw[hpv];refine jex rfl (ja λtbk=>?_);refine jS (eTh t (.slice ra t.refs.length rc) (.slice na t.nums.length nc)) ?_;refine jl (v:=I t.moved) rfl (jl (v:=I t.at_) rfl (jeq (jif (λhc=>?_) (λhc=>?_))))
 ·refine Aw [(ib,it')] (G:=(b,C AQ (eSt s wv tv mv thv ov pv)) :: ([] ++ F)) ?_;exact hK2 _ _ _ ⟨rfl,by unfold CD;rw[hc,Yo],rfl,rfl⟩
 refine jl (v:=I t.moved) rfl ?_;refine XS (Li.fz hb) ⟨ps,hg,h2,h3⟩ λn nb rv2 nv2 hnb hfn hrv2 hnv2=>?_
 obtain⟨ra2,rc2,rfl⟩:=hrv2.sl;obtain⟨na2,nc2,rfl⟩:=hnv2.sl;refine jex rfl (jex rfl (ja λnbk=>?_));refine jS (eTh n (.slice ra2 n.refs.length rc2) (.slice na2 n.nums.length nc2)) ?_;have hbad:CD s l t = !(!nb || !(n.sh == t.sh) || (n.moved != n.at_) || Di s n.at_ || !Di s t.at_):=by
  unfold CD;rw[hc,Yl];cases nb with
  | false=>
   have:BL l t.moved = none:=by
    cases h:BL l t.moved with
    | none=>rfl
    | some x=>rw[h] at hnb;cases hnb
   rw[this];rfl
  | true=>
   rw[hfn rfl];dsimp only;unfold bne;cases n.sh == t.sh<;>cases n.moved == n.at_<;>cases Di s n.at_<;>cases Di s t.at_<;>rfl
 refine jor [.map (some mb),Pt b,Pt tbk,Pt nbk,Pt ib] ((!nb) || (!(n.sh == t.sh))) (λK' hK'=>?_) (λe c u ho he=>?_)
 ·refine BR (λh1=>?_) (λh1=>?_)
  ·refine jfo (jla (t:=Az) (cs:=eTh n (.slice ra2 n.refs.length rc2) (.slice na2 n.nums.length nc2)) (l:=[I n.sh.refs,I n.sh.nums]) (by exact (by decide:4≤6)) rfl (jfo (jla (t:=Az) (cs:=eTh t (.slice ra t.refs.length rc) (.slice na t.nums.length nc)) (l:=[I t.sh.refs,I t.sh.nums]) (by exact (by decide:4≤6)) rfl (@WW n.sh t.sh _ _ _ _ _ (hK' _ _ _ (h1▸Ah) (by rw[h1,Yl]))))))
  ·exact hK' _ _ _ (h1▸Am) (by rw[h1,Yo])
 refine z_V ?_;refine jor [.map (some mb),Pt b,Pt tbk,Pt nbk,Pt ib] ((!nb || !(n.sh == t.sh)) || ((n.moved != n.at_))) (λK' hK'=>?_) (λe c u ho he=>?_)
 ·rw[ho];refine BR (λh1=>?_) (λh1=>?_)
  ·refine jl (v:=I n.moved) rfl (jl (v:=I n.at_) rfl (jne (hK' _ _ _ (h1▸Ah) (by rw[h1,Yl]))))
  ·exact hK' _ _ _ (h1▸Am) (by rw[h1,Yo])
 refine z_V ?_;refine jor [.map (some mb),Pt b,Pt tbk,Pt ib] (!nb || !(n.sh == t.sh) || (n.moved != n.at_) || Di s n.at_) (λK' hK'=>?_) (λe c u ho he=>?_)
 ·rw[ho];refine BR (λh1=>?_) (λh1=>?_)
  ·have hnb' : nb = true:=by cases nb with | true=>rfl | false=>cases h1
   have hn:=tb n (Bh (hfn hnb')).1;exact jla (l:=eSt s wv tv mv thv ov pv) (by exact z_n 13) rfl (jl (v:=I n.at_) rfl (jrp (Ki h hn.1 hn.2.1) (hK' _ _ _ (h1▸Ah) (by rw[h1,Yl]))))
  ·exact hK' _ _ _ (h1▸Am) (by rw[h1,Yo])
 refine z_V ?_;refine jor [.map (some mb),Pt b,Pt ib] ((!nb || !(n.sh == t.sh) || (n.moved != n.at_) || Di s n.at_) || (!Di s t.at_)) (λK' hK'=>?_) (λe c u ho he=>?_)
 ·rw[ho];refine BR (λh1=>?_) (λh1=>?_)
  ·refine jla (l:=eSt s wv tv mv thv ov pv) (by exact z_n 13) rfl (jl (v:=I t.at_) rfl (jrp (Ki h htb.1 htb.2.1) (hK' _ _ _ (h1▸Ah) (by rw[h1,Yl]))))
  ·exact hK' _ _ _ (h1▸Am) (by rw[h1,Yo])
 refine z_V ?_;rw[ho];refine jif (λh0=>?_) (λh0=>?_)
 ·refine BU ?_;congr 1;rw[eq_comm,Zt];unfold CY;intro Bx;have:=ZC.1 Bx t ht;rw[hbad,h0] at this;cases this
 ·refine Aw [(ib,it')] (G:=(b,C AQ (eSt s wv tv mv thv ov pv)) :: ([] ++ F)) ?_;exact hK2 _ _ _ ⟨rfl,by rw[hbad,h0];rfl,rfl,rfl⟩
end st
section rules
variable {R:RM} {D:Chs} {k:Value→M}
theorem PT {f:Nat} {cap:Array Value} {args:List Value} (hok:Sc P f = true) (H:J R D (CA P f (args ++ cap.toList) k)):J R D (CV P (.func (.func f) #[] cap) args k):=λh hs=>⟨hok,H h hs⟩
theorem jfd {o n:Nat} {cs:Array Value} {v:Value} (hv:cs.toList[o]? = some v) (H:J R D (k v)):J R D (FD false o n (.agg cs) k):=by
 unfold FD;simp only[cond_false,hv];exact H
end rules
def eHp (s:Sm.Al) (wv tv mv thv ov pv:Value) (mb:Nat) (v:Value):List Value:=[wv,tv,mv,I s.Ad,.bool s.stop,.bool s.full,.bool s.Ae,I s.want,thv,ov,pv,I s.Aj,I s.BA,.map (some mb),v]
section st
variable {R:RM} {s:Sm.Al} {wv tv mv thv ov pv:Value} {l:List AU}
theorem V9 {hb mb:Nat} {o:Obj} {v:Value} {a x:Int} {D:Chs} [at_:At D hb (C 99 (eHp s wv tv mv thv ov pv mb v))] (hm0:R mb = some o) (hm:MpT R o l) (hx:now l a = some x):Ro Fl [Pt hb,I a] (I x) R D:=by
 refine Hr λF=>?_
 refine z_2 ?_;unfold now at hx;refine jeq (jif (λh=>?_) (λh=>?_))
 ·rw[if_pos (by simpa using h)] at hx;cases hx;exact BU rfl
 have h:a≠0:=by simpa using h
 rw[if_neg h] at hx;refine jl (v:=.map (some mb)) rfl ?_;refine @Pm _ _ _ mb o l a false (Li.fz hm0) hm (λe=>?_) (λt v e hv=>?_)
 ·rw[e] at hx;cases hx
 ·rw[e] at hx;obtain⟨rv,nv,rfl,_,_⟩:=hv;cases hx;exact jfd (v:=I t.moved) rfl (BU rfl)
theorem OD {x:Int} {r acc:List Int}:Au l (x :: r) acc = (now l x).bind λy=>Au l r (CZ acc y):=rfl
def Xi (r:Option (List Int)) (s:Sm.Al) (wv tv mv thv ov pv:Value) (mb b1 b3 hb sb:Nat) (v:Value) (A:Chs):Prop:=match r with
 | none=>v = .bool false∧A = []
 | some acc=>v = .bool true∧∃v2 so2 A2,SO acc v2 A2∧MpI so2 (·∈acc)∧A = (b1,C 86 [Pt hb]) :: (b3,C 76 [.map (some sb)]) :: (hb,C 99 (eHp s wv tv mv thv ov pv mb v2)) :: (sb,so2) :: A2
set_option maxHeartbeats 1000000 in
set_option maxRecDepth 4000 in
theorem Nf {xs acc:List Int} {lv v:Value} {mb b1 b3 hb sb:Nat} {o so:Obj} {A:Chs} (hm0:R mb = some o) (hm:MpT R o l) (hmv:∀t∈l,t.moved≠0) (hxs:BG R lv xs) (hxl:xs.length < 1000000) (hal:acc.length + xs.length < 1000000) (hso:SO acc v A) (hms:MpI so (·∈acc)) :
  Fn P FW [lv,Pt b1,Pt b3] R ((b1,C 86 [Pt hb]) :: (b3,C 76 [.map (some sb)]) :: (hb,C 99 (eHp s wv tv mv thv ov pv mb v)) :: (sb,so) :: A)
   (λr R' A'=>R' = R∧Xi (Au l xs acc) s wv tv mv thv ov pv mb b1 b3 hb sb r A'):=by
 refine IY λF=>?_
 refine z_3 ?_;refine C4 hxs.sl ?_;refine jlp (λm vs R' D'=>R' = R∧∃(i:Nat) (ac:List Int) (v2:Value) (so2:Obj) (A2:Chs),i≤xs.length∧m = xs.length - i∧Au l (xs.drop i) ac = Au l xs acc∧ac.length≤acc.length + i∧SO ac v2 A2∧MpI so2 (·∈ac)∧D' = (b1,C 86 [Pt hb]) :: (b3,C 76 [.map (some sb)]) :: (hb,C 99 (eHp s wv tv mv thv ov pv mb v2)) :: (sb,so2) :: (A2 ++ F)∧vs = [Pt b1,Pt b3,lv,I xs.length,I i])
  (n:=xs.length) ⟨rfl,0,acc,v,so,A,ω,rfl,rfl,ω,hso,hms,rfl,rfl⟩ ?_
 rintro m e R1 D1 K ⟨hR,i,ac,v2,so2,A2,hi,hmm,hn,hac,hs2,hm2,hD,he⟩ hK;subst hR;refine z_W ?_;refine jlt (jif (λhc=>?_) (λhc=>?_));rotate_left
 ·have hc:=z_g hc;rw[Yz ω] at hn;refine B9 (A:=(b1,C 86 [Pt hb]) :: (b3,C 76 [.map (some sb)]) :: (hb,C 99 (eHp s wv tv mv thv ov pv mb v2)) :: (sb,so2) :: A2) (RM.le.refl _) ⟨rfl,?_⟩;rw[← hn];exact⟨rfl,v2,so2,A2,hs2,hm2,rfl⟩
 have hc:i < xs.length:=by have:=z_f hc;omega
 rw[Yv hc] at hn;refine AR (λvs R' D'=>R' = R1∧∃(ac2:List Int) (v2:Value) (so2:Obj) (A2:Chs),Au l (xs.drop (i + 1)) ac2 = Au l xs acc∧ac2.length≤acc.length + (i + 1)∧SO ac2 v2 A2∧MpI so2 (·∈ac2)∧D' = (b1,C 86 [Pt hb]) :: (b3,C 76 [.map (some sb)]) :: (hb,C 99 (eHp s wv tv mv thv ov pv mb v2)) :: (sb,so2) :: (A2 ++ F)∧vs = [Pt b1,Pt b3,lv,I xs.length,I i]) (λK2 hK2=>?_) ?_;rotate_left
 ·rintro e R2 D2 ⟨hR,ac2,v3,so3,A3,hn2,hac2,hs3,hm3,hD,he⟩;subst hR;refine z_W ?_;refine jad ?_;exact hK (xs.length - (i + 1)) _ _ _ ω ⟨rfl,i + 1,ac2,v3,so3,A3,ω,rfl,hn2,hac2,hs3,hm3,rfl,rfl⟩
 refine AR (λvs R' D'=>R' = R1∧∃(ac2:List Int) (v2:Value) (so2:Obj) (A2:Chs),Au l (xs.drop (i + 1)) ac2 = Au l xs acc∧ac2.length≤acc.length + (i + 1)∧SO ac2 v2 A2∧MpI so2 (·∈ac2)∧D' = (b1,C 86 [Pt hb]) :: (b3,C 76 [.map (some sb)]) :: (hb,C 99 (eHp s wv tv mv thv ov pv mb v2)) :: (sb,so2) :: (A2 ++ F)∧vs = [Pt b1,Pt b3,lv,I xs.length,I i]) (λK3 hK3=>?_) ?_;rotate_left
 ·rintro e R2 D2 ⟨hR,ac2,v3,so3,A3,hn2,hac2,hs3,hm3,hD,he⟩;subst hR;refine z_W ?_;exact hK2 _ _ _ ⟨rfl,ac2,v3,so3,A3,hn2,hac2,hs3,hm3,rfl,rfl⟩
 rw[OD] at hn;refine CE hxs ω ω ?_;simp only[Yj];refine jeq (jif (λh0=>?_) (λh0=>?_))
 ·have h0:xs[i] = 0:=by simpa using h0
  refine hK3 _ _ _ ⟨rfl,ac,v2,so2,A2,?_,ω,hs2,hm2,rfl,rfl⟩;rw[← hn,h0];simp[now,CZ]
 have h0:xs[i]≠0:=by simpa using h0
 refine jl (v:=Pt hb) rfl (jl (v:=.map (some mb)) rfl ?_);refine XS (Li.fz hm0) hm λn nb rv nv hnb hfn hrv hnv=>?_
 obtain⟨ra,rc,rfl⟩:=hrv.sl;obtain⟨na,nc,rfl⟩:=hnv.sl;refine jex rfl (jex rfl (ja λnbk=>?_));refine jS (eTh n (.slice ra n.refs.length rc) (.slice na n.nums.length nc)) (Bn ?_);cases nb with
 | false=>
  have hf:BL l xs[i] = none:=by
   cases h:BL l xs[i] with
   | none=>rfl
   | some x=>rw[h] at hnb;cases hnb
  refine DI (B9 (A:=[]) (RM.le.refl _) ⟨rfl,?_⟩);rw[← hn];unfold now;rw[if_neg h0,hf];exact⟨rfl,rfl⟩
 | true=>
  have hf:=hfn rfl;have hnow:now l xs[i] = some n.moved:=by unfold now;rw[if_neg h0,hf];rfl
  have hnm:=hmv n (Bh hf).1;rw[hnow] at hn;have hn:Au l (xs.drop (i + 1)) (CZ ac n.moved) = Au l xs acc:=hn;unfold CZ at hn;refine CL (jl (v:=Pt hb) rfl ?_);refine Aw [(hb,C 99 (eHp s wv tv mv thv ov pv mb v2))] (G:=(b1,C 86 [Pt hb]) :: (b3,C 76 [.map (some sb)]) :: (sb,so2) :: (A2 ++ F)) ?_;refine YN (V9 (s:=s) (wv:=wv) (tv:=tv) (mv:=mv) (thv:=thv) (ov:=ov) (pv:=pv) (l:=l) (D:=[(hb,C 99 (eHp s wv tv mv thv ov pv mb v2))]) hm0 hm hnow) ?_;refine Aw [(b1,C 86 [Pt hb]),(b3,C 76 [.map (some sb)]),(hb,C 99 (eHp s wv tv mv thv ov pv mb v2)),(sb,so2)] (G:=A2 ++ F) ?_;refine jl (v:=.map (some sb)) rfl ?_;refine @jlk _ _ _ sb so2 _ n.moved (decide (n.moved∈ac)) _ hm2 σ ?_;refine jif (λhd=>?_) (λhd=>?_);rotate_left
  ·have hd:n.moved∈ac:=by simpa using hd
   rw[if_pos (.inr hd)] at hn;exact hK3 _ _ _ ⟨rfl,ac,v2,so2,A2,hn,ω,hs2,hm2,rfl,rfl⟩
  have hd:n.moved ∉ ac:=by simpa using hd
  rw[if_neg (by rintro (h | h);exact hnm h;exact hd h)] at hn;refine jl (v:=.map (some sb)) rfl ?_;refine @jmu _ _ _ sb so2 _ _ n.moved _ hm2 λso3 hm3=>?_
  refine jl (v:=Pt hb) rfl (jl (v:=Pt hb) rfl (jl (v:=v2) rfl ?_));refine jbs (cs:=[I n.moved]) rfl rfl λxb=>?_
  refine Af (jl (v:=Pt hb) rfl jev) (Af (jl (v:=Pt hb) rfl jev) (Af (jl (v:=v2) rfl jev) ?_));refine IC hs2 ω λv3 A3 hs3=>?_
  refine Af (jl (v:=Pt hb) rfl jev) ?_;obtain⟨a3,c3,rfl⟩:=hs3.sln;refine jS (eHp s wv tv mv thv ov pv mb (.slice a3 (ac ++ [n.moved]).length c3)) ?_;refine Aw [(b1,C 86 [Pt hb]),(b3,C 76 [.map (some sb)]),(hb,C 99 (eHp s wv tv mv thv ov pv mb (.slice a3 (ac ++ [n.moved]).length c3))),(sb,so3)] (G:=A3 ++ ([] ++ F)) ?_;refine hK3 _ _ _ ⟨rfl,ac ++ [n.moved],_,so3,A3,hn,by rw[Yk,Z7];omega,hs3,?_,rfl,rfl⟩;have e:(λy=>y∈ac∨y = n.moved) = (·∈ac ++ [n.moved]):=by funext y;simp
  rw[← e];exact hm3
end st
end Go.Lf
end
section
namespace Sm
open Go.Lf
theorem Ca {l:List AU} {x:Int} {r acc:List Int}:Au l (x :: r) acc = (now l x).bind λy=>Au l r (CZ acc y):=rfl
theorem Ck {l:List AU}:∀{xs ys acc:List Int},Au l (xs ++ ys) acc = (Au l xs acc).bind λo=>Au l ys o
 | [],ys,acc=>rfl
 | x :: xs,ys,acc=>by
  rw[zc,Ca,Ca];cases now l x with
  | none=>rfl
  | some y=>exact Ck
theorem JS {l:List AU}:∀{ts:List Th} {acc:List Int},Dm l ts acc = Au l (ts.flatMap (·.AC)) acc
 | [],acc=>rfl
 | t :: ts,acc=>by
  rw[List.flatMap_cons,Ck];show (Au l t.AC acc).bind (λo=>Dm l ts o) = _;congr 1;funext o;exact JS
theorem Jf {s:Al} {l:List AU}:∀{ps acc:List Int},ps.all (Dl s l) = true→Au l ps acc = some (ps.foldl CZ acc)
 | [],acc,_=>rfl
 | a :: ps,acc,h=>by
  rw[List.all_cons,z_b] at h;have h1:=h.1;unfold Dl at h1;have:now l a = some a:=by
   unfold now;split
   ·rename_i e;rw[e]
   ·cases ht:BL l a with
    | none=>rw[ht] at h1;cases h1
    | some t=>
     rw[ht] at h1;simp only[z_b,beq_iff_eq] at h1;rw[aY,h1.1]
  rw[Ca,this];exact Jf h.2
theorem EF {s:Al} {l:List AU} (h:s.AG.all (Dl s l) = true):DW s l = (Au l (Da s) []).bind λout=>BW l (l.length + 2) 0 out:=by
 unfold DW Da;rw[JS,Ck];cases Au l (s.A6.flatMap (·.AC)) [] with
 | none=>rfl
 | some out=>rw[z_o,Jf h];rfl
structure Stl (l:List AU):Prop where
 nd:(l.map AU.at_).Nodup
 at16:∀t∈l,16≤t.at_
 mv:∀t∈l,∃t'∈l,t'.at_ = t.moved
theorem Stl.nz {l:List AU} (S:Stl l):∀t∈l,t.moved≠0:=λt ht e=>by
 obtain⟨t',h1,h2⟩:=S.mv t ht;have:=S.at16 t' h1;omega
theorem PC {s:Al} {l:List AU} (h:Ee s = some l) (hs:CY s l = true):Stl l:=by
 unfold Ee at h;split at h;rotate_left
 ·cases h
 unfold BJ at h;obtain⟨h1,h2⟩:=EZ h;refine⟨K0 h1 λx hx=>(h2 x hx).2.1,λt ht=>by have:=(h2 t ht).1;omega,λt ht=>?_⟩;unfold CY at hs;have:=ZC.1 hs t ht;unfold CD at this;rw[ZD] at this;rcases this with e | e
 ·exact⟨t,ht,(eq_of_beq e).symm⟩
 ·cases hf:BL l t.moved with
  | none=>rw[hf] at e;cases e
  | some n=>exact⟨n,Bh hf⟩
structure Df (l:List AU) (ac:List Int):Prop where
 nd:ac.Nodup
 th:∀a∈ac,∃t,BL l a = some t
theorem Df.put {l:List AU} {ac:List Int} (M:Df l ac) (S:Stl l) {x:Int} (h:x = 0∨∃t∈l,t.at_ = x):Df l (CZ ac x):=by
 unfold CZ;split
 ·exact M
 ·rename_i c;have c0:x≠0:=λe=>c (.inl e)
  have c1:x ∉ ac:=λe=>c (.inr e)
  refine⟨?_,λa ha=>?_⟩
  ·rw[List.nodup_append];refine⟨M.nd,σ,λa ha b hb e=>?_⟩;rw[Z8.1 hb] at e;exact c1 (e▸ha)
  ·rcases ZB.1 ha with ha | ha
   ·exact M.th a ha
   ·rw[Z8.1 ha];rcases h with h | ⟨t,h1,h2⟩
    ·exact absurd h c0
    ·exact⟨t,by rw[← h2];exact Dn S.nd h1⟩
theorem Df.all {l:List AU} (S:Stl l):∀{xs ac ac' : List Int},Df l ac→Au l xs ac = some ac'→Df l ac'
 | [],ac,ac',M,h=>by cases h;exact M
 | x :: xs,ac,ac',M,h=>by
  rw[Ca] at h;cases hn:now l x with
  | none=>rw[hn] at h;cases h
  | some y=>
   rw[hn] at h;refine Df.all S (M.put S ?_) h;unfold now at hn;split at hn
   ·cases hn;exact .inl rfl
   ·obtain⟨t,ht,rfl⟩:=Option.map_eq_some_iff.1 hn;exact .inr (S.mv t (Bh ht).1)
theorem Df.len {l:List AU} {ac:List Int} (M:Df l ac):ac.length≤l.length:=by
 have:ac.length≤(l.map AU.at_).length:=HC M.nd λx hx=>by
  obtain⟨t,ht⟩:=M.th x hx;obtain⟨h1,h2⟩:=Bh ht;rw[← h2];exact Zw h1
 rwa [Z1] at this
theorem Df.nil {l:List AU}:Df l []:=⟨List.nodup_nil,λa h=>by cases h⟩
theorem DF {l:List AU} {n i:Nat} {out:List Int} {t:AU} (hi:i < out.length) (ht:BL l out[i] = some t):BW l (n + 1) i out = (Au l t.refs out).bind λo=>BW l n (i + 1) o:=by
 conv=>lhs;unfold BW
 rw[Yi hi];dsimp only;rw[ht];rfl
theorem DP {l:List AU} {n i:Nat} {out:List Int} (hi:out.length≤i):BW l (n + 1) i out = some out:=by
 unfold BW;rw[Zd hi]
end Sm
end
section
namespace Go.Lf
open Go Sm
section rules
variable {R:RM} {D:Chs} {k:Value→M}
theorem X5 {l:List Int} {v:Value} {A E:Chs} {i:Nat} (so:SO l v A) [s:Sp D A E] (hi:i < l.length) (H:J R D (k (I l[i]))):J R D (IA 1 v (I (i:Int)) λx=>L1 x k):=by
 refine BI s.p ?_;have:=(so.rd (R:=R) (E:=E)).2 [] i hi k;rw[ZN] at this;exact this (BI s.p.symm H)
end rules
section st
variable {R:RM} {s:Sm.Al} {wv tv mv thv ov pv:Value} {l:List AU}
def Ww (r:Option (List Int)) (s:Sm.Al) (wv tv mv thv ov pv:Value) (mb hb:Nat) (v:Value) (A:Chs):Prop:=match r with
 | none=>v = .bool false∧A = []
 | some met=>v = .bool true∧∃v2 A2,SO met v2 A2∧A = (hb,C 99 (eHp s wv tv mv thv ov pv mb v2)) :: A2
set_option maxHeartbeats 1000000 in
set_option maxRecDepth 4000 in
theorem RY {mb hb:Nat} {o:Obj} (h:SF R s wv tv mv thv ov pv) (hm0:R mb = some o) (hm:MpT R o l) (S:Stl l) (hll:l.length < 10000) (tb:TB l) (hp:s.AG.all (Dl s l) = true) :
  Fn P Gi [Pt hb] R [(hb,C 99 (eHp s wv tv mv thv ov pv mb (SN)))] (λr R' A'=>Ww (DW s l) s wv tv mv thv ov pv mb hb r A'):=by
 refine Kv λF=>?_
 refine z_1 ?_;refine ja λb1=>Wy λsb so0 hs0=>ja λb3=>?_
 refine jS [.map (some sb)] ?_;refine jl (v:=Pt hb) rfl (jnc (jfo (jla (t:=99) (cs:=eHp s wv tv mv thv ov pv mb (SN)) (l:=eSt s wv tv mv thv ov pv) (by exact Z0 rfl) rfl ?_)));refine jc (A:=[]) (Si h) ?_;rintro rv R1 A1 hR1 ⟨hR,so1⟩;subst hR;have n1:=h.b.n1;have fl:=DR s.A6 h.b.rl;have fle:9 * s.A6.length≤27:=ω
 have pl:=h.b.pl;have rl:(Da s).length≤35:=by unfold Da;rw[Yk];omega
 refine FG so1 λR2 hR2 hri=>?_
 have h:=h.le hR2;have hm0:=hR2 _ _ hm0;have hm:=hm.le hR2;rw[EF hp];refine PT (by kernel_rfl) ?_;refine jc (A:=(b1,C 86 [Pt hb]) :: (b3,C 76 [.map (some sb)]) :: (hb,C 99 (eHp s wv tv mv thv ov pv mb (SN))) :: (sb,so0) :: []) (Nf (s:=s) (wv:=wv) (tv:=tv) (mv:=mv) (thv:=thv) (ov:=ov) (pv:=pv) (acc:=[]) hm0 hm S.nz hri ω (by simp;omega) (.inl ⟨rfl,rfl,rfl⟩) (by simpa using hs0)) ?_;rintro r R3 A3 _ ⟨hR,hq⟩;subst hR;cases hn:Au l (Da s) [] with
 | none=>
  rw[hn] at hq;obtain⟨rfl,rfl⟩:=hq;exact DI (B9 (A:=[]) hR2 ⟨rfl,rfl⟩)
 | some out=>
  rw[hn] at hq;obtain⟨rfl,v2,so2,A2,hs2,hm2,rfl⟩:=hq;rw[z_o];have M0:Df l out:=Df.nil.all S hn;refine CL ?_;refine jlp (λm vs R' D'=>R' = R3∧∃(i:Nat) (ac:List Int) (v2:Value) (so2:Obj) (A2:Chs),i≤ac.length∧m = l.length + 2 - i∧BW l (l.length + 2 - i) i ac = BW l (l.length + 2) 0 out∧Df l ac∧SO ac v2 A2∧MpI so2 (·∈ac)∧D' = (b1,C 86 [Pt hb]) :: (b3,C 76 [.map (some sb)]) :: (hb,C 99 (eHp s wv tv mv thv ov pv mb v2)) :: (sb,so2) :: (A2 ++ F)∧vs = [Pt b1,.func (.func 147) #[] #[Pt b1,Pt b3],I i])
   (n:=l.length + 2) ⟨rfl,0,out,v2,so2,A2,ω,ω,rfl,M0,hs2,hm2,rfl,rfl⟩ ?_
  clear hm2 hs2 M0 hn;rintro m e R4 D4 K ⟨hR,i,ac,v3,so3,A3,hi,hmm,hrl,M,hs3,hm3,hD,he⟩ hK;subst hR;refine z_W ?_;clear hD;have hal:=M.len;obtain⟨a3,c3,rfl⟩:=hs3.sln;refine jl (v:=Pt hb) rfl (jl (v:=.slice a3 ac.length c3) rfl (jln (jlt (jif (λhc=>?_) (λhc=>?_)))));rotate_left
  ·have hc:=z_g hc;obtain⟨q,hq⟩:∃q,l.length + 2 - i = q + 1:=⟨l.length + 1 - i,ω⟩;rw[hq,DP ω] at hrl;refine Aw [(hb,C 99 (eHp s wv tv mv thv ov pv mb (.slice a3 ac.length c3)))] (G:=A3 ++ F) ?_;refine B9 (A:=(hb,C 99 (eHp s wv tv mv thv ov pv mb (.slice a3 ac.length c3))) :: A3) hR2 ?_;rw[← hrl];exact⟨rfl,_,A3,hs3,rfl⟩
  have hc:i < ac.length:=by have:=z_f hc;omega
  obtain⟨t,ht⟩:=M.th _ (Yq hc);obtain⟨htm,hta⟩:=Bh ht;obtain⟨q,hq⟩:∃q,l.length + 2 - i = q + 1:=⟨l.length + 1 - i,ω⟩;rw[hq,DF hc ht] at hrl;refine jl (v:=Pt hb) rfl (jl (v:=.map (some mb)) rfl (jl (v:=Pt hb) rfl (jl (v:=.slice a3 ac.length c3) rfl ?_)));refine X5 hs3 hc ?_;refine @Pm _ _ _ mb o l ac[i] false (Li.fz hm0) hm (λe=>by rw[ht] at e;cases e) (λt2 v e hv=>?_);rw[ht] at e;cases e;obtain⟨rv,nv,rfl,hrv,hnv⟩:=hv;refine jfd (v:=rv) rfl (PT (by kernel_rfl) ?_);have htb:=tb t htm;refine jc (A:=(b1,C 86 [Pt hb]) :: (b3,C 76 [.map (some sb)]) :: (hb,C 99 (eHp s wv tv mv thv ov pv mb (.slice a3 ac.length c3))) :: (sb,so3) :: A3) (Nf (s:=s) (wv:=wv) (tv:=tv) (mv:=mv) (thv:=thv) (ov:=ov) (pv:=pv) (acc:=ac) hm0 hm S.nz hrv ω ω hs3 hm3) ?_;rintro r R5 A5 _ ⟨hR,hq2⟩;subst hR;cases hn:Au l t.refs ac with
  | none=>
   rw[hn] at hq2 hrl;obtain⟨rfl,rfl⟩:=hq2;refine DI (B9 (A:=[]) hR2 ?_);rw[← hrl];exact⟨rfl,rfl⟩
  | some out2=>
   rw[hn] at hq2 hrl;obtain⟨rfl,v4,so4,A4,hs4,hm4,rfl⟩:=hq2;have M2:=M.all S hn;have ml2:=M2.len;have hge:=Dq hn;refine CL (jad ?_);refine Aw [(b1,C 86 [Pt hb]),(b3,C 76 [.map (some sb)]),(hb,C 99 (eHp s wv tv mv thv ov pv mb v4)),(sb,so4)] (G:=A4 ++ F) ?_;refine hK q _ _ _ ω ⟨rfl,i + 1,out2,v4,so4,A4,ω,ω,?_,M2,hs4,hm4,rfl,rfl⟩;rw[← hrl,z_o];congr 1;omega
end st
def HpV (R:RM) (s:Sm.Al) (wv tv mv thv ov pv:Value) (l:List AU) (met:List Int) (hb mb:Nat) (v:Value):Prop:=∃o,R hb = some (C 99 (eHp s wv tv mv thv ov pv mb v))∧R mb = some o∧MpT R o l∧BG R v met
def WI (r:Option (List AU × List Int)) (s:Sm.Al) (wv tv mv thv ov pv:Value) (x:Value) (R:RM):Prop:=match r with
 | none=>x = .pointer none
 | some (l,met)=>∃hb mb v,x = Pt hb∧HpV R s wv tv mv thv ov pv l met hb mb v
section st
variable {R:RM} {s:Sm.Al} {wv tv mv thv ov pv:Value}
theorem KI {l:List AU} (h:Ee s = some l) (h2:CU s l = false):Ci s = none:=by
 unfold Ci;rw[h];dsimp only;rw[if_neg (by rw[h2];decide)]
set_option maxHeartbeats 2000000 in
set_option maxRecDepth 4000 in
theorem Pz (h:SF R s wv tv mv thv ov pv):Fn P K9 [.agg (eSt s wv tv mv thv ov pv).toArray] R [] (λr R' A=>A = []∧WI (Ci s) s wv tv mv thv ov pv r R'):=by
 refine PY λF=>?_
 refine z_1 ?_;refine ja λb=>?_
 rw[show cl (.agg (eSt s wv tv mv thv ov pv).toArray) = eSt s wv tv mv thv ov pv from rfl];refine jla (l:=eSt s wv tv mv thv ov pv) (by exact z_n 13) rfl ?_;refine jc (A:=[]) (Pg h) ?_;rintro _ R1 _ hR1 ⟨rfl,hq⟩;refine NL ?_;cases hth:Ee s with
 | none=>
  rw[hth] at hq;obtain rfl:_ = Value.tuple #[.map none,.bool false]:=hq;have hn:Ci s = none:=by unfold Ci;rw[hth]
  refine jex rfl (jex rfl ?_);refine jor [Pt b,.map none] true (λK' hK'=>?_) (λe c u ho he=>?_)
  ·exact jtf (hK' _ _ _ Am rfl)
  refine z_V ?_;refine jor [Pt b,.map none] true (λK' hK'=>?_) (λe c u ho he=>?_)
  ·rw[ho];exact jtf (hK' _ _ _ Am rfl)
  refine z_V ?_;refine jor [Pt b,.map none] true (λK' hK'=>?_) (λe c u ho he=>?_)
  ·rw[ho];exact jtf (hK' _ _ _ Am rfl)
  refine z_V ?_;refine jor [Pt b,.map none] true (λK' hK'=>?_) (λe c u ho he=>?_)
  ·rw[ho];exact jtf (hK' _ _ _ Am rfl)
  refine z_V ?_;refine jor [Pt b,.map none] true (λK' hK'=>?_) (λe c u ho he=>?_)
  ·rw[ho];exact jtf (hK' _ _ _ Am rfl)
  refine z_V ?_;refine jor [Pt b,.map none] true (λK' hK'=>?_) (λe c u ho he=>?_)
  ·rw[ho];exact jtf (hK' _ _ _ Am rfl)
  refine z_V ?_;rw[ho];refine DI (B9 (A:=[]) hR1 ⟨rfl,?_⟩);rw[hn];exact rfl
 | some l=>
  rw[hth] at hq;obtain⟨mb,o,hmb,hm,rfl⟩:=hq;have hsf:=h;have h:=h.le hR1;have bnd:TB l∧l.length≤192∧(l.map AU.at_).Nodup:=by
   have h1:=hth;unfold Ee at h1;split at h1;rotate_left
   ·cases h1
   unfold BJ at h1;have h2:=Kr (by have:=h.b.wl;have:=h.b.t1;omega) h1;obtain⟨h3,h4⟩:=EZ h1;have:=h.b.t1;rw[aD] at h2;exact⟨h2.1,ω,K0 h3 λx hx=>(h4 x hx).2.1⟩
  obtain⟨tb,hll,nd⟩:=bnd;refine jex rfl (jex rfl ?_);refine jor [Pt b,.map (some mb)] (!CY s l) (λK' hK'=>?_) (λe c u ho he=>?_)
  ·exact jff (jla (l:=eSt s wv tv mv thv ov pv) (by exact z_n 13) rfl (jrp (Ox h hmb hm tb nd) (hK' _ _ _ Ah rfl)))
  refine z_V ?_;refine jor [Pt b,.map (some mb)] ((!CY s l) || (decide (s.Ad < 0))) (λK' hK'=>?_) (λe c u ho he=>?_)
  ·rw[ho];refine BR (λh1=>?_) (λh1=>?_)
   ·refine jl (v:=I s.Ad) rfl (jlt (hK' _ _ _ (h1▸Ah) (by rw[h1,Yl])))
   ·exact hK' _ _ _ (h1▸Am) (by rw[h1,Yo])
  refine z_V ?_;refine jor [Pt b,.map (some mb)] ((!CY s l || decide (s.Ad < 0)) || (decide (s.Ad > 3))) (λK' hK'=>?_) (λe c u ho he=>?_)
  ·rw[ho];refine BR (λh1=>?_) (λh1=>?_)
   ·refine jl (v:=I s.Ad) rfl (jgr (hK' _ _ _ (h1▸Ah) (by rw[h1,Yl])))
   ·exact hK' _ _ _ (h1▸Am) (by rw[h1,Yo])
  refine z_V ?_;refine jor [Pt b,.map (some mb)] ((!CY s l || decide (s.Ad < 0) || decide (s.Ad > 3)) || (decide ((s.A6.length:Int) < 1))) (λK' hK'=>?_) (λe c u ho he=>?_)
  ·rw[ho];refine BR (λh1=>?_) (λh1=>?_)
   ·refine jl (v:=thv) rfl (C4 h.c.th.sl (jlt (hK' _ _ _ (h1▸Ah) (by rw[h1,Yl]))))
   ·exact hK' _ _ _ (h1▸Am) (by rw[h1,Yo])
  refine z_V ?_;refine jor [Pt b,.map (some mb)] ((!CY s l || decide (s.Ad < 0) || decide (s.Ad > 3) || decide ((s.A6.length:Int) < 1)) || (decide ((s.A6.length:Int) > 3))) (λK' hK'=>?_) (λe c u ho he=>?_)
  ·rw[ho];refine BR (λh1=>?_) (λh1=>?_)
   ·refine jl (v:=thv) rfl (C4 h.c.th.sl (jgr (hK' _ _ _ (h1▸Ah) (by rw[h1,Yl]))))
   ·exact hK' _ _ _ (h1▸Am) (by rw[h1,Yo])
  refine z_V ?_;refine jor [Pt b,.map (some mb)] ((!CY s l || decide (s.Ad < 0) || decide (s.Ad > 3) || decide ((s.A6.length:Int) < 1) || decide ((s.A6.length:Int) > 3)) || (decide ((s.AG.length:Int) > 8))) (λK' hK'=>?_) (λe c u ho he=>?_)
  ·rw[ho];refine BR (λh1=>?_) (λh1=>?_)
   ·refine jl (v:=pv) rfl (C4 h.c.p.sl (jgr (hK' _ _ _ (h1▸Ah) (by rw[h1,Yl]))))
   ·exact hK' _ _ _ (h1▸Am) (by rw[h1,Yo])
  refine z_V ?_;rw[ho];have hno:CU s l = false→∀{D:Chs},[Sf D F]→J R1 D (Ey R F (λr R' A=>A = []∧WI (Ci s) s wv tv mv thv ov pv r R') (.pointer none)):=λhh D _=>B9 (A:=[]) hR1 ⟨rfl,by rw[KI hth hh];exact rfl⟩
  refine jif (λh0=>?_) (λh0=>?_)
  ·refine hno ?_;rw[Zt];intro hh;unfold CU at hh;simp only[z_b,z_d] at hh;obtain⟨⟨⟨⟨⟨⟨⟨g1,g2⟩,g3⟩,g4⟩,g5⟩,g6⟩,g7⟩,g8⟩:=hh;rw[g1] at h0;simp only[an,Yl,ZD,z_d] at h0;omega
  simp only[Z4,ZM,decide_eq_false_iff_not] at h0;obtain⟨⟨⟨⟨⟨g1,g2⟩,g3⟩,g4⟩,g5⟩,g6⟩:=h0;have S:=PC hth g1;have n1:=h.b.n1;clear ho he;refine AR (λvs R' D'=>R' = R1∧s.A6.all F5 = true∧D' = (b,C AQ (eSt s wv tv mv thv ov pv)) :: F∧vs = [Pt b,.map (some mb)]) (λK hK=>?_) ?_
  ·refine jl (v:=thv) rfl (C4 h.c.th.sl ?_);refine AR (λvs R' D'=>R' = R1∧s.A6.all F5 = true∧D' = (b,C AQ (eSt s wv tv mv thv ov pv)) :: F∧vs = [Pt b,.map (some mb)]) (λK2 hK2=>?_) ?_;rotate_left
   ·rintro e R2 D2 ⟨hR,ht,hD,he⟩;subst hR;refine z_W ?_;clear hD;exact hK _ _ _ ⟨rfl,ht,rfl,rfl⟩
   refine jlp (λm vs R' D'=>R' = R1∧∃(i:Nat),i≤s.A6.length∧m = s.A6.length - i∧(s.A6.take i).all F5 = true∧D' = (b,C AQ (eSt s wv tv mv thv ov pv)) :: F∧vs = [Pt b,.map (some mb),thv,I s.A6.length,I i]) (n:=s.A6.length) ⟨rfl,0,ω,rfl,rfl,rfl,rfl⟩ ?_;rintro m e R2 D2 K3 ⟨hR,i,hi,hmm,hta,hD,he⟩ hK3;subst hR;refine z_W ?_;clear hD;refine jlt (jif (λhc=>?_) (λhc=>?_));rotate_left
   ·have hc:=z_g hc;rw[Ys ω] at hta;exact hK2 _ _ _ ⟨rfl,hta,rfl,rfl⟩
   have hc:i < s.A6.length:=by have:=z_f hc;omega
   refine jtr h.c.th hc λb2 o2 ty cs rv hrv hb2 ho2 hrow=>?_
   refine F0 (l:=[rv,I (s.A6[i]).next,.bool (s.A6[i]).busy,I (s.A6[i]).Ai]) hb2 ho2 hrow (ja λb3=>?_);obtain⟨ra,rc,rfl⟩:=hrv.sl;refine jS ([.slice ra (s.A6[i]).AC.length rc,I (s.A6[i]).next,.bool (s.A6[i]).busy,I (s.A6[i]).Ai]) ?_;refine jor [Pt b,.map (some mb),Pt b3,thv,I s.A6.length,I (i:Int)] ((decide (((s.A6[i]).AC.length:Int) > 8)) || (decide ((s.A6[i]).Ai < 0))) (λK' hK'=>?_) (λe c u ho he=>?_)
   ·refine jl (v:=.slice ra (s.A6[i]).AC.length rc) rfl (jln (jgr (BR (λh1=>?_) (λh1=>?_))))
    ·refine jl (v:=I (s.A6[i]).Ai) rfl (jlt (hK' _ _ _ (h1▸Ah) (by rw[h1,Yl])))
    ·exact hK' _ _ _ (h1▸Am) (by rw[h1,Yo])
   refine z_V ?_;refine jor [Pt b,.map (some mb),thv,I s.A6.length,I (i:Int)] ((decide (((s.A6[i]).AC.length:Int) > 8) || decide ((s.A6[i]).Ai < 0)) || (decide ((s.A6[i]).Ai > 2))) (λK' hK'=>?_) (λe c u ho he=>?_)
   ·rw[ho];refine BR (λh1=>?_) (λh1=>?_)
    ·refine jl (v:=I (s.A6[i]).Ai) rfl (jgr (hK' _ _ _ (h1▸Ah) (by rw[h1,Yl])))
    ·exact hK' _ _ _ (h1▸Am) (by rw[h1,Yo])
   refine z_V ?_;rw[ho];have hthr:(decide (((s.A6[i]).AC.length:Int) > 8) || decide ((s.A6[i]).Ai < 0) || decide ((s.A6[i]).Ai > 2)) = !F5 s.A6[i]:=by
    unfold F5;rw[Zb];simp only[ZD,Z9,aS,z_d,decide_eq_false_iff_not];omega
   rw[hthr];refine jif (λh1=>?_) (λh1=>?_)
   ·refine hno ?_;rw[Zt];intro hh;unfold CU at hh;simp only[z_b] at hh;have:=ZC.1 hh.1.2 _ (Yq hc);rw[this] at h1;cases h1
   ·refine jad (Bn ?_);refine hK3 (s.A6.length - (i + 1)) _ _ _ ω ⟨rfl,i + 1,ω,rfl,?_,rfl,rfl⟩;rw[Yp hc,List.all_append,hta];simpa using h1
  rintro e R2 D2 ⟨hR,hta,hD,he⟩;subst hR;refine z_W ?_;clear hD;refine AR (λvs R' D'=>R' = R2∧s.AG.all (Dl s l) = true∧D' = (b,C AQ (eSt s wv tv mv thv ov pv)) :: F∧vs = [Pt b,.map (some mb)]) (λK hK=>?_) ?_
  ·refine jl (v:=pv) rfl (C4 h.c.p.sl ?_);refine AR (λvs R' D'=>R' = R2∧s.AG.all (Dl s l) = true∧D' = (b,C AQ (eSt s wv tv mv thv ov pv)) :: F∧vs = [Pt b,.map (some mb)]) (λK2 hK2=>?_) ?_;rotate_left
   ·rintro e R3 D3 ⟨hR,ht,hD,he⟩;subst hR;refine z_W ?_;clear hD;exact hK _ _ _ ⟨rfl,ht,rfl,rfl⟩
   refine jlp (λm vs R' D'=>R' = R2∧∃(i:Nat),i≤s.AG.length∧m = s.AG.length - i∧(s.AG.take i).all (Dl s l) = true∧D' = (b,C AQ (eSt s wv tv mv thv ov pv)) :: F∧vs = [Pt b,.map (some mb),pv,I s.AG.length,I i]) (n:=s.AG.length) ⟨rfl,0,ω,rfl,rfl,rfl,rfl⟩ ?_;rintro m e R3 D3 K3 ⟨hR,i,hi,hmm,hpa,hD,he⟩ hK3;subst hR;refine z_W ?_;clear hD;refine jlt (jif (λhc=>?_) (λhc=>?_));rotate_left
   ·have hc:=z_g hc;rw[Ys ω] at hpa;exact hK2 _ _ _ ⟨rfl,hpa,rfl,rfl⟩
   have hc:i < s.AG.length:=by have:=z_f hc;omega
   have hpv:=h.b.pv _ (Yq hc);refine CE h.c.p ω ω ?_;simp only[Yj];refine XS (Li.fz hmb) hm λn nb rv nv hnb hfn hrv hnv=>?_
   obtain⟨ra,rc,rfl⟩:=hrv.sl;obtain⟨na,nc,rfl⟩:=hnv.sl;refine jex rfl (jex rfl (ja λb3=>?_));refine jS (eTh n (.slice ra n.refs.length rc) (.slice na n.nums.length nc)) ?_;refine jor [Pt b,.map (some mb),I (s.AG[i]),pv,I s.AG.length,I (i:Int)] ((!nb) || (n.moved != s.AG[i])) (λK' hK'=>?_) (λe c u ho he=>?_)
   ·refine BR (λh1=>?_) (λh1=>?_)
    ·refine jl (v:=I n.moved) rfl (jne (hK' _ _ _ (h1▸Ah) (by rw[h1,Yl])))
    ·exact hK' _ _ _ (h1▸Am) (by rw[h1,Yo])
   refine z_V ?_;refine jor [Pt b,.map (some mb),pv,I s.AG.length,I (i:Int)] ((!nb || (n.moved != s.AG[i])) || (Di s s.AG[i])) (λK' hK'=>?_) (λe c u ho he=>?_)
   ·rw[ho];refine BR (λh1=>?_) (λh1=>?_)
    ·refine jla (l:=eSt s wv tv mv thv ov pv) (by exact z_n 13) rfl (jrp (Ki h hpv.1 ω) (hK' _ _ _ (h1▸Ah) (by rw[h1,Yl])))
    ·exact hK' _ _ _ (h1▸Am) (by rw[h1,Yo])
   refine z_V ?_;rw[ho];have hpo:(!nb || (n.moved != s.AG[i]) || Di s s.AG[i]) = !Dl s l s.AG[i]:=by
    unfold Dl;cases nb with
    | false=>
     have:BL l s.AG[i] = none:=by
      cases h:BL l s.AG[i] with
      | none=>rfl
      | some x=>rw[h] at hnb;cases hnb
     rw[this];rfl
    | true=>
     rw[hfn rfl];dsimp only;unfold bne;cases n.moved == s.AG[i]<;>cases Di s s.AG[i]<;>rfl
   rw[hpo];refine jif (λh1=>?_) (λh1=>?_)
   ·refine hno ?_;rw[Zt];intro hh;unfold CU at hh;simp only[z_b] at hh;have:=ZC.1 hh.2 _ (Yq hc);rw[this] at h1;cases h1
   ·refine jad (Bn ?_);refine hK3 (s.AG.length - (i + 1)) _ _ _ ω ⟨rfl,i + 1,ω,rfl,?_,rfl,rfl⟩;rw[Yp hc,List.all_append,hpa];simpa using h1
  rintro e R3 D3 ⟨hR,hpa,hD,he⟩;subst hR;refine z_W ?_;clear hD;have hhead:CU s l = true:=by
   unfold CU;simp only[z_b,z_d];exact⟨⟨⟨⟨⟨⟨⟨g1,ω⟩,ω⟩,ω⟩,ω⟩,ω⟩,hta⟩,hpa⟩
  have hho:Ci s = (DW s l).map λm=>(l,m):=by unfold Ci;rw[hth];dsimp only;rw[if_pos hhead]
  rw[hho];refine jla (l:=eSt s wv tv mv thv ov pv) (by exact z_n 13) rfl ?_;refine jbd (cs:=eHp s wv tv mv thv ov pv mb (SN)) rfl rfl (ja λhb=>?_);rw[show cl (.agg (eHp s wv tv mv thv ov pv mb (SN)).toArray) = eHp s wv tv mv thv ov pv mb (SN) from rfl];refine jc (A:=[(hb,C 99 (eHp s wv tv mv thv ov pv mb (SN)))]) (RY h hmb hm S ω tb hpa) ?_;intro r R4 A4 hR4 hq;cases hre:DW s l with
  | none=>
   rw[hre] at hq;obtain⟨rfl,rfl⟩:=hq;exact DI (B9 (A:=[]) (hR1.trans hR4) ⟨rfl,rfl⟩)
  | some met=>
   rw[hre] at hq;obtain⟨rfl,v2,A2,hs2,rfl⟩:=hq;refine CL ?_;refine Aw A2 (G:=[(hb,C 99 (eHp s wv tv mv thv ov pv mb v2))] ++ (b,C AQ (eSt s wv tv mv thv ov pv)) :: F) ?_;refine FG hs2 λR5 hR5 hi5=>?_
   refine BQ (b:=hb) λR6 hR6 hb6=>?_
   exact B9 (A:=[]) (hR1.trans (hR4.trans (hR5.trans hR6))) ⟨rfl,hb,mb,v2,rfl,o,hb6,hR6 _ _ (hR5 _ _ (hR4 _ _ hmb)),hm.le (hR4.trans (hR5.trans hR6)),hi5.le hR6⟩
end st
end Go.Lf
end
section
namespace Go.Proofs
def Tryz.lays189_ren:Go.Shelf.Ren:=⟨λ | 189=>112 | 125=>150 | 257=>149 | 128=>181 | 129=>182 | 294=>173 | 295=>174 | 296=>175 | 297=>176 | 298=>177 | 299=>178 | 216=>113 | 300=>179 | 301=>180 | 328=>211 | 329=>212 | 330=>213 | 331=>214 | 332=>215 | 215=>151 | 343=>260 | n=>n,λ | 28=>23 | 3=>3 | 46=>130 | 0=>0 | 51=>188 | 53=>191 | 4=>4 | 183=>196 | 182=>195 | 131=>96 | 5=>5 | 9=>9 | 218=>217 | 222=>208 | 228=>236 | 229=>56 | n=>n,λ | n=>n⟩
theorem Tryz.lays189:Go.Proofs.Lays.n189 Tryz.prog Tryz.lays189_ren:={
 mixed:=by kernel_rfl
 f125:=Tryz.func150.trans (congrArg some (by kernel_rfl))
 f128:=Tryz.func181.trans (congrArg some (by kernel_rfl))
 f129:=Tryz.func182.trans (congrArg some (by kernel_rfl))
 f189:=Tryz.func112.trans (congrArg some (by kernel_rfl))
 f215:=Tryz.func151.trans (congrArg some (by kernel_rfl))
 f216:=Tryz.func113.trans (congrArg some (by kernel_rfl))
 f257:=Tryz.func149.trans (congrArg some (by kernel_rfl))
 f294:=Tryz.func173.trans (congrArg some (by kernel_rfl))
 f295:=Tryz.func174.trans (congrArg some (by kernel_rfl))
 f296:=Tryz.func175.trans (congrArg some (by kernel_rfl))
 f297:=Tryz.func176.trans (congrArg some (by kernel_rfl))
 f298:=Tryz.func177.trans (congrArg some (by kernel_rfl))
 f299:=Tryz.func178.trans (congrArg some (by kernel_rfl))
 f300:=Tryz.func179.trans (congrArg some (by kernel_rfl))
 f301:=Tryz.func180.trans (congrArg some (by kernel_rfl))
 f328:=Tryz.func211.trans (congrArg some (by kernel_rfl))
 f329:=Tryz.func212.trans (congrArg some (by kernel_rfl))
 f330:=Tryz.func213.trans (congrArg some (by kernel_rfl))
 f331:=Tryz.func214.trans (congrArg some (by kernel_rfl))
 f332:=Tryz.func215.trans (congrArg some (by kernel_rfl))
 f343:=Tryz.func260.trans (congrArg some (by kernel_rfl))
 t0:=Tryz.underlying0
 a0:=Tryz.isAgg0
 z0:=Tryz.sizeOf0
 v0:=Tryz.zeroValue0
 t3:=Tryz.underlying3
 a3:=Tryz.isAgg3
 z3:=Tryz.sizeOf3
 v3:=Tryz.zeroValue3
 t4:=Tryz.underlying4
 a4:=Tryz.isAgg4
 z4:=Tryz.sizeOf4
 v4:=Tryz.zeroValue4
 t5:=Tryz.underlying5
 a5:=Tryz.isAgg5
 z5:=Tryz.sizeOf5
 v5:=Tryz.zeroValue5
 t9:=Tryz.underlying9
 a9:=Tryz.isAgg9
 z9:=Tryz.sizeOf9
 v9:=Tryz.zeroValue9
 t28:=Tryz.underlying23
 a28:=Tryz.isAgg23
 z28:=Tryz.sizeOf23
 v28:=Tryz.zeroValue23
 t46:=Tryz.underlying130
 a46:=Tryz.isAgg130
 z46:=Tryz.sizeOf130
 v46:=Tryz.zeroValue130
 t51:=Tryz.underlying188
 a51:=Tryz.isAgg188
 z51:=Tryz.sizeOf188
 v51:=Tryz.zeroValue188
 t53:=Tryz.underlying191
 a53:=Tryz.isAgg191
 z53:=Tryz.sizeOf191
 v53:=Tryz.zeroValue191
 t131:=Tryz.underlying96
 a131:=Tryz.isAgg96
 z131:=Tryz.sizeOf96
 v131:=Tryz.zeroValue96
 t182:=Tryz.underlying195
 a182:=Tryz.isAgg195
 z182:=Tryz.sizeOf195
 v182:=Tryz.zeroValue195
 t183:=Tryz.underlying196
 a183:=Tryz.isAgg196
 z183:=Tryz.sizeOf196
 v183:=Tryz.zeroValue196
 t218:=Tryz.underlying217
 a218:=Tryz.isAgg217
 z218:=Tryz.sizeOf217
 v218:=Tryz.zeroValue217
 t222:=Tryz.underlying208
 a222:=Tryz.isAgg208
 z222:=Tryz.sizeOf208
 v222:=Tryz.zeroValue208
 t228:=Tryz.underlying236
 a228:=Tryz.isAgg236
 z228:=Tryz.sizeOf236
 v228:=Tryz.zeroValue236
 t229:=Tryz.underlying56
 a229:=Tryz.isAgg56
 z229:=Tryz.sizeOf56
 v229:=Tryz.zeroValue56 }
end Go.Proofs
namespace Go.Lf
open Go Sm Go.Sort
theorem St.grow {h:DK} {R:RM} {D:Chs} (hs:St h R D) (os:Array Obj):St (h ++ os) R D:=by
 have key:∀b o,h[b]? = some o→(h ++ os)[b]? = some o:=λb o hb=>by
  have:=(Zx.1 hb).1;rw[Array.getElem?_append_left this];exact hb
 exact⟨λb o hb=>key b o (hs.rd b o hb),λb o hm=>⟨key b o (hs.at_ b o hm).1,(hs.at_ b o hm).2⟩,hs.nd⟩
def Jb (l:List Int):List Int:=l.mergeSort λx y=>decide (x≤y)
theorem I9 (l:List Int):(Jb l).length = l.length:=(List.mergeSort_perm l _).length_eq
theorem Wj {R:RM} {l:List Int} {b c:Nat} {sp:List Value} (hl:l.length < 1000000) :
  Fn P FH [S0 b l.length c] R [(b,C AX (l.map I ++ sp))] (λv R' A=>R' = R∧v = U∧A = [(b,C AX ((Jb l).map I ++ sp))]):=by
 intro F h hs w hw;subst hw;have hb:=(hs.at_ b (C AX (l.map I ++ sp)) σ).1;have hblk:b < w.heap.size:=(Zx.1 hb).1;have hH:Holds (Value.int .i64) w b 0 l.toArray:=λj hj=>by
  have hj' : j < l.length:=by simpa using hj
  refine⟨?_,by simp[World.frozen?,hb]⟩;rw[Z6];show w.cell? ⟨b,j,none⟩ = _;rw[Qm];unfold hc;rw[hb];show ((l.map I ++ sp).toArray)[j]? = _;rw[List.getElem?_toArray,Zg (by simpa using hj'),ZQ,Yi hj'];simp[hj']
 refine (Go.Proofs.Any.slices_Sort_int Go.Proofs.Tryz.lays189 b 0 c l w hH hblk ω).mono ?_;rintro e w' ⟨rfl,n,os,rfl⟩;refine⟨_,rfl,⟨rfl,rfl⟩,R,[(b,C AX ((Jb l).map I ++ sp))],RM.le.refl R,?_,rfl,rfl,rfl⟩;have hmod:(w.heap.modify b (onCells (putCells (Value.int .i64) 0 (Jb l).toArray)))[b]? = some (C AX ((Jb l).map I ++ sp)):=by
  rw[aF,if_pos rfl,hb];simp only[aY,onCells];congr 2;apply Array.toList_inj.1;apply List.ext_getElem?;intro k;unfold putCells;rw[Zh,Array.getElem?_mapIdx,List.getElem?_toArray];by_cases hk:k < l.length
  ·have hk2:k < (Jb l).length:=by rw[I9];exact hk
   rw[Zg (by simpa using hk),Zg (by simpa using hk2),ZQ,ZQ,Yi hk,Yi hk2];simp[hk2]
  ·have hk2:¬ k < (Jb l).length:=by rw[I9];exact hk
   rw[Zy (by simpa using hk),Zy (by simpa using hk2),Z1,Z1,I9];cases sp[k - l.length]? with
   | none=>rfl
   | some x=>simp[hk2]
 have h2:St (w.heap.modify b (onCells (putCells (Value.int .i64) 0 (Jb l).toArray))) R ([(b,C AX ((Jb l).map I ++ sp))] ++ F):=
  hs.turn (b:=b) (o:=C AX (l.map I ++ sp)) hmod λb' hne=>by rw[aF,if_neg (λe=>hne e.symm)]
 exact h2.grow os
theorem TF:∀{a b:List Int},a.Pairwise (· < ·)→b.Pairwise (· < ·)→(∀x,x∈a↔x∈b)→a = b
 | [],[],_,_,_=>rfl
 | [],y :: b,_,_,h=>absurd ((h y).2 (.head _)) σ
 | x :: a,[],_,_,h=>absurd ((h x).1 (.head _)) σ
 | x :: a,y :: b,ha,hb,h=>by
  rw[aL] at ha hb;have h1:x = y:=by
   rcases Yx.1 ((h x).1 (.head _)) with e | e
   ·exact e
   ·rcases Yx.1 ((h y).2 (.head _)) with e2 | e2
    ·exact e2.symm
    ·have:=hb.1 x e;have:=ha.1 y e2;omega
  subst h1;rw[TF ha.2 hb.2 λz=>?_];have hz:=h z;simp only[Yx] at hz;constructor
  ·intro hm;rcases hz.1 (.inr hm) with e | e
   ·subst e;have:=ha.1 z hm;omega
   ·exact e
  ·intro hm;rcases hz.2 (.inr hm) with e | e
   ·subst e;have:=hb.1 z hm;omega
   ·exact e
theorem VW {l:List Int} (h:l.Nodup):Jb l = Aq l:=by
 obtain⟨h1,h2⟩:=Cx h;refine TF ?_ h1 λx=>?_
 ·have p:=List.mergeSort_perm l (λx y=>decide (x≤y));have s:(Jb l).Pairwise λx y=>decide (x≤y) = true:=List.pairwise_mergeSort (λa b c h1 h2=>by simp at *;omega) (λa b=>by simp;omega) l
  have nd:(Jb l).Nodup:=p.nodup_iff.2 h;exact (s.and nd).imp λ⟨a,b⟩=>by have:=z_f a;omega
 ·rw[h2];exact (List.mergeSort_perm l _).mem_iff
end Go.Lf
end
section
namespace Go.Lf
open Go Sm
section rules
variable {R:RM} {D:Chs} {k:Value→M}
theorem X0 {a b:Nat} {x y:Value} (hr:∀w,(Go.convert a b x).run P w = .ok y w) (H:J R D (k y)):J R D (X P (Go.convert a b x) k):=by
 intro h hs w hw;rw[hr];subst hw;exact⟨BK.refl _,H _ hs⟩
theorem jix {s:ByteArray} {i n:Int} {kd:IntKind} (h0:0≤i∧i.toNat < s.size) (hn:((s[i.toNat]'h0.2).toNat:Int) = n) (H:J R D (k (.int .u8 n))):J R D (IX (.string s) (.int kd i) k):=λh hs=>⟨h0,by rw[hn];exact H h hs⟩
end rules
set_option maxRecDepth 4000 in
theorem SE:Pu F7 [.int .u64 0] (I 0):=by
 intro R;refine IQ λF=>?_
 refine z_1 ?_;refine C9 [.int .u64 0,I 0] (λK1 h1=>?_) (λe he=>?_)
 ·exact h1
 refine z_V ?_;refine C9 [.int .u64 0,I 0] (λK1 h1=>?_) (λe he=>?_)
 ·exact h1
 refine z_V ?_;refine C9 [.int .u64 0,I 0] (λK1 h1=>?_) (λe he=>?_)
 ·exact h1
 refine z_V ?_;refine @X0 _ _ _ 191 5 _ (.int .u8 0) (λw=>by kernel_rfl) ?_;refine jix (n:=0) ⟨δ,δ⟩ δ ?_;refine @X0 _ _ _ 5 3 _ (I 0) (λw=>by kernel_rfl) ?_;refine Cr ⟨δ,δ⟩ ?_;exact B9 (A:=[]) (RM.le.refl R) rfl
theorem VV:Pu G7 [.int .u64 0] (I 0):=by
 intro R;refine JY λF=>?_
 refine z_1 ?_;exact CL (jp SE (B9 (A:=[]) (RM.le.refl R) rfl))
theorem V0:Pu DJ [SN,I 0,I 0] U:=by
 intro R;refine EJ λF=>?_
 refine z_3 ?_;refine Cr ⟨δ,δ⟩ ?_;refine jlp (λm vs R' D'=>R' = R∧D' = [] ++ F∧vs = [SN,I 0,I 0,I 1]) (n:=0) ⟨rfl,rfl,rfl⟩ ?_;rintro m e R1 D1 K ⟨hR,hD,he⟩ _;subst hR;refine z_W ?_;exact jlt (CL (B9 (A:=[]) (RM.le.refl _) rfl))
theorem Vb:Pu Dt [SN,I 0,I 0,I 0] U:=by
 intro R;refine FX λF=>?_
 refine z_4 ?_;refine jlp (λm vs R' D'=>R' = R∧D' = [] ++ F∧∃x y,vs = [SN,I 0,I 0,I 0,x,y]) (n:=0) ⟨rfl,rfl,_,_,rfl⟩ ?_;rintro m e R1 D1 K ⟨hR,hD,x,y,he⟩ _;subst hR;refine z_W ?_;refine AR (λvs R' D'=>False) (λK2 hK2=>?_) (λe R' D' h=>h.elim);exact Pk ⟨δ,δ⟩ (jle (DI (jp V0 (B9 (A:=[]) (RM.le.refl _) rfl))))
theorem Td:Pu FH [SN] U:=by
 intro R;refine Ly λF=>?_
 refine z_1 ?_;refine jln ?_;refine @X0 _ _ _ 3 130 _ (.int .u64 0) (λw=>by kernel_rfl) ?_;exact jp VV (jp Vb (B9 (A:=[]) (RM.le.refl R) rfl))
end Go.Lf
end
section
namespace Sm
open Go.Lf
theorem Ng {l:List AU} (S:Stl l):∀{n i:Nat} {out r:List Int},Df l out→BW l n i out = some r→Df l r
 | 0,i,out,r,M,h=>by cases h
 | n + 1,i,out,r,M,h=>by
  by_cases c:i < out.length
  ·obtain⟨t,ht⟩:=M.th _ (Yq c);rw[DF c ht] at h;cases hn:Au l t.refs out with
   | none=>rw[hn] at h;cases h
   | some o=>rw[hn] at h;exact Ng S (M.all S hn) h
  ·rw[DP ω] at h;cases h;exact M
structure HpF (s:Al) (l:List AU) (met:List Int):Prop where
 ths:Ee s = some l
 head:CU s l = true
 re:DW s l = some met
 S:Stl l
 M:Df l met
 asc:l.Pairwise (λx y=>x.at_ + AF x.sh≤y.at_)
theorem EL {s:Al} {l:List AU} {met:List Int} (h:Ci s = some (l,met)):HpF s l met:=by
 unfold Ci at h;cases ht:Ee s with
 | none=>rw[ht] at h;cases h
 | some l'=>
  rw[ht] at h;dsimp only at h;split at h;rotate_left
  ·cases h
  rename_i hh;obtain⟨m,hm,e⟩:=Option.map_eq_some_iff.1 h;cases e;have h2:=hh;unfold CU at h2;simp only[z_b] at h2;have S:=PC ht h2.1.1.1.1.1.1.1;have M:Df l met:=by
   rw[EF h2.2] at hm;cases hn:Au l (Da s) [] with
   | none=>rw[hn] at hm;cases hm
   | some out=>rw[hn] at hm;exact Ng S (Df.nil.all S hn) hm
  refine⟨ht,hh,hm,S,M,?_⟩;have h1:=ht;unfold Ee at h1;split at h1
  ·exact (EZ h1).1
  ·cases h1
end Sm
namespace Go.Lf
open Go Sm
section st
variable {R:RM} {s:Sm.Al} {wv tv mv thv ov pv:Value} {l:List AU} {met:List Int}
theorem Tb {hb mb:Nat} {v:Value} (hv:HpV R s wv tv mv thv ov pv l met hb mb v) (nd:met.Nodup) (hl:met.length < 1000000):Fn P H7 [Pt hb] R [] (λv R' A=>R' = R∧SO (Aq met) v A):=by
 refine Le λF=>?_
 refine z_1 ?_;obtain⟨o,h1,h2,h3,h4⟩:=hv;refine jnc (jfo (jlr (v:=v) h1 rfl ?_));refine jc (A:=[]) (Fx h4 hl) ?_;rintro x R1 A1 _ ⟨hR,so,_⟩;subst hR;rcases so with ⟨rfl,rfl,rfl⟩ | ⟨b,c,sp,hc,hsp,rfl,rfl⟩
 ·exact jp Td (B9 (A:=[]) (RM.le.refl _) ⟨rfl,.inl ⟨rfl,rfl,rfl⟩⟩)
 ·refine jc (A:=[(b,C AX (met.map I ++ sp))]) (Wj (l:=met) (c:=c) hl) ?_;rintro v2 R2 A2 _ ⟨hR,rfl,rfl⟩;subst hR;have e:=VW nd;have e2:=I9 met;rw[e] at e2 ⊢;refine B9 (A:=[(b,C AX ((Aq met).map I ++ sp))]) (RM.le.refl _) ⟨rfl,.inr ⟨b,c,sp,ω,ω,by rw[e2],rfl⟩⟩
theorem WH (w:World) (x y:Operand) (hb:Nat):(do eqGuard .eql 86 x y (Pt hb) (.pointer none);binOp .eql 86 (Pt hb) (.pointer none):Sem Value).run P w = .ok (.bool false) w:=by kernel_rfl
theorem WE (w:World) (x y:Operand):(do eqGuard .eql 86 x y (.pointer none) (.pointer none);binOp .eql 86 (.pointer none) (.pointer none):Sem Value).run P w = .ok (.bool true) w:=by kernel_rfl
theorem jxr {R:RM} {D:Chs} {k:Value→M} {s:Sem Value} {y:Value} (hr:∀w,s.run P w = .ok y w) (H:J R D (k y)):J R D (X P s k):=by
 intro h hs w hw;rw[hr];subst hw;exact⟨BK.refl _,H _ hs⟩
end st
end Go.Lf
end
section
namespace Go.Lf
open Go Sm
section rules
variable {R:RM} {D:Chs} {k:Value→M}
theorem SY {v:Value} {l:List AU} {i:Nat} (h:Tgs R v l) (hi:i < l.length) (H:J R D (k (I (l[i]).at_))):J R D (IA 6 v (I (i:Int)) λp=>FO 0 p λq=>L1 q k):=
 jtg h hi λ_ _ _ _ _ _ _ _ hb _ hrow=>jfo (jlr hb (CB hrow (f:=0) rfl) H)
theorem Uz {v:Value} {l:List AU} {i:Nat} (h:Tgs R v l) (hi:i < l.length) (H:J R D (k (I (l[i]).moved))):J R D (IA 6 v (I (i:Int)) λp=>FO 1 p λq=>L1 q k):=
 jtg h hi λ_ _ _ _ _ _ _ _ hb _ hrow=>jfo (jlr hb (CB hrow (f:=1) rfl) H)
theorem Xl {v:Value} {l:List AU} {i:Nat} (h:Tgs R v l) (hi:i < l.length) (H:J R D (k (.agg #[I (l[i]).sh.refs,I (l[i]).sh.nums]))):J R D (IA 6 v (I (i:Int)) λp=>FO 2 p λq=>LA 2 q k):=
 jtg h hi λ_ _ _ cs _ _ _ _ hb ho hrow=>jfo (F0 (l:=[I (l[i]).sh.refs,I (l[i]).sh.nums]) hb ω (by
  have e:=congrArg (λz=>(z.drop 2).take 2) hrow
  simp only[aU,aj,ah] at e
  exact e) H)
theorem jrk {v:Value} {t:List Rg} {r:Nat} (h:RgZ R v t) (hr:r < t.length) (H:J R D (k (I (t[r]).kind))):J R D (IA 5 v (I (r:Int)) λp=>FO 0 p λq=>L1 q k):=by
 obtain⟨b,c,sp,rfl,hb,_⟩:=h;exact C5 hr (jfo (jlr hb (by rw[Z6];exact C6 (f:=0) hr rfl) H))
theorem Gs {l:List AU} {a:Int} (h:BL l a = none):Ml l a = -1:=by
 unfold Ml;have:l.findIdx? (λt=>t.at_ == a) = none:=by
  rw[List.findIdx?_eq_none_iff];unfold BL at h;rw[List.find?_eq_none] at h;intro x hx;simpa using h x hx
 rw[this]
theorem U8 {lv:List Nat} {B:(List Value→M)→M} {K:Env→M} (pre:List Value) (p:Prop) (H1:∀K' : List Value→M,(p→J R D (K' pre))→J R D (B K')) (H2:∀e,p→lv.map e = pre→J R D (K e)):J R D (CUT lv B K):=
 AR (λvs R' D'=>p∧R' = R∧D' = D∧vs = pre) (λK' h=>H1 K' λhp=>h _ _ _ ⟨hp,rfl,rfl,rfl⟩) λe R' D' ⟨hp,h1,h2,h3⟩=>by
  subst h1 h2;exact H2 e hp h3
theorem W0 {lv:List Nat} {B:(List Value→M)→Env→M} (pre:List Value) (n:Nat) (p:Nat→Prop) (h0:p 0)
  (H:∀(i:Nat) K e,i≤n→p i→(i < n→p (i + 1)→J R D (K (pre ++ [I ((i:Int) + 1)])))→lv.map e = pre ++ [I i]→J R D (B K e)):J R D (LP lv B (pre ++ [I 0])):=by
 refine jlp (λm vs R' D'=>R' = R∧D' = D∧∃i:Nat,i≤n∧m = n - i∧p i∧vs = pre ++ [I i]) (n:=n) ⟨rfl,rfl,0,ω,ω,h0,rfl⟩ ?_;rintro m e R1 D1 K ⟨hR,hD,i,hi,hm,hp,he⟩ hK;subst hR hD;exact H i K e hi hp (λh hp'=>hK (n - (i + 1)) _ _ _ ω ⟨rfl,rfl,i + 1,ω,rfl,hp',rfl⟩) he
end rules
end Go.Lf
end
section
namespace Sm
open Go.Lf
theorem Lh {s:Al} {l:List AU} {t:AU} (ht:t∈l) (h:BL l t.moved = none) (nd:(l.map AU.at_).Nodup):CD s l t = false:=by
 unfold CD;rw[h,Bool.or_false,beq_eq_false_iff_ne];intro e;rw[e,Dn nd ht] at h;cases h
theorem Lz {s:Al} {l:List AU} {t n:AU} (ht:t∈l) (h:BL l t.moved = some n) (nd:(l.map AU.at_).Nodup):CD s l t = (!(n.moved != n.at_) && (n.sh == t.sh) && (t.moved == t.at_ || (!Di s n.at_ && Di s t.at_))):=by
 unfold CD;by_cases c:t.moved = t.at_
 ·have:n = t:=by rw[c,Dn nd ht] at h;exact (Zc h).symm
  subst this;rw[c];simp
 ·rw[h];dsimp only;unfold bne;rw[beq_eq_false_iff_ne.2 c];cases n.sh == t.sh<;>cases n.moved == n.at_<;>cases Di s n.at_<;>cases Di s t.at_<;>rfl
end Sm
namespace Sm
open Go.Lf
theorem VK (had:List Int) (a:Int):(CZ had a).length≤had.length + 1:=by
 unfold CZ;split
 ·omega
 ·simp
theorem Eh {l:List AU}:∀{xs acc r:List Int},Au l xs acc = some r→r.length≤acc.length + xs.length
 | [],acc,r,h=>by cases h;simp
 | x :: xs,acc,r,h=>by
  rw[Ca] at h;cases hn:now l x with
  | none=>rw[hn] at h;cases h
  | some y=>
   rw[hn] at h;have h1:=Eh (xs:=xs) h;have h2:=VK acc y;rw[Yt];omega
theorem Rp {s:Al} {l:List AU} (h:Ee s = some l) (hn:Au l (Da s) [] = none):(Ci s).isSome = false:=by
 unfold Ci;rw[h];dsimp only;split
 ·rename_i hh;have h2:=hh;unfold CU at h2;simp only[z_b] at h2;rw[EF h2.2,hn];rfl
 ·rfl
end Sm
namespace Go.Lf
open Go Sm
section st
variable {R:RM} {s:Sm.Al} {wv tv mv thv ov pv:Value}
theorem Ia {l:List AU} (h:BJ s = some l) {t:AU} (ht:t∈l) (hn:s.A0.length≤12):∃r:Nat,AN t.at_ = r∧∃hr:r < s.A0.length,Di s t.at_ = ((s.A0[r]).kind == 4):=by
 unfold BJ at h;obtain⟨_,h2⟩:=EZ h;obtain⟨h3,h4,h5,k,hk,h6,h7,h8⟩:=h2 t ht;rw[aD] at hk;have e:AN t.at_ = (1 + k:Nat):=by unfold AN;rw[if_neg ω];omega
 refine⟨1 + k,e,ω,?_⟩;unfold Di;rw[e,E5 (by omega:1 + k < s.A0.length)];rw[decide_eq_true (by omega:(0:Int)≤(1 + k:Nat)),decide_eq_true (by omega:((1 + k:Nat):Int) < s.A0.length)];rfl
set_option maxHeartbeats 4000000 in
set_option maxRecDepth 4000 in
theorem Sx (h:SF R s wv tv mv thv ov pv):Ro J9 [.agg (eSt s wv tv mv thv ov pv).toArray] (.bool (Ci s).isSome) R []:=by
 refine Nb λF=>?_
 refine z_1 ?_;refine ja λb=>?_
 rw[show cl (.agg (eSt s wv tv mv thv ov pv).toArray) = eSt s wv tv mv thv ov pv from rfl];obtain⟨tb,tc,sp,rfl,hb,htc⟩:=h.z;obtain⟨wa,wc,rfl⟩:=h.c.w.sl;obtain⟨ma,mc,rfl⟩:=h.c.m.sl;have t0:=h.b.t0;have t1:=h.b.t1;have wl:=h.b.wl;have n1:=h.b.n1;have fin:∀{R' : RM} {D:Chs} {x:Bool},R.le R'→(Ci s).isSome = x→[Sf D F]→J R' D (Ey R F (λv' _ A=>v' = .bool (Ci s).isSome∧A = []) (.bool x)):=λhR hx _=>by
  rw[← hx];exact B9 (A:=[]) hR ⟨rfl,rfl⟩
 refine jor [Pt b] ((!BM s.AA.length) || (!BT s.A0)) (λK' hK'=>?_) (λe c u ho he=>?_)
 ·refine jl (v:=.slice wa s.AA.length wc) rfl (jp (IT wa s.AA.length wc ω) (BR (λh1=>?_) (λh1=>?_)))
  ·refine jl (v:=S0 tb s.A0.length tc) rfl (YF hb (λR' _=>Ej (t:=s.A0) (sp:=sp) ω) (hK' _ _ _ (h1▸Ah) (by rw[h1,Yl])))
  ·exact hK' _ _ _ (h1▸Am) (by rw[h1,Yo])
 refine z_V ?_;refine jor [Pt b] ((!BM s.AA.length || !BT s.A0) || ((s.A0.length:Int) * 16 != (s.AA.length:Int))) (λK' hK'=>?_) (λe c u ho he=>?_)
 ·rw[ho];refine BR (λh1=>?_) (λh1=>?_)
  ·refine jl (v:=S0 tb s.A0.length tc) rfl (jln (GX ⟨ω,ω⟩ (jl (v:=.slice wa s.AA.length wc) rfl (jln (jne (hK' _ _ _ (h1▸Ah) (by rw[h1,Yl])))))))
  ·exact hK' _ _ _ (h1▸Am) (by rw[h1,Yo])
 refine z_V ?_;refine jor [Pt b] ((!BM s.AA.length || !BT s.A0 || ((s.A0.length:Int) * 16 != (s.AA.length:Int))) || ((s.AK.length:Int) != (s.AA.length:Int))) (λK' hK'=>?_) (λe c u ho he=>?_)
 ·rw[ho];refine BR (λh1=>?_) (λh1=>?_)
  ·refine jl (v:=.slice ma s.AK.length mc) rfl (jln (jl (v:=.slice wa s.AA.length wc) rfl (jln (jne (hK' _ _ _ (h1▸Ah) (by rw[h1,Yl]))))))
  ·exact hK' _ _ _ (h1▸Am) (by rw[h1,Yo])
 refine z_V ?_;rw[ho];have hfr:(!BM s.AA.length || !BT s.A0 || ((s.A0.length:Int) * 16 != (s.AA.length:Int)) || ((s.AK.length:Int) != (s.AA.length:Int))) = !Eb s:=by
  have e1:((s.A0.length:Int) * 16 != (s.AA.length:Int)) = !(s.A0.length == s.AA.length / 16):=by
   rw[Zb,Z9,bne_iff_ne,beq_eq_false_iff_ne];omega
  have e2:((s.AK.length:Int) != (s.AA.length:Int)) = !(s.AK.length == s.AA.length):=by
   rw[Zb,Z9,bne_iff_ne,beq_eq_false_iff_ne];omega
  rw[e1,e2];unfold Eb;cases BM s.AA.length<;>cases BT s.A0<;>cases s.A0.length == s.AA.length / 16<;>cases s.AK.length == s.AA.length<;>rfl
 rw[hfr];refine jif (λh0=>?_) (λh0=>?_)
 ·have h0:Eb s = false:=by simpa using h0
  refine fin (RM.le.refl R) ?_;unfold Ci Ee;rw[if_neg (by rw[h0];decide)];rfl
 have hfo:Eb s = true:=by simpa using h0
 have hth0:Ee s = BJ s:=by unfold Ee;rw[if_pos hfo]
 clear hfr h0 ho he;refine jor [Pt b] ((decide (s.Ad < 0)) || (decide (s.Ad > 3))) (λK' hK'=>?_) (λe c u ho he=>?_)
 ·refine jl (v:=I s.Ad) rfl (jlt (BR (λh1=>?_) (λh1=>?_)))
  ·refine jl (v:=I s.Ad) rfl (jgr (hK' _ _ _ (h1▸Ah) (by rw[h1,Yl])))
  ·exact hK' _ _ _ (h1▸Am) (by rw[h1,Yo])
 refine z_V ?_;refine jor [Pt b] ((decide (s.Ad < 0) || decide (s.Ad > 3)) || (decide ((s.A6.length:Int) < 1))) (λK' hK'=>?_) (λe c u ho he=>?_)
 ·rw[ho];refine BR (λh1=>?_) (λh1=>?_)
  ·refine jl (v:=thv) rfl (C4 h.c.th.sl (jlt (hK' _ _ _ (h1▸Ah) (by rw[h1,Yl]))))
  ·exact hK' _ _ _ (h1▸Am) (by rw[h1,Yo])
 refine z_V ?_;refine jor [Pt b] ((decide (s.Ad < 0) || decide (s.Ad > 3) || decide ((s.A6.length:Int) < 1)) || (decide ((s.A6.length:Int) > 3))) (λK' hK'=>?_) (λe c u ho he=>?_)
 ·rw[ho];refine BR (λh1=>?_) (λh1=>?_)
  ·refine jl (v:=thv) rfl (C4 h.c.th.sl (jgr (hK' _ _ _ (h1▸Ah) (by rw[h1,Yl]))))
  ·exact hK' _ _ _ (h1▸Am) (by rw[h1,Yo])
 refine z_V ?_;rw[ho];have hno:∀l,BJ s = some l→CU s l = false→(Ci s).isSome = false:=λl hl hh=>by
  rw[KI (hth0.trans hl) hh];rfl
 refine jif (λh0=>?_) (λh0=>?_)
 ·refine fin (RM.le.refl R) ?_;cases hs:BJ s with
  | none=>unfold Ci;rw[hth0,hs];rfl
  | some l=>
   refine hno l hs ?_;rw[Zt];intro hh;unfold CU at hh;simp only[z_b,z_d] at hh;simp only[ZD,z_d] at h0;omega
 simp only[Z4,decide_eq_false_iff_not] at h0;obtain⟨⟨⟨p0,p1⟩,p2⟩,p3⟩:=h0;clear ho he;refine jla (l:=eSt s (.slice wa s.AA.length wc) (S0 tb s.A0.length tc) (.slice ma s.AK.length mc) thv ov pv) (by exact z_n 13) rfl ?_;refine jc (A:=[]) (LL h.c ω ω) ?_;rintro _ R1 _ hR1 ⟨rfl,hq⟩;refine NL ?_;cases hs:BJ s with
 | none=>
  rw[hs] at hq;obtain rfl:_ = Value.tuple #[SN,.bool false]:=hq;refine jex rfl (jex rfl (DI (fin hR1 ?_)));unfold Ci;rw[hth0,hs];rfl
 | some l=>
  rw[hs] at hq;obtain⟨lv,htg,rfl⟩:=hq;refine jex rfl (jex rfl (CL ?_));have h:=h.le hR1;have hno:=hno l hs;have hu:=hs;unfold BJ at hu;obtain⟨as1,as2⟩:=EZ hu;have nd:=K0 as1 λx hx=>(as2 x hx).2.1
  have tbb:=Kr ω hu;rw[aD] at tbb;obtain⟨tbl,hll⟩:=tbb;obtain⟨la,lc,rfl⟩:=htg.sl;refine U8 [Pt b,.slice la l.length lc] (CY s l = true) (λK1 h1=>?_) (λe ES he=>?_)
  ·refine U8 [Pt b,.slice la l.length lc] (CY s l = true) (λK2 h2=>?_) (λe hst he=>?_)
   ·refine W0 [Pt b,.slice la l.length lc] l.length (λi=>(l.take i).all (CD s l) = true) rfl (λi K e hi hp hK he=>?_);refine z_V ?_;refine jln (jlt (jif (λhc=>?_) (λhc=>?_)));rotate_left
    ·have hc:=z_g hc;rw[Ys ω] at hp;exact h2 hp
    have hc:i < l.length:=by have:=z_f hc;omega
    have hmem:=Yq hc;have bad:CD s l l[i] = false→CU s l = false:=λhh=>by
     rw[Zt];intro g;unfold CU CY at g;simp only[z_b] at g;have:=ZC.1 g.1.1.1.1.1.1.1 _ hmem;rw[hh] at this;cases this
    have good:CD s l l[i] = true→(l.take (i + 1)).all (CD s l) = true:=λhh=>by
     rw[Yp hc,List.all_append,hp];simpa using hh
    refine Uz htg hc (jrp (E9 (l[i]).moved htg ω) ?_);cases hf:BL l (l[i]).moved with
    | none=>
     rw[Gs hf];refine C9 [Pt b,.slice la l.length lc,I i,I (-1),.bool true] (λK' hK'=>?_) (λe he=>?_)
     ·refine C9 [Pt b,.slice la l.length lc,I i,I (-1),.bool true,U] (λK' hK'=>?_) (λe he=>?_)
      ·exact jlt (jtf hK')
      refine z_V ?_;refine C9 [Pt b,.slice la l.length lc,I i,I (-1),.bool true,U,U] (λK' hK'=>?_) (λe he=>?_)
      ·exact jtf hK'
      refine z_V ?_;exact jtf hK'
     refine z_V ?_;exact DI (fin hR1 (hno (bad (Lh hmem hf nd))))
    | some n=>
     obtain⟨k,hk,hfk,hn⟩:=Ed hf;subst hn;rw[hfk];have hT:=Lz (s:=s) hmem hf nd;cases c1:((l[k]).moved != (l[k]).at_) with
     | true=>
      refine C9 [Pt b,.slice la l.length lc,I i,I k,.bool true] (λK' hK'=>?_) (λe he=>?_)
      ·refine C9 [Pt b,.slice la l.length lc,I i,I k,.bool false,.bool true] (λK' hK'=>?_) (λe he=>?_)
       ·refine jlt ?_;rw[show decide ((k:Int) < 0) = false from decide_eq_false ω];refine jff (Uz htg hk (SY htg hk (jne ?_)));rw[c1];exact hK'
       refine z_V ?_;refine C9 [Pt b,.slice la l.length lc,I i,I k,.bool true,U,U] (λK' hK'=>?_) (λe he=>?_)
       ·exact jtf hK'
       refine z_V ?_;exact jtf hK'
      refine z_V ?_;exact DI (fin hR1 (hno (bad (by rw[hT,c1];rfl))))
     | false=>
      refine C9 [Pt b,.slice la l.length lc,I i,I k,.bool (!((l[k]).sh == (l[i]).sh))] (λK' hK'=>?_) (λe he=>?_)
      ·refine C9 [Pt b,.slice la l.length lc,I i,I k,.bool false,.bool false] (λK' hK'=>?_) (λe he=>?_)
       ·refine jlt ?_;rw[show decide ((k:Int) < 0) = false from decide_eq_false ω];refine jff (Uz htg hk (SY htg hk (jne ?_)));rw[c1];exact hK'
       refine z_V ?_;refine C9 [Pt b,.slice la l.length lc,I i,I k,.bool false,.agg #[I (l[k]).sh.refs,I (l[k]).sh.nums],.agg #[I (l[i]).sh.refs,I (l[i]).sh.nums]] (λK' hK'=>?_) (λe he=>?_)
       ·exact jff (Xl htg hk (Xl htg hc hK'))
       refine z_V ?_;exact jff (@WW (l[k]).sh (l[i]).sh _ _ _ _ _ hK')
      refine z_V ?_;cases c2:((l[k]).sh == (l[i]).sh) with
      | false=>exact DI (fin hR1 (hno (bad (by rw[hT,c1,c2];rfl))))
      | true=>
       refine CL ?_;rw[c1,c2] at hT;have hki:k = i↔(l[i]).moved = (l[i]).at_:=by
        have hka:=(Bh hf).2;constructor
        ·rintro rfl;exact hka.symm
        ·intro e;rw[e,Dn nd hmem] at hf;have hf:=Zc hf;have a1:(l.map AU.at_)[k]? = some (l[k]).at_:=by rw[ZQ,Yi hk];rfl
         have a2:(l.map AU.at_)[i]? = some (l[k]).at_:=by rw[ZQ,Yi hc,← hf];rfl
         exact (List.getElem?_inj (by simpa using hk) nd).1 (a1.trans a2.symm)
       by_cases c3:k = i
       ·have hbe:((k:Int) != (i:Int)) = false:=by rw[c3];simp
        have hTt:CD s l l[i] = true:=by rw[hT,beq_iff_eq.2 (hki.1 c3)];rfl
        refine C9 [Pt b,.slice la l.length lc,I i,.bool false] (λK' hK'=>?_) (λe he=>?_)
        ·refine C9 [Pt b,.slice la l.length lc,I i,I k,.bool false,U,U,U] (λK' hK'=>?_) (λe he=>?_)
         ·refine jne ?_;rw[hbe];exact jft hK'
         refine z_V ?_;refine jft ?_;refine C9 [Pt b,.slice la l.length lc,I i,.bool false,U,U,U,U,U,U] (λK' hK'=>?_) (λe he=>?_)
         ·exact jft hK'
         refine z_V ?_;refine Af (jft jev) (jgu ?_);refine C9 [Pt b,.slice la l.length lc,I i,.bool false,U,U,U,U] (λK' hK'=>?_) (λe he=>?_)
         ·exact jgu hK'
         refine z_V ?_;refine C9 [Pt b,.slice la l.length lc,I i,.bool false,U,U,U,U] (λK' hK'=>?_) (λe he=>?_)
         ·exact jft hK'
         refine z_V ?_;exact Af (jgu jev) hK'
        refine z_V ?_;exact CL (jad (hK hc (good hTt)))
       ·have hbe:((k:Int) != (i:Int)) = true:=by simp;omega
        have hme:((l[i]).moved == (l[i]).at_) = false:=beq_eq_false_iff_ne.2 λe=>c3 (hki.2 e)
        rw[hme] at hT;obtain⟨r1,e1,hr1,f1⟩:=Ia hs hmem ω;obtain⟨r2,e2,hr2,f2⟩:=Ia hs (Yq hk) ω;refine C9 [Pt b,.slice la l.length lc,I i,.bool (!CD s l l[i])] (λK' hK'=>?_) (λe he=>?_)
        ·refine C9 [Pt b,.slice la l.length lc,I i,I k,.bool true,.pointer (some ⟨b,0 + 1,none⟩),S0 tb s.A0.length tc,I (l[i]).at_] (λK' hK'=>?_) (λe he=>?_)
         ·refine jne ?_;rw[hbe];exact jtt (jfo (jl (v:=S0 tb s.A0.length tc) rfl (SY htg hc hK')))
         refine z_V ?_;refine jtt (jp (CT _ ω) ?_);rw[e1];cases c4:((s.A0[r1]).kind == 4) with
         | false=>
          refine C9 [Pt b,.slice la l.length lc,I i,.bool true,.pointer (some ⟨b,0 + 1,none⟩),S0 tb s.A0.length tc,.bool true,U,U,U] (λK' hK'=>?_) (λe he=>?_)
          ·refine jtt (jrk h.z hr1 (jne ?_));rw[show ((s.A0[r1]).kind != 4) = true by unfold bne;rw[c4];rfl];exact jtf hK'
          refine z_V ?_;refine Af (jtt (jl (v:=S0 tb s.A0.length tc) rfl jev)) (jtf ?_);refine C9 [Pt b,.slice la l.length lc,I i,.bool true,.bool true,U,U,U] (λK' hK'=>?_) (λe he=>?_)
          ·exact jtf hK'
          refine z_V ?_;refine C9 [Pt b,.slice la l.length lc,I i,.bool true,.bool true,U,U,.bool true] (λK' hK'=>?_) (λe he=>?_)
          ·exact jtt hK'
          refine z_V ?_;refine Af (jtf jev) ?_;rw[hT,f1,c4,Bool.and_false] at hK';exact hK'
         | true=>
          refine C9 [Pt b,.slice la l.length lc,I i,.bool true,.pointer (some ⟨b,0 + 1,none⟩),S0 tb s.A0.length tc,.bool false,.pointer (some ⟨b,0 + 1,none⟩),S0 tb s.A0.length tc,I (l[k]).at_] (λK' hK'=>?_) (λe he=>?_)
          ·refine jtt (jrk h.z hr1 (jne ?_));rw[show ((s.A0[r1]).kind != 4) = false by unfold bne;rw[c4];rfl];exact jff (jfo (jl (v:=S0 tb s.A0.length tc) rfl (SY htg hk hK')))
          refine z_V ?_;refine Af (jtt (jl (v:=S0 tb s.A0.length tc) rfl jev)) (jff (jp (CT _ ω) ?_));rw[e2];refine C9 [Pt b,.slice la l.length lc,I i,.bool true,.bool false,.pointer (some ⟨b,0 + 1,none⟩),S0 tb s.A0.length tc,.bool ((s.A0[r2]).kind == 4)] (λK' hK'=>?_) (λe he=>?_)
          ·exact jff (jrk h.z hr2 (jeq hK'))
          refine z_V ?_;refine C9 [Pt b,.slice la l.length lc,I i,.bool true,.bool false,.pointer (some ⟨b,0 + 1,none⟩),S0 tb s.A0.length tc,.bool ((s.A0[r2]).kind == 4)] (λK' hK'=>?_) (λe he=>?_)
          ·exact jtt hK'
          refine z_V ?_;refine Af (jff (jl (v:=S0 tb s.A0.length tc) rfl jev)) ?_;rw[hT,f1,c4,f2] at hK';cases c5:((s.A0[r2]).kind == 4)<;>(rw[c5] at hK';exact hK')
        refine z_V ?_;refine jif (λg=>?_) (λg=>?_)
        ·exact fin hR1 (hno (bad (by simpa using g)))
        ·exact jad (hK hc (good (by simpa using g)))
   ·refine z_V ?_;exact h1 hst
  refine z_V ?_;have S:=PC (hth0.trans hs) ES;have hbadr:Au l (Da s) [] = none→(Ci s).isSome = false:=λhn=>Rp (hth0.trans hs) hn
  rw[show ((b,C 28 (cl (.agg (eSt s (.slice wa s.AA.length wc) (S0 tb s.A0.length tc) (.slice ma s.AK.length mc) thv ov pv).toArray))) :: ([] ++ F):Chs) = (b,C 28 (eSt s (.slice wa s.AA.length wc) (S0 tb s.A0.length tc) (.slice ma s.AK.length mc) thv ov pv)) :: ([] ++ F) from rfl];generalize hcs:eSt s (.slice wa s.AA.length wc) (S0 tb s.A0.length tc) (.slice ma s.AK.length mc) thv ov pv = cs;have c8:cs[8]? = some thv:=by rw[← hcs];rfl
  have c10:cs[10]? = some pv:=by rw[← hcs];rfl
  have c1:cs[1]? = some (S0 tb s.A0.length tc):=by rw[← hcs];rfl
  have rl:=h.b.rl;clear he ho;refine AR (λvs R' D'=>R' = R1∧∃ac v A,Au l (s.A6.flatMap (·.AC)) [] = some ac∧s.A6.all F5 = true∧SO ac v A∧D' = A ++ ((b,C 28 cs) :: ([] ++ F))∧vs = [Pt b,.slice la l.length lc,v]) (λK1 h1=>?_) ?_
  ·refine AR (λvs R' D'=>R' = R1∧∃ac v A,Au l (s.A6.flatMap (·.AC)) [] = some ac∧s.A6.all F5 = true∧SO ac v A∧D' = A ++ ((b,C 28 cs) :: ([] ++ F))∧vs = [Pt b,.slice la l.length lc,v]) (λK2 h2=>?_) ?_;rotate_left
   ·rintro e R2 D2 ⟨hR,ac,v,A,g1,g2,so,hD,he⟩;subst hR;refine z_W ?_;clear hD;exact h1 _ _ _ ⟨rfl,ac,v,A,g1,g2,so,rfl,rfl⟩
   refine jlp (λm vs R' D'=>R' = R1∧∃(i:Nat) (ac:List Int) (v:Value) (A:Chs),i≤s.A6.length∧m = s.A6.length - i∧Au l ((s.A6.take i).flatMap (·.AC)) [] = some ac∧(s.A6.take i).all F5 = true∧SO ac v A∧D' = A ++ ((b,C 28 cs) :: ([] ++ F))∧vs = [Pt b,.slice la l.length lc,v,I i]) (n:=s.A6.length) ⟨rfl,0,[],_,[],ω,rfl,rfl,rfl,.inl ⟨rfl,rfl,rfl⟩,rfl,rfl⟩ ?_;rintro m e R2 D2 K ⟨hR,i,ac,v,A,hi,hmm,hac,hta,so,hD,he⟩ hK;subst hR;refine z_W ?_;clear hD;refine jl (v:=thv) c8 (C4 h.c.th.sl (jlt (jif (λhc=>?_) (λhc=>?_))));rotate_left
   ·have hc:=z_g hc;rw[Ys ω] at hac hta;exact h2 _ _ _ ⟨rfl,ac,v,A,hac,hta,so,rfl,rfl⟩
   have hc:i < s.A6.length:=by have:=z_f hc;omega
   have hrl:=rl _ (Yq hc);have hacl:=Eh hac;have hfl:=DR (s.A6.take i) (λt ht=>rl t (ZO ht));have hfl2:9 * (s.A6.take i).length≤27:=by rw[Z5];omega
   rw[Zp] at hacl;refine AR (λvs R' D'=>R' = R2∧∃ac v A,Au l ((s.A6.take (i + 1)).flatMap (·.AC)) [] = some ac∧(s.A6.take (i + 1)).all F5 = true∧SO ac v A∧D' = A ++ ((b,C 28 cs) :: ([] ++ F))∧vs = [Pt b,.slice la l.length lc,v,I i]) (λK3 h3=>?_) ?_;rotate_left
   ·rintro e R3 D3 ⟨hR,ac,v,A,g1,g2,so,hD,he⟩;subst hR;refine z_W ?_;clear hD;exact jad (hK (s.A6.length - (i + 1)) _ _ _ ω ⟨rfl,i + 1,ac,v,A,ω,rfl,g1,g2,so,rfl,rfl⟩)
   refine AR (λvs R' D'=>R' = R2∧∃ac v A,Au l ((s.A6.take (i + 1)).flatMap (·.AC)) [] = some ac∧(s.A6.take (i + 1)).all F5 = true∧SO ac v A∧D' = A ++ ((b,C 28 cs) :: ([] ++ F))∧vs = [Pt b,.slice la l.length lc,v,I i]) (λK4 h4=>?_) ?_;rotate_left
   ·rintro e R3 D3 ⟨hR,ac,v,A,g1,g2,so,hD,he⟩;subst hR;refine z_W ?_;clear hD;exact h3 _ _ _ ⟨rfl,ac,v,A,g1,g2,so,rfl,rfl⟩
   refine jl (v:=thv) c8 (jtr h.c.th hc λb2 o2 ty cs2 rv hrv hb2 ho2 hrow=>?_);refine F0 (l:=[rv,I (s.A6[i]).next,.bool (s.A6[i]).busy,I (s.A6[i]).Ai]) hb2 ho2 hrow (ja λb3=>?_);obtain⟨ra,rc,rfl⟩:=hrv.sl;refine jS ([.slice ra (s.A6[i]).AC.length rc,I (s.A6[i]).next,.bool (s.A6[i]).busy,I (s.A6[i]).Ai]) ?_;refine jor [Pt b,.slice la l.length lc,v,I i,Pt b3] ((decide (((s.A6[i]).AC.length:Int) > 8)) || (decide ((s.A6[i]).Ai < 0))) (λK' hK'=>?_) (λe c u ho he=>?_)
   ·refine jl (v:=.slice ra (s.A6[i]).AC.length rc) rfl (jln (jgr (BR (λh1=>?_) (λh1=>?_))))
    ·refine jl (v:=I (s.A6[i]).Ai) rfl (jlt (hK' _ _ _ (h1▸Ah) (by rw[h1,Yl])))
    ·exact hK' _ _ _ (h1▸Am) (by rw[h1,Yo])
   refine z_V ?_;refine jor [Pt b,.slice la l.length lc,v,I i,Pt b3] ((decide (((s.A6[i]).AC.length:Int) > 8) || decide ((s.A6[i]).Ai < 0)) || (decide ((s.A6[i]).Ai > 2))) (λK' hK'=>?_) (λe c u ho he=>?_)
   ·rw[ho];refine BR (λh1=>?_) (λh1=>?_)
    ·refine jl (v:=I (s.A6[i]).Ai) rfl (jgr (hK' _ _ _ (h1▸Ah) (by rw[h1,Yl])))
    ·exact hK' _ _ _ (h1▸Am) (by rw[h1,Yo])
   refine z_V ?_;rw[ho];have hthr:(decide (((s.A6[i]).AC.length:Int) > 8) || decide ((s.A6[i]).Ai < 0) || decide ((s.A6[i]).Ai > 2)) = !F5 s.A6[i]:=by
    unfold F5;rw[Zb];simp only[ZD,Z9,aS,z_d,decide_eq_false_iff_not];omega
   rw[hthr];refine jif (λg=>?_) (λg=>?_)
   ·refine fin hR1 (hno ?_);rw[Zt];intro hh;unfold CU at hh;simp only[z_b] at hh;have:=ZC.1 hh.1.2 _ (Yq hc);rw[this] at g;cases g
   have htok:(s.A6.take (i + 1)).all F5 = true:=by
    rw[Yp hc,List.all_append,hta];simpa using g
   have hfe:(s.A6.take (i + 1)).flatMap (·.AC) = (s.A6.take i).flatMap (·.AC) ++ (s.A6[i]).AC:=by
    rw[Yp hc,List.flatMap_append];simp
   have hre:∃rest,Da s = (s.A6.take i).flatMap (·.AC) ++ ((s.A6[i]).AC ++ rest):=by
    refine⟨(s.A6.drop (i + 1)).flatMap (·.AC) ++ s.AG,?_⟩;unfold Da
    conv=>lhs;rw[← aJ (i + 1) s.A6]
    rw[List.flatMap_append,hfe];simp
   obtain⟨rest,hre⟩:=hre;refine Aw A (G:=((b3,C 83 [.slice ra (s.A6[i]).AC.length rc,I (s.A6[i]).next,.bool (s.A6[i]).busy,I (s.A6[i]).Ai]) :: (b,C 28 cs) :: ([] ++ F))) ?_;refine AR (λvs R' D'=>R' = R2∧∃ac2 v A,Au l (s.A6[i]).AC ac = some ac2∧SO ac2 v A∧D' = A ++ ((b,C 28 cs) :: ([] ++ F))∧vs = [Pt b,.slice la l.length lc,v,I i]) (λK5 h5=>?_) ?_;rotate_left
   ·rintro e R3 D3 ⟨hR,ac2,v2,A2,g1,so2,hD,he⟩;subst hR;refine z_W ?_;clear hD;refine h4 _ _ _ ⟨rfl,ac2,v2,A2,?_,htok,so2,rfl,rfl⟩;rw[hfe,Ck,hac];exact g1
   refine jlp (λm vs R' D'=>R' = R2∧∃(j:Nat) (ac2:List Int) (v:Value) (A:Chs),j≤(s.A6[i]).AC.length∧m = (s.A6[i]).AC.length - j∧Au l ((s.A6[i]).AC.take j) ac = some ac2∧SO ac2 v A∧D' = A ++ ((b3,C 83 [.slice ra (s.A6[i]).AC.length rc,I (s.A6[i]).next,.bool (s.A6[i]).busy,I (s.A6[i]).Ai]) :: (b,C 28 cs) :: ([] ++ F))∧vs = [Pt b,.slice la l.length lc,v,I i,Pt b3,I j]) (n:=(s.A6[i]).AC.length) ⟨rfl,0,ac,v,A,ω,rfl,rfl,so,rfl,rfl⟩ ?_;clear so ho he hmm hK;rintro m e R3 D3 K ⟨hR,j,ac2,v2,A2,hj,hmm,hac2,so2,hD,he⟩ hK;subst hR;refine z_W ?_;clear hD;refine jl (v:=.slice ra (s.A6[i]).AC.length rc) rfl (jln (jlt (jif (λhc2=>?_) (λhc2=>?_))));rotate_left
   ·have hc2:=z_g hc2;rw[Ys ω] at hac2;refine Aw A2 (G:=((b,C 28 cs) :: ([] ++ F))) ?_;exact h5 _ _ _ ⟨rfl,ac2,v2,A2,hac2,so2,rfl,rfl⟩
   have hc2:j < (s.A6[i]).AC.length:=by have:=z_f hc2;omega
   have hac2l:=Eh hac2;rw[Z5] at hac2l;have hnx:Au l ((s.A6[i]).AC.take (j + 1)) ac = (now l (s.A6[i]).AC[j]).bind λy=>some (CZ ac2 y):=by
    rw[Yp hc2,Ck,hac2];rfl
   refine jan [Pt b,.slice la l.length lc,v2,I i,Pt b3,I j] (((s.A6[i]).AC[j] != 0) && decide (Ml l (s.A6[i]).AC[j] < 0)) (λK' hK'=>?_) (λe c u ho he=>?_)
   ·refine jl (v:=.slice ra (s.A6[i]).AC.length rc) rfl (CE hrv ω ω ?_);simp only[Yj];refine jne (Bt (λg=>?_) (λg=>?_))
    ·refine jl (v:=.slice ra (s.A6[i]).AC.length rc) rfl (CE hrv ω ω ?_);simp only[Yj];exact jrp (E9 _ htg ω) (jlt (hK' _ _ _ (g▸Ax) (by rw[g,Z2])))
    ·exact hK' _ _ _ (g▸BB) (by rw[g,Z3])
   refine z_V ?_;rw[ho];refine jif (λg=>?_) (λg=>?_)
   ·refine fin hR1 (hbadr ?_);simp only[z_b,bne_iff_ne,z_d] at g;have hnn:now l (s.A6[i]).AC[j] = none:=by
     unfold now;rw[if_neg g.1];cases hf:BL l (s.A6[i]).AC[j] with
     | none=>rfl
     | some t=>obtain⟨q,_,e,_⟩:=Ed hf;omega
    rw[hre,Ck,hac,z_o,Ck]
    conv=>lhs;rw[← aJ (j + 1) (s.A6[i]).AC,Ck,hnx,hnn]
    rfl
   obtain⟨x,hx⟩:∃x,now l (s.A6[i]).AC[j] = some x:=by
    unfold now;by_cases g0:(s.A6[i]).AC[j] = 0
    ·exact⟨0,by rw[if_pos g0]⟩
    ·rw[if_neg g0];cases hf:BL l (s.A6[i]).AC[j] with
     | none=>rw[Gs hf] at g;simp[g0] at g
     | some t=>exact⟨_,rfl⟩
   refine jl (v:=.slice ra (s.A6[i]).AC.length rc) rfl (CE hrv ω ω ?_);simp only[Yj];refine jrp (Gm htg ω hx) ?_;refine jc (A:=A2) (Jh x so2 ω) ?_;rintro v3 R4 A3 _ ⟨hR,so3⟩;subst hR;refine jad ?_;refine hK ((s.A6[i]).AC.length - (j + 1)) _ _ _ ω ⟨rfl,j + 1,_,v3,A3,ω,rfl,?_,so3,rfl,rfl⟩;rw[hnx,hx];rfl
  rintro e R2 D2 ⟨hR,ac,v,A,hac,hta,so,hD,he⟩;subst hR;refine z_W ?_;clear hD;have hacl:=Eh hac;have hfl:=DR s.A6 rl;have hfl2:9 * s.A6.length≤27:=ω
  rw[Zp] at hacl;obtain⟨pa,pc,rfl⟩:=h.c.p.sl;refine jl (v:=.slice pa s.AG.length pc) c10 (jln (jgr (jif (λg=>?_) (λg=>?_))))
  ·refine fin hR1 (hno ?_);rw[Zt];intro hh;unfold CU at hh;simp only[z_b,z_d] at hh;have:=z_f g;omega
  have hpl:s.AG.length≤8:=by have:=z_g g;omega
  refine AR (λvs R' D'=>R' = R2∧∃out v A,Au l (Da s) [] = some out∧s.AG.all (Dl s l) = true∧SO out v A∧D' = A ++ ((b,C 28 cs) :: ([] ++ F))∧vs = [.slice la l.length lc,v]) (λK1 h1=>?_) ?_
  ·refine AR (λvs R' D'=>R' = R2∧∃out v A,Au l (Da s) [] = some out∧s.AG.all (Dl s l) = true∧SO out v A∧D' = A ++ ((b,C 28 cs) :: ([] ++ F))∧vs = [.slice la l.length lc,v]) (λK2 h2=>?_) ?_;rotate_left
   ·rintro e R3 D3 ⟨hR,ac,v,A,g1,g2,so,hD,he⟩;subst hR;refine z_W ?_;clear hD;exact h1 _ _ _ ⟨rfl,ac,v,A,g1,g2,so,rfl,rfl⟩
   refine jlp (λm vs R' D'=>R' = R2∧∃(i:Nat) (v:Value) (A:Chs),i≤s.AG.length∧m = s.AG.length - i∧(s.AG.take i).all (Dl s l) = true∧SO ((s.AG.take i).foldl CZ ac) v A∧D' = A ++ ((b,C 28 cs) :: ([] ++ F))∧vs = [Pt b,.slice la l.length lc,v,I i]) (n:=s.AG.length) ⟨rfl,0,v,A,ω,rfl,rfl,so,rfl,rfl⟩ ?_;clear so;rintro m e R3 D3 K ⟨hR,i,v,A,hi,hmm,hpa,so,hD,he⟩ hK;subst hR;refine z_W ?_;clear hD;refine jl (v:=.slice pa s.AG.length pc) c10 (jln (jlt (jif (λhc=>?_) (λhc=>?_))));rotate_left
   ·have hc:=z_g hc;rw[Ys ω] at hpa so;refine h2 _ _ _ ⟨rfl,_,v,A,?_,hpa,so,rfl,rfl⟩;unfold Da;rw[Ck,hac];exact Jf hpa
   have hc:i < s.AG.length:=by have:=z_f hc;omega
   have bad:Dl s l s.AG[i] = false→CU s l = false:=λhh=>by
    rw[Zt];intro g;unfold CU at g;simp only[z_b] at g;have:=ZC.1 g.2 _ (Yq hc);rw[hh] at this;cases this
   have hsl:((s.AG.take i).foldl CZ ac).length < 1000000:=by
    have:=Eh (Jf (acc:=ac) hpa);rw[Z5] at this;omega
   refine jl (v:=.slice pa s.AG.length pc) c10 (CE h.c.p ω ω ?_);simp only[Yj];refine jrp (E9 _ htg ω) ?_;cases hf:BL l s.AG[i] with
   | none=>
    rw[Gs hf];refine C9 [Pt b,.slice la l.length lc,v,I i,.bool true] (λK' hK'=>?_) (λe he=>?_)
    ·refine C9 [Pt b,.slice la l.length lc,v,I i,I (-1),.bool true,U] (λK' hK'=>?_) (λe he=>?_)
     ·exact jlt (jtf hK')
     refine z_V ?_;refine C9 [Pt b,.slice la l.length lc,v,I i,.bool true,U,U,U] (λK' hK'=>?_) (λe he=>?_)
     ·exact jtf hK'
     refine z_V ?_;exact jtf (Af jev hK')
    refine z_V ?_;exact DI (fin hR1 (hno (bad (by unfold Dl;rw[hf]))))
   | some n=>
    obtain⟨k,hk,hfk,hn⟩:=Ed hf;subst hn;rw[hfk];obtain⟨hkm,hka⟩:=Bh hf;have hpo:Dl s l s.AG[i] = (!((l[k]).moved != (l[k]).at_) && !Di s (l[k]).at_):=by
     unfold Dl;rw[hf];dsimp only;rw[hka];unfold bne;cases (l[k]).moved == s.AG[i]<;>rfl
    obtain⟨r2,e2,hr2,f2⟩:=Ia hs hkm ω;refine C9 [Pt b,.slice la l.length lc,v,I i,.bool (!Dl s l s.AG[i])] (λK' hK'=>?_) (λe he=>?_)
    ·refine C9 [Pt b,.slice la l.length lc,v,I i,I k,.bool false,.bool ((l[k]).moved != (l[k]).at_)] (λK' hK'=>?_) (λe he=>?_)
     ·refine jlt ?_;rw[show decide ((k:Int) < 0) = false from decide_eq_false ω];exact jff (Uz htg hk (SY htg hk (jne hK')))
     refine z_V ?_;cases c4:((l[k]).moved != (l[k]).at_) with
     | true=>
      refine C9 [Pt b,.slice la l.length lc,v,I i,.bool true,U,U,U] (λK' hK'=>?_) (λe he=>?_)
      ·exact jtf hK'
      refine z_V ?_;rw[hpo,c4] at hK';exact jtf (Af jev hK')
     | false=>
      refine C9 [Pt b,.slice la l.length lc,v,I i,.bool false,.pointer (some ⟨b,0 + 1,none⟩),S0 tb s.A0.length tc,I (l[k]).at_] (λK' hK'=>?_) (λe he=>?_)
      ·exact jff (jfo (jl (v:=S0 tb s.A0.length tc) (by rw[Z6];exact c1) (SY htg hk hK')))
      refine z_V ?_;refine jff (jp (CT _ ω) ?_);rw[e2];refine jrk h.z hr2 (jeq ?_);rw[hpo,c4,f2] at hK';refine Af (jl (v:=S0 tb s.A0.length tc) (by rw[Z6];exact c1) jev) ?_;cases c5:((s.A0[r2]).kind == 4)<;>(rw[c5] at hK';exact hK')
    refine z_V ?_;refine jif (λg=>?_) (λg=>?_)
    ·exact fin hR1 (hno (bad (by simpa using g)))
    have hok:Dl s l s.AG[i] = true:=by simpa using g
    refine jl (v:=.slice pa s.AG.length pc) c10 (CE h.c.p ω ω ?_);simp only[Yj];refine jc (A:=A) (Jh s.AG[i] so hsl) ?_;rintro v3 R4 A3 _ ⟨hR,so3⟩;subst hR;refine jad ?_;refine hK (s.AG.length - (i + 1)) _ _ _ ω ⟨rfl,i + 1,v3,A3,ω,rfl,?_,?_,rfl,rfl⟩
    ·rw[Yp hc,List.all_append,hpa];simpa using hok
    ·rw[Yp hc,List.foldl_append];exact so3
  rintro e R3 D3 ⟨hR,out,v,A,hout,hpa,so,hD,he⟩;subst hR;refine z_W ?_;clear hD;have M0:Df l out:=Df.nil.all S hout;have hhead:CU s l = true:=by
   unfold CU;simp only[z_b,z_d];exact⟨⟨⟨⟨⟨⟨⟨ES,ω⟩,ω⟩,ω⟩,ω⟩,ω⟩,hta⟩,hpa⟩
  have hho:Ci s = (BW l (l.length + 2) 0 out).map λm=>(l,m):=by
   unfold Ci;rw[hth0,hs];dsimp only;rw[if_pos hhead,EF hpa,hout];rfl
  refine jlp (λm vs R' D'=>R' = R3∧∃(i:Nat) (ac:List Int) (v:Value) (A:Chs),i≤ac.length∧m = l.length + 2 - i∧BW l (l.length + 2 - i) i ac = BW l (l.length + 2) 0 out∧Df l ac∧SO ac v A∧D' = A ++ ((b,C 28 cs) :: ([] ++ F))∧vs = [.slice la l.length lc,v,I i]) (n:=l.length + 2) ⟨rfl,0,out,v,A,ω,ω,rfl,M0,so,rfl,rfl⟩ ?_;clear so hac hacl;rintro m e R4 D4 K ⟨hR,i,ac,v,A,hi,hmm,hrl,M,so,hD,he⟩ hK;subst hR;refine z_W ?_;clear hD;have hal:=M.len;obtain⟨va,vc,hvv⟩:=so.sln;refine C4 ⟨va,vc,hvv⟩ (jlt (jif (λhc=>?_) (λhc=>?_)));rotate_left
  ·have hc:=z_g hc;obtain⟨q,hq⟩:∃q,l.length + 2 - i = q + 1:=⟨l.length + 1 - i,ω⟩;rw[hq,DP ω] at hrl;refine fin hR1 ?_;rw[hho,← hrl];rfl
  have hc:i < ac.length:=by have:=z_f hc;omega
  obtain⟨t,ht⟩:=M.th _ (Yq hc);obtain⟨htm,hta'⟩:=Bh ht;obtain⟨q,hq⟩:∃q,l.length + 2 - i = q + 1:=⟨l.length + 1 - i,ω⟩;rw[hq,DF hc ht] at hrl;have htb:=tbl t htm;refine AR (λvs R' D'=>R' = R4∧∃ac2 v A,Au l t.refs ac = some ac2∧SO ac2 v A∧D' = A ++ ((b,C 28 cs) :: ([] ++ F))∧vs = [.slice la l.length lc,v,I i]) (λK3 h3=>?_) ?_;rotate_left
  ·rintro e R5 D5 ⟨hR,ac2,v2,A2,hn,so2,hD,he⟩;subst hR;refine z_W ?_;clear hD;rw[hn,z_o] at hrl;have M2:=M.all S hn;have:=M2.len;have hge:=Dq hn;exact jad (hK q _ _ _ ω ⟨rfl,i + 1,ac2,v2,A2,ω,ω,by rw[← hrl];congr 1;omega,M2,so2,rfl,rfl⟩)
  refine AR (λvs R' D'=>R' = R4∧∃ac2 v A,Au l t.refs ac = some ac2∧SO ac2 v A∧D' = A ++ ((b,C 28 cs) :: ([] ++ F))∧vs = [.slice la l.length lc,v,I i]) (λK4 h4=>?_) ?_;rotate_left
  ·rintro e R5 D5 ⟨hR,ac2,v2,A2,hn,so2,hD,he⟩;subst hR;refine z_W ?_;clear hD;exact h3 _ _ _ ⟨rfl,ac2,v2,A2,hn,so2,rfl,rfl⟩
  refine X5 so hc (jrp (E9 _ htg ω) ?_);obtain⟨k,hk,hfk,hn⟩:=Ed ht;rw[hfk];refine jtg htg hk λb2 o2 ty cs2 rv nv hrv hnv hb2 ho2 hrow=>?_
  rw[hn] at hrv hnv hrow;obtain⟨ra,rc,rfl⟩:=hrv.sl;obtain⟨na,nc,rfl⟩:=hnv.sl;refine F0 (l:=eTh t (.slice ra t.refs.length rc) (.slice na t.nums.length nc)) hb2 ho2 hrow (ja λb3=>?_);refine jS (eTh t (.slice ra t.refs.length rc) (.slice na t.nums.length nc)) ?_;refine Aw A (G:=((b3,C 62 (eTh t (.slice ra t.refs.length rc) (.slice na t.nums.length nc))) :: (b,C 28 cs) :: ([] ++ F))) ?_;refine AR (λvs R' D'=>R' = R4∧∃ac2 v A,Au l t.refs ac = some ac2∧SO ac2 v A∧D' = A ++ ((b,C 28 cs) :: ([] ++ F))∧vs = [.slice la l.length lc,v,I i]) (λK5 h5=>?_) ?_;rotate_left
  ·rintro e R5 D5 ⟨hR,ac2,v2,A2,hn,so2,hD,he⟩;subst hR;refine z_W ?_;clear hD;exact h4 _ _ _ ⟨rfl,ac2,v2,A2,hn,so2,rfl,rfl⟩
  refine jlp (λm vs R' D'=>R' = R4∧∃(j:Nat) (ac2:List Int) (v:Value) (A:Chs),j≤t.refs.length∧m = t.refs.length - j∧Au l (t.refs.take j) ac = some ac2∧SO ac2 v A∧D' = A ++ ((b3,C 62 (eTh t (.slice ra t.refs.length rc) (.slice na t.nums.length nc))) :: (b,C 28 cs) :: ([] ++ F))∧vs = [.slice la l.length lc,v,I i,Pt b3,I j]) (n:=t.refs.length) ⟨rfl,0,ac,v,A,ω,rfl,rfl,so,rfl,rfl⟩ ?_;clear so hmm hK he;rintro m e R5 D5 K ⟨hR,j,ac2,v2,A2,hj,hmm,hac2,so2,hD,he⟩ hK;subst hR;refine z_W ?_;clear hD;refine jl (v:=.slice ra t.refs.length rc) rfl (jln (jlt (jif (λhc2=>?_) (λhc2=>?_))));rotate_left
  ·have hc2:=z_g hc2;rw[Ys ω] at hac2;refine Aw A2 (G:=((b,C 28 cs) :: ([] ++ F))) ?_;exact h5 _ _ _ ⟨rfl,ac2,v2,A2,hac2,so2,rfl,rfl⟩
  have hc2:j < t.refs.length:=by have:=z_f hc2;omega
  have hac2l:=Eh hac2;rw[Z5] at hac2l;have hnx:Au l (t.refs.take (j + 1)) ac = (now l t.refs[j]).bind λy=>some (CZ ac2 y):=by
   rw[Yp hc2,Ck,hac2];rfl
  refine jan [.slice la l.length lc,v2,I i,Pt b3,I j] ((t.refs[j] != 0) && decide (Ml l t.refs[j] < 0)) (λK' hK'=>?_) (λe c u ho he=>?_)
  ·refine jl (v:=.slice ra t.refs.length rc) rfl (CE hrv ω ω ?_);simp only[Yj];refine jne (Bt (λg=>?_) (λg=>?_))
   ·refine jl (v:=.slice ra t.refs.length rc) rfl (CE hrv ω ω ?_);simp only[Yj];exact jrp (E9 _ htg ω) (jlt (hK' _ _ _ (g▸Ax) (by rw[g,Z2])))
   ·exact hK' _ _ _ (g▸BB) (by rw[g,Z3])
  refine z_V ?_;rw[ho];refine jif (λg=>?_) (λg=>?_)
  ·refine fin hR1 ?_;simp only[z_b,bne_iff_ne,z_d] at g;have hnn:now l t.refs[j] = none:=by
    unfold now;rw[if_neg g.1];cases hf:BL l t.refs[j] with
    | none=>rfl
    | some t=>obtain⟨q,_,e,_⟩:=Ed hf;omega
   have:Au l t.refs ac = none:=by
    conv=>lhs;rw[← aJ (j + 1) t.refs,Ck,hnx,hnn]
    rfl
   rw[this] at hrl;rw[hho,← hrl];rfl
  obtain⟨x,hx⟩:∃x,now l t.refs[j] = some x:=by
   unfold now;by_cases g0:t.refs[j] = 0
   ·exact⟨0,by rw[if_pos g0]⟩
   ·rw[if_neg g0];cases hf:BL l t.refs[j] with
    | none=>rw[Gs hf] at g;simp[g0] at g
    | some t=>exact⟨_,rfl⟩
  refine jl (v:=.slice ra t.refs.length rc) rfl (CE hrv ω ω ?_);simp only[Yj];refine jrp (Gm htg ω hx) ?_;refine jc (A:=A2) (Jh x so2 ω) ?_;rintro v3 R6 A3 _ ⟨hR,so3⟩;subst hR;refine jad ?_;refine hK (t.refs.length - (j + 1)) _ _ _ ω ⟨rfl,j + 1,_,v3,A3,ω,rfl,?_,so3,rfl,rfl⟩;rw[hnx,hx];rfl
end st
end Go.Lf
end
section
namespace Go.Lf
open Go Sm
section st
variable {R:RM} {s:Sm.Al} {wv tv mv thv ov pv:Value}
theorem W5 {l:List AU} (h:SF R s wv tv mv thv ov pv) (hl:Ee s = some l):l.length≤192∧TB l:=by
 have h1:=hl;unfold Ee at h1;split at h1;rotate_left
 ·cases h1
 unfold BJ at h1;have h2:=Kr (by have:=h.b.wl;have:=h.b.t1;omega) h1;have:=h.b.t1;rw[aD] at h2;exact⟨ω,h2.1⟩
end st
section rules
variable {R:RM} {D:Chs} {k:Value→M}
end rules
def DSF (x:Value) (R:RM):Prop:=∃(s:Sm.Al) (wv tv mv thv ov pv:Value),x = .agg (eSt s wv tv mv thv ov pv).toArray∧SF R s wv tv mv thv ov pv
theorem WP {R R' : RM} {rb:Nat} {v:Value} {m c:Int} {x:Value} {A F:Chs} {mm:M} (h:DSt R rb v m c x R' A) (H:∀R2,R'.le R2→DSF x R2→J R2 F mm):J R' (A ++ F) mm:=by
 obtain⟨s,wv,mv,thv,ov,pv,tb,tc,tsp,m',sb,hw,hm,hth,hov,hpv,htc,_,_,rfl,rfl⟩:=h;show J R' ((rb,rdO v m') :: (tb,C AI (Ac eRg s.A0 ++ tsp)) :: F) mm;refine Bn (BQ (b:=tb) λR2 hR2 hb=>?_);exact H R2 hR2 ⟨s,wv,_,mv,thv,ov,pv,rfl,⟨hw.le hR2,UX hb htc,hm.le hR2,hth.le hR2,hov.le hR2,hpv.le hR2⟩,⟨tb,tc,tsp,rfl,hb,htc⟩,sb⟩
theorem DSF.cut {x:Value} {R:RM} (h:DSF x R):∃(s:Sm.Al) (wa:Option Addr) (wc tb tc:Nat) (ma:Option Addr) (mc:Nat) (ta:Option Addr) (thc:Nat) (oa:Option Addr) (oc:Nat) (pa:Option Addr) (pc:Nat),x = .agg (eSt s (.slice wa s.AA.length wc) (S0 tb s.A0.length tc) (.slice ma s.AK.length mc) (.slice ta s.A6.length thc) (.slice oa s.old.length oc) (.slice pa s.AG.length pc)).toArray∧SF R s (.slice wa s.AA.length wc) (S0 tb s.A0.length tc) (.slice ma s.AK.length mc) (.slice ta s.A6.length thc) (.slice oa s.old.length oc) (.slice pa s.AG.length pc):=by
 obtain⟨s,wv,tv,mv,thv,ov,pv,rfl,h⟩:=h;obtain⟨tb,tc,sp,rfl,hb,htc⟩:=h.z;obtain⟨wa,wc,rfl⟩:=h.c.w.sl;obtain⟨ma,mc,rfl⟩:=h.c.m.sl;obtain⟨tha,thc,rfl⟩:=h.c.th.sl;obtain⟨oa,oc,rfl⟩:=h.c.o.sl;obtain⟨pa,pc,rfl⟩:=h.c.p.sl;exact⟨s,wa,wc,tb,tc,ma,mc,tha,thc,oa,oc,pa,pc,rfl,h⟩
theorem Wm {x:Value} {R:RM} {F:Chs} {b:Nat} {k:Value→M} (h:DSF x R) (H:J R F (k x)):J R ((b,C 28 (cl z28)) :: F) (ST 13 (Pt b) x (LA 13 (Pt b) k)):=by
 obtain⟨s,wa,wc,tb,tc,ma,mc,tha,thc,oa,oc,pa,pc,rfl,h⟩:=h.cut;refine jS (eSt s (.slice wa s.AA.length wc) (S0 tb s.A0.length tc) (.slice ma s.AK.length mc) (.slice tha s.A6.length thc) (.slice oa s.old.length oc) (.slice pa s.AG.length pc)) ?_;exact jla (l:=eSt s (.slice wa s.AA.length wc) (S0 tb s.A0.length tc) (.slice ma s.AK.length mc) (.slice tha s.A6.length thc) (.slice oa s.old.length oc) (.slice pa s.AG.length pc)) (by exact z_n 13) rfl (Bn H)
end Go.Lf
end
