/- The given row of this law is proved: whatever code comes in, it returns true and leaves the code as it was. Conditions: none. -/
import Derived.Test.YtlagojobcbkpdaaGreatAP
set_option linter.unusedVariables false
set_option linter.unusedSimpArgs false
section
namespace Sm
open Go.Lf
theorem MB {s:BI} {l:List AY} {t:AY} (ht:t∈l) (h:Bf l t.moved = none) (nd:(l.map AY.at_).Nodup):C5 s l t = false:=by
 unfold C5;rw[h,Bool.or_false,beq_eq_false_iff_ne];intro e;rw[e,Eh nd ht] at h;cases h
theorem M6 {s:BI} {l:List AY} {t n:AY} (ht:t∈l) (h:Bf l t.moved = some n) (nd:(l.map AY.at_).Nodup):C5 s l t = (!(n.moved != n.at_) && (n.sh == t.sh) && (t.moved == t.at_ || (!DN s n.at_ && DN s t.at_))):=by
 unfold C5;by_cases c:t.moved = t.at_
 ·have:n = t:=by rw[c,Eh nd ht] at h;exact (Yw h).symm
  subst this;rw[c];simp
 ·rw[h];dsimp only;unfold bne;rw[beq_eq_false_iff_ne.2 c];cases n.sh == t.sh<;>cases n.moved == n.at_<;>cases DN s n.at_<;>cases DN s t.at_<;>rfl
end Sm
namespace Sm
open Go.Lf
theorem V3 (had:List Int) (a:Int):(Cj had a).length≤had.length + 1:=by
 unfold Cj;split
 ·omega
 ·simp
theorem E4 {l:List AY}:∀{xs acc r:List Int},Ay l xs acc = some r→r.length≤acc.length + xs.length
 | [],acc,r,h=>by cases h;simp
 | x :: xs,acc,r,h=>by
  rw[Da] at h;cases hn:now l x with
  | none=>rw[hn] at h;cases h
  | some y=>
   rw[hn] at h;have h1:=E4 (xs:=xs) h;have h2:=V3 acc y;rw[YY];omega
theorem SQ {s:BI} {l:List AY} (h:EI s = some l) (hn:Ay l (Dg s) [] = none):(CL s).isSome = false:=by
 unfold CL;rw[h];dsimp only;split
 ·rename_i hh;have h2:=hh;unfold Ci at h2;simp only[z_b] at h2;rw[F4 h2.2,hn];rfl
 ·rfl
end Sm
namespace Go.Lf
open Go Sm
section st
variable {R:RM} {s:Sm.BI} {wv tv mv thv ov pv:Value}
theorem G7 {l:List AY} (h:BE s = some l) {t:AY} (ht:t∈l) (hn:s.A0.length≤12):∃r:Nat,AO t.at_ = r∧∃hr:r < s.A0.length,DN s t.at_ = ((s.A0[r]).kind == 4):=by
 unfold BE at h;obtain⟨_,h2⟩:=G4 h;obtain⟨h3,h4,h5,k,hk,h6,h7,h8⟩:=h2 t ht;rw[ZQ] at hk;have e:AO t.at_ = (1 + k:Nat):=by unfold AO;rw[if_neg (by omega)];omega
 refine⟨1 + k,e,by omega,?_⟩;unfold DN;rw[e,DZ (by omega:1 + k < s.A0.length)];rw[decide_eq_true (by omega:(0:Int)≤(1 + k:Nat)),decide_eq_true (by omega:((1 + k:Nat):Int) < s.A0.length)];rfl
set_option maxHeartbeats 4000000 in
set_option maxRecDepth 4000 in
theorem SB (h:SF R s wv tv mv thv ov pv):Ro Jj [.agg (eSt s wv tv mv thv ov pv).toArray] (.bool (CL s).isSome) R []:=by
 refine O7 λF=>?_
 unfold Is;refine ja λb=>?_
 rw[show cl (.agg (eSt s wv tv mv thv ov pv).toArray) = eSt s wv tv mv thv ov pv from rfl];obtain⟨tb,tc,sp,rfl,hb,htc⟩:=h.z;obtain⟨wa,wc,rfl⟩:=h.c.w.sl;obtain⟨ma,mc,rfl⟩:=h.c.m.sl;have t0:=h.b.t0;have t1:=h.b.t1;have wl:=h.b.wl;have n1:=h.b.n1;have fin:∀{R' : RM} {D:Chs} {x:Bool},R.le R'→(CL s).isSome = x→[Sf D F]→J R' D (Eb R F (λv' _ A=>v' = .bool (CL s).isSome∧A = []) (.bool x)):=λhR hx _=>by
  rw[← hx];exact B8 (A:=[]) hR ⟨rfl,rfl⟩
 refine jor [Pt b] ((!BF s.A6.length) || (!BG s.A0)) (λK' hK'=>?_) (λe c u ho he=>?_)
 ·refine jl (v:=.slice wa s.A6.length wc) rfl (jp (Ib wa s.A6.length wc (by omega)) (BK (λh1=>?_) (λh1=>?_)))
  ·refine jl (v:=S0 tb s.A0.length tc) rfl (XD hb (λR' _=>E3 (t:=s.A0) (sp:=sp) (by omega)) (hK' _ _ _ (h1▸Ah) (by rw[h1,Y7])))
  ·exact hK' _ _ _ (h1▸Ag) (by rw[h1,Y8])
 simp only[List.map,zc,zl,zj,z_t] at he;simp only[he];refine jor [Pt b] ((!BF s.A6.length || !BG s.A0) || ((s.A0.length:Int) * 16 != (s.A6.length:Int))) (λK' hK'=>?_) (λe c u ho he=>?_)
 ·rw[ho];refine BK (λh1=>?_) (λh1=>?_)
  ·refine jl (v:=S0 tb s.A0.length tc) rfl (jln (GC ⟨by omega,by omega⟩ (jl (v:=.slice wa s.A6.length wc) rfl (jln (jne (hK' _ _ _ (h1▸Ah) (by rw[h1,Y7])))))))
  ·exact hK' _ _ _ (h1▸Ag) (by rw[h1,Y8])
 simp only[List.map,zc,zl,zj,z_t] at he;simp only[he];refine jor [Pt b] ((!BF s.A6.length || !BG s.A0 || ((s.A0.length:Int) * 16 != (s.A6.length:Int))) || ((s.AN.length:Int) != (s.A6.length:Int))) (λK' hK'=>?_) (λe c u ho he=>?_)
 ·rw[ho];refine BK (λh1=>?_) (λh1=>?_)
  ·refine jl (v:=.slice ma s.AN.length mc) rfl (jln (jl (v:=.slice wa s.A6.length wc) rfl (jln (jne (hK' _ _ _ (h1▸Ah) (by rw[h1,Y7]))))))
  ·exact hK' _ _ _ (h1▸Ag) (by rw[h1,Y8])
 simp only[List.map,zc,zl,zj,z_t] at he;simp only[he];rw[ho];have hfr:(!BF s.A6.length || !BG s.A0 || ((s.A0.length:Int) * 16 != (s.A6.length:Int)) || ((s.AN.length:Int) != (s.A6.length:Int))) = !EW s:=by
  have e1:((s.A0.length:Int) * 16 != (s.A6.length:Int)) = !(s.A0.length == s.A6.length / 16):=by
   rw[Yp,YT,bne_iff_ne,beq_eq_false_iff_ne];omega
  have e2:((s.AN.length:Int) != (s.A6.length:Int)) = !(s.AN.length == s.A6.length):=by
   rw[Yp,YT,bne_iff_ne,beq_eq_false_iff_ne];omega
  rw[e1,e2];unfold EW;cases BF s.A6.length<;>cases BG s.A0<;>cases s.A0.length == s.A6.length / 16<;>cases s.AN.length == s.A6.length<;>rfl
 rw[hfr];refine jif (λh0=>?_) (λh0=>?_)
 ·have h0:EW s = false:=by simpa using h0
  refine fin (RM.le.refl R) ?_;unfold CL EI;rw[if_neg (by rw[h0];decide)];rfl
 have hfo:EW s = true:=by simpa using h0
 have hth0:EI s = BE s:=by unfold EI;rw[if_pos hfo]
 clear hfr h0 ho he;refine jor [Pt b] ((decide (s.AX < 0)) || (decide (s.AX > 3))) (λK' hK'=>?_) (λe c u ho he=>?_)
 ·refine jl (v:=I s.AX) rfl (jlt (BK (λh1=>?_) (λh1=>?_)))
  ·refine jl (v:=I s.AX) rfl (jgr (hK' _ _ _ (h1▸Ah) (by rw[h1,Y7])))
  ·exact hK' _ _ _ (h1▸Ag) (by rw[h1,Y8])
 simp only[List.map,zc,zl,zj,z_t] at he;simp only[he];refine jor [Pt b] ((decide (s.AX < 0) || decide (s.AX > 3)) || (decide ((s.A7.length:Int) < 1))) (λK' hK'=>?_) (λe c u ho he=>?_)
 ·rw[ho];refine BK (λh1=>?_) (λh1=>?_)
  ·refine jl (v:=thv) rfl (Cf h.c.th.sl (jlt (hK' _ _ _ (h1▸Ah) (by rw[h1,Y7]))))
  ·exact hK' _ _ _ (h1▸Ag) (by rw[h1,Y8])
 simp only[List.map,zc,zl,zj,z_t] at he;simp only[he];refine jor [Pt b] ((decide (s.AX < 0) || decide (s.AX > 3) || decide ((s.A7.length:Int) < 1)) || (decide ((s.A7.length:Int) > 3))) (λK' hK'=>?_) (λe c u ho he=>?_)
 ·rw[ho];refine BK (λh1=>?_) (λh1=>?_)
  ·refine jl (v:=thv) rfl (Cf h.c.th.sl (jgr (hK' _ _ _ (h1▸Ah) (by rw[h1,Y7]))))
  ·exact hK' _ _ _ (h1▸Ag) (by rw[h1,Y8])
 simp only[List.map,zc,zl,zj,z_t] at he;simp only[he];rw[ho];have hno:∀l,BE s = some l→Ci s l = false→(CL s).isSome = false:=λl hl hh=>by
  rw[M1 (hth0.trans hl) hh];rfl
 refine jif (λh0=>?_) (λh0=>?_)
 ·refine fin (RM.le.refl R) ?_;cases hs:BE s with
  | none=>unfold CL;rw[hth0,hs];rfl
  | some l=>
   refine hno l hs ?_;rw[Z4];intro hh;unfold Ci at hh;simp only[z_b,z_d] at hh;simp only[YZ,z_d] at h0;omega
 simp only[YL,decide_eq_false_iff_not] at h0;obtain⟨⟨⟨p0,p1⟩,p2⟩,p3⟩:=h0;clear ho he;refine jla (l:=eSt s (.slice wa s.A6.length wc) (S0 tb s.A0.length tc) (.slice ma s.AN.length mc) thv ov pv) (by exact z_n 13) rfl ?_;refine jc (A:=[]) (H8 h.c (by omega) (by omega)) ?_;rintro _ R1 _ hR1 ⟨rfl,hq⟩;refine Nl ?_;cases hs:BE s with
 | none=>
  rw[hs] at hq;obtain rfl:_ = Value.tuple #[.slice none 0 0,.bool false]:=hq;refine jex rfl (jex rfl (DB (fin hR1 ?_)));unfold CL;rw[hth0,hs];rfl
 | some l=>
  rw[hs] at hq;obtain⟨lv,htg,rfl⟩:=hq;refine jex rfl (jex rfl (CU ?_));have h:=h.le hR1;have hno:=hno l hs;have hu:=hs;unfold BE at hu;obtain⟨as1,as2⟩:=G4 hu;have nd:=N9 as1 λx hx=>(as2 x hx).2.1
  have tbb:=Lq (by omega) hu;rw[ZQ] at tbb;obtain⟨tbl,hll⟩:=tbb;obtain⟨la,lc,rfl⟩:=htg.sl;refine Np [Pt b,.slice la l.length lc] (CN s l = true) (λK1 h1=>?_) (λe Ie he=>?_)
  ·refine Np [Pt b,.slice la l.length lc] (CN s l = true) (λK2 h2=>?_) (λe hst he=>?_)
   ·refine Xz [Pt b,.slice la l.length lc] l.length (λi=>(l.take i).all (C5 s l) = true) rfl (λi K e hi hp hK he=>?_);simp only[List.map,zc,zl,zj,z_t] at he;simp only[he];refine jln (jlt (jif (λhc=>?_) (λhc=>?_)));rotate_left
    ·have hc:=z_g hc;rw[YO (by omega)] at hp;exact h2 hp
    have hc:i < l.length:=by have:=z_f hc;omega
    have hmem:=YI hc;have bad:C5 s l l[i] = false→Ci s l = false:=λhh=>by
     rw[Z4];intro g;unfold Ci CN at g;simp only[z_b] at g;have:=Yb.1 g.1.1.1.1.1.1.1 _ hmem;rw[hh] at this;cases this
    have good:C5 s l l[i] = true→(l.take (i + 1)).all (C5 s l) = true:=λhh=>by
     rw[YD hc,List.all_append,hp];simpa using hh
    refine VY htg hc (jrp (De (l[i]).moved htg (by omega)) ?_);cases hf:Bf l (l[i]).moved with
    | none=>
     rw[GA hf];refine Bt [Pt b,.slice la l.length lc,I i,I (-1),.bool true] (λK' hK'=>?_) (λe he=>?_)
     ·refine Bt [Pt b,.slice la l.length lc,I i,I (-1),.bool true,U] (λK' hK'=>?_) (λe he=>?_)
      ·exact jlt (jtf hK')
      simp only[List.map,zc,zl,zj,z_t] at he;simp only[he];refine Bt [Pt b,.slice la l.length lc,I i,I (-1),.bool true,U,U] (λK' hK'=>?_) (λe he=>?_)
      ·exact jtf hK'
      simp only[List.map,zc,zl,zj,z_t] at he;simp only[he];exact jtf hK'
     simp only[List.map,zc,zl,zj,z_t] at he;simp only[he];exact DB (fin hR1 (hno (bad (MB hmem hf nd))))
    | some n=>
     obtain⟨k,hk,hfk,hn⟩:=E2 hf;subst hn;rw[hfk];have hT:=M6 (s:=s) hmem hf nd;cases c1:((l[k]).moved != (l[k]).at_) with
     | true=>
      refine Bt [Pt b,.slice la l.length lc,I i,I k,.bool true] (λK' hK'=>?_) (λe he=>?_)
      ·refine Bt [Pt b,.slice la l.length lc,I i,I k,.bool false,.bool true] (λK' hK'=>?_) (λe he=>?_)
       ·refine jlt ?_;rw[show decide ((k:Int) < 0) = false from decide_eq_false (by omega)];refine jff (VY htg hk (SM htg hk (jne ?_)));rw[c1];exact hK'
       simp only[List.map,zc,zl,zj,z_t] at he;simp only[he];refine Bt [Pt b,.slice la l.length lc,I i,I k,.bool true,U,U] (λK' hK'=>?_) (λe he=>?_)
       ·exact jtf hK'
       simp only[List.map,zc,zl,zj,z_t] at he;simp only[he];exact jtf hK'
      simp only[List.map,zc,zl,zj,z_t] at he;simp only[he];exact DB (fin hR1 (hno (bad (by rw[hT,c1];rfl))))
     | false=>
      refine Bt [Pt b,.slice la l.length lc,I i,I k,.bool (!((l[k]).sh == (l[i]).sh))] (λK' hK'=>?_) (λe he=>?_)
      ·refine Bt [Pt b,.slice la l.length lc,I i,I k,.bool false,.bool false] (λK' hK'=>?_) (λe he=>?_)
       ·refine jlt ?_;rw[show decide ((k:Int) < 0) = false from decide_eq_false (by omega)];refine jff (VY htg hk (SM htg hk (jne ?_)));rw[c1];exact hK'
       simp only[List.map,zc,zl,zj,z_t] at he;simp only[he];refine Bt [Pt b,.slice la l.length lc,I i,I k,.bool false,.agg #[I (l[k]).sh.refs,I (l[k]).sh.nums],.agg #[I (l[i]).sh.refs,I (l[i]).sh.nums]] (λK' hK'=>?_) (λe he=>?_)
       ·exact jff (XU htg hk (XU htg hc hK'))
       simp only[List.map,zc,zl,zj,z_t] at he;simp only[he];exact jff (@XE (l[k]).sh (l[i]).sh _ _ _ _ _ hK')
      simp only[List.map,zc,zl,zj,z_t] at he;simp only[he];cases c2:((l[k]).sh == (l[i]).sh) with
      | false=>exact DB (fin hR1 (hno (bad (by rw[hT,c1,c2];rfl))))
      | true=>
       refine CU ?_;rw[c1,c2] at hT;have hki:k = i↔(l[i]).moved = (l[i]).at_:=by
        have hka:=(Co hf).2;constructor
        ·rintro rfl;exact hka.symm
        ·intro e;rw[e,Eh nd hmem] at hf;have hf:=Yw hf;have a1:(l.map AY.at_)[k]? = some (l[k]).at_:=by rw[Yj,Y9 hk];rfl
         have a2:(l.map AY.at_)[i]? = some (l[k]).at_:=by rw[Yj,Y9 hc,← hf];rfl
         exact (List.getElem?_inj (by simpa using hk) nd).1 (a1.trans a2.symm)
       by_cases c3:k = i
       ·have hbe:((k:Int) != (i:Int)) = false:=by rw[c3];simp
        have hTt:C5 s l l[i] = true:=by rw[hT,beq_iff_eq.2 (hki.1 c3)];rfl
        refine Bt [Pt b,.slice la l.length lc,I i,.bool false] (λK' hK'=>?_) (λe he=>?_)
        ·refine Bt [Pt b,.slice la l.length lc,I i,I k,.bool false,U,U,U] (λK' hK'=>?_) (λe he=>?_)
         ·refine jne ?_;rw[hbe];exact jft hK'
         simp only[List.map,zc,zl,zj,z_t] at he;simp only[he];refine jft ?_;refine Bt [Pt b,.slice la l.length lc,I i,.bool false,U,U,U,U,U,U] (λK' hK'=>?_) (λe he=>?_)
         ·exact jft hK'
         simp only[List.map,zc,zl,zj,z_t] at he;simp only[he];refine Ae (jft jev) (jgu ?_);refine Bt [Pt b,.slice la l.length lc,I i,.bool false,U,U,U,U] (λK' hK'=>?_) (λe he=>?_)
         ·exact jgu hK'
         simp only[List.map,zc,zl,zj,z_t] at he;simp only[he];refine Bt [Pt b,.slice la l.length lc,I i,.bool false,U,U,U,U] (λK' hK'=>?_) (λe he=>?_)
         ·exact jft hK'
         simp only[List.map,zc,zl,zj,z_t] at he;simp only[he];exact Ae (jgu jev) hK'
        simp only[List.map,zc,zl,zj,z_t] at he;simp only[he];exact CU (jad (hK hc (good hTt)))
       ·have hbe:((k:Int) != (i:Int)) = true:=by simp;omega
        have hme:((l[i]).moved == (l[i]).at_) = false:=beq_eq_false_iff_ne.2 λe=>c3 (hki.2 e)
        rw[hme] at hT;obtain⟨r1,e1,hr1,f1⟩:=G7 hs hmem (by omega);obtain⟨r2,e2,hr2,f2⟩:=G7 hs (YI hk) (by omega);refine Bt [Pt b,.slice la l.length lc,I i,.bool (!C5 s l l[i])] (λK' hK'=>?_) (λe he=>?_)
        ·refine Bt [Pt b,.slice la l.length lc,I i,I k,.bool true,.pointer (some ⟨b,0 + 1,none⟩),S0 tb s.A0.length tc,I (l[i]).at_] (λK' hK'=>?_) (λe he=>?_)
         ·refine jne ?_;rw[hbe];exact jtt (jfo (jl (v:=S0 tb s.A0.length tc) rfl (SM htg hc hK')))
         simp only[List.map,zc,zl,zj,z_t] at he;simp only[he];refine jtt (jp (CD _ (by omega)) ?_);rw[e1];cases c4:((s.A0[r1]).kind == 4) with
         | false=>
          refine Bt [Pt b,.slice la l.length lc,I i,.bool true,.pointer (some ⟨b,0 + 1,none⟩),S0 tb s.A0.length tc,.bool true,U,U,U] (λK' hK'=>?_) (λe he=>?_)
          ·refine jtt (jrk h.z hr1 (jne ?_));rw[show ((s.A0[r1]).kind != 4) = true by unfold bne;rw[c4];rfl];exact jtf hK'
          simp only[List.map,zc,zl,zj,z_t] at he;simp only[he];refine Ae (jtt (jl (v:=S0 tb s.A0.length tc) rfl jev)) (jtf ?_);refine Bt [Pt b,.slice la l.length lc,I i,.bool true,.bool true,U,U,U] (λK' hK'=>?_) (λe he=>?_)
          ·exact jtf hK'
          simp only[List.map,zc,zl,zj,z_t] at he;simp only[he];refine Bt [Pt b,.slice la l.length lc,I i,.bool true,.bool true,U,U,.bool true] (λK' hK'=>?_) (λe he=>?_)
          ·exact jtt hK'
          simp only[List.map,zc,zl,zj,z_t] at he;simp only[he];refine Ae (jtf jev) ?_;rw[hT,f1,c4,Bool.and_false] at hK';exact hK'
         | true=>
          refine Bt [Pt b,.slice la l.length lc,I i,.bool true,.pointer (some ⟨b,0 + 1,none⟩),S0 tb s.A0.length tc,.bool false,.pointer (some ⟨b,0 + 1,none⟩),S0 tb s.A0.length tc,I (l[k]).at_] (λK' hK'=>?_) (λe he=>?_)
          ·refine jtt (jrk h.z hr1 (jne ?_));rw[show ((s.A0[r1]).kind != 4) = false by unfold bne;rw[c4];rfl];exact jff (jfo (jl (v:=S0 tb s.A0.length tc) rfl (SM htg hk hK')))
          simp only[List.map,zc,zl,zj,z_t] at he;simp only[he];refine Ae (jtt (jl (v:=S0 tb s.A0.length tc) rfl jev)) (jff (jp (CD _ (by omega)) ?_));rw[e2];refine Bt [Pt b,.slice la l.length lc,I i,.bool true,.bool false,.pointer (some ⟨b,0 + 1,none⟩),S0 tb s.A0.length tc,.bool ((s.A0[r2]).kind == 4)] (λK' hK'=>?_) (λe he=>?_)
          ·exact jff (jrk h.z hr2 (jeq hK'))
          simp only[List.map,zc,zl,zj,z_t] at he;simp only[he];refine Bt [Pt b,.slice la l.length lc,I i,.bool true,.bool false,.pointer (some ⟨b,0 + 1,none⟩),S0 tb s.A0.length tc,.bool ((s.A0[r2]).kind == 4)] (λK' hK'=>?_) (λe he=>?_)
          ·exact jtt hK'
          simp only[List.map,zc,zl,zj,z_t] at he;simp only[he];refine Ae (jff (jl (v:=S0 tb s.A0.length tc) rfl jev)) ?_;rw[hT,f1,c4,f2] at hK';cases c5:((s.A0[r2]).kind == 4)<;>(rw[c5] at hK';exact hK')
        simp only[List.map,zc,zl,zj,z_t] at he;simp only[he];refine jif (λg=>?_) (λg=>?_)
        ·exact fin hR1 (hno (bad (by simpa using g)))
        ·exact jad (hK hc (good (by simpa using g)))
   ·simp only[List.map,zc,zl,zj,z_t] at he;simp only[he];exact h1 hst
  simp only[List.map,zc,zl,zj,z_t] at he;simp only[he];have S:=QM (hth0.trans hs) Ie;have hbadr:Ay l (Dg s) [] = none→(CL s).isSome = false:=λhn=>SQ (hth0.trans hs) hn
  rw[show ((b,C 28 (cl (.agg (eSt s (.slice wa s.A6.length wc) (S0 tb s.A0.length tc) (.slice ma s.AN.length mc) thv ov pv).toArray))) :: ([] ++ F):Chs) = (b,C 28 (eSt s (.slice wa s.A6.length wc) (S0 tb s.A0.length tc) (.slice ma s.AN.length mc) thv ov pv)) :: ([] ++ F) from rfl];generalize hcs:eSt s (.slice wa s.A6.length wc) (S0 tb s.A0.length tc) (.slice ma s.AN.length mc) thv ov pv = cs;have c8:cs[8]? = some thv:=by rw[← hcs];rfl
  have c10:cs[10]? = some pv:=by rw[← hcs];rfl
  have c1:cs[1]? = some (S0 tb s.A0.length tc):=by rw[← hcs];rfl
  have rl:=h.b.rl;clear he ho;refine AH (λvs R' D'=>R' = R1∧∃ac v A,Ay l (s.A7.flatMap (·.AB)) [] = some ac∧s.A7.all EK = true∧SO ac v A∧D' = A ++ ((b,C 28 cs) :: ([] ++ F))∧vs = [Pt b,.slice la l.length lc,v]) (λK1 h1=>?_) ?_
  ·refine AH (λvs R' D'=>R' = R1∧∃ac v A,Ay l (s.A7.flatMap (·.AB)) [] = some ac∧s.A7.all EK = true∧SO ac v A∧D' = A ++ ((b,C 28 cs) :: ([] ++ F))∧vs = [Pt b,.slice la l.length lc,v]) (λK2 h2=>?_) ?_;rotate_left
   ·rintro e R2 D2 ⟨hR,ac,v,A,g1,g2,so,hD,he⟩;subst hR;rw[hD];clear hD;simp only[List.map,zc,zl,zj,z_t] at he;simp only[he];exact h1 _ _ _ ⟨rfl,ac,v,A,g1,g2,so,rfl,rfl⟩
   refine jlp (λm vs R' D'=>R' = R1∧∃(i:Nat) (ac:List Int) (v:Value) (A:Chs),i≤s.A7.length∧m = s.A7.length - i∧Ay l ((s.A7.take i).flatMap (·.AB)) [] = some ac∧(s.A7.take i).all EK = true∧SO ac v A∧D' = A ++ ((b,C 28 cs) :: ([] ++ F))∧vs = [Pt b,.slice la l.length lc,v,I i]) (n:=s.A7.length) ⟨rfl,0,[],_,[],by omega,rfl,rfl,rfl,.inl ⟨rfl,rfl,rfl⟩,rfl,rfl⟩ ?_;rintro m e R2 D2 K ⟨hR,i,ac,v,A,hi,hmm,hac,hta,so,hD,he⟩ hK;subst hR;rw[hD];clear hD;simp only[List.map,zc,zl,zj,z_t] at he;simp only[he];refine jl (v:=thv) c8 (Cf h.c.th.sl (jlt (jif (λhc=>?_) (λhc=>?_))));rotate_left
   ·have hc:=z_g hc;rw[YO (by omega)] at hac hta;exact h2 _ _ _ ⟨rfl,ac,v,A,hac,hta,so,rfl,rfl⟩
   have hc:i < s.A7.length:=by have:=z_f hc;omega
   have hrl:=rl _ (YI hc);have hacl:=E4 hac;have hfl:=Cy (s.A7.take i) (λt ht=>rl t (Yi ht));have hfl2:9 * (s.A7.take i).length≤27:=by rw[YS];omega
   rw[ZD] at hacl;refine AH (λvs R' D'=>R' = R2∧∃ac v A,Ay l ((s.A7.take (i + 1)).flatMap (·.AB)) [] = some ac∧(s.A7.take (i + 1)).all EK = true∧SO ac v A∧D' = A ++ ((b,C 28 cs) :: ([] ++ F))∧vs = [Pt b,.slice la l.length lc,v,I i]) (λK3 h3=>?_) ?_;rotate_left
   ·rintro e R3 D3 ⟨hR,ac,v,A,g1,g2,so,hD,he⟩;subst hR;rw[hD];clear hD;simp only[List.map,zc,zl,zj,z_t] at he;simp only[he];exact jad (hK (s.A7.length - (i + 1)) _ _ _ (by omega) ⟨rfl,i + 1,ac,v,A,by omega,rfl,g1,g2,so,rfl,rfl⟩)
   refine AH (λvs R' D'=>R' = R2∧∃ac v A,Ay l ((s.A7.take (i + 1)).flatMap (·.AB)) [] = some ac∧(s.A7.take (i + 1)).all EK = true∧SO ac v A∧D' = A ++ ((b,C 28 cs) :: ([] ++ F))∧vs = [Pt b,.slice la l.length lc,v,I i]) (λK4 h4=>?_) ?_;rotate_left
   ·rintro e R3 D3 ⟨hR,ac,v,A,g1,g2,so,hD,he⟩;subst hR;rw[hD];clear hD;simp only[List.map,zc,zl,zj,z_t] at he;simp only[he];exact h3 _ _ _ ⟨rfl,ac,v,A,g1,g2,so,rfl,rfl⟩
   refine jl (v:=thv) c8 (jtr h.c.th hc λb2 o2 ty cs2 rv hrv hb2 ho2 hrow=>?_);refine Ih (l:=[rv,I (s.A7[i]).next,.bool (s.A7[i]).busy,I (s.A7[i]).Aq]) hb2 ho2 hrow (ja λb3=>?_);obtain⟨ra,rc,rfl⟩:=hrv.sl;refine js (cs':=[.slice ra (s.A7[i]).AB.length rc,I (s.A7[i]).next,.bool (s.A7[i]).busy,I (s.A7[i]).Aq]) rfl rfl (YM rfl) rfl ?_;refine jor [Pt b,.slice la l.length lc,v,I i,Pt b3] ((decide (((s.A7[i]).AB.length:Int) > 8)) || (decide ((s.A7[i]).Aq < 0))) (λK' hK'=>?_) (λe c u ho he=>?_)
   ·refine jl (v:=.slice ra (s.A7[i]).AB.length rc) rfl (jln (jgr (BK (λh1=>?_) (λh1=>?_))))
    ·refine jl (v:=I (s.A7[i]).Aq) rfl (jlt (hK' _ _ _ (h1▸Ah) (by rw[h1,Y7])))
    ·exact hK' _ _ _ (h1▸Ag) (by rw[h1,Y8])
   simp only[List.map,zc,zl,zj,z_t] at he;simp only[he];refine jor [Pt b,.slice la l.length lc,v,I i,Pt b3] ((decide (((s.A7[i]).AB.length:Int) > 8) || decide ((s.A7[i]).Aq < 0)) || (decide ((s.A7[i]).Aq > 2))) (λK' hK'=>?_) (λe c u ho he=>?_)
   ·rw[ho];refine BK (λh1=>?_) (λh1=>?_)
    ·refine jl (v:=I (s.A7[i]).Aq) rfl (jgr (hK' _ _ _ (h1▸Ah) (by rw[h1,Y7])))
    ·exact hK' _ _ _ (h1▸Ag) (by rw[h1,Y8])
   simp only[List.map,zc,zl,zj,z_t] at he;simp only[he];rw[ho];have hthr:(decide (((s.A7[i]).AB.length:Int) > 8) || decide ((s.A7[i]).Aq < 0) || decide ((s.A7[i]).Aq > 2)) = !EK s.A7[i]:=by
    unfold EK;rw[Yp];simp only[YZ,YT,ZX,z_d,decide_eq_false_iff_not];omega
   rw[hthr];refine jif (λg=>?_) (λg=>?_)
   ·refine fin hR1 (hno ?_);rw[Z4];intro hh;unfold Ci at hh;simp only[z_b] at hh;have:=Yb.1 hh.1.2 _ (YI hc);rw[this] at g;cases g
   have htok:(s.A7.take (i + 1)).all EK = true:=by
    rw[YD hc,List.all_append,hta];simpa using g
   have hfe:(s.A7.take (i + 1)).flatMap (·.AB) = (s.A7.take i).flatMap (·.AB) ++ (s.A7[i]).AB:=by
    rw[YD hc,List.flatMap_append];simp
   have hre:∃rest,Dg s = (s.A7.take i).flatMap (·.AB) ++ ((s.A7[i]).AB ++ rest):=by
    refine⟨(s.A7.drop (i + 1)).flatMap (·.AB) ++ s.AK,?_⟩;unfold Dg
    conv=>lhs;rw[← ZJ (i + 1) s.A7]
    rw[List.flatMap_append,hfe];simp
   obtain⟨rest,hre⟩:=hre;refine Ar A (G:=((b3,C 83 [.slice ra (s.A7[i]).AB.length rc,I (s.A7[i]).next,.bool (s.A7[i]).busy,I (s.A7[i]).Aq]) :: (b,C 28 cs) :: ([] ++ F))) ?_;refine AH (λvs R' D'=>R' = R2∧∃ac2 v A,Ay l (s.A7[i]).AB ac = some ac2∧SO ac2 v A∧D' = A ++ ((b,C 28 cs) :: ([] ++ F))∧vs = [Pt b,.slice la l.length lc,v,I i]) (λK5 h5=>?_) ?_;rotate_left
   ·rintro e R3 D3 ⟨hR,ac2,v2,A2,g1,so2,hD,he⟩;subst hR;rw[hD];clear hD;simp only[List.map,zc,zl,zj,z_t] at he;simp only[he];refine h4 _ _ _ ⟨rfl,ac2,v2,A2,?_,htok,so2,rfl,rfl⟩;rw[hfe,CP,hac];exact g1
   refine jlp (λm vs R' D'=>R' = R2∧∃(j:Nat) (ac2:List Int) (v:Value) (A:Chs),j≤(s.A7[i]).AB.length∧m = (s.A7[i]).AB.length - j∧Ay l ((s.A7[i]).AB.take j) ac = some ac2∧SO ac2 v A∧D' = A ++ ((b3,C 83 [.slice ra (s.A7[i]).AB.length rc,I (s.A7[i]).next,.bool (s.A7[i]).busy,I (s.A7[i]).Aq]) :: (b,C 28 cs) :: ([] ++ F))∧vs = [Pt b,.slice la l.length lc,v,I i,Pt b3,I j]) (n:=(s.A7[i]).AB.length) ⟨rfl,0,ac,v,A,by omega,rfl,rfl,so,rfl,rfl⟩ ?_;clear so ho he hmm hK;rintro m e R3 D3 K ⟨hR,j,ac2,v2,A2,hj,hmm,hac2,so2,hD,he⟩ hK;subst hR;rw[hD];clear hD;simp only[List.map,zc,zl,zj,z_t] at he;simp only[he];refine jl (v:=.slice ra (s.A7[i]).AB.length rc) rfl (jln (jlt (jif (λhc2=>?_) (λhc2=>?_))));rotate_left
   ·have hc2:=z_g hc2;rw[YO (by omega)] at hac2;refine Ar A2 (G:=((b,C 28 cs) :: ([] ++ F))) ?_;exact h5 _ _ _ ⟨rfl,ac2,v2,A2,hac2,so2,rfl,rfl⟩
   have hc2:j < (s.A7[i]).AB.length:=by have:=z_f hc2;omega
   have hac2l:=E4 hac2;rw[YS] at hac2l;have hnx:Ay l ((s.A7[i]).AB.take (j + 1)) ac = (now l (s.A7[i]).AB[j]).bind λy=>some (Cj ac2 y):=by
    rw[YD hc2,CP,hac2];rfl
   refine jan [Pt b,.slice la l.length lc,v2,I i,Pt b3,I j] (((s.A7[i]).AB[j] != 0) && decide (NU l (s.A7[i]).AB[j] < 0)) (λK' hK'=>?_) (λe c u ho he=>?_)
   ·refine jl (v:=.slice ra (s.A7[i]).AB.length rc) rfl (C7 hrv (by omega) (by omega) ?_);simp only[Y6];refine jne (Bj (λg=>?_) (λg=>?_))
    ·refine jl (v:=.slice ra (s.A7[i]).AB.length rc) rfl (C7 hrv (by omega) (by omega) ?_);simp only[Y6];exact jrp (De _ htg (by omega)) (jlt (hK' _ _ _ (g▸Al) (by rw[g,YG])))
    ·exact hK' _ _ _ (g▸As) (by rw[g,YK])
   simp only[List.map,zc,zl,zj,z_t] at he;simp only[he];rw[ho];refine jif (λg=>?_) (λg=>?_)
   ·refine fin hR1 (hbadr ?_);simp only[z_b,bne_iff_ne,z_d] at g;have hnn:now l (s.A7[i]).AB[j] = none:=by
     unfold now;rw[if_neg g.1];cases hf:Bf l (s.A7[i]).AB[j] with
     | none=>rfl
     | some t=>obtain⟨q,_,e,_⟩:=E2 hf;omega
    rw[hre,CP,hac,z_o,CP]
    conv=>lhs;rw[← ZJ (j + 1) (s.A7[i]).AB,CP,hnx,hnn]
    rfl
   obtain⟨x,hx⟩:∃x,now l (s.A7[i]).AB[j] = some x:=by
    unfold now;by_cases g0:(s.A7[i]).AB[j] = 0
    ·exact⟨0,by rw[if_pos g0]⟩
    ·rw[if_neg g0];cases hf:Bf l (s.A7[i]).AB[j] with
     | none=>rw[GA hf] at g;simp[g0] at g
     | some t=>exact⟨_,rfl⟩
   refine jl (v:=.slice ra (s.A7[i]).AB.length rc) rfl (C7 hrv (by omega) (by omega) ?_);simp only[Y6];refine jrp (G5 htg (by omega) hx) ?_;refine jc (A:=A2) (KB x so2 (by omega)) ?_;rintro v3 R4 A3 _ ⟨hR,so3⟩;subst hR;refine jad ?_;refine hK ((s.A7[i]).AB.length - (j + 1)) _ _ _ (by omega) ⟨rfl,j + 1,_,v3,A3,by omega,rfl,?_,so3,rfl,rfl⟩;rw[hnx,hx];rfl
  rintro e R2 D2 ⟨hR,ac,v,A,hac,hta,so,hD,he⟩;subst hR;rw[hD];clear hD;simp only[List.map,zc,zl,zj,z_t] at he;simp only[he];have hacl:=E4 hac;have hfl:=Cy s.A7 rl;have hfl2:9 * s.A7.length≤27:=by omega
  rw[ZD] at hacl;obtain⟨pa,pc,rfl⟩:=h.c.p.sl;refine jl (v:=.slice pa s.AK.length pc) c10 (jln (jgr (jif (λg=>?_) (λg=>?_))))
  ·refine fin hR1 (hno ?_);rw[Z4];intro hh;unfold Ci at hh;simp only[z_b,z_d] at hh;have:=z_f g;omega
  have hpl:s.AK.length≤8:=by have:=z_g g;omega
  refine AH (λvs R' D'=>R' = R2∧∃out v A,Ay l (Dg s) [] = some out∧s.AK.all (DX s l) = true∧SO out v A∧D' = A ++ ((b,C 28 cs) :: ([] ++ F))∧vs = [.slice la l.length lc,v]) (λK1 h1=>?_) ?_
  ·refine AH (λvs R' D'=>R' = R2∧∃out v A,Ay l (Dg s) [] = some out∧s.AK.all (DX s l) = true∧SO out v A∧D' = A ++ ((b,C 28 cs) :: ([] ++ F))∧vs = [.slice la l.length lc,v]) (λK2 h2=>?_) ?_;rotate_left
   ·rintro e R3 D3 ⟨hR,ac,v,A,g1,g2,so,hD,he⟩;subst hR;rw[hD];clear hD;simp only[List.map,zc,zl,zj,z_t] at he;simp only[he];exact h1 _ _ _ ⟨rfl,ac,v,A,g1,g2,so,rfl,rfl⟩
   refine jlp (λm vs R' D'=>R' = R2∧∃(i:Nat) (v:Value) (A:Chs),i≤s.AK.length∧m = s.AK.length - i∧(s.AK.take i).all (DX s l) = true∧SO ((s.AK.take i).foldl Cj ac) v A∧D' = A ++ ((b,C 28 cs) :: ([] ++ F))∧vs = [Pt b,.slice la l.length lc,v,I i]) (n:=s.AK.length) ⟨rfl,0,v,A,by omega,rfl,rfl,so,rfl,rfl⟩ ?_;clear so;rintro m e R3 D3 K ⟨hR,i,v,A,hi,hmm,hpa,so,hD,he⟩ hK;subst hR;rw[hD];clear hD;simp only[List.map,zc,zl,zj,z_t] at he;simp only[he];refine jl (v:=.slice pa s.AK.length pc) c10 (jln (jlt (jif (λhc=>?_) (λhc=>?_))));rotate_left
   ·have hc:=z_g hc;rw[YO (by omega)] at hpa so;refine h2 _ _ _ ⟨rfl,_,v,A,?_,hpa,so,rfl,rfl⟩;unfold Dg;rw[CP,hac];exact K9 hpa
   have hc:i < s.AK.length:=by have:=z_f hc;omega
   have bad:DX s l s.AK[i] = false→Ci s l = false:=λhh=>by
    rw[Z4];intro g;unfold Ci at g;simp only[z_b] at g;have:=Yb.1 g.2 _ (YI hc);rw[hh] at this;cases this
   have hsl:((s.AK.take i).foldl Cj ac).length < 1000000:=by
    have:=E4 (K9 (acc:=ac) hpa);rw[YS] at this;omega
   refine jl (v:=.slice pa s.AK.length pc) c10 (C7 h.c.p (by omega) (by omega) ?_);simp only[Y6];refine jrp (De _ htg (by omega)) ?_;cases hf:Bf l s.AK[i] with
   | none=>
    rw[GA hf];refine Bt [Pt b,.slice la l.length lc,v,I i,.bool true] (λK' hK'=>?_) (λe he=>?_)
    ·refine Bt [Pt b,.slice la l.length lc,v,I i,I (-1),.bool true,U] (λK' hK'=>?_) (λe he=>?_)
     ·exact jlt (jtf hK')
     simp only[List.map,zc,zl,zj,z_t] at he;simp only[he];refine Bt [Pt b,.slice la l.length lc,v,I i,.bool true,U,U,U] (λK' hK'=>?_) (λe he=>?_)
     ·exact jtf hK'
     simp only[List.map,zc,zl,zj,z_t] at he;simp only[he];exact jtf (Ae jev hK')
    simp only[List.map,zc,zl,zj,z_t] at he;simp only[he];exact DB (fin hR1 (hno (bad (by unfold DX;rw[hf]))))
   | some n=>
    obtain⟨k,hk,hfk,hn⟩:=E2 hf;subst hn;rw[hfk];obtain⟨hkm,hka⟩:=Co hf;have hpo:DX s l s.AK[i] = (!((l[k]).moved != (l[k]).at_) && !DN s (l[k]).at_):=by
     unfold DX;rw[hf];dsimp only;rw[hka];unfold bne;cases (l[k]).moved == s.AK[i]<;>rfl
    obtain⟨r2,e2,hr2,f2⟩:=G7 hs hkm (by omega);refine Bt [Pt b,.slice la l.length lc,v,I i,.bool (!DX s l s.AK[i])] (λK' hK'=>?_) (λe he=>?_)
    ·refine Bt [Pt b,.slice la l.length lc,v,I i,I k,.bool false,.bool ((l[k]).moved != (l[k]).at_)] (λK' hK'=>?_) (λe he=>?_)
     ·refine jlt ?_;rw[show decide ((k:Int) < 0) = false from decide_eq_false (by omega)];exact jff (VY htg hk (SM htg hk (jne hK')))
     simp only[List.map,zc,zl,zj,z_t] at he;simp only[he];cases c4:((l[k]).moved != (l[k]).at_) with
     | true=>
      refine Bt [Pt b,.slice la l.length lc,v,I i,.bool true,U,U,U] (λK' hK'=>?_) (λe he=>?_)
      ·exact jtf hK'
      simp only[List.map,zc,zl,zj,z_t] at he;simp only[he];rw[hpo,c4] at hK';exact jtf (Ae jev hK')
     | false=>
      refine Bt [Pt b,.slice la l.length lc,v,I i,.bool false,.pointer (some ⟨b,0 + 1,none⟩),S0 tb s.A0.length tc,I (l[k]).at_] (λK' hK'=>?_) (λe he=>?_)
      ·exact jff (jfo (jl (v:=S0 tb s.A0.length tc) (by rw[YQ];exact c1) (SM htg hk hK')))
      simp only[List.map,zc,zl,zj,z_t] at he;simp only[he];refine jff (jp (CD _ (by omega)) ?_);rw[e2];refine jrk h.z hr2 (jeq ?_);rw[hpo,c4,f2] at hK';refine Ae (jl (v:=S0 tb s.A0.length tc) (by rw[YQ];exact c1) jev) ?_;cases c5:((s.A0[r2]).kind == 4)<;>(rw[c5] at hK';exact hK')
    simp only[List.map,zc,zl,zj,z_t] at he;simp only[he];refine jif (λg=>?_) (λg=>?_)
    ·exact fin hR1 (hno (bad (by simpa using g)))
    have hok:DX s l s.AK[i] = true:=by simpa using g
    refine jl (v:=.slice pa s.AK.length pc) c10 (C7 h.c.p (by omega) (by omega) ?_);simp only[Y6];refine jc (A:=A) (KB s.AK[i] so hsl) ?_;rintro v3 R4 A3 _ ⟨hR,so3⟩;subst hR;refine jad ?_;refine hK (s.AK.length - (i + 1)) _ _ _ (by omega) ⟨rfl,i + 1,v3,A3,by omega,rfl,?_,?_,rfl,rfl⟩
    ·rw[YD hc,List.all_append,hpa];simpa using hok
    ·rw[YD hc,List.foldl_append];exact so3
  rintro e R3 D3 ⟨hR,out,v,A,hout,hpa,so,hD,he⟩;subst hR;rw[hD];clear hD;simp only[List.map,zc,zl,zj,z_t] at he;simp only[he];have M0:DJ l out:=DJ.nil.all S hout;have hhead:Ci s l = true:=by
   unfold Ci;simp only[z_b,z_d];exact⟨⟨⟨⟨⟨⟨⟨Ie,by omega⟩,by omega⟩,by omega⟩,by omega⟩,by omega⟩,hta⟩,hpa⟩
  have hho:CL s = (BZ l (l.length + 2) 0 out).map λm=>(l,m):=by
   unfold CL;rw[hth0,hs];dsimp only;rw[if_pos hhead,F4 hpa,hout];rfl
  refine jlp (λm vs R' D'=>R' = R3∧∃(i:Nat) (ac:List Int) (v:Value) (A:Chs),i≤ac.length∧m = l.length + 2 - i∧BZ l (l.length + 2 - i) i ac = BZ l (l.length + 2) 0 out∧DJ l ac∧SO ac v A∧D' = A ++ ((b,C 28 cs) :: ([] ++ F))∧vs = [.slice la l.length lc,v,I i]) (n:=l.length + 2) ⟨rfl,0,out,v,A,by omega,by omega,rfl,M0,so,rfl,rfl⟩ ?_;clear so hac hacl;rintro m e R4 D4 K ⟨hR,i,ac,v,A,hi,hmm,hrl,M,so,hD,he⟩ hK;subst hR;rw[hD];clear hD;simp only[List.map,zc,zl,zj,z_t] at he;simp only[he];have hal:=M.len;obtain⟨va,vc,hvv⟩:=so.sln;refine Cf ⟨va,vc,hvv⟩ (jlt (jif (λhc=>?_) (λhc=>?_)));rotate_left
  ·have hc:=z_g hc;obtain⟨q,hq⟩:∃q,l.length + 2 - i = q + 1:=⟨l.length + 1 - i,by omega⟩;rw[hq,Ef (by omega)] at hrl;refine fin hR1 ?_;rw[hho,← hrl];rfl
  have hc:i < ac.length:=by have:=z_f hc;omega
  obtain⟨t,ht⟩:=M.th _ (YI hc);obtain⟨htm,hta'⟩:=Co ht;obtain⟨q,hq⟩:∃q,l.length + 2 - i = q + 1:=⟨l.length + 1 - i,by omega⟩;rw[hq,EG hc ht] at hrl;have htb:=tbl t htm;refine AH (λvs R' D'=>R' = R4∧∃ac2 v A,Ay l t.refs ac = some ac2∧SO ac2 v A∧D' = A ++ ((b,C 28 cs) :: ([] ++ F))∧vs = [.slice la l.length lc,v,I i]) (λK3 h3=>?_) ?_;rotate_left
  ·rintro e R5 D5 ⟨hR,ac2,v2,A2,hn,so2,hD,he⟩;subst hR;rw[hD];clear hD;simp only[List.map,zc,zl,zj,z_t] at he;simp only[he];rw[hn,z_o] at hrl;have M2:=M.all S hn;have:=M2.len;have hge:=DR hn;exact jad (hK q _ _ _ (by omega) ⟨rfl,i + 1,ac2,v2,A2,by omega,by omega,by rw[← hrl];congr 1;omega,M2,so2,rfl,rfl⟩)
  refine AH (λvs R' D'=>R' = R4∧∃ac2 v A,Ay l t.refs ac = some ac2∧SO ac2 v A∧D' = A ++ ((b,C 28 cs) :: ([] ++ F))∧vs = [.slice la l.length lc,v,I i]) (λK4 h4=>?_) ?_;rotate_left
  ·rintro e R5 D5 ⟨hR,ac2,v2,A2,hn,so2,hD,he⟩;subst hR;rw[hD];clear hD;simp only[List.map,zc,zl,zj,z_t] at he;simp only[he];exact h3 _ _ _ ⟨rfl,ac2,v2,A2,hn,so2,rfl,rfl⟩
  refine XL so hc (jrp (De _ htg (by omega)) ?_);obtain⟨k,hk,hfk,hn⟩:=E2 ht;rw[hfk];refine jtg htg hk λb2 o2 ty cs2 rv nv hrv hnv hb2 ho2 hrow=>?_
  rw[hn] at hrv hnv hrow;obtain⟨ra,rc,rfl⟩:=hrv.sl;obtain⟨na,nc,rfl⟩:=hnv.sl;refine Ih (l:=eTh t (.slice ra t.refs.length rc) (.slice na t.nums.length nc)) hb2 ho2 hrow (ja λb3=>?_);refine js (cs':=eTh t (.slice ra t.refs.length rc) (.slice na t.nums.length nc)) rfl rfl (by exact z_n 6) rfl ?_;refine Ar A (G:=((b3,C 62 (eTh t (.slice ra t.refs.length rc) (.slice na t.nums.length nc))) :: (b,C 28 cs) :: ([] ++ F))) ?_;refine AH (λvs R' D'=>R' = R4∧∃ac2 v A,Ay l t.refs ac = some ac2∧SO ac2 v A∧D' = A ++ ((b,C 28 cs) :: ([] ++ F))∧vs = [.slice la l.length lc,v,I i]) (λK5 h5=>?_) ?_;rotate_left
  ·rintro e R5 D5 ⟨hR,ac2,v2,A2,hn,so2,hD,he⟩;subst hR;rw[hD];clear hD;simp only[List.map,zc,zl,zj,z_t] at he;simp only[he];exact h4 _ _ _ ⟨rfl,ac2,v2,A2,hn,so2,rfl,rfl⟩
  refine jlp (λm vs R' D'=>R' = R4∧∃(j:Nat) (ac2:List Int) (v:Value) (A:Chs),j≤t.refs.length∧m = t.refs.length - j∧Ay l (t.refs.take j) ac = some ac2∧SO ac2 v A∧D' = A ++ ((b3,C 62 (eTh t (.slice ra t.refs.length rc) (.slice na t.nums.length nc))) :: (b,C 28 cs) :: ([] ++ F))∧vs = [.slice la l.length lc,v,I i,Pt b3,I j]) (n:=t.refs.length) ⟨rfl,0,ac,v,A,by omega,rfl,rfl,so,rfl,rfl⟩ ?_;clear so hmm hK he;rintro m e R5 D5 K ⟨hR,j,ac2,v2,A2,hj,hmm,hac2,so2,hD,he⟩ hK;subst hR;rw[hD];clear hD;simp only[List.map,zc,zl,zj,z_t] at he;simp only[he];refine jl (v:=.slice ra t.refs.length rc) rfl (jln (jlt (jif (λhc2=>?_) (λhc2=>?_))));rotate_left
  ·have hc2:=z_g hc2;rw[YO (by omega)] at hac2;refine Ar A2 (G:=((b,C 28 cs) :: ([] ++ F))) ?_;exact h5 _ _ _ ⟨rfl,ac2,v2,A2,hac2,so2,rfl,rfl⟩
  have hc2:j < t.refs.length:=by have:=z_f hc2;omega
  have hac2l:=E4 hac2;rw[YS] at hac2l;have hnx:Ay l (t.refs.take (j + 1)) ac = (now l t.refs[j]).bind λy=>some (Cj ac2 y):=by
   rw[YD hc2,CP,hac2];rfl
  refine jan [.slice la l.length lc,v2,I i,Pt b3,I j] ((t.refs[j] != 0) && decide (NU l t.refs[j] < 0)) (λK' hK'=>?_) (λe c u ho he=>?_)
  ·refine jl (v:=.slice ra t.refs.length rc) rfl (C7 hrv (by omega) (by omega) ?_);simp only[Y6];refine jne (Bj (λg=>?_) (λg=>?_))
   ·refine jl (v:=.slice ra t.refs.length rc) rfl (C7 hrv (by omega) (by omega) ?_);simp only[Y6];exact jrp (De _ htg (by omega)) (jlt (hK' _ _ _ (g▸Al) (by rw[g,YG])))
   ·exact hK' _ _ _ (g▸As) (by rw[g,YK])
  simp only[List.map,zc,zl,zj,z_t] at he;simp only[he];rw[ho];refine jif (λg=>?_) (λg=>?_)
  ·refine fin hR1 ?_;simp only[z_b,bne_iff_ne,z_d] at g;have hnn:now l t.refs[j] = none:=by
    unfold now;rw[if_neg g.1];cases hf:Bf l t.refs[j] with
    | none=>rfl
    | some t=>obtain⟨q,_,e,_⟩:=E2 hf;omega
   have:Ay l t.refs ac = none:=by
    conv=>lhs;rw[← ZJ (j + 1) t.refs,CP,hnx,hnn]
    rfl
   rw[this] at hrl;rw[hho,← hrl];rfl
  obtain⟨x,hx⟩:∃x,now l t.refs[j] = some x:=by
   unfold now;by_cases g0:t.refs[j] = 0
   ·exact⟨0,by rw[if_pos g0]⟩
   ·rw[if_neg g0];cases hf:Bf l t.refs[j] with
    | none=>rw[GA hf] at g;simp[g0] at g
    | some t=>exact⟨_,rfl⟩
  refine jl (v:=.slice ra t.refs.length rc) rfl (C7 hrv (by omega) (by omega) ?_);simp only[Y6];refine jrp (G5 htg (by omega) hx) ?_;refine jc (A:=A2) (KB x so2 (by omega)) ?_;rintro v3 R6 A3 _ ⟨hR,so3⟩;subst hR;refine jad ?_;refine hK (t.refs.length - (j + 1)) _ _ _ (by omega) ⟨rfl,j + 1,_,v3,A3,by omega,rfl,?_,so3,rfl,rfl⟩;rw[hnx,hx];rfl
end st
end Go.Lf
end
section
namespace Go.Lf
open Go Sm
def mkB (n:Nat) (xs:List Int):List Bool:=(List.range n).map λ(i:Nat)=>decide ((i:Int)∈xs)
theorem Qz (n:Nat) (xs:List Int):(mkB n xs).length = n:=by simp[mkB]
theorem RH (n:Nat):mkB n [] = List.replicate n false:=by
 apply List.ext_getElem<;>simp[mkB]
theorem V4 {n k:Nat} {xs:List Int} (h:k < n):(mkB n xs).set k true = mkB n (xs ++ [(k:Int)]):=by
 apply List.ext_getElem?;intro i;rw[List.getElem?_set];unfold mkB;simp only[Yd,List.length_range,Yj,List.getElem?_range',Ya,YR];by_cases e:k = i
 ·subst e;rw[if_pos rfl,if_pos h,List.getElem?_range h];simp
 ·rw[if_neg e];by_cases hi:i < n
  ·rw[List.getElem?_range hi];have:¬ ((i:Int) = k):=by omega
   simp[this]
  ·rw[Yn (by simpa using hi)];rfl
theorem S5 {n:Nat} {xs ys:List Int} (h:∀x,x∈xs↔x∈ys):mkB n xs = mkB n ys:=by
 unfold mkB;apply List.map_congr_left;intro i _;congr 1;exact propext (h _)
def Y2 (n:Nat) (xs:List Int) (v:Value) (A:Chs):Prop:=∃b,v = S0 b n n∧A = [(b,C Aj ((mkB n xs).map Value.bool))]
section st
variable {R:RM} {s:Sm.BI} {wv tv mv thv ov pv:Value}
def QLv (r:Option (List AY × List Int)) (v:Value) (A:Chs):Prop:=match r with
 | none=>v = .tuple #[.slice none 0 0,.bool false]∧A = []
 | some (_,met)=>∃sv,SO (Av met) sv A∧v = .tuple #[sv,.bool true]
theorem HL {l:List AY} (h:SF R s wv tv mv thv ov pv) (hl:EI s = some l):l.length≤192∧TB l:=by
 have h1:=hl;unfold EI at h1;split at h1;rotate_left
 ·cases h1
 unfold BE at h1;have h2:=Lq (by have:=h.b.wl;have:=h.b.t1;omega) h1;have:=h.b.t1;rw[ZQ] at h2;exact⟨by omega,h2.1⟩
set_option maxRecDepth 4000 in
theorem Ho (h:SF R s wv tv mv thv ov pv):Fn P Hf [.agg (eSt s wv tv mv thv ov pv).toArray] R [] (λv R' A=>QLv (CL s) v A):=by
 refine Nk λF=>?_
 unfold HZ;refine ja λb=>jla (l:=eSt s wv tv mv thv ov pv) (by exact z_n 13) rfl ?_
 refine jc (A:=[]) (Ll h) ?_;rintro x R1 _ hR ⟨rfl,hq⟩;cases hh:CL s with
 | none=>
  rw[hh] at hq;obtain rfl:x = _:=hq;exact jxr (λw=>Vw w _ _) (DB (B8 (A:=[]) hR ⟨rfl,rfl⟩))
 | some q=>
  obtain⟨l,met⟩:=q;rw[hh] at hq;obtain⟨hb,mb,v,rfl,hv⟩:=hq;have hf:=Dq hh;have:=hf.M.len;have:=(HL h hf.ths).1;refine jxr (λw=>Vp w _ _ hb) (CU ?_);refine jc (A:=[]) (TT hv hf.M.nd (by omega)) ?_;rintro sv R2 A2 _ ⟨hR2,so⟩;subst hR2;exact B8 (A:=A2) hR ⟨sv,so,rfl⟩
theorem Q0 (h:SF R s wv tv mv thv ov pv):Fn P HT [.agg (eSt s wv tv mv thv ov pv).toArray] R [] (λv R' A=>QLv (CL s) v A):=by
 refine NK λF=>?_
 unfold Hi;refine ja λb=>jla (l:=eSt s wv tv mv thv ov pv) (by exact z_n 13) rfl (jrp (SB h) ?_)
 cases hh:CL s with
 | none=>exact DB (B8 (A:=[]) (RM.le.refl R) ⟨rfl,rfl⟩)
 | some q=>
  obtain⟨l,met⟩:=q;have hf:=Dq hh;obtain⟨hll,tbl⟩:=HL h hf.ths;have hml:=hf.M.len;have t1:=h.b.t1;have wl:=h.b.wl;have n1:=h.b.n1;have rl:=h.b.rl;have pl:=h.b.pl;have hth:BE s = some l:=by
   have h1:=hf.ths;unfold EI at h1;split at h1
   ·exact h1
   ·cases h1
  refine CU (jla (l:=eSt s wv tv mv thv ov pv) (by exact z_n 13) rfl ?_);refine jc (A:=[]) (H8 h.c (by omega) (by omega)) ?_;rintro _ R1 _ hR1 ⟨rfl,hq⟩;rw[hth] at hq;obtain⟨lv,htg,rfl⟩:=hq;refine jex rfl (jex rfl (jla (l:=eSt s wv tv mv thv ov pv) (by exact z_n 13) rfl ?_));refine jc (A:=[]) (Iy (h.le hR1).c htg (by omega) hf.re (by omega) (λt ht=>by have:=rl t ht;omega) (by omega) (λt ht=>by have:=tbl t ht;omega)) ?_;rintro rv R2 A2 hR2 so;refine Eu so λR3 hR3 hi=>?_
  refine jc (A:=[]) (KP hi (by omega)) ?_;rintro sv R4 A4 _ ⟨hR,so4⟩;subst hR;exact B8 (A:=A4) (hR1.trans (hR2.trans hR3)) ⟨sv,so4,rfl⟩
def QMr (r:Option (List AY × List Int)) (n:Nat) (v:Value) (A:Chs):Prop:=match r with
 | none=>v = .tuple #[.slice none 0 0,.bool false]∧A = []
 | some (_,met)=>∃sv,Y2 n met sv A∧v = .tuple #[sv,.bool true]
theorem Xb {D:Chs} {b n k:Nat} {xs:List Int} {m:M} {D' : Chs} (hk:k < n) [a:At D b (C Aj ((mkB n xs).map Value.bool))] [u:Up D b (C Aj ((mkB n xs).map Value.bool)) (C Aj ((mkB n (xs ++ [(k:Int)])).map Value.bool)) D']
  (H:J R D' m):J R D (IA 1 (S0 b n n) (I (k:Int)) λp=>ST 1 p (.bool true) m):=by
 refine CZ hk (js (cs:=(mkB n xs).map Value.bool) (cs':=(mkB n (xs ++ [(k:Int)])).map Value.bool) rfl rfl (by rw[Yd,Qz];show 0 + k * 1 + 1≤n;omega) ?_ H);rw[Z8,YQ];show lay _ k [.bool true] = _;rw[F0 (by rw[Yd,Qz];exact hk),← List.map_set,V4 hk]
theorem Nt {l:List AY} {met:List Int} (h:SF R s wv tv mv thv ov pv) (hf:HpF s l met):∀a∈met,∃k:Nat,a = k∧k < s.A6.length:=by
 intro a ha;obtain⟨t,ht⟩:=hf.M.th a ha;obtain⟨h1,h2⟩:=Co ht;have h3:=hf.ths;unfold EI at h3;split at h3;rotate_left
 ·cases h3
 obtain⟨r,e,hr,_⟩:=G7 h3 h1 h.b.t1;have:=hf.S.at16 t h1;have wl:=h.b.wl;unfold AO at e;rw[if_neg (by omega)] at e;exact⟨a.toNat,by omega,by omega⟩
set_option maxRecDepth 4000 in
theorem ME (h:SF R s wv tv mv thv ov pv):Fn P GP [.agg (eSt s wv tv mv thv ov pv).toArray] R [] (λv R' A=>QMr (CL s) s.A6.length v A):=by
 refine MC λF=>?_
 unfold GH;refine ja λb=>jla (l:=eSt s wv tv mv thv ov pv) (by exact z_n 13) rfl ?_
 refine jc (A:=[]) (Ll h) ?_;rintro x R1 _ hR ⟨rfl,hq⟩;cases hh:CL s with
 | none=>
  rw[hh] at hq;obtain rfl:x = _:=hq;exact jxr (λw=>Vw w _ _) (DB (B8 (A:=[]) hR ⟨rfl,rfl⟩))
 | some q=>
  obtain⟨l,met⟩:=q;rw[hh] at hq;obtain⟨hb,mb,v,rfl,o,g1,g2,g3,g4⟩:=hq;have hf:=Dq hh;have hml:=hf.M.len;have hll:=(HL h hf.ths).1;have wl:=h.b.wl;have t1:=h.b.t1;have hrg:=Nt h hf;obtain⟨wa,wc,rfl⟩:=h.c.w.sl;obtain⟨va,vc,rfl⟩:=g4.sl;refine jxr (λw=>Vp w _ _ hb) (CU ?_);refine jl (v:=.slice wa s.A6.length wc) rfl (jln ?_);refine jms (by omega) (by omega) (by omega) λmk=>?_
  have e0:(List.replicate (s.A6.length:Int).toNat (cl z4)).flatten = (mkB s.A6.length []).map Value.bool:=by
   rw[RH,Y6];show (List.replicate s.A6.length [Value.bool false]).flatten = _;simp
  rw[e0,Y6];refine AH (λvs R' D'=>R' = R1∧D' = (mk,C Aj ((mkB s.A6.length met).map Value.bool)) :: F∧vs = [S0 mk s.A6.length s.A6.length]) (λK1 h1=>?_) ?_;rotate_left
  ·rintro e R2 D2 ⟨hR2,hD,he⟩;subst hR2;rw[hD];clear hD;simp only[List.map,zc,zl,zj,z_t] at he;simp only[he];exact B8 (A:=[(mk,C Aj ((mkB s.A6.length met).map Value.bool))]) hR ⟨_,⟨mk,rfl,rfl⟩,rfl⟩
  refine jnc (jfo (jlr (v:=.slice va met.length vc) g1 rfl (jln ?_)));refine AH (λvs R' D'=>R' = R1∧D' = (mk,C Aj ((mkB s.A6.length met).map Value.bool)) :: F∧vs = [S0 mk s.A6.length s.A6.length]) (λK2 h2=>?_) ?_;rotate_left
  ·rintro e R2 D2 ⟨hR2,hD,he⟩;subst hR2;rw[hD];clear hD;simp only[List.map,zc,zl,zj,z_t] at he;simp only[he];exact h1 _ _ _ ⟨rfl,rfl,rfl⟩
  refine jk1 (F:=F) mk ?_;refine jlp (λm vs R' D'=>R' = R1∧∃i:Nat,i≤met.length∧m = met.length - i∧D' = (mk,C Aj ((mkB s.A6.length (met.take i)).map Value.bool)) :: F∧vs = [S0 mk s.A6.length s.A6.length,.slice va met.length vc,I met.length,I i]) (n:=met.length) ⟨rfl,0,by omega,rfl,rfl,rfl⟩ ?_;rintro m e R2 D2 K ⟨hR2,i,hi,hmm,hD,he⟩ hK;subst hR2;rw[hD];clear hD;simp only[List.map,zc,zl,zj,z_t] at he;simp only[he];refine jlt (jif (λhc=>?_) (λhc=>?_));rotate_left
  ·have hc:=z_g hc;rw[YO (by omega)];exact h2 _ _ _ ⟨rfl,rfl,rfl⟩
  have hc:i < met.length:=by have:=z_f hc;omega
  obtain⟨k,hk,hkl⟩:=hrg _ (YI hc);refine C7 g4 (by omega) (by omega) ?_;simp only[Y6];rw[hk];refine Xb hkl (jad ?_);refine hK (met.length - (i + 1)) _ _ _ (by omega) ⟨rfl,i + 1,by omega,rfl,?_,rfl⟩;rw[YD hc,hk]
theorem Qx {met:List Int} (h:met.Nodup):∀x,x∈Av met↔x∈met:=(EQ h).2
theorem JA (h:SF R s wv tv mv thv ov pv):Fn P GU [.agg (eSt s wv tv mv thv ov pv).toArray] R [] (λv R' A=>QMr (CL s) s.A6.length v A):=by
 refine MM λF=>?_
 unfold Gc;refine ja λb=>jla (l:=eSt s wv tv mv thv ov pv) (by exact z_n 13) rfl ?_
 refine jc (A:=[]) (Q0 h) ?_;intro x R1 A1 hR hq;cases hh:CL s with
 | none=>
  rw[hh] at hq;obtain⟨rfl,rfl⟩:=hq;exact jex rfl (jex rfl (DB (B8 (A:=[]) hR ⟨rfl,rfl⟩)))
 | some q=>
  obtain⟨l,met⟩:=q;rw[hh] at hq;obtain⟨sv,so,rfl⟩:=hq;have hf:=Dq hh;have hml:=hf.M.len;have hll:=(HL h hf.ths).1;have wl:=h.b.wl;have t1:=h.b.t1;have hrg:=Nt h hf;have hsm:=Qx hf.M.nd;have hsl:(Av met).length = met.length:=by
   have:=F5 met [];simpa [Av] using this
  obtain⟨wa,wc,rfl⟩:=h.c.w.sl;refine jex rfl (jex rfl (CU (Eu so λR2 hR2 hi=>?_)));obtain⟨va,vc,rfl⟩:=hi.sl;refine jl (v:=.slice wa s.A6.length wc) rfl (jln ?_);refine jms (by omega) (by omega) (by omega) λmk=>?_
  have e0:(List.replicate (s.A6.length:Int).toNat (cl z4)).flatten = (mkB s.A6.length []).map Value.bool:=by
   rw[RH,Y6];show (List.replicate s.A6.length [Value.bool false]).flatten = _;simp
  rw[e0,Y6];refine AH (λvs R' D'=>R' = R2∧D' = (mk,C Aj ((mkB s.A6.length (Av met)).map Value.bool)) :: F∧vs = [S0 mk s.A6.length s.A6.length]) (λK1 h1=>?_) ?_;rotate_left
  ·rintro e R3 D2 ⟨hR2',hD,he⟩;subst hR2';rw[hD];clear hD;simp only[List.map,zc,zl,zj,z_t] at he;simp only[he];rw[S5 hsm];exact B8 (A:=[(mk,C Aj ((mkB s.A6.length met).map Value.bool))]) (hR.trans hR2) ⟨_,⟨mk,rfl,rfl⟩,rfl⟩
  refine AH (λvs R' D'=>R' = R2∧D' = (mk,C Aj ((mkB s.A6.length (Av met)).map Value.bool)) :: F∧vs = [S0 mk s.A6.length s.A6.length]) (λK2 h2=>?_) ?_;rotate_left
  ·rintro e R3 D2 ⟨hR2',hD,he⟩;subst hR2';rw[hD];clear hD;simp only[List.map,zc,zl,zj,z_t] at he;simp only[he];exact h1 _ _ _ ⟨rfl,rfl,rfl⟩
  refine jk1 (F:=F) mk ?_;refine jlp (λm vs R' D'=>R' = R2∧∃i:Nat,i≤(Av met).length∧m = (Av met).length - i∧D' = (mk,C Aj ((mkB s.A6.length ((Av met).take i)).map Value.bool)) :: F∧vs = [.slice va (Av met).length vc,S0 mk s.A6.length s.A6.length,I i]) (n:=(Av met).length) ⟨rfl,0,by omega,rfl,rfl,rfl⟩ ?_;rintro m e R3 D2 K ⟨hR3,i,hi',hmm,hD,he⟩ hK;subst hR3;rw[hD];clear hD;simp only[List.map,zc,zl,zj,z_t] at he;simp only[he];refine jln (jlt (jif (λhc=>?_) (λhc=>?_)));rotate_left
  ·have hc:=z_g hc;rw[YO (by omega)];exact h2 _ _ _ ⟨rfl,rfl,rfl⟩
  have hc:i < (Av met).length:=by have:=z_f hc;omega
  obtain⟨k,hk,hkl⟩:=hrg _ ((hsm _).1 (YI hc));refine C7 hi (by omega) (by omega) ?_;simp only[Y6];rw[hk];refine Xb hkl (jad ?_);refine hK ((Av met).length - (i + 1)) _ _ _ (by omega) ⟨rfl,i + 1,by omega,rfl,?_,rfl⟩;rw[YD hc,hk]
end st
section rules
variable {R:RM} {D:Chs} {k:Value→M}
theorem XN {lv:List Nat} {B:(List Value→M)→Env→M} {vs:List Value} (n:Nat) (q:Nat→List Value→Prop) (h0:q 0 vs)
  (H:∀(i:Nat) K e,i≤n→q i (lv.map e)→(∀vs',i < n→q (i + 1) vs'→J R D (K vs'))→J R D (B K e)):J R D (LP lv B vs):=by
 refine jlp (λm vs R' D'=>R' = R∧D' = D∧∃i:Nat,i≤n∧m = n - i∧q i vs) (n:=n) ⟨rfl,rfl,0,by omega,by omega,h0⟩ ?_;rintro m e R1 D1 K ⟨hR,hD,i,hi,hm,hp⟩ hK;subst hR hD;exact H i K e hi hp (λvs' h hp'=>hK (n - (i + 1)) _ _ _ (by omega) ⟨rfl,rfl,i + 1,by omega,rfl,hp'⟩)
end rules
def DSF (x:Value) (R:RM):Prop:=∃(s:Sm.BI) (wv tv mv thv ov pv:Value),x = .agg (eSt s wv tv mv thv ov pv).toArray∧SF R s wv tv mv thv ov pv
theorem Wc {R R' : RM} {rb:Nat} {v:Value} {m c:Int} {x:Value} {A F:Chs} {mm:M} (h:DSt R rb v m c x R' A) (H:∀R2,R'.le R2→DSF x R2→J R2 F mm):J R' (A ++ F) mm:=by
 obtain⟨s,wv,mv,thv,ov,pv,tb,tc,tsp,m',sb,hw,hm,hth,hov,hpv,htc,_,_,rfl,rfl⟩:=h;show J R' ((rb,rdO v m') :: (tb,C AG (AZ eRg s.A0 ++ tsp)) :: F) mm;refine C0 (Ba (b:=tb) λR2 hR2 hb=>?_);exact H R2 hR2 ⟨s,wv,_,mv,thv,ov,pv,rfl,⟨hw.le hR2,UP hb htc,hm.le hR2,hth.le hR2,hov.le hR2,hpv.le hR2⟩,⟨tb,tc,tsp,rfl,hb,htc⟩,sb⟩
theorem DSF.cut {x:Value} {R:RM} (h:DSF x R):∃(s:Sm.BI) (wa:Option Addr) (wc tb tc:Nat) (ma:Option Addr) (mc:Nat) (ta:Option Addr) (thc:Nat) (oa:Option Addr) (oc:Nat) (pa:Option Addr) (pc:Nat),x = .agg (eSt s (.slice wa s.A6.length wc) (S0 tb s.A0.length tc) (.slice ma s.AN.length mc) (.slice ta s.A7.length thc) (.slice oa s.old.length oc) (.slice pa s.AK.length pc)).toArray∧SF R s (.slice wa s.A6.length wc) (S0 tb s.A0.length tc) (.slice ma s.AN.length mc) (.slice ta s.A7.length thc) (.slice oa s.old.length oc) (.slice pa s.AK.length pc):=by
 obtain⟨s,wv,tv,mv,thv,ov,pv,rfl,h⟩:=h;obtain⟨tb,tc,sp,rfl,hb,htc⟩:=h.z;obtain⟨wa,wc,rfl⟩:=h.c.w.sl;obtain⟨ma,mc,rfl⟩:=h.c.m.sl;obtain⟨tha,thc,rfl⟩:=h.c.th.sl;obtain⟨oa,oc,rfl⟩:=h.c.o.sl;obtain⟨pa,pc,rfl⟩:=h.c.p.sl;exact⟨s,wa,wc,tb,tc,ma,mc,tha,thc,oa,oc,pa,pc,rfl,h⟩
theorem Wa {x:Value} {R:RM} {F:Chs} {b:Nat} {k:Value→M} (h:DSF x R) (H:J R F (k x)):J R ((b,C 28 (cl z28)) :: F) (ST 13 (Pt b) x (LA 13 (Pt b) k)):=by
 obtain⟨s,wa,wc,tb,tc,ma,mc,tha,thc,oa,oc,pa,pc,rfl,h⟩:=h.cut;refine js (cs':=eSt s (.slice wa s.A6.length wc) (S0 tb s.A0.length tc) (.slice ma s.AN.length mc) (.slice tha s.A7.length thc) (.slice oa s.old.length oc) (.slice pa s.AK.length pc)) rfl rfl (by exact z_n 13) rfl ?_;exact jla (l:=eSt s (.slice wa s.A6.length wc) (S0 tb s.A0.length tc) (.slice ma s.AN.length mc) (.slice tha s.A7.length thc) (.slice oa s.old.length oc) (.slice pa s.AK.length pc)) (by exact z_n 13) rfl (C0 H)
theorem Jy {R:RM} {v:Value} (hc:Cod R v):Fn P EP [v] R [] (λx R' A=>A = []∧DSF x R'):=by
 refine Ht λF=>?_
 unfold ER;obtain⟨n,hf⟩:=hc;refine ja λb=>?_
 refine jc (A:=[]) (UO hf) ?_;rintro _ R1 _ _ ⟨hR,rb,v',rfl,rfl,hb⟩;subst hR;refine jc (A:=[(rb,rdO v' 0)]) (Qv hb (by decide)) ?_;rintro x R2 A hR2 hd;refine Wc hd λR3 hR3 hx=>?_
 exact Wa hx (B8 (A:=[]) (hR2.trans hR3) ⟨rfl,hx⟩)
set_option maxHeartbeats 1000000 in
theorem Ob {R:RM} {v:Value} (hc:Cod R v):Fn P FG [v] R [] (λx _ A=>x = .bool true∧A = []):=by
 refine Jv λF=>?_
 unfold FP;have hsl:∃a c n,v = .slice a n c:=by
  obtain⟨n,hf⟩:=hc;obtain⟨a,c,e⟩:=hf.sl;exact⟨a,c,n,e⟩
 obtain⟨ca,cc,cn,hv⟩:=hsl;refine Cf ⟨ca,cc,hv⟩ (jgr (jif (λ_=>B8 (A:=[]) (RM.le.refl R) ⟨rfl,rfl⟩) (λ_=>?_)));refine jc (A:=[]) (Jy hc) ?_;rintro _ R1 _ hR1 ⟨rfl,s,wv,tv,mv,thv,ov,pv,rfl,h⟩;obtain⟨tb,tc,sp,rfl,hb,htc⟩:=h.z;obtain⟨wa,wc,rfl⟩:=h.c.w.sl;obtain⟨ma,mc,rfl⟩:=h.c.m.sl;obtain⟨tha,thc,rfl⟩:=h.c.th.sl;obtain⟨oa,oc,rfl⟩:=h.c.o.sl;obtain⟨pa,pc,rfl⟩:=h.c.p.sl;refine ja λb=>?_
 refine js (cs':=eSt s (.slice wa s.A6.length wc) (S0 tb s.A0.length tc) (.slice ma s.AN.length mc) (.slice tha s.A7.length thc) (.slice oa s.old.length oc) (.slice pa s.AK.length pc)) rfl rfl (by exact z_n 13) rfl ?_;have c0:(eSt s (.slice wa s.A6.length wc) (S0 tb s.A0.length tc) (.slice ma s.AN.length mc) (.slice tha s.A7.length thc) (.slice oa s.old.length oc) (.slice pa s.AK.length pc))[0]? = some (.slice wa s.A6.length wc):=rfl;refine jla (l:=eSt s (.slice wa s.A6.length wc) (S0 tb s.A0.length tc) (.slice ma s.AN.length mc) (.slice tha s.A7.length thc) (.slice oa s.old.length oc) (.slice pa s.AK.length pc)) (by exact z_n 13) rfl ?_;refine jc (A:=[]) (ME h) ?_;intro x1 R2 A1 hR2 hq1;cases hh:CL s with
 | none=>
  rw[hh] at hq1;obtain⟨rfl,rfl⟩:=hq1;refine jex rfl (jex rfl (jla (l:=eSt s (.slice wa s.A6.length wc) (S0 tb s.A0.length tc) (.slice ma s.AN.length mc) (.slice tha s.A7.length thc) (.slice oa s.old.length oc) (.slice pa s.AK.length pc)) (by exact z_n 13) rfl ?_));refine jc (A:=[]) (JA (h.le hR2)) ?_;intro x2 R3 A2 hR3 hq2;rw[hh] at hq2;obtain⟨rfl,rfl⟩:=hq2;refine jex rfl (jex rfl ?_);refine jor [Pt b,.slice none 0 0,.slice none 0 0] false (λK' hK'=>?_) (λe c u ho he=>?_)
  ·refine @jxb false false _ _ _ _ _ (jff (jln (jln (jne (hK' _ _ _ Ah rfl)))))
  simp only[List.map,zc,zl,zj,z_t] at he;simp only[he];rw[ho];refine CU (jla (l:=eSt s (.slice wa s.A6.length wc) (S0 tb s.A0.length tc) (.slice ma s.AN.length mc) (.slice tha s.A7.length thc) (.slice oa s.old.length oc) (.slice pa s.AK.length pc)) (by exact z_n 13) rfl ?_);refine jc (A:=[]) (Ho (h.le (hR2.trans hR3))) ?_;intro x3 R4 A3 hR4 hq3;rw[hh] at hq3;obtain⟨rfl,rfl⟩:=hq3;refine jex rfl (jex rfl ?_);refine Bt [Pt b,.slice none 0 0,I (-1),I 0] (λK1 h1=>?_) (λe he=>?_)
  ·refine Bt [Pt b,.slice none 0 0,I (-1),I 0] (λK2 h2=>?_) (λe he=>?_)
   ·refine XN 0 (λ_ vs=>vs = [Pt b,.slice none 0 0,.slice none 0 0,.slice none 0 0,I (-1),I 0,I 0]) rfl (λi K e hi he _=>?_);simp only[List.map,zc,zl,zj,z_t] at he;simp only[he];exact jln (jlt (CU h2))
   ·simp only[List.map,zc,zl,zj,z_t] at he;simp only[he];exact h1
  simp only[List.map,zc,zl,zj,z_t] at he;simp only[he];refine jan [] true (λK' hK'=>?_) (λe c u ho he=>?_)
  ·refine jln (jeq (jtt (jl (v:=.slice wa s.A6.length wc) c0 (jln (jlt (hK' _ _ _ Al (decide_eq_true (by omega))))))))
  simp only[List.map,zc,zl,zj,z_t] at he;simp only[he];rw[ho];exact B8 (A:=[]) (hR1.trans (hR2.trans (hR3.trans hR4))) ⟨rfl,rfl⟩
 | some q=>
  obtain⟨l,met⟩:=q;have hf:=Dq hh;have hml:=hf.M.len;have hll:=(HL h hf.ths).1;have wl:=h.b.wl;have t1:=h.b.t1;have hrg:=Nt h hf;obtain⟨hinc,hsm⟩:=EQ hf.M.nd;have hsl:(Av met).length = met.length:=by
   have:=F5 met [];simpa [Av] using this
  rw[hh] at hq1;obtain⟨v1,⟨b1,rfl,rfl⟩,rfl⟩:=hq1;refine jex rfl (jex rfl (jla (l:=eSt s (.slice wa s.A6.length wc) (S0 tb s.A0.length tc) (.slice ma s.AN.length mc) (.slice tha s.A7.length thc) (.slice oa s.old.length oc) (.slice pa s.AK.length pc)) (by exact z_n 13) rfl ?_));refine jc (A:=[]) (JA (h.le hR2)) ?_;intro x2 R3 A2 hR3 hq2;rw[hh] at hq2;obtain⟨v2,⟨b2,rfl,rfl⟩,rfl⟩:=hq2;refine jex rfl (jex rfl ?_);refine jor [Pt b,S0 b1 s.A6.length s.A6.length,S0 b2 s.A6.length s.A6.length] false (λK' hK'=>?_) (λe c u ho he=>?_)
  ·refine @jxb true true _ _ _ _ _ (jff (jln (jln (jne (hK' _ _ _ Ah (by simp))))))
  simp only[List.map,zc,zl,zj,z_t] at he;simp only[he];rw[ho];refine CU (jla (l:=eSt s (.slice wa s.A6.length wc) (S0 tb s.A0.length tc) (.slice ma s.AN.length mc) (.slice tha s.A7.length thc) (.slice oa s.old.length oc) (.slice pa s.AK.length pc)) (by exact z_n 13) rfl ?_);refine jc (A:=[]) (Ho (h.le (hR2.trans hR3))) ?_;intro x3 R4 A3 hR4 hq3;rw[hh] at hq3;obtain⟨sv,so,rfl⟩:=hq3;refine jex rfl (jex rfl (Eu so λR5 hR5 hi=>?_));obtain⟨va,vc,rfl⟩:=hi.sl;have hR:=hR1.trans (hR2.trans (hR3.trans (hR4.trans hR5)));rw[List.pairwise_iff_getElem] at hinc;have hbool:∀(i:Nat) (hi:i < s.A6.length),((mkB s.A6.length met).map Value.bool)[i]? = some (.bool (decide ((i:Int)∈met))):=λi hi=>by
   unfold mkB;rw[Yj,Yj,List.getElem?_range hi];rfl
  refine AH (λvs R' D'=>R' = R5∧∃at_:Int,at_ < s.A6.length∧D' = (b2,C Aj ((mkB s.A6.length met).map Value.bool)) :: (b1,C Aj ((mkB s.A6.length met).map Value.bool)) :: (b,C 28 (eSt s (.slice wa s.A6.length wc) (S0 tb s.A0.length tc) (.slice ma s.AN.length mc) (.slice tha s.A7.length thc) (.slice oa s.old.length oc) (.slice pa s.AK.length pc))) :: F∧vs = [Pt b,.slice va (Av met).length vc,I at_,I (Av met).length]) (λK1 h1=>?_) ?_
  ·refine AH (λvs R' D'=>R' = R5∧∃at_:Int,at_ < s.A6.length∧D' = (b2,C Aj ((mkB s.A6.length met).map Value.bool)) :: (b1,C Aj ((mkB s.A6.length met).map Value.bool)) :: (b,C 28 (eSt s (.slice wa s.A6.length wc) (S0 tb s.A0.length tc) (.slice ma s.AN.length mc) (.slice tha s.A7.length thc) (.slice oa s.old.length oc) (.slice pa s.AK.length pc))) :: F∧vs = [Pt b,.slice va (Av met).length vc,I at_,I (Av met).length]) (λK2 h2=>?_) ?_;rotate_left
   ·rintro e R6 D6 ⟨hR6,a,ha,hD,he⟩;subst hR6;rw[hD];clear hD;simp only[List.map,zc,zl,zj,z_t] at he;simp only[he];exact h1 _ _ _ ⟨rfl,a,ha,rfl,rfl⟩
   refine BC (D':=(b2,C Aj ((mkB s.A6.length met).map Value.bool)) :: (b1,C Aj ((mkB s.A6.length met).map Value.bool)) :: (b,C 28 (eSt s (.slice wa s.A6.length wc) (S0 tb s.A0.length tc) (.slice ma s.AN.length mc) (.slice tha s.A7.length thc) (.slice oa s.old.length oc) (.slice pa s.AK.length pc))) :: F) (Ym _) ?_;refine XN s.A6.length (λi vs=>∃(at_:Int) (n:Nat),at_ < i∧n≤(Av met).length∧(∀j (hj:j < (Av met).length),j < n→(Av met)[j] < i)∧(∀j (hj:j < (Av met).length),n≤j→(i:Int)≤(Av met)[j])∧vs = [Pt b,S0 b1 s.A6.length s.A6.length,S0 b2 s.A6.length s.A6.length,.slice va (Av met).length vc,I at_,I n,I i])
    ⟨-1,0,by omega,by omega,λj hj h=>by omega,λj hj _=>?_,rfl⟩ (λi K e hi' hq hK=>?_)
   ·obtain⟨k,hk,_⟩:=hrg _ ((hsm _).1 (YI hj));omega
   obtain⟨at_,n,ha,hn,hlo,hup,he⟩:=hq;simp only[List.map,zc,zl,zj,z_t] at he;simp only[he];refine jln (jlt (jif (λhc=>?_) (λhc=>?_)));rotate_left
   ·have hc:=z_g hc;have hnn:n = (Av met).length:=by
     by_cases c:n = (Av met).length
     ·exact c
     ·have hlt:n < (Av met).length:=by omega
      have:=hup n hlt (z_n _);obtain⟨k,hk,hkl⟩:=hrg _ ((hsm _).1 (YI hlt));omega
    subst hnn;exact h2 _ _ _ ⟨rfl,at_,by omega,rfl,rfl⟩
   have hc:i < s.A6.length:=by have:=z_f hc;omega
   refine Np [Pt b,S0 b1 s.A6.length s.A6.length,S0 b2 s.A6.length s.A6.length,.slice va (Av met).length vc,I (if (i:Int)∈met then (i:Int) else at_),I ((if (i:Int)∈met then n + 1 else n:Nat):Int),I i] ((i:Int)∈met→∃h:n < (Av met).length,(Av met)[n] = i) (λK1 h1=>?_) (λe hin he=>?_)
   ·refine Np [Pt b,S0 b1 s.A6.length s.A6.length,S0 b2 s.A6.length s.A6.length,.slice va (Av met).length vc,I (if (i:Int)∈met then (i:Int) else at_),I ((if (i:Int)∈met then n + 1 else n:Nat):Int),I i] ((i:Int)∈met→∃h:n < (Av met).length,(Av met)[n] = i) (λK2 h2=>?_) (λe hin he=>?_)
    ·have hcell:∀o,o = 0 + i * 1→((mkB s.A6.length met).map Value.bool)[o]? = some (.bool (decide ((i:Int)∈met))):=λo ho=>by rw[ho,Z8,YQ];exact hbool i hc
     refine CZ hc (jl (v:=.bool (decide ((i:Int)∈met))) (hcell _ rfl) (CZ hc (jl (v:=.bool (decide ((i:Int)∈met))) (hcell _ rfl) (@jxb _ _ _ _ _ _ _ ?_))));rw[show (decide ((i:Int)∈met) != decide ((i:Int)∈met)) = false by simp];refine CU (CZ hc (jl (v:=.bool (decide ((i:Int)∈met))) (hcell _ rfl) (jif (λg=>?_) (λg=>?_))))
     ·have g:=z_f g;have hin:∃h:n < (Av met).length,(Av met)[n] = i:=by
       obtain⟨j,hj,hjv⟩:=Yf ((hsm _).2 g);have hnj:n≤j:=by
        by_cases c:n≤j
        ·exact c
        ·have:=hlo j hj (by omega);omega
       have hnl:n < (Av met).length:=by omega
       refine⟨hnl,?_⟩;have h1:=hup n hnl (z_n _);by_cases c:n = j
       ·subst c;exact hjv
       ·have:=hinc n j hnl hj (by omega);omega
      obtain⟨hnl,hnv⟩:=hin;refine jor [Pt b,S0 b1 s.A6.length s.A6.length,S0 b2 s.A6.length s.A6.length,.slice va (Av met).length vc,I n,I i] false (λK' hK'=>?_) (λe c u ho he=>?_)
      ·refine jln (jge ?_);rw[show decide ((n:Int)≥((Av met).length:Nat)) = false from decide_eq_false (by omega)];refine jff (C7 hi (by omega) (by omega) ?_);simp only[Y6];refine jne (hK' _ _ _ Ah ?_);rw[hnv];simp
      simp only[List.map,zc,zl,zj,z_t] at he;simp only[he];rw[ho];refine CU (jad ?_);have:=h2 (λ_=>⟨hnl,hnv⟩);rw[if_pos g,if_pos g] at this;exact this
     ·have g:=z_g g;have:=h2 (λh=>absurd h g);rw[if_neg g,if_neg g] at this;exact this
    ·simp only[List.map,zc,zl,zj,z_t] at he;simp only[he];exact h1 hin
   ·simp only[List.map,zc,zl,zj,z_t] at he;simp only[he];refine jad (hK _ hc ?_);by_cases g:(i:Int)∈met
    ·obtain⟨hnl,hnv⟩:=hin g;rw[if_pos g,if_pos g];refine⟨i,n + 1,by omega,by omega,λj hj h=>?_,λj hj h=>?_,rfl⟩
     ·by_cases c:j = n
      ·subst c;omega
      ·have:=hlo j hj (by omega);omega
     ·have:=hinc n j hnl hj (by omega);omega
    ·rw[if_neg g,if_neg g];refine⟨at_,n,by omega,hn,λj hj h=>by have:=hlo j hj h;omega,λj hj h=>?_,rfl⟩;have h1:=hup j hj h;have h2:(Av met)[j]≠i:=λe=>g ((hsm _).1 (e▸YI hj))
     omega
  rintro e R6 D6 ⟨hR6,a,ha,hD,he⟩;subst hR6;rw[hD];clear hD;simp only[List.map,zc,zl,zj,z_t] at he;simp only[he];refine jan [] true (λK' hK'=>?_) (λe c u ho he=>?_)
  ·refine jln (jeq ?_);rw[beq_self_eq_true];exact jtt (jl (v:=.slice wa s.A6.length wc) c0 (jln (jlt (hK' _ _ _ Al (decide_eq_true ha)))))
  simp only[List.map,zc,zl,zj,z_t] at he;simp only[he];rw[ho];exact B8 (A:=[]) hR ⟨rfl,rfl⟩
end Go.Lf
end
section
namespace Go.Proofs.YtlagojobcbkpdaaGreat.fnMarkReach
open Go Go.Lf
open Go.ChangeShapes Go.WideShapes Go.ChangeAt Go.RowKit
theorem own:ownKnob Tryz.prog.godebug = none:=by kernel_rfl
theorem laidOut:laidOutB Tryz.prog = true:=by kernel_rfl
set_option maxRecDepth 100000 in
theorem lifted (os:Os) (started:os.Started) (H:Type) (enc:TypeId × Value→H) :
  ReturnsInHanded {} Tryz.checked os 5 .any (Rows.fnMarkReachSpec.pre6 enc Tryz.prog Tryz.f5 Rows.fnMarkReachRow.domain false) (Rows.fnMarkReachSpec.post enc Tryz.prog Tryz.f5 false true false false):=by
 refine returnsInHanded_of_change (C:=Tryz.checked) own started (by kernel_rfl) Tryz.func5
  (ChangeSpec.witness6 (enc:=enc) (C:=Tryz.checked) false ⟨#[],#[.slice none 0 0],[]⟩ 8 (by kernel_rfl) (by kernel_rfl) (by kernel_rfl) (by kernel_rfl)) ?_
 intro W base args ds gs before hval0 hW hcnd _;have hval:∀(j:Nat) t v,Tryz.f5.params[j]? = some t→args[j]? = some v→Value.okWide Tryz.prog W .any base t v:=hval0;have hW':=hW;obtain⟨p,q,hA0,hV,rfl,hfz,hnd⟩:=hW;have hA:DataW.TrodAll enc Tryz.prog W 0 (λ_=>true) true Tryz.f5.params.toList args.toList ds p:=hA0;rw[Tryz.params5] at hA hval;obtain⟨v0,vs0,d0,ds0,p0,q0,hargs,rfl,rfl,h0,r0⟩:=trodAll_cons hA;obtain⟨rfl,rfl,rfl⟩:=trodAll_nil r0;obtain rfl:args = #[v0]:=by cases args;simp_all
 obtain⟨rfl,rfl⟩:=trodVars_none hV;obtain⟨a0,len0,cap0,rfl⟩:=okWide_slice Tryz.underlying22 (hval 0 22 v0 rfl rfl);have k0:=h0;have lt0:∀x∈p0,x.block < W.heap.size:=by obtain⟨m,hm⟩:=k0;exact DataW.trod_lt m _ _ _ hm
 obtain⟨z0,w0⟩:∃zs,Tc W a0 len0 cap0 zs:=by
  obtain⟨fuel,hf⟩:=h0;rcases open_ints Tryz.underlying22 Tryz.underlying5 (by kernel_rfl) hf with ⟨hcs,_⟩ | ⟨x,l,c,zs,hcs,_,hl,hm,hz,_,hcell,hwz⟩
  ·simp[Value.cells] at hcs;obtain⟨rfl,rfl,rfl⟩:=hcs;exact⟨[],.inl ⟨rfl,rfl,rfl,rfl⟩⟩
  ·simp[Value.cells] at hcs;obtain⟨rfl,rfl,rfl⟩:=hcs;exact⟨zs,.inr ⟨_,rfl,hl,by simpa using hz,hcell,hwz⟩⟩
 clear hA0 hval0;refine (Ue (f:=5) (λR v h=>Ob h) w0).mono λe W' ⟨he,bel⟩=>?_
 subst he;have hst:DataW.Trod enc Tryz.prog W' 0 (λb=>decide (b < W.heap.size)) true 22 (Value.slice a0 len0 cap0) d0 p0:=WideElems.Trod_stays laidOut (by kernel_rfl) (z_f (by kernel_rfl)) k0 (λx hx=>bel.at_ (lt0 x hx)) (λx hx=>by simpa using lt0 x hx);exact⟨_,rfl,_,_,_,[],_,[],hW',trodAll_mk1 (shut_bool Tryz.underlying4 _),trodAll_mk1 hst,rfl,bel.frame _,λh=>by cases h⟩
theorem over:Rows.fnMarkReachRow.holds Tryz.pinned (OpenSpec.ofChange Rows.fnMarkReachSpec):=
 OpenClaim.holds_of_wide 5 Tryz.f5 rfl rfl rfl rfl rfl rfl rfl ⟨rfl,rfl,rfl,rfl,rfl⟩ rfl rfl rfl rfl rfl (by kernel_rfl) Tryz.func5 (by kernel_rfl)
  (z_f (by kernel_rfl)) (by unfold Func.isWrapper;rw[if_neg (z_g (by kernel_rfl))];exact⟨rfl,rfl⟩)
  (λos started H enc _=>lifted os started H enc)
theorem proved:Rows.FnMarkReachSaid:=over
#print axioms proved
end Go.Proofs.YtlagojobcbkpdaaGreat.fnMarkReach
end
