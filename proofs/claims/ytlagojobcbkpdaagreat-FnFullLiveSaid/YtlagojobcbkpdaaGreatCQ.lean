/- The given row of this law is proved: whatever code comes in, it returns true and leaves the code as it was. Conditions: none. -/
import Derived.Test.YtlagojobcbkpdaaGreatCP
set_option linter.unusedVariables false
set_option linter.unusedSimpArgs false
section
namespace Sm
open Go.Lf
theorem Mw {s:B7} {l:List AZ} {t:AZ} (ht:t∈l) (h:BW l t.moved = none) (nd:(l.map AZ.at_).Nodup):Bx s l t = false:=by
 unfold Bx;rw[h,Bool.or_false,beq_eq_false_iff_ne];intro e;rw[e,ES nd ht] at h;cases h
theorem Mj {s:B7} {l:List AZ} {t n:AZ} (ht:t∈l) (h:BW l t.moved = some n) (nd:(l.map AZ.at_).Nodup):Bx s l t = (!(n.moved != n.at_) && (n.sh == t.sh) && (t.moved == t.at_ || (!DV s n.at_ && DV s t.at_))):=by
 unfold Bx;by_cases c:t.moved = t.at_
 ·have:n = t:=by rw[c,ES nd ht] at h;exact (Zb h).symm
  subst this;rw[c];simp
 ·rw[h];dsimp only;unfold bne;rw[beq_eq_false_iff_ne.2 c];cases n.sh == t.sh<;>cases n.moved == n.at_<;>cases DV s n.at_<;>cases DV s t.at_<;>rfl
end Sm
namespace Sm
open Go.Lf
theorem VO (had:List Int) (a:Int):(CQ had a).length≤had.length + 1:=by
 unfold CQ;split
 ·omega
 ·simp
theorem EI {l:List AZ}:∀{xs acc r:List Int},Ao l xs acc = some r→r.length≤acc.length + xs.length
 | [],acc,r,h=>by cases h;simp
 | x :: xs,acc,r,h=>by
  rw[CO] at h;cases hn:now l x with
  | none=>rw[hn] at h;cases h
  | some y=>
   rw[hn] at h;have h1:=EI (xs:=xs) h;have h2:=VO acc y;rw[Z8];omega
theorem TU {s:B7} {l:List AZ} (h:ER s = some l) (hn:Ao l (DJ s) [] = none):(C0 s).isSome = false:=by
 unfold C0;rw[h];dsimp only;split
 ·rename_i hh;have h2:=hh;unfold CX at h2;simp only[z_b] at h2;rw[Dt h2.2,hn];rfl
 ·rfl
end Sm
namespace Go.Lf
open Go Sm
section st
variable {R:RM} {s:Sm.B7} {wv tv mv thv ov pv:Value}
theorem Io {l:List AZ} (h:BE s = some l) {t:AZ} (ht:t∈l) (hn:s.A0.length≤12):∃r:Nat,AS t.at_ = r∧∃hr:r < s.A0.length,DV s t.at_ = ((s.A0[r]).kind == 4):=by
 unfold BE at h;obtain⟨_,h2⟩:=Ea h;obtain⟨h3,h4,h5,k,hk,h6,h7,h8⟩:=h2 t ht;rw[Zy] at hk;have e:AS t.at_ = (1 + k:Nat):=by unfold AS;rw[if_neg (by omega)];omega
 refine⟨1 + k,e,by omega,?_⟩;unfold DV;rw[e,Do (by omega:1 + k < s.A0.length)];rw[decide_eq_true (by omega:(0:Int)≤(1 + k:Nat)),decide_eq_true (by omega:((1 + k:Nat):Int) < s.A0.length)];rfl
set_option maxHeartbeats 4000000 in
set_option maxRecDepth 4000 in
theorem T8 (h:SF R s wv tv mv thv ov pv):Ro KB [.agg (eSt s wv tv mv thv ov pv).toArray] (.bool (C0 s).isSome) R []:=by
 refine Pm λF=>?_
 unfold JC;refine ja λb=>?_
 rw[show cl (.agg (eSt s wv tv mv thv ov pv).toArray) = eSt s wv tv mv thv ov pv from rfl];obtain⟨tb,tc,sp,rfl,hb,htc⟩:=h.z;obtain⟨wa,wc,rfl⟩:=h.c.w.sl;obtain⟨ma,mc,rfl⟩:=h.c.m.sl;have t0:=h.b.t0;have t1:=h.b.t1;have wl:=h.b.wl;have n1:=h.b.n1;have fin:∀{R' : RM} {D:Chs} {x:Bool},R.le R'→(C0 s).isSome = x→[Sf D F]→J R' D (Er R F (λv' _ A=>v' = .bool (C0 s).isSome∧A = []) (.bool x)):=λhR hx _=>by
  rw[← hx];exact BA (A:=[]) hR ⟨rfl,rfl⟩
 refine jor [Pt b] ((!BJ s.AB.length) || (!BI s.A0)) (λK' hK'=>?_) (λe c u ho he=>?_)
 ·refine jl (v:=.slice wa s.AB.length wc) rfl (jp (In wa s.AB.length wc (by omega)) (BM (λh1=>?_) (λh1=>?_)))
  ·refine jl (v:=S0 tb s.A0.length tc) rfl (Xq hb (λR' _=>EG (t:=s.A0) (sp:=sp) (by omega)) (hK' _ _ _ (h1▸Aj) (by rw[h1,Yk])))
  ·exact hK' _ _ _ (h1▸Al) (by rw[h1,Ym])
 simp only[List.map,zc,zl,zj,z_t] at he;simp only[he];refine jor [Pt b] ((!BJ s.AB.length || !BI s.A0) || ((s.A0.length:Int) * 16 != (s.AB.length:Int))) (λK' hK'=>?_) (λe c u ho he=>?_)
 ·rw[ho];refine BM (λh1=>?_) (λh1=>?_)
  ·refine jl (v:=S0 tb s.A0.length tc) rfl (jln (GX ⟨by omega,by omega⟩ (jl (v:=.slice wa s.AB.length wc) rfl (jln (jne (hK' _ _ _ (h1▸Aj) (by rw[h1,Yk])))))))
  ·exact hK' _ _ _ (h1▸Al) (by rw[h1,Ym])
 simp only[List.map,zc,zl,zj,z_t] at he;simp only[he];refine jor [Pt b] ((!BJ s.AB.length || !BI s.A0 || ((s.A0.length:Int) * 16 != (s.AB.length:Int))) || ((s.AR.length:Int) != (s.AB.length:Int))) (λK' hK'=>?_) (λe c u ho he=>?_)
 ·rw[ho];refine BM (λh1=>?_) (λh1=>?_)
  ·refine jl (v:=.slice ma s.AR.length mc) rfl (jln (jl (v:=.slice wa s.AB.length wc) rfl (jln (jne (hK' _ _ _ (h1▸Aj) (by rw[h1,Yk]))))))
  ·exact hK' _ _ _ (h1▸Al) (by rw[h1,Ym])
 simp only[List.map,zc,zl,zj,z_t] at he;simp only[he];rw[ho];have hfr:(!BJ s.AB.length || !BI s.A0 || ((s.A0.length:Int) * 16 != (s.AB.length:Int)) || ((s.AR.length:Int) != (s.AB.length:Int))) = !Ee s:=by
  have e1:((s.A0.length:Int) * 16 != (s.AB.length:Int)) = !(s.A0.length == s.AB.length / 16):=by
   rw[ZT,Z7,bne_iff_ne,beq_eq_false_iff_ne];omega
  have e2:((s.AR.length:Int) != (s.AB.length:Int)) = !(s.AR.length == s.AB.length):=by
   rw[ZT,Z7,bne_iff_ne,beq_eq_false_iff_ne];omega
  rw[e1,e2];unfold Ee;cases BJ s.AB.length<;>cases BI s.A0<;>cases s.A0.length == s.AB.length / 16<;>cases s.AR.length == s.AB.length<;>rfl
 rw[hfr];refine jif (λh0=>?_) (λh0=>?_)
 ·have h0:Ee s = false:=by simpa using h0
  refine fin (RM.le.refl R) ?_;unfold C0 ER;rw[if_neg (by rw[h0];decide)];rfl
 have hfo:Ee s = true:=by simpa using h0
 have hth0:ER s = BE s:=by unfold ER;rw[if_pos hfo]
 clear hfr h0 ho he;refine jor [Pt b] ((decide (s.Aa < 0)) || (decide (s.Aa > 3))) (λK' hK'=>?_) (λe c u ho he=>?_)
 ·refine jl (v:=I s.Aa) rfl (jlt (BM (λh1=>?_) (λh1=>?_)))
  ·refine jl (v:=I s.Aa) rfl (jgr (hK' _ _ _ (h1▸Aj) (by rw[h1,Yk])))
  ·exact hK' _ _ _ (h1▸Al) (by rw[h1,Ym])
 simp only[List.map,zc,zl,zj,z_t] at he;simp only[he];refine jor [Pt b] ((decide (s.Aa < 0) || decide (s.Aa > 3)) || (decide ((s.AA.length:Int) < 1))) (λK' hK'=>?_) (λe c u ho he=>?_)
 ·rw[ho];refine BM (λh1=>?_) (λh1=>?_)
  ·refine jl (v:=thv) rfl (CN h.c.th.sl (jlt (hK' _ _ _ (h1▸Aj) (by rw[h1,Yk]))))
  ·exact hK' _ _ _ (h1▸Al) (by rw[h1,Ym])
 simp only[List.map,zc,zl,zj,z_t] at he;simp only[he];refine jor [Pt b] ((decide (s.Aa < 0) || decide (s.Aa > 3) || decide ((s.AA.length:Int) < 1)) || (decide ((s.AA.length:Int) > 3))) (λK' hK'=>?_) (λe c u ho he=>?_)
 ·rw[ho];refine BM (λh1=>?_) (λh1=>?_)
  ·refine jl (v:=thv) rfl (CN h.c.th.sl (jgr (hK' _ _ _ (h1▸Aj) (by rw[h1,Yk]))))
  ·exact hK' _ _ _ (h1▸Al) (by rw[h1,Ym])
 simp only[List.map,zc,zl,zj,z_t] at he;simp only[he];rw[ho];have hno:∀l,BE s = some l→CX s l = false→(C0 s).isSome = false:=λl hl hh=>by
  rw[M1 (hth0.trans hl) hh];rfl
 refine jif (λh0=>?_) (λh0=>?_)
 ·refine fin (RM.le.refl R) ?_;cases hs:BE s with
  | none=>unfold C0;rw[hth0,hs];rfl
  | some l=>
   refine hno l hs ?_;rw[Zk];intro hh;unfold CX at hh;simp only[z_b,z_d] at hh;simp only[ZA,z_d] at h0;omega
 simp only[Z1,decide_eq_false_iff_not] at h0;obtain⟨⟨⟨p0,p1⟩,p2⟩,p3⟩:=h0;clear ho he;refine jla (l:=eSt s (.slice wa s.AB.length wc) (S0 tb s.A0.length tc) (.slice ma s.AR.length mc) thv ov pv) (by exact z_n 13) rfl ?_;refine jc (A:=[]) (HI h.c (by omega) (by omega)) ?_;rintro _ R1 _ hR1 ⟨rfl,hq⟩;refine OH ?_;cases hs:BE s with
 | none=>
  rw[hs] at hq;obtain rfl:_ = Value.tuple #[.slice none 0 0,.bool false]:=hq;refine jex rfl (jex rfl (DO (fin hR1 ?_)));unfold C0;rw[hth0,hs];rfl
 | some l=>
  rw[hs] at hq;obtain⟨lv,htg,rfl⟩:=hq;refine jex rfl (jex rfl (Cn ?_));have h:=h.le hR1;have hno:=hno l hs;have hu:=hs;unfold BE at hu;obtain⟨as1,as2⟩:=Ea hu;have nd:=NZ as1 λx hx=>(as2 x hx).2.1
  have tbb:=Ko (by omega) hu;rw[Zy] at tbb;obtain⟨tbl,hll⟩:=tbb;obtain⟨la,lc,rfl⟩:=htg.sl;refine UW [Pt b,.slice la l.length lc] (CK s l = true) (λK1 h1=>?_) (λe Fq he=>?_)
  ·refine UW [Pt b,.slice la l.length lc] (CK s l = true) (λK2 h2=>?_) (λe hst he=>?_)
   ·refine Yc [Pt b,.slice la l.length lc] l.length (λi=>(l.take i).all (Bx s l) = true) rfl (λi K e hi hp hK he=>?_);simp only[List.map,zc,zl,zj,z_t] at he;simp only[he];refine jln (jlt (jif (λhc=>?_) (λhc=>?_)));rotate_left
    ·have hc:=z_g hc;rw[Yz (by omega)] at hp;exact h2 hp
    have hc:i < l.length:=by have:=z_f hc;omega
    have hmem:=Yv hc;have bad:Bx s l l[i] = false→CX s l = false:=λhh=>by
     rw[Zk];intro g;unfold CX CK at g;simp only[z_b] at g;have:=ZE.1 g.1.1.1.1.1.1.1 _ hmem;rw[hh] at this;cases this
    have good:Bx s l l[i] = true→(l.take (i + 1)).all (Bx s l) = true:=λhh=>by
     rw[Yq hc,List.all_append,hp];simpa using hh
    refine W8 htg hc (jrp (Dj (l[i]).moved htg (by omega)) ?_);cases hf:BW l (l[i]).moved with
    | none=>
     rw[GU hf];refine Bz [Pt b,.slice la l.length lc,I i,I (-1),.bool true] (λK' hK'=>?_) (λe he=>?_)
     ·refine Bz [Pt b,.slice la l.length lc,I i,I (-1),.bool true,U] (λK' hK'=>?_) (λe he=>?_)
      ·exact jlt (jtf hK')
      simp only[List.map,zc,zl,zj,z_t] at he;simp only[he];refine Bz [Pt b,.slice la l.length lc,I i,I (-1),.bool true,U,U] (λK' hK'=>?_) (λe he=>?_)
      ·exact jtf hK'
      simp only[List.map,zc,zl,zj,z_t] at he;simp only[he];exact jtf hK'
     simp only[List.map,zc,zl,zj,z_t] at he;simp only[he];exact DO (fin hR1 (hno (bad (Mw hmem hf nd))))
    | some n=>
     obtain⟨k,hk,hfk,hn⟩:=EE hf;subst hn;rw[hfk];have hT:=Mj (s:=s) hmem hf nd;cases c1:((l[k]).moved != (l[k]).at_) with
     | true=>
      refine Bz [Pt b,.slice la l.length lc,I i,I k,.bool true] (λK' hK'=>?_) (λe he=>?_)
      ·refine Bz [Pt b,.slice la l.length lc,I i,I k,.bool false,.bool true] (λK' hK'=>?_) (λe he=>?_)
       ·refine jlt ?_;rw[show decide ((k:Int) < 0) = false from decide_eq_false (by omega)];refine jff (W8 htg hk (Sn htg hk (jne ?_)));rw[c1];exact hK'
       simp only[List.map,zc,zl,zj,z_t] at he;simp only[he];refine Bz [Pt b,.slice la l.length lc,I i,I k,.bool true,U,U] (λK' hK'=>?_) (λe he=>?_)
       ·exact jtf hK'
       simp only[List.map,zc,zl,zj,z_t] at he;simp only[he];exact jtf hK'
      simp only[List.map,zc,zl,zj,z_t] at he;simp only[he];exact DO (fin hR1 (hno (bad (by rw[hT,c1];rfl))))
     | false=>
      refine Bz [Pt b,.slice la l.length lc,I i,I k,.bool (!((l[k]).sh == (l[i]).sh))] (λK' hK'=>?_) (λe he=>?_)
      ·refine Bz [Pt b,.slice la l.length lc,I i,I k,.bool false,.bool false] (λK' hK'=>?_) (λe he=>?_)
       ·refine jlt ?_;rw[show decide ((k:Int) < 0) = false from decide_eq_false (by omega)];refine jff (W8 htg hk (Sn htg hk (jne ?_)));rw[c1];exact hK'
       simp only[List.map,zc,zl,zj,z_t] at he;simp only[he];refine Bz [Pt b,.slice la l.length lc,I i,I k,.bool false,.agg #[I (l[k]).sh.refs,I (l[k]).sh.nums],.agg #[I (l[i]).sh.refs,I (l[i]).sh.nums]] (λK' hK'=>?_) (λe he=>?_)
       ·exact jff (Y7 htg hk (Y7 htg hc hK'))
       simp only[List.map,zc,zl,zj,z_t] at he;simp only[he];exact jff (@Xj (l[k]).sh (l[i]).sh _ _ _ _ _ hK')
      simp only[List.map,zc,zl,zj,z_t] at he;simp only[he];cases c2:((l[k]).sh == (l[i]).sh) with
      | false=>exact DO (fin hR1 (hno (bad (by rw[hT,c1,c2];rfl))))
      | true=>
       refine Cn ?_;rw[c1,c2] at hT;have hki:k = i↔(l[i]).moved = (l[i]).at_:=by
        have hka:=(Bw hf).2;constructor
        ·rintro rfl;exact hka.symm
        ·intro e;rw[e,ES nd hmem] at hf;have hf:=Zb hf;have a1:(l.map AZ.at_)[k]? = some (l[k]).at_:=by rw[ZQ,Yl hk];rfl
         have a2:(l.map AZ.at_)[i]? = some (l[k]).at_:=by rw[ZQ,Yl hc,← hf];rfl
         exact (List.getElem?_inj (by simpa using hk) nd).1 (a1.trans a2.symm)
       by_cases c3:k = i
       ·have hbe:((k:Int) != (i:Int)) = false:=by rw[c3];simp
        have hTt:Bx s l l[i] = true:=by rw[hT,beq_iff_eq.2 (hki.1 c3)];rfl
        refine Bz [Pt b,.slice la l.length lc,I i,.bool false] (λK' hK'=>?_) (λe he=>?_)
        ·refine Bz [Pt b,.slice la l.length lc,I i,I k,.bool false,U,U,U] (λK' hK'=>?_) (λe he=>?_)
         ·refine jne ?_;rw[hbe];exact jft hK'
         simp only[List.map,zc,zl,zj,z_t] at he;simp only[he];refine jft ?_;refine Bz [Pt b,.slice la l.length lc,I i,.bool false,U,U,U,U,U,U] (λK' hK'=>?_) (λe he=>?_)
         ·exact jft hK'
         simp only[List.map,zc,zl,zj,z_t] at he;simp only[he];refine Ae (jft jev) (jgu ?_);refine Bz [Pt b,.slice la l.length lc,I i,.bool false,U,U,U,U] (λK' hK'=>?_) (λe he=>?_)
         ·exact jgu hK'
         simp only[List.map,zc,zl,zj,z_t] at he;simp only[he];refine Bz [Pt b,.slice la l.length lc,I i,.bool false,U,U,U,U] (λK' hK'=>?_) (λe he=>?_)
         ·exact jft hK'
         simp only[List.map,zc,zl,zj,z_t] at he;simp only[he];exact Ae (jgu jev) hK'
        simp only[List.map,zc,zl,zj,z_t] at he;simp only[he];exact Cn (jad (hK hc (good hTt)))
       ·have hbe:((k:Int) != (i:Int)) = true:=by simp;omega
        have hme:((l[i]).moved == (l[i]).at_) = false:=beq_eq_false_iff_ne.2 λe=>c3 (hki.2 e)
        rw[hme] at hT;obtain⟨r1,e1,hr1,f1⟩:=Io hs hmem (by omega);obtain⟨r2,e2,hr2,f2⟩:=Io hs (Yv hk) (by omega);refine Bz [Pt b,.slice la l.length lc,I i,.bool (!Bx s l l[i])] (λK' hK'=>?_) (λe he=>?_)
        ·refine Bz [Pt b,.slice la l.length lc,I i,I k,.bool true,.pointer (some ⟨b,0 + 1,none⟩),S0 tb s.A0.length tc,I (l[i]).at_] (λK' hK'=>?_) (λe he=>?_)
         ·refine jne ?_;rw[hbe];exact jtt (jfo (jl (v:=S0 tb s.A0.length tc) rfl (Sn htg hc hK')))
         simp only[List.map,zc,zl,zj,z_t] at he;simp only[he];refine jtt (jp (CJ _ (by omega)) ?_);rw[e1];cases c4:((s.A0[r1]).kind == 4) with
         | false=>
          refine Bz [Pt b,.slice la l.length lc,I i,.bool true,.pointer (some ⟨b,0 + 1,none⟩),S0 tb s.A0.length tc,.bool true,U,U,U] (λK' hK'=>?_) (λe he=>?_)
          ·refine jtt (jrk h.z hr1 (jne ?_));rw[show ((s.A0[r1]).kind != 4) = true by unfold bne;rw[c4];rfl];exact jtf hK'
          simp only[List.map,zc,zl,zj,z_t] at he;simp only[he];refine Ae (jtt (jl (v:=S0 tb s.A0.length tc) rfl jev)) (jtf ?_);refine Bz [Pt b,.slice la l.length lc,I i,.bool true,.bool true,U,U,U] (λK' hK'=>?_) (λe he=>?_)
          ·exact jtf hK'
          simp only[List.map,zc,zl,zj,z_t] at he;simp only[he];refine Bz [Pt b,.slice la l.length lc,I i,.bool true,.bool true,U,U,.bool true] (λK' hK'=>?_) (λe he=>?_)
          ·exact jtt hK'
          simp only[List.map,zc,zl,zj,z_t] at he;simp only[he];refine Ae (jtf jev) ?_;rw[hT,f1,c4,Bool.and_false] at hK';exact hK'
         | true=>
          refine Bz [Pt b,.slice la l.length lc,I i,.bool true,.pointer (some ⟨b,0 + 1,none⟩),S0 tb s.A0.length tc,.bool false,.pointer (some ⟨b,0 + 1,none⟩),S0 tb s.A0.length tc,I (l[k]).at_] (λK' hK'=>?_) (λe he=>?_)
          ·refine jtt (jrk h.z hr1 (jne ?_));rw[show ((s.A0[r1]).kind != 4) = false by unfold bne;rw[c4];rfl];exact jff (jfo (jl (v:=S0 tb s.A0.length tc) rfl (Sn htg hk hK')))
          simp only[List.map,zc,zl,zj,z_t] at he;simp only[he];refine Ae (jtt (jl (v:=S0 tb s.A0.length tc) rfl jev)) (jff (jp (CJ _ (by omega)) ?_));rw[e2];refine Bz [Pt b,.slice la l.length lc,I i,.bool true,.bool false,.pointer (some ⟨b,0 + 1,none⟩),S0 tb s.A0.length tc,.bool ((s.A0[r2]).kind == 4)] (λK' hK'=>?_) (λe he=>?_)
          ·exact jff (jrk h.z hr2 (jeq hK'))
          simp only[List.map,zc,zl,zj,z_t] at he;simp only[he];refine Bz [Pt b,.slice la l.length lc,I i,.bool true,.bool false,.pointer (some ⟨b,0 + 1,none⟩),S0 tb s.A0.length tc,.bool ((s.A0[r2]).kind == 4)] (λK' hK'=>?_) (λe he=>?_)
          ·exact jtt hK'
          simp only[List.map,zc,zl,zj,z_t] at he;simp only[he];refine Ae (jff (jl (v:=S0 tb s.A0.length tc) rfl jev)) ?_;rw[hT,f1,c4,f2] at hK';cases c5:((s.A0[r2]).kind == 4)<;>(rw[c5] at hK';exact hK')
        simp only[List.map,zc,zl,zj,z_t] at he;simp only[he];refine jif (λg=>?_) (λg=>?_)
        ·exact fin hR1 (hno (bad (by simpa using g)))
        ·exact jad (hK hc (good (by simpa using g)))
   ·simp only[List.map,zc,zl,zj,z_t] at he;simp only[he];exact h1 hst
  simp only[List.map,zc,zl,zj,z_t] at he;simp only[he];have S:=RK (hth0.trans hs) Fq;have hbadr:Ao l (DJ s) [] = none→(C0 s).isSome = false:=λhn=>TU (hth0.trans hs) hn
  rw[show ((b,C 28 (cl (.agg (eSt s (.slice wa s.AB.length wc) (S0 tb s.A0.length tc) (.slice ma s.AR.length mc) thv ov pv).toArray))) :: ([] ++ F):Chs) = (b,C 28 (eSt s (.slice wa s.AB.length wc) (S0 tb s.A0.length tc) (.slice ma s.AR.length mc) thv ov pv)) :: ([] ++ F) from rfl];generalize hcs:eSt s (.slice wa s.AB.length wc) (S0 tb s.A0.length tc) (.slice ma s.AR.length mc) thv ov pv = cs;have c8:cs[8]? = some thv:=by rw[← hcs];rfl
  have c10:cs[10]? = some pv:=by rw[← hcs];rfl
  have c1:cs[1]? = some (S0 tb s.A0.length tc):=by rw[← hcs];rfl
  have rl:=h.b.rl;clear he ho;refine AJ (λvs R' D'=>R' = R1∧∃ac v A,Ao l (s.AA.flatMap (·.AD)) [] = some ac∧s.AA.all Ed = true∧SO ac v A∧D' = A ++ ((b,C 28 cs) :: ([] ++ F))∧vs = [Pt b,.slice la l.length lc,v]) (λK1 h1=>?_) ?_
  ·refine AJ (λvs R' D'=>R' = R1∧∃ac v A,Ao l (s.AA.flatMap (·.AD)) [] = some ac∧s.AA.all Ed = true∧SO ac v A∧D' = A ++ ((b,C 28 cs) :: ([] ++ F))∧vs = [Pt b,.slice la l.length lc,v]) (λK2 h2=>?_) ?_;rotate_left
   ·rintro e R2 D2 ⟨hR,ac,v,A,g1,g2,so,hD,he⟩;subst hR;rw[hD];clear hD;simp only[List.map,zc,zl,zj,z_t] at he;simp only[he];exact h1 _ _ _ ⟨rfl,ac,v,A,g1,g2,so,rfl,rfl⟩
   refine jlp (λm vs R' D'=>R' = R1∧∃(i:Nat) (ac:List Int) (v:Value) (A:Chs),i≤s.AA.length∧m = s.AA.length - i∧Ao l ((s.AA.take i).flatMap (·.AD)) [] = some ac∧(s.AA.take i).all Ed = true∧SO ac v A∧D' = A ++ ((b,C 28 cs) :: ([] ++ F))∧vs = [Pt b,.slice la l.length lc,v,I i]) (n:=s.AA.length) ⟨rfl,0,[],_,[],by omega,rfl,rfl,rfl,.inl ⟨rfl,rfl,rfl⟩,rfl,rfl⟩ ?_;rintro m e R2 D2 K ⟨hR,i,ac,v,A,hi,hmm,hac,hta,so,hD,he⟩ hK;subst hR;rw[hD];clear hD;simp only[List.map,zc,zl,zj,z_t] at he;simp only[he];refine jl (v:=thv) c8 (CN h.c.th.sl (jlt (jif (λhc=>?_) (λhc=>?_))));rotate_left
   ·have hc:=z_g hc;rw[Yz (by omega)] at hac hta;exact h2 _ _ _ ⟨rfl,ac,v,A,hac,hta,so,rfl,rfl⟩
   have hc:i < s.AA.length:=by have:=z_f hc;omega
   have hrl:=rl _ (Yv hc);have hacl:=EI hac;have hfl:=DD (s.AA.take i) (λt ht=>rl t (ZL ht));have hfl2:9 * (s.AA.take i).length≤27:=by rw[Z0];omega
   rw[Zj] at hacl;refine AJ (λvs R' D'=>R' = R2∧∃ac v A,Ao l ((s.AA.take (i + 1)).flatMap (·.AD)) [] = some ac∧(s.AA.take (i + 1)).all Ed = true∧SO ac v A∧D' = A ++ ((b,C 28 cs) :: ([] ++ F))∧vs = [Pt b,.slice la l.length lc,v,I i]) (λK3 h3=>?_) ?_;rotate_left
   ·rintro e R3 D3 ⟨hR,ac,v,A,g1,g2,so,hD,he⟩;subst hR;rw[hD];clear hD;simp only[List.map,zc,zl,zj,z_t] at he;simp only[he];exact jad (hK (s.AA.length - (i + 1)) _ _ _ (by omega) ⟨rfl,i + 1,ac,v,A,by omega,rfl,g1,g2,so,rfl,rfl⟩)
   refine AJ (λvs R' D'=>R' = R2∧∃ac v A,Ao l ((s.AA.take (i + 1)).flatMap (·.AD)) [] = some ac∧(s.AA.take (i + 1)).all Ed = true∧SO ac v A∧D' = A ++ ((b,C 28 cs) :: ([] ++ F))∧vs = [Pt b,.slice la l.length lc,v,I i]) (λK4 h4=>?_) ?_;rotate_left
   ·rintro e R3 D3 ⟨hR,ac,v,A,g1,g2,so,hD,he⟩;subst hR;rw[hD];clear hD;simp only[List.map,zc,zl,zj,z_t] at he;simp only[he];exact h3 _ _ _ ⟨rfl,ac,v,A,g1,g2,so,rfl,rfl⟩
   refine jl (v:=thv) c8 (jtr h.c.th hc λb2 o2 ty cs2 rv hrv hb2 ho2 hrow=>?_);refine HL (l:=[rv,I (s.AA[i]).next,.bool (s.AA[i]).busy,I (s.AA[i]).Au]) hb2 ho2 hrow (ja λb3=>?_);obtain⟨ra,rc,rfl⟩:=hrv.sl;refine js (cs':=[.slice ra (s.AA[i]).AD.length rc,I (s.AA[i]).next,.bool (s.AA[i]).busy,I (s.AA[i]).Au]) rfl rfl (Yp rfl) rfl ?_;refine jor [Pt b,.slice la l.length lc,v,I i,Pt b3] ((decide (((s.AA[i]).AD.length:Int) > 8)) || (decide ((s.AA[i]).Au < 0))) (λK' hK'=>?_) (λe c u ho he=>?_)
   ·refine jl (v:=.slice ra (s.AA[i]).AD.length rc) rfl (jln (jgr (BM (λh1=>?_) (λh1=>?_))))
    ·refine jl (v:=I (s.AA[i]).Au) rfl (jlt (hK' _ _ _ (h1▸Aj) (by rw[h1,Yk])))
    ·exact hK' _ _ _ (h1▸Al) (by rw[h1,Ym])
   simp only[List.map,zc,zl,zj,z_t] at he;simp only[he];refine jor [Pt b,.slice la l.length lc,v,I i,Pt b3] ((decide (((s.AA[i]).AD.length:Int) > 8) || decide ((s.AA[i]).Au < 0)) || (decide ((s.AA[i]).Au > 2))) (λK' hK'=>?_) (λe c u ho he=>?_)
   ·rw[ho];refine BM (λh1=>?_) (λh1=>?_)
    ·refine jl (v:=I (s.AA[i]).Au) rfl (jgr (hK' _ _ _ (h1▸Aj) (by rw[h1,Yk])))
    ·exact hK' _ _ _ (h1▸Al) (by rw[h1,Ym])
   simp only[List.map,zc,zl,zj,z_t] at he;simp only[he];rw[ho];have hthr:(decide (((s.AA[i]).AD.length:Int) > 8) || decide ((s.AA[i]).Au < 0) || decide ((s.AA[i]).Au > 2)) = !Ed s.AA[i]:=by
    unfold Ed;rw[ZT];simp only[ZA,Z7,aM,z_d,decide_eq_false_iff_not];omega
   rw[hthr];refine jif (λg=>?_) (λg=>?_)
   ·refine fin hR1 (hno ?_);rw[Zk];intro hh;unfold CX at hh;simp only[z_b] at hh;have:=ZE.1 hh.1.2 _ (Yv hc);rw[this] at g;cases g
   have htok:(s.AA.take (i + 1)).all Ed = true:=by
    rw[Yq hc,List.all_append,hta];simpa using g
   have hfe:(s.AA.take (i + 1)).flatMap (·.AD) = (s.AA.take i).flatMap (·.AD) ++ (s.AA[i]).AD:=by
    rw[Yq hc,List.flatMap_append];simp
   have hre:∃rest,DJ s = (s.AA.take i).flatMap (·.AD) ++ ((s.AA[i]).AD ++ rest):=by
    refine⟨(s.AA.drop (i + 1)).flatMap (·.AD) ++ s.AO,?_⟩;unfold DJ
    conv=>lhs;rw[← Zu (i + 1) s.AA]
    rw[List.flatMap_append,hfe];simp
   obtain⟨rest,hre⟩:=hre;refine Ai A (G:=((b3,C 83 [.slice ra (s.AA[i]).AD.length rc,I (s.AA[i]).next,.bool (s.AA[i]).busy,I (s.AA[i]).Au]) :: (b,C 28 cs) :: ([] ++ F))) ?_;refine AJ (λvs R' D'=>R' = R2∧∃ac2 v A,Ao l (s.AA[i]).AD ac = some ac2∧SO ac2 v A∧D' = A ++ ((b,C 28 cs) :: ([] ++ F))∧vs = [Pt b,.slice la l.length lc,v,I i]) (λK5 h5=>?_) ?_;rotate_left
   ·rintro e R3 D3 ⟨hR,ac2,v2,A2,g1,so2,hD,he⟩;subst hR;rw[hD];clear hD;simp only[List.map,zc,zl,zj,z_t] at he;simp only[he];refine h4 _ _ _ ⟨rfl,ac2,v2,A2,?_,htok,so2,rfl,rfl⟩;rw[hfe,CW,hac];exact g1
   refine jlp (λm vs R' D'=>R' = R2∧∃(j:Nat) (ac2:List Int) (v:Value) (A:Chs),j≤(s.AA[i]).AD.length∧m = (s.AA[i]).AD.length - j∧Ao l ((s.AA[i]).AD.take j) ac = some ac2∧SO ac2 v A∧D' = A ++ ((b3,C 83 [.slice ra (s.AA[i]).AD.length rc,I (s.AA[i]).next,.bool (s.AA[i]).busy,I (s.AA[i]).Au]) :: (b,C 28 cs) :: ([] ++ F))∧vs = [Pt b,.slice la l.length lc,v,I i,Pt b3,I j]) (n:=(s.AA[i]).AD.length) ⟨rfl,0,ac,v,A,by omega,rfl,rfl,so,rfl,rfl⟩ ?_;clear so ho he hmm hK;rintro m e R3 D3 K ⟨hR,j,ac2,v2,A2,hj,hmm,hac2,so2,hD,he⟩ hK;subst hR;rw[hD];clear hD;simp only[List.map,zc,zl,zj,z_t] at he;simp only[he];refine jl (v:=.slice ra (s.AA[i]).AD.length rc) rfl (jln (jlt (jif (λhc2=>?_) (λhc2=>?_))));rotate_left
   ·have hc2:=z_g hc2;rw[Yz (by omega)] at hac2;refine Ai A2 (G:=((b,C 28 cs) :: ([] ++ F))) ?_;exact h5 _ _ _ ⟨rfl,ac2,v2,A2,hac2,so2,rfl,rfl⟩
   have hc2:j < (s.AA[i]).AD.length:=by have:=z_f hc2;omega
   have hac2l:=EI hac2;rw[Z0] at hac2l;have hnx:Ao l ((s.AA[i]).AD.take (j + 1)) ac = (now l (s.AA[i]).AD[j]).bind λy=>some (CQ ac2 y):=by
    rw[Yq hc2,CW,hac2];rfl
   refine jan [Pt b,.slice la l.length lc,v2,I i,Pt b3,I j] (((s.AA[i]).AD[j] != 0) && decide (Nn l (s.AA[i]).AD[j] < 0)) (λK' hK'=>?_) (λe c u ho he=>?_)
   ·refine jl (v:=.slice ra (s.AA[i]).AD.length rc) rfl (Bv hrv (by omega) (by omega) ?_);simp only[Yj];refine jne (Bm (λg=>?_) (λg=>?_))
    ·refine jl (v:=.slice ra (s.AA[i]).AD.length rc) rfl (Bv hrv (by omega) (by omega) ?_);simp only[Yj];exact jrp (Dj _ htg (by omega)) (jlt (hK' _ _ _ (g▸Aq) (by rw[g,Yx])))
    ·exact hK' _ _ _ (g▸Av) (by rw[g,Yy])
   simp only[List.map,zc,zl,zj,z_t] at he;simp only[he];rw[ho];refine jif (λg=>?_) (λg=>?_)
   ·refine fin hR1 (hbadr ?_);simp only[z_b,bne_iff_ne,z_d] at g;have hnn:now l (s.AA[i]).AD[j] = none:=by
     unfold now;rw[if_neg g.1];cases hf:BW l (s.AA[i]).AD[j] with
     | none=>rfl
     | some t=>obtain⟨q,_,e,_⟩:=EE hf;omega
    rw[hre,CW,hac,z_o,CW]
    conv=>lhs;rw[← Zu (j + 1) (s.AA[i]).AD,CW,hnx,hnn]
    rfl
   obtain⟨x,hx⟩:∃x,now l (s.AA[i]).AD[j] = some x:=by
    unfold now;by_cases g0:(s.AA[i]).AD[j] = 0
    ·exact⟨0,by rw[if_pos g0]⟩
    ·rw[if_neg g0];cases hf:BW l (s.AA[i]).AD[j] with
     | none=>rw[GU hf] at g;simp[g0] at g
     | some t=>exact⟨_,rfl⟩
   refine jl (v:=.slice ra (s.AA[i]).AD.length rc) rfl (Bv hrv (by omega) (by omega) ?_);simp only[Yj];refine jrp (GV htg (by omega) hx) ?_;refine jc (A:=A2) (KT x so2 (by omega)) ?_;rintro v3 R4 A3 _ ⟨hR,so3⟩;subst hR;refine jad ?_;refine hK ((s.AA[i]).AD.length - (j + 1)) _ _ _ (by omega) ⟨rfl,j + 1,_,v3,A3,by omega,rfl,?_,so3,rfl,rfl⟩;rw[hnx,hx];rfl
  rintro e R2 D2 ⟨hR,ac,v,A,hac,hta,so,hD,he⟩;subst hR;rw[hD];clear hD;simp only[List.map,zc,zl,zj,z_t] at he;simp only[he];have hacl:=EI hac;have hfl:=DD s.AA rl;have hfl2:9 * s.AA.length≤27:=by omega
  rw[Zj] at hacl;obtain⟨pa,pc,rfl⟩:=h.c.p.sl;refine jl (v:=.slice pa s.AO.length pc) c10 (jln (jgr (jif (λg=>?_) (λg=>?_))))
  ·refine fin hR1 (hno ?_);rw[Zk];intro hh;unfold CX at hh;simp only[z_b,z_d] at hh;have:=z_f g;omega
  have hpl:s.AO.length≤8:=by have:=z_g g;omega
  refine AJ (λvs R' D'=>R' = R2∧∃out v A,Ao l (DJ s) [] = some out∧s.AO.all (Dm s l) = true∧SO out v A∧D' = A ++ ((b,C 28 cs) :: ([] ++ F))∧vs = [.slice la l.length lc,v]) (λK1 h1=>?_) ?_
  ·refine AJ (λvs R' D'=>R' = R2∧∃out v A,Ao l (DJ s) [] = some out∧s.AO.all (Dm s l) = true∧SO out v A∧D' = A ++ ((b,C 28 cs) :: ([] ++ F))∧vs = [.slice la l.length lc,v]) (λK2 h2=>?_) ?_;rotate_left
   ·rintro e R3 D3 ⟨hR,ac,v,A,g1,g2,so,hD,he⟩;subst hR;rw[hD];clear hD;simp only[List.map,zc,zl,zj,z_t] at he;simp only[he];exact h1 _ _ _ ⟨rfl,ac,v,A,g1,g2,so,rfl,rfl⟩
   refine jlp (λm vs R' D'=>R' = R2∧∃(i:Nat) (v:Value) (A:Chs),i≤s.AO.length∧m = s.AO.length - i∧(s.AO.take i).all (Dm s l) = true∧SO ((s.AO.take i).foldl CQ ac) v A∧D' = A ++ ((b,C 28 cs) :: ([] ++ F))∧vs = [Pt b,.slice la l.length lc,v,I i]) (n:=s.AO.length) ⟨rfl,0,v,A,by omega,rfl,rfl,so,rfl,rfl⟩ ?_;clear so;rintro m e R3 D3 K ⟨hR,i,v,A,hi,hmm,hpa,so,hD,he⟩ hK;subst hR;rw[hD];clear hD;simp only[List.map,zc,zl,zj,z_t] at he;simp only[he];refine jl (v:=.slice pa s.AO.length pc) c10 (jln (jlt (jif (λhc=>?_) (λhc=>?_))));rotate_left
   ·have hc:=z_g hc;rw[Yz (by omega)] at hpa so;refine h2 _ _ _ ⟨rfl,_,v,A,?_,hpa,so,rfl,rfl⟩;unfold DJ;rw[CW,hac];exact KP hpa
   have hc:i < s.AO.length:=by have:=z_f hc;omega
   have bad:Dm s l s.AO[i] = false→CX s l = false:=λhh=>by
    rw[Zk];intro g;unfold CX at g;simp only[z_b] at g;have:=ZE.1 g.2 _ (Yv hc);rw[hh] at this;cases this
   have hsl:((s.AO.take i).foldl CQ ac).length < 1000000:=by
    have:=EI (KP (acc:=ac) hpa);rw[Z0] at this;omega
   refine jl (v:=.slice pa s.AO.length pc) c10 (Bv h.c.p (by omega) (by omega) ?_);simp only[Yj];refine jrp (Dj _ htg (by omega)) ?_;cases hf:BW l s.AO[i] with
   | none=>
    rw[GU hf];refine Bz [Pt b,.slice la l.length lc,v,I i,.bool true] (λK' hK'=>?_) (λe he=>?_)
    ·refine Bz [Pt b,.slice la l.length lc,v,I i,I (-1),.bool true,U] (λK' hK'=>?_) (λe he=>?_)
     ·exact jlt (jtf hK')
     simp only[List.map,zc,zl,zj,z_t] at he;simp only[he];refine Bz [Pt b,.slice la l.length lc,v,I i,.bool true,U,U,U] (λK' hK'=>?_) (λe he=>?_)
     ·exact jtf hK'
     simp only[List.map,zc,zl,zj,z_t] at he;simp only[he];exact jtf (Ae jev hK')
    simp only[List.map,zc,zl,zj,z_t] at he;simp only[he];exact DO (fin hR1 (hno (bad (by unfold Dm;rw[hf]))))
   | some n=>
    obtain⟨k,hk,hfk,hn⟩:=EE hf;subst hn;rw[hfk];obtain⟨hkm,hka⟩:=Bw hf;have hpo:Dm s l s.AO[i] = (!((l[k]).moved != (l[k]).at_) && !DV s (l[k]).at_):=by
     unfold Dm;rw[hf];dsimp only;rw[hka];unfold bne;cases (l[k]).moved == s.AO[i]<;>rfl
    obtain⟨r2,e2,hr2,f2⟩:=Io hs hkm (by omega);refine Bz [Pt b,.slice la l.length lc,v,I i,.bool (!Dm s l s.AO[i])] (λK' hK'=>?_) (λe he=>?_)
    ·refine Bz [Pt b,.slice la l.length lc,v,I i,I k,.bool false,.bool ((l[k]).moved != (l[k]).at_)] (λK' hK'=>?_) (λe he=>?_)
     ·refine jlt ?_;rw[show decide ((k:Int) < 0) = false from decide_eq_false (by omega)];exact jff (W8 htg hk (Sn htg hk (jne hK')))
     simp only[List.map,zc,zl,zj,z_t] at he;simp only[he];cases c4:((l[k]).moved != (l[k]).at_) with
     | true=>
      refine Bz [Pt b,.slice la l.length lc,v,I i,.bool true,U,U,U] (λK' hK'=>?_) (λe he=>?_)
      ·exact jtf hK'
      simp only[List.map,zc,zl,zj,z_t] at he;simp only[he];rw[hpo,c4] at hK';exact jtf (Ae jev hK')
     | false=>
      refine Bz [Pt b,.slice la l.length lc,v,I i,.bool false,.pointer (some ⟨b,0 + 1,none⟩),S0 tb s.A0.length tc,I (l[k]).at_] (λK' hK'=>?_) (λe he=>?_)
      ·exact jff (jfo (jl (v:=S0 tb s.A0.length tc) (by rw[Z6];exact c1) (Sn htg hk hK')))
      simp only[List.map,zc,zl,zj,z_t] at he;simp only[he];refine jff (jp (CJ _ (by omega)) ?_);rw[e2];refine jrk h.z hr2 (jeq ?_);rw[hpo,c4,f2] at hK';refine Ae (jl (v:=S0 tb s.A0.length tc) (by rw[Z6];exact c1) jev) ?_;cases c5:((s.A0[r2]).kind == 4)<;>(rw[c5] at hK';exact hK')
    simp only[List.map,zc,zl,zj,z_t] at he;simp only[he];refine jif (λg=>?_) (λg=>?_)
    ·exact fin hR1 (hno (bad (by simpa using g)))
    have hok:Dm s l s.AO[i] = true:=by simpa using g
    refine jl (v:=.slice pa s.AO.length pc) c10 (Bv h.c.p (by omega) (by omega) ?_);simp only[Yj];refine jc (A:=A) (KT s.AO[i] so hsl) ?_;rintro v3 R4 A3 _ ⟨hR,so3⟩;subst hR;refine jad ?_;refine hK (s.AO.length - (i + 1)) _ _ _ (by omega) ⟨rfl,i + 1,v3,A3,by omega,rfl,?_,?_,rfl,rfl⟩
    ·rw[Yq hc,List.all_append,hpa];simpa using hok
    ·rw[Yq hc,List.foldl_append];exact so3
  rintro e R3 D3 ⟨hR,out,v,A,hout,hpa,so,hD,he⟩;subst hR;rw[hD];clear hD;simp only[List.map,zc,zl,zj,z_t] at he;simp only[he];have M0:DQ l out:=DQ.nil.all S hout;have hhead:CX s l = true:=by
   unfold CX;simp only[z_b,z_d];exact⟨⟨⟨⟨⟨⟨⟨Fq,by omega⟩,by omega⟩,by omega⟩,by omega⟩,by omega⟩,hta⟩,hpa⟩
  have hho:C0 s = (BN l (l.length + 2) 0 out).map λm=>(l,m):=by
   unfold C0;rw[hth0,hs];dsimp only;rw[if_pos hhead,Dt hpa,hout];rfl
  refine jlp (λm vs R' D'=>R' = R3∧∃(i:Nat) (ac:List Int) (v:Value) (A:Chs),i≤ac.length∧m = l.length + 2 - i∧BN l (l.length + 2 - i) i ac = BN l (l.length + 2) 0 out∧DQ l ac∧SO ac v A∧D' = A ++ ((b,C 28 cs) :: ([] ++ F))∧vs = [.slice la l.length lc,v,I i]) (n:=l.length + 2) ⟨rfl,0,out,v,A,by omega,by omega,rfl,M0,so,rfl,rfl⟩ ?_;clear so hac hacl;rintro m e R4 D4 K ⟨hR,i,ac,v,A,hi,hmm,hrl,M,so,hD,he⟩ hK;subst hR;rw[hD];clear hD;simp only[List.map,zc,zl,zj,z_t] at he;simp only[he];have hal:=M.len;obtain⟨va,vc,hvv⟩:=so.sln;refine CN ⟨va,vc,hvv⟩ (jlt (jif (λhc=>?_) (λhc=>?_)));rotate_left
  ·have hc:=z_g hc;obtain⟨q,hq⟩:∃q,l.length + 2 - i = q + 1:=⟨l.length + 1 - i,by omega⟩;rw[hq,DC (by omega)] at hrl;refine fin hR1 ?_;rw[hho,← hrl];rfl
  have hc:i < ac.length:=by have:=z_f hc;omega
  obtain⟨t,ht⟩:=M.th _ (Yv hc);obtain⟨htm,hta'⟩:=Bw ht;obtain⟨q,hq⟩:∃q,l.length + 2 - i = q + 1:=⟨l.length + 1 - i,by omega⟩;rw[hq,Cr hc ht] at hrl;have htb:=tbl t htm;refine AJ (λvs R' D'=>R' = R4∧∃ac2 v A,Ao l t.refs ac = some ac2∧SO ac2 v A∧D' = A ++ ((b,C 28 cs) :: ([] ++ F))∧vs = [.slice la l.length lc,v,I i]) (λK3 h3=>?_) ?_;rotate_left
  ·rintro e R5 D5 ⟨hR,ac2,v2,A2,hn,so2,hD,he⟩;subst hR;rw[hD];clear hD;simp only[List.map,zc,zl,zj,z_t] at he;simp only[he];rw[hn,z_o] at hrl;have M2:=M.all S hn;have:=M2.len;have hge:=DZ hn;exact jad (hK q _ _ _ (by omega) ⟨rfl,i + 1,ac2,v2,A2,by omega,by omega,by rw[← hrl];congr 1;omega,M2,so2,rfl,rfl⟩)
  refine AJ (λvs R' D'=>R' = R4∧∃ac2 v A,Ao l t.refs ac = some ac2∧SO ac2 v A∧D' = A ++ ((b,C 28 cs) :: ([] ++ F))∧vs = [.slice la l.length lc,v,I i]) (λK4 h4=>?_) ?_;rotate_left
  ·rintro e R5 D5 ⟨hR,ac2,v2,A2,hn,so2,hD,he⟩;subst hR;rw[hD];clear hD;simp only[List.map,zc,zl,zj,z_t] at he;simp only[he];exact h3 _ _ _ ⟨rfl,ac2,v2,A2,hn,so2,rfl,rfl⟩
  refine XF so hc (jrp (Dj _ htg (by omega)) ?_);obtain⟨k,hk,hfk,hn⟩:=EE ht;rw[hfk];refine jtg htg hk λb2 o2 ty cs2 rv nv hrv hnv hb2 ho2 hrow=>?_
  rw[hn] at hrv hnv hrow;obtain⟨ra,rc,rfl⟩:=hrv.sl;obtain⟨na,nc,rfl⟩:=hnv.sl;refine HL (l:=eTh t (.slice ra t.refs.length rc) (.slice na t.nums.length nc)) hb2 ho2 hrow (ja λb3=>?_);refine js (cs':=eTh t (.slice ra t.refs.length rc) (.slice na t.nums.length nc)) rfl rfl (by exact z_n 6) rfl ?_;refine Ai A (G:=((b3,C 62 (eTh t (.slice ra t.refs.length rc) (.slice na t.nums.length nc))) :: (b,C 28 cs) :: ([] ++ F))) ?_;refine AJ (λvs R' D'=>R' = R4∧∃ac2 v A,Ao l t.refs ac = some ac2∧SO ac2 v A∧D' = A ++ ((b,C 28 cs) :: ([] ++ F))∧vs = [.slice la l.length lc,v,I i]) (λK5 h5=>?_) ?_;rotate_left
  ·rintro e R5 D5 ⟨hR,ac2,v2,A2,hn,so2,hD,he⟩;subst hR;rw[hD];clear hD;simp only[List.map,zc,zl,zj,z_t] at he;simp only[he];exact h4 _ _ _ ⟨rfl,ac2,v2,A2,hn,so2,rfl,rfl⟩
  refine jlp (λm vs R' D'=>R' = R4∧∃(j:Nat) (ac2:List Int) (v:Value) (A:Chs),j≤t.refs.length∧m = t.refs.length - j∧Ao l (t.refs.take j) ac = some ac2∧SO ac2 v A∧D' = A ++ ((b3,C 62 (eTh t (.slice ra t.refs.length rc) (.slice na t.nums.length nc))) :: (b,C 28 cs) :: ([] ++ F))∧vs = [.slice la l.length lc,v,I i,Pt b3,I j]) (n:=t.refs.length) ⟨rfl,0,ac,v,A,by omega,rfl,rfl,so,rfl,rfl⟩ ?_;clear so hmm hK he;rintro m e R5 D5 K ⟨hR,j,ac2,v2,A2,hj,hmm,hac2,so2,hD,he⟩ hK;subst hR;rw[hD];clear hD;simp only[List.map,zc,zl,zj,z_t] at he;simp only[he];refine jl (v:=.slice ra t.refs.length rc) rfl (jln (jlt (jif (λhc2=>?_) (λhc2=>?_))));rotate_left
  ·have hc2:=z_g hc2;rw[Yz (by omega)] at hac2;refine Ai A2 (G:=((b,C 28 cs) :: ([] ++ F))) ?_;exact h5 _ _ _ ⟨rfl,ac2,v2,A2,hac2,so2,rfl,rfl⟩
  have hc2:j < t.refs.length:=by have:=z_f hc2;omega
  have hac2l:=EI hac2;rw[Z0] at hac2l;have hnx:Ao l (t.refs.take (j + 1)) ac = (now l t.refs[j]).bind λy=>some (CQ ac2 y):=by
   rw[Yq hc2,CW,hac2];rfl
  refine jan [.slice la l.length lc,v2,I i,Pt b3,I j] ((t.refs[j] != 0) && decide (Nn l t.refs[j] < 0)) (λK' hK'=>?_) (λe c u ho he=>?_)
  ·refine jl (v:=.slice ra t.refs.length rc) rfl (Bv hrv (by omega) (by omega) ?_);simp only[Yj];refine jne (Bm (λg=>?_) (λg=>?_))
   ·refine jl (v:=.slice ra t.refs.length rc) rfl (Bv hrv (by omega) (by omega) ?_);simp only[Yj];exact jrp (Dj _ htg (by omega)) (jlt (hK' _ _ _ (g▸Aq) (by rw[g,Yx])))
   ·exact hK' _ _ _ (g▸Av) (by rw[g,Yy])
  simp only[List.map,zc,zl,zj,z_t] at he;simp only[he];rw[ho];refine jif (λg=>?_) (λg=>?_)
  ·refine fin hR1 ?_;simp only[z_b,bne_iff_ne,z_d] at g;have hnn:now l t.refs[j] = none:=by
    unfold now;rw[if_neg g.1];cases hf:BW l t.refs[j] with
    | none=>rfl
    | some t=>obtain⟨q,_,e,_⟩:=EE hf;omega
   have:Ao l t.refs ac = none:=by
    conv=>lhs;rw[← Zu (j + 1) t.refs,CW,hnx,hnn]
    rfl
   rw[this] at hrl;rw[hho,← hrl];rfl
  obtain⟨x,hx⟩:∃x,now l t.refs[j] = some x:=by
   unfold now;by_cases g0:t.refs[j] = 0
   ·exact⟨0,by rw[if_pos g0]⟩
   ·rw[if_neg g0];cases hf:BW l t.refs[j] with
    | none=>rw[GU hf] at g;simp[g0] at g
    | some t=>exact⟨_,rfl⟩
  refine jl (v:=.slice ra t.refs.length rc) rfl (Bv hrv (by omega) (by omega) ?_);simp only[Yj];refine jrp (GV htg (by omega) hx) ?_;refine jc (A:=A2) (KT x so2 (by omega)) ?_;rintro v3 R6 A3 _ ⟨hR,so3⟩;subst hR;refine jad ?_;refine hK (t.refs.length - (j + 1)) _ _ _ (by omega) ⟨rfl,j + 1,_,v3,A3,by omega,rfl,?_,so3,rfl,rfl⟩;rw[hnx,hx];rfl
end st
end Go.Lf
end
section
namespace Go.Lf
open Go Sm
section st
variable {R:RM} {s:Sm.B7} {wv tv mv thv ov pv:Value}
def QLv (r:Option (List AZ × List Int)) (v:Value) (A:Chs):Prop:=match r with
 | none=>v = .tuple #[.slice none 0 0,.bool false]∧A = []
 | some (_,met)=>∃sv,SO (Ak met) sv A∧v = .tuple #[sv,.bool true]
theorem I7 {l:List AZ} (h:SF R s wv tv mv thv ov pv) (hl:ER s = some l):l.length≤192∧TB l:=by
 have h1:=hl;unfold ER at h1;split at h1;rotate_left
 ·cases h1
 unfold BE at h1;have h2:=Ko (by have:=h.b.wl;have:=h.b.t1;omega) h1;have:=h.b.t1;rw[Zy] at h2;exact⟨by omega,h2.1⟩
set_option maxRecDepth 4000 in
theorem OB (h:SF R s wv tv mv thv ov pv):Fn P Hm [.agg (eSt s wv tv mv thv ov pv).toArray] R [] (λv R' A=>QLv (C0 s) v A):=by
 refine Nt λF=>?_
 unfold I3;refine ja λb=>jla (l:=eSt s wv tv mv thv ov pv) (by exact z_n 13) rfl ?_
 refine jc (A:=[]) (MF h) ?_;rintro x R1 _ hR ⟨rfl,hq⟩;cases hh:C0 s with
 | none=>
  rw[hh] at hq;obtain rfl:x = _:=hq;exact jxr (λw=>WQ w _ _) (DO (BA (A:=[]) hR ⟨rfl,rfl⟩))
 | some q=>
  obtain⟨l,met⟩:=q;rw[hh] at hq;obtain⟨hb,mb,v,rfl,hv⟩:=hq;have hf:=Df hh;have:=hf.M.len;have:=(I7 h hf.ths).1;refine jxr (λw=>WR w _ _ hb) (Cn ?_);refine jc (A:=[]) (Pq hv hf.M.nd (by omega)) ?_;rintro sv R2 A2 _ ⟨hR2,so⟩;subst hR2;exact BA (A:=A2) hR ⟨sv,so,rfl⟩
theorem RW (h:SF R s wv tv mv thv ov pv):Fn P Ib [.agg (eSt s wv tv mv thv ov pv).toArray] R [] (λv R' A=>QLv (C0 s) v A):=by
 refine Nk λF=>?_
 unfold Hu;refine ja λb=>jla (l:=eSt s wv tv mv thv ov pv) (by exact z_n 13) rfl (jrp (T8 h) ?_)
 cases hh:C0 s with
 | none=>exact DO (BA (A:=[]) (RM.le.refl R) ⟨rfl,rfl⟩)
 | some q=>
  obtain⟨l,met⟩:=q;have hf:=Df hh;obtain⟨hll,tbl⟩:=I7 h hf.ths;have hml:=hf.M.len;have t1:=h.b.t1;have wl:=h.b.wl;have n1:=h.b.n1;have rl:=h.b.rl;have pl:=h.b.pl;have hth:BE s = some l:=by
   have h1:=hf.ths;unfold ER at h1;split at h1
   ·exact h1
   ·cases h1
  refine Cn (jla (l:=eSt s wv tv mv thv ov pv) (by exact z_n 13) rfl ?_);refine jc (A:=[]) (HI h.c (by omega) (by omega)) ?_;rintro _ R1 _ hR1 ⟨rfl,hq⟩;rw[hth] at hq;obtain⟨lv,htg,rfl⟩:=hq;refine jex rfl (jex rfl (jla (l:=eSt s wv tv mv thv ov pv) (by exact z_n 13) rfl ?_));refine jc (A:=[]) (KA (h.le hR1).c htg (by omega) hf.re (by omega) (λt ht=>by have:=rl t ht;omega) (by omega) (λt ht=>by have:=tbl t ht;omega)) ?_;rintro rv R2 A2 hR2 so;refine E7 so λR3 hR3 hi=>?_
  refine jc (A:=[]) (LY hi (by omega)) ?_;rintro sv R4 A4 _ ⟨hR,so4⟩;subst hR;exact BA (A:=A4) (hR1.trans (hR2.trans hR3)) ⟨sv,so4,rfl⟩
end st
section rules
variable {R:RM} {D:Chs} {k:Value→M}
end rules
def DSF (x:Value) (R:RM):Prop:=∃(s:Sm.B7) (wv tv mv thv ov pv:Value),x = .agg (eSt s wv tv mv thv ov pv).toArray∧SF R s wv tv mv thv ov pv
theorem XQ {R R' : RM} {rb:Nat} {v:Value} {m c:Int} {x:Value} {A F:Chs} {mm:M} (h:DSt R rb v m c x R' A) (H:∀R2,R'.le R2→DSF x R2→J R2 F mm):J R' (A ++ F) mm:=by
 obtain⟨s,wv,mv,thv,ov,pv,tb,tc,tsp,m',sb,hw,hm,hth,hov,hpv,htc,_,_,rfl,rfl⟩:=h;show J R' ((rb,rdO v m') :: (tb,C AI (Ab eRg s.A0 ++ tsp)) :: F) mm;refine C4 (Bh (b:=tb) λR2 hR2 hb=>?_);exact H R2 hR2 ⟨s,wv,_,mv,thv,ov,pv,rfl,⟨hw.le hR2,Tz hb htc,hm.le hR2,hth.le hR2,hov.le hR2,hpv.le hR2⟩,⟨tb,tc,tsp,rfl,hb,htc⟩,sb⟩
theorem DSF.cut {x:Value} {R:RM} (h:DSF x R):∃(s:Sm.B7) (wa:Option Addr) (wc tb tc:Nat) (ma:Option Addr) (mc:Nat) (ta:Option Addr) (thc:Nat) (oa:Option Addr) (oc:Nat) (pa:Option Addr) (pc:Nat),x = .agg (eSt s (.slice wa s.AB.length wc) (S0 tb s.A0.length tc) (.slice ma s.AR.length mc) (.slice ta s.AA.length thc) (.slice oa s.old.length oc) (.slice pa s.AO.length pc)).toArray∧SF R s (.slice wa s.AB.length wc) (S0 tb s.A0.length tc) (.slice ma s.AR.length mc) (.slice ta s.AA.length thc) (.slice oa s.old.length oc) (.slice pa s.AO.length pc):=by
 obtain⟨s,wv,tv,mv,thv,ov,pv,rfl,h⟩:=h;obtain⟨tb,tc,sp,rfl,hb,htc⟩:=h.z;obtain⟨wa,wc,rfl⟩:=h.c.w.sl;obtain⟨ma,mc,rfl⟩:=h.c.m.sl;obtain⟨tha,thc,rfl⟩:=h.c.th.sl;obtain⟨oa,oc,rfl⟩:=h.c.o.sl;obtain⟨pa,pc,rfl⟩:=h.c.p.sl;exact⟨s,wa,wc,tb,tc,ma,mc,tha,thc,oa,oc,pa,pc,rfl,h⟩
theorem X3 {x:Value} {R:RM} {F:Chs} {b:Nat} {k:Value→M} (h:DSF x R) (H:J R F (k x)):J R ((b,C 28 (cl z28)) :: F) (ST 13 (Pt b) x (LA 13 (Pt b) k)):=by
 obtain⟨s,wa,wc,tb,tc,ma,mc,tha,thc,oa,oc,pa,pc,rfl,h⟩:=h.cut;refine js (cs':=eSt s (.slice wa s.AB.length wc) (S0 tb s.A0.length tc) (.slice ma s.AR.length mc) (.slice tha s.AA.length thc) (.slice oa s.old.length oc) (.slice pa s.AO.length pc)) rfl rfl (by exact z_n 13) rfl ?_;exact jla (l:=eSt s (.slice wa s.AB.length wc) (S0 tb s.A0.length tc) (.slice ma s.AR.length mc) (.slice tha s.AA.length thc) (.slice oa s.old.length oc) (.slice pa s.AO.length pc)) (by exact z_n 13) rfl (C4 H)
end Go.Lf
end
section
namespace Sm
open Go.Lf
end Sm
namespace Go.Lf
open Go Sm
section st
variable {R:RM} {s:Sm.B7} {wv tv mv thv ov pv:Value}
theorem Xl {l:List AZ} {met:List Int} (hf:HpF s l met):BE s = some l:=by
 have h1:=hf.ths;unfold ER at h1;split at h1
 ·exact h1
 ·cases h1
theorem Y3 {l:List AZ} {met:List Int} (hf:HpF s l met) {a:Int} (ha:a∈met):∃t,BW l a = some t∧BB s.AB a = (t,true):=by
 obtain⟨t,ht⟩:=hf.M.th a ha;obtain⟨h1,h2⟩:=Bw ht;have h3:=Xl hf;unfold BE at h3;have:=((Ea h3).2 t h1).2.2.1;rw[h2] at this;exact⟨t,ht,this⟩
theorem WN {D:Chs} {v:Value} {l:List Int} {i:Int} {B:Value→Value→M} (h:BC R v l) (h0:0≤i) (h1:i < l.length)
  (H:∀p,(∀{D' : Chs} {k:Value→M},(∀(R' : RM) (D'' : Chs),J R D' (k (I (l[i.toNat]'(by omega)))))→J R D' (L1 p k))→J R D (B p (I (l[i.toNat]'(by omega))))):J R D (IA 1 v (I i) λp=>L1 p λx=>B p x):=by
 rcases h with ⟨_,h2,_⟩ | ⟨b,o,cap,t,cs,rfl,h2,h3,h4,h5⟩
 ·omega
 ·have hcell:cs[o + i.toNat * 1]? = some (I (l[i.toNat]'(by omega))):=by
   have e:((cs.drop o).take (l.length * 1))[i.toNat]? = (l.map I)[i.toNat]?:=by rw[h4]
   rw[List.getElem?_take_of_lt (by omega),Zl,ZQ,Yl (l:=l) (i:=i.toNat) (by omega)] at e;rw[Zt];exact e
  refine jia h0 h1 (jlr h2 hcell (H _ λ{D'} {k} hk=>jlr h2 hcell (hk R D')))
end st
end Go.Lf
end
section
namespace Go.Lf
open Go Sm
theorem YY {x:Value} {R:RM} {F:Chs} {k:Value→M} (h:DSF x R) (H:∀(b:Nat) (s:Sm.B7) (wv tv mv thv ov pv:Value),x = .agg (eSt s wv tv mv thv ov pv).toArray→SF R s wv tv mv thv ov pv→J R ((b,C 28 (eSt s wv tv mv thv ov pv)) :: F) (k (Pt b))) :
  J R F (AL 28 z28 λp=>ST 13 p x (k p)):=by
 obtain⟨s,wa,wc,tb,tc,ma,mc,tha,thc,oa,oc,pa,pc,rfl,h2⟩:=h.cut;refine ja λb=>?_
 refine js (cs':=eSt s (.slice wa s.AB.length wc) (S0 tb s.A0.length tc) (.slice ma s.AR.length mc) (.slice tha s.AA.length thc) (.slice oa s.old.length oc) (.slice pa s.AO.length pc)) rfl rfl (by exact z_n 13) rfl ?_;exact H b s _ _ _ _ _ _ rfl h2
theorem XK {R:RM} {v:Value} (hc:Cod R v):∃n:Nat,∃a c,v = .slice a n c:=by
 obtain⟨n,hf⟩:=hc;exact⟨n,hf.sl⟩
section rules
variable {R:RM} {D:Chs} {k:Value→M}
theorem Yg {x y:Int} {kd:IntKind} (h:0≤y) (H:J R D (k (.int kd (x.fdiv (2 ^ min y.toNat kd.bits))))):J R D (BO .shr (.int kd x) (.int kd y) k):=by
 unfold BO;simp only[if_true];exact λh' hs=>⟨h,H h' hs⟩
theorem YK (x:Int) (w:World):(Go.convert 3 130 (I x):Sem Value).run P w = .ok (.int .u64 (IntKind.u64.wrap x)) w:=by kernel_rfl
theorem Xg (x:Int) (w:World):(Go.convert 130 3 (.int .u64 x):Sem Value).run P w = .ok (I (IntKind.i64.wrap x)) w:=by kernel_rfl
theorem V5 {n:Int} (h0:0≤n) (h1:n < 9223372036854775808):IntKind.u64.wrap n = n:=by
 unfold IntKind.wrap;simp only[IntKind.bits,IntKind.signed];simp;omega
end rules
theorem XY (x:Int):Pu JQ [I x] (.bool false):=by
 intro R;refine P1 λF=>?_
 unfold KG;refine jne (BA (A:=[]) (RM.le.refl R) ?_);simp
theorem X8 (x:Int):Pu GA [I x] (.bool false):=by
 intro R;refine Le λF=>?_
 unfold Fp;refine jne (BA (A:=[]) (RM.le.refl R) ?_);simp
theorem Ws (x y:Int):Pu Ku [I x,I y] (.bool (decide (x < y))):=by
 intro R;refine Qe λF=>?_
 unfold Ly;refine jan [I x,I y] false (λK' hK'=>?_) (λe c u ho he=>?_)
 ·exact jp (XY x) (jft (hK' _ _ _ Av rfl))
 simp only[List.map,zc,zl,zj,z_t] at he;simp only[he];refine jor [] (decide (x < y)) (λK' hK'=>?_) (λe c u ho he=>?_)
 ·rw[ho];exact jff (jlt (hK' _ _ _ Aj rfl))
 simp only[List.map,zc,zl,zj,z_t] at he;simp only[he];rw[ho];exact BA (A:=[]) (RM.le.refl R) rfl
def lbI (l:List Int) (x:Int):Nat:=(l.filter λy=>decide (y < x)).length
theorem Ug {l:List Int} {x:Int} {i:Nat} (hi:i≤l.length) (h1:∀k (h:k < l.length),k < i→l[k] < x) (h2:∀k (h:k < l.length),i≤k→x≤l[k]):lbI l x = i:=by
 unfold lbI
 conv=>lhs;rw[← Zu i l]
 rw[List.filter_append,Yn];have e1:(l.take i).filter (λy=>decide (y < x)) = l.take i:=by
  rw[List.filter_eq_self];intro y hy;obtain⟨k,hk,rfl⟩:=ZH hy;rw[Z0] at hk;rw[aZ];exact decide_eq_true (h1 k (by omega) (by omega))
 have e2:(l.drop i).filter (λy=>decide (y < x)) = []:=by
  rw[List.filter_eq_nil_iff];intro y hy;obtain⟨k,hk,rfl⟩:=ZH hy;rw[ZO] at hk;rw[aP];have:=h2 (i + k) (by omega) (by omega);simpa using this
 rw[e1,e2,Z0];simp;omega
theorem Il {l:List Int} {x:Int} (hs:l.Pairwise (· < ·)) (h:x∈l):(lbI l x:Int) = Bi l x:=by
 unfold Bi;rw[if_pos h];have hlt:l.idxOf x < l.length:=List.idxOf_lt_length_iff.2 h;have hv:l[l.idxOf x] = x:=by simp
 rw[aL] at hs;congr 1;refine Ug (by omega) (λk hk hlt'=>?_) (λk hk hle=>?_)
 ·have:=hs k _ hk hlt hlt';omega
 ·by_cases c:k = l.idxOf x
  ·subst c;omega
  ·have:=hs _ k hlt hk (by omega);omega
set_option maxRecDepth 4000 in
theorem LQ {R:RM} {v:Value} {l:List Int} (x:Int) (h:BC R v l) (hl:l.length < 1000000) (hs:l.Pairwise (· < ·)):Ro Dq [v,I x] (.tuple #[I (lbI l x),.bool (decide (x∈l))]) R []:=by
 refine Fk λF=>?_
 unfold Dp;obtain⟨va,vc,rfl⟩:=h.sl;refine jln ?_;have hs':=aL.1 hs;refine Bz [.slice va l.length vc,I x,I l.length,I (lbI l x)] (λK1 h1=>?_) (λe he=>?_)
 ·refine Bz [.slice va l.length vc,I x,I l.length,I (lbI l x)] (λK2 h2=>?_) (λe he=>?_)
  ·refine jlp (λm vs R' D'=>R' = R∧D' = [] ++ F∧∃i j:Nat,i≤j∧j≤l.length∧m = j - i∧(∀k (h:k < l.length),k < i→l[k] < x)∧(∀k (h:k < l.length),j≤k→x≤l[k])∧vs = [.slice va l.length vc,I x,I l.length,I i,I j]) (n:=l.length) ⟨rfl,rfl,0,l.length,by omega,by omega,by omega,λk _ h=>by omega,λk h h'=>by omega,rfl⟩ ?_;rintro m e R1 D1 K ⟨hR,hD,i,j,hij,hj,hm,hlo,hhi,he⟩ hK;subst hR;rw[hD];clear hD;simp only[List.map,zc,zl,zj,z_t] at he;simp only[he];refine jlt (jif (λhc=>?_) (λhc=>?_));rotate_left
   ·have hc:=z_g hc;have:i = j:=by omega
    subst this;rw[Ug hj hlo hhi] at h2;exact h2
   have hc:i < j:=by have:=z_f hc;omega
   refine AJ (λvs R' D'=>R' = R1∧D' = [] ++ F∧∃i' j' : Nat,i'≤j'∧j'≤l.length∧j' - i' < m∧(∀k (h:k < l.length),k < i'→l[k] < x)∧(∀k (h:k < l.length),j'≤k→x≤l[k])∧vs = [.slice va l.length vc,I x,I l.length,I i',I j']) (λK3 h3=>?_) ?_
   ·refine jad ?_;refine @jxr _ _ _ _ (.int .u64 ((i:Int) + j)) (λw=>by rw[YK,V5 (by omega) (by omega)]) ?_;refine Yg (by decide) ?_;have e1:((i:Int) + j).fdiv (2 ^ min (1:Int).toNat IntKind.u64.bits) = (((i + j) / 2:Nat):Int):=by
     show ((i:Int) + j).fdiv 2 = _;rw[Int.fdiv_eq_ediv_of_nonneg _ (by decide)];omega
    rw[e1];refine @jxr _ _ _ _ (I (((i + j) / 2:Nat):Int)) (λw=>by rw[Xg,EM ⟨by omega,by omega⟩]) ?_;have hmid:(i + j) / 2 < l.length:=by omega
    refine Bv h (by omega) (by omega) ?_;simp only[Yj];refine jp (Ws _ x) (jif (λg=>?_) (λg=>?_))
    ·have g:=z_f g;refine jad (h3 _ _ _ ⟨rfl,rfl,(i + j) / 2 + 1,j,by omega,hj,by omega,λk hk hlt=>?_,hhi,rfl⟩);by_cases c:k = (i + j) / 2
     ·subst c;exact g
     ·have:=hs' k _ hk hmid (by omega);omega
    ·have g:=z_g g;refine h3 _ _ _ ⟨rfl,rfl,i,(i + j) / 2,by omega,by omega,by omega,hlo,λk hk hle=>?_,rfl⟩;by_cases c:k = (i + j) / 2
     ·subst c;omega
     ·have:=hs' _ k hmid hk (by omega);omega
   rintro e R2 D2 ⟨hR,hD,i',j',a1,a2,a3,a4,a5,he⟩;subst hR;rw[hD];clear hD;simp only[List.map,zc,zl,zj,z_t] at he;simp only[he];exact hK (j' - i') _ _ _ (by omega) ⟨rfl,rfl,i',j',a1,a2,rfl,a4,a5,rfl⟩
  ·simp only[List.map,zc,zl,zj,z_t] at he;simp only[he];exact h1
 simp only[List.map,zc,zl,zj,z_t] at he;simp only[he];have hlb:lbI l x≤l.length:=List.length_filter_le _ _;have hin:∀(hlt:lbI l x < l.length),(l[lbI l x] == x) = decide (x∈l):=by
  intro hlt;by_cases c:x∈l
  ·have hp:=Il hs c;unfold Bi at hp;rw[if_pos c] at hp;have:lbI l x = l.idxOf x:=by omega
   simp only[this];simp[c]
  ·rw[decide_eq_false c,beq_eq_false_iff_ne];intro e;exact c (e▸Yv hlt)
 have hout:¬ lbI l x < l.length→x ∉ l:=λhlt c=>by
  have hp:=Il hs c;unfold Bi at hp;rw[if_pos c] at hp;have:=List.idxOf_lt_length_iff.2 c;omega
 refine AJ (λvs R' D'=>R' = R∧D' = [] ++ F∧∃c u,vs = [I (lbI l x),c,u]∧Fh c u (decide (x∈l))) (λK1 h1=>?_) ?_
 ·refine jlt (Bm (λg=>?_) (λg=>?_))
  ·have hlt:lbI l x < l.length:=by have:=z_f g;omega
   rw[g];refine Bv h (by omega) (by omega) ?_;simp only[Yj];refine jeq ?_;rw[hin hlt];refine BM (λg2=>?_) (λg2=>?_)
   ·refine Bv h (by omega) (by omega) ?_;simp only[Yj];rw[g2];exact jp (X8 _) (jft (h1 _ _ _ ⟨rfl,rfl,_,_,rfl,by rw[g2];exact Aq⟩))
   ·rw[g2];exact h1 _ _ _ ⟨rfl,rfl,_,_,rfl,by rw[g2];exact Aq⟩
  ·have hlt:¬ lbI l x < l.length:=by have:=z_g g;omega
   rw[g];exact h1 _ _ _ ⟨rfl,rfl,_,_,rfl,by rw[decide_eq_false (hout hlt)];exact Av⟩
 rintro e R2 D2 ⟨hR,hD,c,u,he,ho⟩;subst hR;rw[hD];clear hD;simp only[List.map,zc,zl,zj,z_t] at he;simp only[he];rw[ho];exact Bc rfl
end Go.Lf
end
section
namespace Sm
open Go.Lf
theorem UD {had:List Int} {a x:Int}:x∈had→x∈CQ had a:=λh=>by
 unfold CQ;split
 ·exact h
 ·exact ZS _ h
theorem TX {had:List Int} {a:Int}:a = 0∨a∈CQ had a:=by
 unfold CQ;split
 ·rename_i h;rcases h with h | h
  ·exact .inl h
  ·exact .inr h
 ·exact .inr (by simp)
theorem Eh {l:List AZ}:∀{xs acc r:List Int},Ao l xs acc = some r→∀x∈acc,x∈r
 | [],acc,r,h,x,hx=>by cases h;exact hx
 | a :: xs,acc,r,h,x,hx=>by
  rw[CO] at h;cases hn:now l a with
  | none=>rw[hn] at h;cases h
  | some y=>rw[hn] at h;exact Eh (xs:=xs) h x (UD hx)
theorem Ep {l:List AZ}:∀{xs acc r:List Int},Ao l xs acc = some r→∀a∈xs,∃x,now l a = some x∧(x = 0∨x∈r)
 | [],acc,r,h,a,ha=>by cases ha
 | b :: xs,acc,r,h,a,ha=>by
  rw[CO] at h;cases hn:now l b with
  | none=>rw[hn] at h;cases h
  | some y=>
   rw[hn] at h;have h:Ao l xs (CQ acc y) = some r:=h;rcases Yw.1 ha with rfl | ha
   ·refine⟨y,hn,?_⟩;rcases TX (had:=acc) (a:=y) with e | e
    ·exact .inl e
    ·exact .inr (Eh h _ e)
   ·exact Ep (xs:=xs) h a ha
theorem Jz {l:List AZ}:∀{n i:Nat} {out r:List Int},BN l n i out = some r→(∀j (h:j < out.length),j < i→∀t,BW l out[j] = some t→∀a∈t.refs,∃x,now l a = some x∧(x = 0∨x∈r))→
  (∀x∈out,x∈r)∧∀b∈r,∀t,BW l b = some t→∀a∈t.refs,∃x,now l a = some x∧(x = 0∨x∈r)
 | 0,i,out,r,h,_=>by cases h
 | n + 1,i,out,r,h,hj=>by
  by_cases c:i < out.length
  ·cases ht:BW l out[i] with
   | none=>
    unfold BN at h;rw[Yl c] at h;dsimp only at h;rw[ht] at h;cases h
   | some t=>
    rw[Cr c ht] at h;cases hn:Ao l t.refs out with
    | none=>rw[hn] at h;cases h
    | some o=>
     rw[hn,z_o] at h;have hpre:∀{xs acc r:List Int},Ao l xs acc = some r→∃e,r = acc ++ e:=by
      intro xs;induction xs with
      | nil=>intro acc r h;cases h;exact⟨[],by simp⟩
      | cons a xs ih=>
       intro acc r h;rw[CO] at h;cases hn:now l a with
       | none=>rw[hn] at h;cases h
       | some y=>
        rw[hn] at h;obtain⟨e,he⟩:=ih h;unfold CQ at he;split at he
        ·exact⟨e,he⟩
        ·exact⟨[y] ++ e,by rw[he,Ys]⟩
     obtain⟨e,he⟩:=hpre hn;have mono:∀{n i:Nat} {out r:List Int},BN l n i out = some r→∀x∈out,x∈r:=by
      intro n;induction n with
      | zero=>intro i out r h;cases h
      | succ n ih=>
       intro i out r h x hx;by_cases c:i < out.length
       ·cases ht:BW l out[i] with
        | none=>
         unfold BN at h;rw[Yl c] at h;dsimp only at h;rw[ht] at h;cases h
        | some t=>
         rw[Cr c ht] at h;cases hn:Ao l t.refs out with
         | none=>rw[hn] at h;cases h
         | some o=>rw[hn] at h;exact ih h x (Eh hn x hx)
       ·rw[DC (by omega)] at h;cases h;exact hx
     have hm:=mono h;have:=Jz h λj hjl hji t' ht' a ha=>?_
     ·exact⟨λx hx=>this.1 x (Eh hn x hx),this.2⟩
     ·have hjo:j < out.length:=by omega
      have e1:o[j] = out[j]:=by subst he;rw[Zs hjo]
      rw[e1] at ht';by_cases cj:j = i
      ·subst cj;rw[ht] at ht';cases ht';obtain⟨x,h1,h2⟩:=Ep hn a ha;exact⟨x,h1,h2.elim .inl λh=>.inr (hm x h)⟩
      ·exact hj j hjo (by omega) t' ht' a ha
  ·rw[DC (by omega)] at h;cases h;refine⟨λx hx=>hx,λb hb t ht a ha=>?_⟩;obtain⟨j,hj',rfl⟩:=ZH hb;exact hj j hj' (by omega) t ht a ha
theorem HpF.closed {s:B7} {l:List AZ} {met:List Int} (hf:HpF s l met):(∀a∈DJ s,∃x,now l a = some x∧(x = 0∨x∈met))∧∀b∈met,∀t,BW l b = some t→∀a∈t.refs,∃x,now l a = some x∧(x = 0∨x∈met):=by
 have hh:=hf.head;unfold CX at hh;simp only[z_b] at hh;have hr:=hf.re;rw[Dt hh.2] at hr;cases hn:Ao l (DJ s) [] with
 | none=>rw[hn] at hr;cases hr
 | some out=>
  rw[hn,z_o] at hr;obtain⟨h1,h2⟩:=Jz hr λj h hj=>absurd hj (by omega)
  refine⟨λa ha=>?_,h2⟩;obtain⟨x,e1,e2⟩:=Ep hn a ha;exact⟨x,e1,e2.elim .inl λh=>.inr (h1 x h)⟩
end Sm
end
section
namespace Go.Lf
open Go Sm
def nmA (l:List AZ) (AQ:List Int) (a:Int):Int:=if a = 0 then -1 else Bi AQ ((now l a).getD 0)
section st
variable {R:RM} {s:Sm.B7} {wv tv mv thv ov pv:Value} {l:List AZ} {met:List Int}
theorem Vy {hb mb:Nat} {v:Value} {a x:Int} (hv:HpV R s wv tv mv thv ov pv l met hb mb v) (hx:now l a = some x):Ro FS [Pt hb,I a] (I x) R []:=by
 refine HP λF=>?_
 unfold FK;obtain⟨o,h1,h2,h3,h4⟩:=hv;unfold now at hx;refine jeq (jif (λh=>?_) (λh=>?_))
 ·rw[if_pos (by simpa using h)] at hx;cases hx;exact Bc rfl
 have h:a≠0:=by simpa using h
 rw[if_neg h] at hx;refine jnc (jfo (jlr (v:=.map (some mb)) h1 rfl ?_));refine @Tj _ _ _ mb o l a false (Li.fz h2) h3 (λe=>?_) (λt v e hv=>?_)
 ·rw[e] at hx;cases hx
 ·rw[e] at hx;obtain⟨rv,nv,rfl,_,_⟩:=hv;cases hx;exact jfd (v:=I t.moved) rfl (Bc rfl)
set_option maxRecDepth 4000 in
theorem Hv {hb mb b1 b2:Nat} {v lv xv:Value} {AQ xs:List Int} (hv:HpV R s wv tv mv thv ov pv l met hb mb v) (hlv:BC R lv AQ) (hll:AQ.length < 1000000) (hinc:AQ.Pairwise (· < ·)) (hm:∀x,x∈AQ↔x∈met) (hxv:BC R xv xs) (hxl:xs.length < 1000000)
  (hc:∀a∈xs,∃x,now l a = some x∧(x = 0∨x∈met)) (hnz:∀t∈l,t.moved≠0) :
  Fn P BX [xv,Pt b1,Pt b2] R [(b1,C 23 [lv]),(b2,C 86 [Pt hb])]
   (λv R' A=>R' = R∧∃A2,SO (xs.map (nmA l AQ)) v A2∧A = (b1,C 23 [lv]) :: (b2,C 86 [Pt hb]) :: A2):=by
 refine Iw λF=>?_
 unfold F0;refine jc (A:=[]) (FE hxv hxl) ?_;rintro cv R1 A1 _ ⟨hR,so,_⟩;subst hR;obtain⟨ca,cc,hcv⟩:=so.sln;refine AJ (λvs R' D'=>R' = R1∧∃A,SO (xs.map (nmA l AQ)) cv A∧D' = (b1,C 23 [lv]) :: (b2,C 86 [Pt hb]) :: (A ++ F)∧vs = [cv]) (λK1 h1=>?_) ?_
 ·refine CN ⟨ca,cc,hcv⟩ ?_;refine AJ (λvs R' D'=>R' = R1∧∃A,SO (xs.map (nmA l AQ)) cv A∧D' = (b1,C 23 [lv]) :: (b2,C 86 [Pt hb]) :: (A ++ F)∧vs = [cv]) (λK2 h2=>?_) ?_;rotate_left
  ·rintro e R2 D2 ⟨hR,A,so,hD,he⟩;subst hR;rw[hD];clear hD;simp only[List.map,zc,zl,zj,z_t] at he;simp only[he];exact h1 _ _ _ ⟨rfl,A,so,rfl,rfl⟩
  refine Ai [(b1,C 23 [lv]),(b2,C 86 [Pt hb])] (G:=A1 ++ ([] ++ F)) ?_;refine jlp (λm vs R' D'=>R' = R1∧∃(i:Nat) (A:Chs),i≤xs.length∧m = xs.length - i∧SO ((xs.take i).map (nmA l AQ) ++ xs.drop i) cv A∧D' = (b1,C 23 [lv]) :: (b2,C 86 [Pt hb]) :: (A ++ F)∧vs = [Pt b1,Pt b2,cv,cv,I xs.length,I i]) (n:=xs.length) ⟨rfl,0,A1,by omega,rfl,by simpa using so,rfl,rfl⟩ ?_;clear so;rintro m e R2 D2 K ⟨hR,i,A,hi,hmm,so,hD,he⟩ hK;subst hR;rw[hD];clear hD;simp only[List.map,zc,zl,zj,z_t] at he;simp only[he];refine jlt (jif (λhc2=>?_) (λhc2=>?_));rotate_left
  ·have hc2:=z_g hc2;rw[Yz (by omega),Z2 (by omega),ZV] at so;exact h2 _ _ _ ⟨rfl,A,so,rfl,rfl⟩
  have hc2:i < xs.length:=by have:=z_f hc2;omega
  have hmem:=Yv hc2;obtain⟨x,hx,hxm⟩:=hc _ hmem;have hlen:((xs.take i).map (nmA l AQ) ++ xs.drop i).length = xs.length:=by simp;omega
  have hgi:((xs.take i).map (nmA l AQ) ++ xs.drop i)[i]'(by omega) = xs[i]:=by
   rw[Zq (by simp;omega)];simp only[ZF,Z0,aP];congr 1;omega
  have hst:∀y,((xs.take i).map (nmA l AQ) ++ xs.drop i).set i y = (xs.take i).map (nmA l AQ) ++ y :: xs.drop (i + 1):=λy=>by
   rw[Zw _ _ (by simp;omega),Yu hc2];simp only[ZF,Z0];rw[show i - min i xs.length = 0 from by omega];rfl
  have hnext:∀(y:Int) (A3:Chs),y = nmA l AQ xs[i]→SO ((xs.take i).map (nmA l AQ) ++ y :: xs.drop (i + 1)) cv A3→SO ((xs.take (i + 1)).map (nmA l AQ) ++ xs.drop (i + 1)) cv A3:=λy A3 hy so=>by
   rw[Yq hc2,Zg,Ys];subst hy;exact so
  refine AJ (λvs R' D'=>R' = R2∧∃A,SO ((xs.take (i + 1)).map (nmA l AQ) ++ xs.drop (i + 1)) cv A∧D' = (b1,C 23 [lv]) :: (b2,C 86 [Pt hb]) :: (A ++ F)∧vs = [Pt b1,Pt b2,cv,cv,I xs.length,I i]) (λK3 h3=>?_) ?_;rotate_left
  ·rintro e R3 D3 ⟨hR,A3,so3,hD,he⟩;subst hR;rw[hD];clear hD;simp only[List.map,zc,zl,zj,z_t] at he;simp only[he];exact jad (hK (xs.length - (i + 1)) _ _ _ (by omega) ⟨rfl,i + 1,A3,by omega,rfl,so3,rfl,rfl⟩)
  refine AJ (λvs R' D'=>R' = R2∧∃A,SO ((xs.take (i + 1)).map (nmA l AQ) ++ xs.drop (i + 1)) cv A∧D' = (b1,C 23 [lv]) :: (b2,C 86 [Pt hb]) :: (A ++ F)∧vs = [Pt b1,Pt b2,cv,cv,I xs.length,I i]) (λK4 h4=>?_) ?_;rotate_left
  ·rintro e R3 D3 ⟨hR,A3,so3,hD,he⟩;subst hR;rw[hD];clear hD;simp only[List.map,zc,zl,zj,z_t] at he;simp only[he];exact h3 _ _ _ ⟨rfl,A3,so3,rfl,rfl⟩
  refine XF so (i:=i) (by omega) ?_;rw[hgi];refine jl (v:=lv) rfl (jl (v:=Pt hb) rfl ?_);refine jrp (Vy hv hx) (Ae (jl (v:=lv) rfl jev) (jrp (LQ x hlv hll hinc) (jex rfl (jex rfl ?_))));refine Ai A (G:=(b1,C 23 [lv]) :: (b2,C 86 [Pt hb]) :: F) ?_;refine WJ so (i:=i) (by omega) λA2 so2=>?_
  rw[hst] at so2;refine jeq (jif (λg=>?_) (λg=>?_))
  ·have g:xs[i] = 0:=by simpa using g
   have hl2:((xs.take i).map (nmA l AQ) ++ (lbI AQ x:Int) :: xs.drop (i + 1)).length = xs.length:=by simp;omega
   refine WJ so2 (i:=i) (by omega) λA3 so3=>?_
   rw[Zw _ _ (by simp;omega)] at so3;simp only[ZF,Z0] at so3;rw[show i - min i xs.length = 0 from by omega] at so3;refine Ai [(b1,C 23 [lv]),(b2,C 86 [Pt hb])] (G:=A3 ++ F) ?_;exact h4 _ _ _ ⟨rfl,A3,hnext (-1) A3 (by unfold nmA;rw[if_pos g]) so3,rfl,rfl⟩
  ·have g:xs[i]≠0:=by simpa using g
   have hx0:x≠0:=λe=>by
    subst e;unfold now at hx;rw[if_neg g] at hx;obtain⟨t,ht,e⟩:=aS.1 hx;exact hnz t (Bw ht).1 e
   have hxin:x∈AQ:=(hm x).2 (hxm.resolve_left hx0);refine Ai [(b1,C 23 [lv]),(b2,C 86 [Pt hb])] (G:=A2 ++ F) ?_;exact h4 _ _ _ ⟨rfl,A2,hnext _ A2 (by unfold nmA;rw[if_neg g,hx];exact Il hinc hxin) so2,rfl,rfl⟩
 rintro e R2 D2 ⟨hR,A,so,hD,he⟩;subst hR;rw[hD];clear hD;simp only[List.map,zc,zl,zj,z_t] at he;simp only[he];exact BA (A:=(b1,C 23 [lv]) :: (b2,C 86 [Pt hb]) :: A) (RM.le.refl _) ⟨rfl,A,so,rfl⟩
end st
end Go.Lf
end
section
namespace Sm
structure PG where
 nodes:List (List Int × List Int)
 AD:List (List Int)
 pinned:List Int
end Sm
namespace Go.Lf
open Go Sm
section rules
variable {R:RM} {D:Chs}
theorem jci {ι:Type} {lv:List Nat} {B:(List Value→M)→M} {K:Env→M} (V:ι→List Value) (E:ι→Chs) (p:RM→ι→Prop)
  (H1:∀K' : List Value→M,(∀R' i,p R' i→J R' (E i) (K' (V i)))→J R D (B K')) (H2:∀e R' i,p R' i→lv.map e = V i→J R' (E i) (K e)):J R D (CUT lv B K):=
 AJ (λvs R' D'=>∃i,p R' i∧D' = E i∧vs = V i) (λK' h=>H1 K' λ_ i hp=>h _ _ _ ⟨i,hp,rfl,rfl⟩) λe R' D' ⟨i,hp,h2,h3⟩=>by
  rw[h2];exact H2 e R' i hp h3
theorem jli {ι:Type} {lv:List Nat} {B:(List Value→M)→Env→M} {vs:List Value} (n:ι→Nat) (V:ι→List Value) (E:ι→Chs) (p:RM→ι→Prop) (i:ι) (h0:p R i) (hv:vs = V i) (hD:D = E i)
  (H:∀K e R' i,p R' i→lv.map e = V i→(∀R'' i',n i' < n i→p R'' i'→J R'' (E i') (K (V i')))→J R' (E i) (B K e)):J R D (LP lv B vs):=by
 subst hv;refine jlp (λm vs R' D'=>∃i,p R' i∧D' = E i∧vs = V i∧m = n i) (n:=n i) ⟨i,h0,hD,rfl,rfl⟩ ?_;rintro m e R1 D1 K ⟨i,hp,h2,h3,h4⟩ hK;rw[h2];exact H K e R1 i hp h3 λR'' i' hn hp'=>hK (n i') _ _ _ (by omega) ⟨i',hp',rfl,rfl,rfl⟩
end rules
def NdC (R:RM) (row:List Value) (n:List Int × List Int):Prop:=∃rv nv,row = [rv,nv]∧BC R rv n.1∧BC R nv n.2
theorem NdC.le {R R' : RM} {row:List Value} {n:List Int × List Int} (h:R.le R') (H:NdC R row n):NdC R' row n:=by
 obtain⟨a,b,h1,h2,h3⟩:=H;exact⟨a,b,h1,h2.le h,h3.le h⟩
theorem NdC.len {R:RM} {row:List Value} {n:List Int × List Int} (H:NdC R row n):row.length = 2:=by obtain⟨a,b,rfl,_⟩:=H;rfl
def RwC (R:RM) (row:List Value) (l:List Int):Prop:=∃v,row = [v]∧BC R v l
theorem RwC.le {R R' : RM} {row:List Value} {l:List Int} (h:R.le R') (H:RwC R row l):RwC R' row l:=by
 obtain⟨a,h1,h2⟩:=H;exact⟨a,h1,h2.le h⟩
theorem RwC.len {R:RM} {row:List Value} {l:List Int} (H:RwC R row l):row.length = 1:=by obtain⟨a,rfl,_⟩:=H;rfl
def GrF (R:RM) (v:Value) (g:PG):Prop:=∃r1 r2 nv rv pv,v = .agg #[nv,rv,pv]∧Rw (NdC R) r1 g.nodes∧Fz R nv 2 r1.length r1.flatten∧Rw (RwC R) r2 g.AD∧Fz R rv 1 r2.length r2.flatten∧BC R pv g.pinned
theorem GrF.le {R R' : RM} {v:Value} {g:PG} (h:R.le R') (H:GrF R v g):GrF R' v g:=by
 obtain⟨r1,r2,nv,rv,pv,h1,h2,h3,h4,h5,h6⟩:=H;exact⟨r1,r2,nv,rv,pv,h1,h2.mono λ_ _=>NdC.le h,h3.le h,h4.mono λ_ _=>RwC.le h,h5.le h,h6.le h⟩
def ndP (l:List AZ) (AQ:List Int) (a:Int):List Int × List Int:=match BW l a with
 | some t=>(t.refs.map (nmA l AQ),t.nums)
 | none=>([],[])
def WX (s:Sm.B7) (l:List AZ) (AQ:List Int):PG:=⟨AQ.map (ndP l AQ),s.AA.map λt=>t.AD.map (nmA l AQ),s.AO.map (nmA l AQ)⟩
def Tw (r:Option (List AZ × List Int)) (s:Sm.B7) (v:Value) (R:RM):Prop:=match r with
 | none=>v = .tuple #[.agg #[.slice none 0 0,.slice none 0 0,.slice none 0 0],.bool false]
 | some (l,met)=>∃gv,GrF R gv (WX s l (Ak met))∧v = .tuple #[gv,.bool true]
section st
variable {R:RM} {s:Sm.B7} {wv tv mv thv ov pv:Value} {l:List AZ} {met:List Int}
theorem HpV.le {R R' : RM} {hb mb:Nat} {v:Value} (h:R.le R') (H:HpV R s wv tv mv thv ov pv l met hb mb v):HpV R' s wv tv mv thv ov pv l met hb mb v:=by
 obtain⟨o,h1,h2,h3,h4⟩:=H;exact⟨o,h _ _ h1,h _ _ h2,h3.le h,h4.le h⟩
theorem Uz {D:Chs} {k:Value→M} {hb mb:Nat} {v:Value} {a:Int} {t:AZ} (hv:HpV R s wv tv mv thv ov pv l met hb mb v) (ht:BW l a = some t) (H:∀ra rc na nc,BC R (.slice ra t.refs.length rc) t.refs→BC R (.slice na t.nums.length nc) t.nums→J R D (k (.agg (eTh t (.slice ra t.refs.length rc) (.slice na t.nums.length nc)).toArray))):J R D (X P (Instr.lookup 73 (.map (some mb)) (I a) false) k):=by
 obtain⟨o,h1,h2,h3,h4⟩:=hv;refine @Tj _ _ _ mb o l a false (Li.fz h2) h3 (λe=>?_) (λt' v e hv=>?_)
 ·rw[ht] at e;cases e
 ·rw[ht] at e;cases e;obtain⟨rv,nv,rfl,h5,h6⟩:=hv;obtain⟨ra,rc,rfl⟩:=h5.sl;obtain⟨na,nc,rfl⟩:=h6.sl;exact H _ _ _ _ h5 h6
theorem Qt {met:List Int} (h:met.Nodup):(Ak met).Pairwise (· < ·):=(De h).1
set_option maxHeartbeats 2000000 in
set_option maxRecDepth 8000 in
theorem M5 (h:SF R s wv tv mv thv ov pv):Fn P GJ [.agg (eSt s wv tv mv thv ov pv).toArray] R [] (λv R' A=>A = []∧Tw (C0 s) s v R'):=by
 refine LV λF=>?_
 unfold Fx;refine ja λsb=>Bh (b:=sb) λR0 hR0 hsb=>ja λg0=>HL hsb (by exact z_n 13) rfl ?_
 have h:=h.le hR0;refine jc (A:=[]) (MF h) ?_;rintro x R1 _ hR1 ⟨rfl,hq⟩;have h:=h.le hR1;have hsb:=hR1 _ _ hsb;have hR1:=hR0.trans hR1;clear hR0;cases hh:C0 s with
 | none=>
  rw[hh] at hq;obtain rfl:x = _:=hq;refine ja λhk=>js (cs':=[.pointer none]) rfl rfl (Yp rfl) rfl (jl (v:=.pointer none) rfl (jxr (λw=>WQ w _ _) (DO ?_)))
  refine jbd (cs:=[.slice none 0 0,.slice none 0 0,.slice none 0 0]) rfl rfl (js (cs':=[.slice none 0 0,.slice none 0 0,.slice none 0 0]) rfl rfl (Yp rfl) rfl (jla (l:=[.slice none 0 0,.slice none 0 0,.slice none 0 0]) (Yp rfl) rfl ?_));exact BA (A:=[]) hR1 ⟨rfl,rfl⟩
 | some q=>
  obtain⟨l,met⟩:=q;rw[hh] at hq;obtain⟨hb,mb,v,rfl,hv⟩:=hq;have hf:=Df hh;have hml:=hf.M.len;have hll:=(I7 h hf.ths).1;obtain⟨hc1,hc2⟩:=hf.closed;have hnz:=hf.S.nz;have hinc:=Qt hf.M.nd;have hmem:∀x,x∈Ak met↔x∈met:=λx=>(De hf.M.nd).2 x
  have hsl:(Ak met).length = met.length:=by have:=FQ met [];simpa [Ak] using this
  refine ja λhk=>js (cs':=[Pt hb]) rfl rfl (Yp rfl) rfl (jl (v:=Pt hb) rfl (jxr (λw=>WR w _ _ hb) (Cn (jl (v:=Pt hb) rfl ?_))))
  refine jc (A:=[]) (Pq hv hf.M.nd (by omega)) ?_;rintro sv R2 A2 _ ⟨hR2,so⟩;subst hR2;refine E7 so λR3 hR3 hi=>?_
  have h:=h.le hR3;have hv:=hv.le hR3;have hsb:=hR3 _ _ hsb;have hR3:=hR1.trans hR3;clear hR1;obtain⟨sa,sc,rfl⟩:=hi.sl;refine ja λlb=>js (cs':=[.slice sa (Ak met).length sc]) rfl rfl (Yp rfl) rfl (ja λgb=>?_)
  generalize hlv:Value.slice sa (Ak met).length sc = lv at hi ⊢;have hpp:∀(R' : RM),R3.le R'→∃o,R' hb = some (C 99 (eHp s wv tv mv thv ov pv mb v))∧R' mb = some o∧MpT R' o l∧BC R' v met:=λR' hR'=>hv.le hR'
  refine jci (λ_:Value × Chs × List (List Value)=>[Pt sb,Pt g0,.func (.func BX) #[] #[Pt lb,Pt hk],Pt gb])
   (λi=>(gb,C 42 [i.1,.slice none 0 0,.slice none 0 0]) :: (lb,C 23 [lv]) :: (hk,C 86 [Pt hb]) :: (i.2.1 ++ ((g0,C 42 (cl z42)) :: ([] ++ F))))
   (λR' i=>R3.le R'∧Rw (NdC R') i.2.2 ((Ak met).map (ndP l (Ak met)))∧SW 94 2 i.2.2 i.1 i.2.1) (λK1 h1=>?_) ?_
  ·refine jl (v:=lv) rfl (CN ⟨sa,sc,hlv.symm⟩ ?_);refine jci (λ_:Value × Chs × List (List Value)=>[Pt sb,Pt g0,.func (.func BX) #[] #[Pt lb,Pt hk],Pt gb])
    (λi=>(gb,C 42 [i.1,.slice none 0 0,.slice none 0 0]) :: (lb,C 23 [lv]) :: (hk,C 86 [Pt hb]) :: (i.2.1 ++ ((g0,C 42 (cl z42)) :: ([] ++ F))))
    (λR' i=>R3.le R'∧Rw (NdC R') i.2.2 ((Ak met).map (ndP l (Ak met)))∧SW 94 2 i.2.2 i.1 i.2.1) (λK2 h2=>?_) ?_
   rotate_left
   ·rintro e R' i hp he;simp only[List.map,zc,zl,zj,z_t] at he;simp only[he];exact h1 R' i hp
   refine jli (λi:Nat × Value × Chs × List (List Value)=>(Ak met).length - i.1)
    (λi=>[Pt sb,Pt g0,Pt hk,.func (.func BX) #[] #[Pt lb,Pt hk],Pt gb,lv,I (Ak met).length,I i.1])
    (λi=>(gb,C 42 [i.2.1,.slice none 0 0,.slice none 0 0]) :: (lb,C 23 [lv]) :: (hk,C 86 [Pt hb]) :: (i.2.2.1 ++ ((g0,C 42 (cl z42)) :: ([] ++ F))))
    (λR' i=>R3.le R'∧i.1≤(Ak met).length∧Rw (NdC R') i.2.2.2 (((Ak met).take i.1).map (ndP l (Ak met)))∧SW 94 2 i.2.2.2 i.2.1 i.2.2.1)
    (0,.slice none 0 0,[],[]) ⟨RM.le.refl _,by simp,Rw.nil,.inl ⟨rfl,rfl,rfl⟩⟩ rfl rfl ?_
   rintro K e R4 ⟨k,nv,A1,rows⟩ ⟨hR4,hkl,hrw,so⟩ he hK;dsimp only at hkl hrw so he hK ⊢;simp only[List.map,zc,zl,zj,z_t] at he;simp only[he];have hiL:=hi.le hR4;have hv4:=hv.le hR4;obtain⟨o,g1,-,-,-⟩:=hpp R4 hR4;refine jlt (jif (λc=>?_) (λc=>?_));rotate_left
   ·have c:=z_g c;rw[Yz (by omega)] at hrw;exact h2 R4 (nv,A1,rows) ⟨hR4,hrw,so⟩
   have c:k < (Ak met).length:=by have:=z_f c;omega
   refine jci (λ_:Value × Chs × List (List Value)=>[Pt sb,Pt g0,Pt hk,.func (.func BX) #[] #[Pt lb,Pt hk],Pt gb,lv,I (Ak met).length,I k])
    (λi=>(gb,C 42 [i.1,.slice none 0 0,.slice none 0 0]) :: (lb,C 23 [lv]) :: (hk,C 86 [Pt hb]) :: (i.2.1 ++ ((g0,C 42 (cl z42)) :: ([] ++ F))))
    (λR' i=>R3.le R'∧Rw (NdC R') i.2.2 (((Ak met).take (k + 1)).map (ndP l (Ak met)))∧SW 94 2 i.2.2 i.1 i.2.1) (λK7 h7=>?_) ?_
   rotate_left
   ·rintro e R' i ⟨p1,p2,p3⟩ he;simp only[List.map,zc,zl,zj,z_t] at he;simp only[he];exact jad (hK R' (k + 1,i) (by dsimp only;omega) ⟨p1,c,p2,p3⟩)
   refine jci (λ_:Value × Chs × List (List Value)=>[Pt sb,Pt g0,Pt hk,.func (.func BX) #[] #[Pt lb,Pt hk],Pt gb,lv,I (Ak met).length,I k])
    (λi=>(gb,C 42 [i.1,.slice none 0 0,.slice none 0 0]) :: (lb,C 23 [lv]) :: (hk,C 86 [Pt hb]) :: (i.2.1 ++ ((g0,C 42 (cl z42)) :: ([] ++ F))))
    (λR' i=>R3.le R'∧Rw (NdC R') i.2.2 (((Ak met).take (k + 1)).map (ndP l (Ak met)))∧SW 94 2 i.2.2 i.1 i.2.1) (λK9 h9=>?_) ?_
   rotate_left
   ·rintro e R' i hp he;simp only[List.map,zc,zl,zj,z_t] at he;simp only[he];exact h7 R' i hp
   clear h7 hK h2 h1;have ham:(Ak met)[k]∈met:=(hmem _).1 (Yv c);obtain⟨t,ht⟩:=hf.M.th _ ham;have htb:=(I7 h hf.ths).2 t (Bw ht).1;have fin:∀(xv cv:Value) (A6 A7:Chs),SO (t.refs.map (nmA l (Ak met))) xv A6→SO t.nums cv A7→
     J R4 ((gb,C 42 [nv,.slice none 0 0,.slice none 0 0]) :: (lb,C 23 [lv]) :: (hk,C 86 [Pt hb]) :: (A7 ++ (A6 ++ (A1 ++ ((g0,C 42 (cl z42)) :: ([] ++ F))))))
      (BD (cl z94) [(0,1,xv),(1,1,cv)] λx75=>AND (L1 (Pt gb) λx=>EV x nv)<|BS 94 1 (ZR 1 z94) [(0,2,x75)] λx77=>AND (L1 (Pt gb) λx=>EV x nv)<|AP 94 2 48 (cl z94) nv x77 λx79=>FO 0 (Pt gb) λx80=>ST 1 x80 x79<|K9 [Pt sb,Pt g0,Pt hk,.func (.func BX) #[] #[Pt lb,Pt hk],Pt gb,lv,I (Ak met).length,I k]):=by
    intro xv cv A6 A7 so6 so7;refine Ai A7 (G:=(gb,C 42 [nv,.slice none 0 0,.slice none 0 0]) :: (lb,C 23 [lv]) :: (hk,C 86 [Pt hb]) :: (A6 ++ (A1 ++ ((g0,C 42 (cl z42)) :: ([] ++ F))))) (E7 so7 λR5 hR5 hi7=>Ai A6 (G:=(gb,C 42 [nv,.slice none 0 0,.slice none 0 0]) :: (lb,C 23 [lv]) :: (hk,C 86 [Pt hb]) :: (A1 ++ ((g0,C 42 (cl z42)) :: ([] ++ F)))) (E7 so6 λR6 hR6 hi6=>?_));obtain⟨xa,xc,rfl⟩:=hi6.sl;obtain⟨ca,cc,rfl⟩:=hi7.sl;refine jbd (cs:=[.slice xa (t.refs.map (nmA l (Ak met))).length xc,.slice ca t.nums.length cc]) rfl rfl (Ae (jl (v:=nv) rfl jev) (jbs (cs:=[.slice xa (t.refs.map (nmA l (Ak met))).length xc,.slice ca t.nums.length cc]) rfl rfl λbb=>Ae (jl (v:=nv) rfl jev) ?_));have hrl:=hrw.1;rw[ZF,Z0] at hrl;refine Sv [[.slice xa (t.refs.map (nmA l (Ak met))).length xc,.slice ca t.nums.length cc]] so rfl (hrw.all λ_ _=>NdC.len) (by intro r hr;rw[Z3.1 hr];rfl) rfl rfl rfl (by decide) (by simp only[Z8,Zj];omega) λv' A' so'=>?_
    obtain⟨va,vc,hv'⟩:=so'.sl;subst hv';refine jfo (js (cs':=[.slice va (rows ++ [[Value.slice xa (t.refs.map (nmA l (Ak met))).length xc,.slice ca t.nums.length cc]]).length vc,.slice none 0 0,.slice none 0 0]) rfl rfl (Yp rfl) rfl ?_);refine Ai [(gb,C 42 [.slice va (rows ++ [[Value.slice xa (t.refs.map (nmA l (Ak met))).length xc,.slice ca t.nums.length cc]]).length vc,.slice none 0 0,.slice none 0 0]),(lb,C 23 [lv]),(hk,C 86 [Pt hb])] (G:=A' ++ ((g0,C 42 (cl z42)) :: ([] ++ F))) ?_;refine h9 R6 (_,A',rows ++ [[Value.slice xa (t.refs.map (nmA l (Ak met))).length xc,.slice ca t.nums.length cc]]) ⟨hR4.trans (hR5.trans hR6),?_,so'⟩;rw[Yq c,Zg];refine (hrw.mono λ_ _=>NdC.le (hR5.trans hR6)).app (Rw.one ⟨_,_,rfl,?_,?_⟩)
    ·unfold ndP;rw[ht];exact hi6
    ·unfold ndP;rw[ht];exact hi7.le hR6
   have hcr:=hc2 _ ham t ht;refine Bv hiL (by omega) (by omega) ?_;simp only[Yj];refine jfo (jl (v:=nv) rfl (jl (v:=Pt hb) rfl (jnc (jfo (jlr (v:=.map (some mb)) g1 rfl (jl (v:=Pt hb) rfl (jnc (jfo (jlr (v:=.map (some mb)) g1 rfl ?_)))))))));refine E6 ?_ (DT ?_)
   ·refine Uz hv4 ht λra rc na nc hr hn=>jfd (v:=.slice ra t.refs.length rc) rfl (Ae (jl (v:=nv) rfl jev) (Ae (jl (v:=Pt hb) rfl jev) (Ae (jlr (v:=.map (some mb)) g1 rfl jev) (E6 ?_ (DT ?_)))))
    ·refine QY (by kernel_rfl) ?_;refine jc (A:=[(lb,C 23 [lv]),(hk,C 86 [Pt hb])]) (Hv hv4 hiL (by omega) hinc hmem hr (by omega) hcr hnz) ?_;rintro xv R5 A5 _ ⟨hR5,A6,so6,hA⟩;subst hR5 hA;refine Ae (jl (v:=nv) rfl jev) (Ae (jl (v:=Pt hb) rfl jev) (Ae (jlr (v:=.map (some mb)) g1 rfl jev) ?_));refine Uz hv4 ht λra rc na nc hr hn=>jfd (v:=.slice na t.nums.length nc) rfl (Ae (jl (v:=nv) rfl jev) ?_)
     refine jc (A:=[]) (FE hn (by omega)) ?_;rintro cv R7 A7 _ ⟨hR7,so7,_⟩;subst hR7;refine Ai [(gb,C 42 [nv,.slice none 0 0,.slice none 0 0]),(lb,C 23 [lv]),(hk,C 86 [Pt hb])] (G:=A7 ++ (A6 ++ (A1 ++ ((g0,C 42 (cl z42)) :: ([] ++ F))))) ?_;exact fin xv cv A6 A7 so6 so7
    ·refine Uz hv4 ht λra2 rc2 na2 nc2 hr2 hn2=>jfd (v:=.slice na2 t.nums.length nc2) rfl (Ae (jl (v:=nv) rfl jev) ?_)
     refine QY (by kernel_rfl) ?_;refine jc (A:=[(lb,C 23 [lv]),(hk,C 86 [Pt hb])]) (Hv hv4 hiL (by omega) hinc hmem hr (by omega) hcr hnz) ?_;rintro xv R5 A5 _ ⟨hR5,A6,so6,hA⟩;subst hR5 hA;refine Ae (jl (v:=nv) rfl jev) ?_;refine jc (A:=[]) (FE hn2 (by omega)) ?_;rintro cv R7 A7 _ ⟨hR7,so7,_⟩;subst hR7;refine Ai [(gb,C 42 [nv,.slice none 0 0,.slice none 0 0]),(lb,C 23 [lv]),(hk,C 86 [Pt hb])] (G:=A7 ++ (A6 ++ (A1 ++ ((g0,C 42 (cl z42)) :: ([] ++ F))))) ?_;exact fin xv cv A6 A7 so6 so7
   ·refine Uz hv4 ht λra rc na nc hr hn=>jfd (v:=.slice na t.nums.length nc) rfl (Ae (jl (v:=nv) rfl jev) (Ae (jl (v:=Pt hb) rfl jev) (Ae (jlr (v:=.map (some mb)) g1 rfl jev) ?_)))
    refine Uz hv4 ht λra2 rc2 na2 nc2 hr2 hn2=>jfd (v:=.slice ra2 t.refs.length rc2) rfl (Ae (jl (v:=nv) rfl jev) ?_)
    refine QY (by kernel_rfl) ?_;refine jc (A:=[(lb,C 23 [lv]),(hk,C 86 [Pt hb])]) (Hv hv4 hiL (by omega) hinc hmem hr2 (by omega) hcr hnz) ?_;rintro xv R5 A5 _ ⟨hR5,A6,so6,hA⟩;subst hR5 hA;refine Ae (jl (v:=nv) rfl jev) ?_;refine jc (A:=[]) (FE hn (by omega)) ?_;rintro cv R7 A7 _ ⟨hR7,so7,_⟩;subst hR7;refine Ai [(gb,C 42 [nv,.slice none 0 0,.slice none 0 0]),(lb,C 23 [lv]),(hk,C 86 [Pt hb])] (G:=A7 ++ (A6 ++ (A1 ++ ((g0,C 42 (cl z42)) :: ([] ++ F))))) ?_;exact fin xv cv A6 A7 so6 so7
  rintro e R4 ⟨nv,A1,rows1⟩ ⟨hR4,hrw1,so1⟩ he;dsimp only at hrw1 so1 ⊢;simp only[List.map,zc,zl,zj,z_t] at he;simp only[he];obtain⟨na,nc,hnv⟩:=so1.sl;refine Ai A1 (G:=(gb,C 42 [nv,.slice none 0 0,.slice none 0 0]) :: (lb,C 23 [lv]) :: (hk,C 86 [Pt hb]) :: (g0,C 42 (cl z42)) :: ([] ++ F)) ?_;refine jfw so1 (hrw1.all λ_ _=>NdC.len) λR5 hR5 hfz=>?_
  have hrw1:=hrw1.mono λ_ _=>NdC.le hR5
  have hR5:=hR4.trans hR5;clear hR4 so1;refine jci (λ_:Value × Chs × List (List Value)=>[Pt sb,Pt g0,.func (.func BX) #[] #[Pt lb,Pt hk],Pt gb])
   (λi=>(gb,C 42 [nv,i.1,.slice none 0 0]) :: (lb,C 23 [lv]) :: (hk,C 86 [Pt hb]) :: (i.2.1 ++ ((g0,C 42 (cl z42)) :: ([] ++ F))))
   (λR' i=>R5.le R'∧Rw (RwC R') i.2.2 (s.AA.map λt=>t.AD.map (nmA l (Ak met)))∧SW 23 1 i.2.2 i.1 i.2.1) (λK1 h1=>?_) ?_
  ·have h5:=h.le hR5;obtain⟨ta,tc,htv⟩:=h5.c.th.sl;refine jfo (jlr (v:=thv) (hR5 _ _ hsb) rfl (CN ⟨ta,tc,htv⟩ ?_));refine jci (λ_:Value × Chs × List (List Value)=>[Pt sb,Pt g0,.func (.func BX) #[] #[Pt lb,Pt hk],Pt gb])
    (λi=>(gb,C 42 [nv,i.1,.slice none 0 0]) :: (lb,C 23 [lv]) :: (hk,C 86 [Pt hb]) :: (i.2.1 ++ ((g0,C 42 (cl z42)) :: ([] ++ F))))
    (λR' i=>R5.le R'∧Rw (RwC R') i.2.2 (s.AA.map λt=>t.AD.map (nmA l (Ak met)))∧SW 23 1 i.2.2 i.1 i.2.1) (λK2 h2=>?_) ?_
   rotate_left
   ·rintro e R' i hp he;simp only[List.map,zc,zl,zj,z_t] at he;simp only[he];exact h1 R' i hp
   refine jli (λi:Nat × Value × Chs × List (List Value)=>s.AA.length - i.1)
    (λi=>[Pt sb,Pt g0,.func (.func BX) #[] #[Pt lb,Pt hk],Pt gb,thv,I s.AA.length,I i.1])
    (λi=>(gb,C 42 [nv,i.2.1,.slice none 0 0]) :: (lb,C 23 [lv]) :: (hk,C 86 [Pt hb]) :: (i.2.2.1 ++ ((g0,C 42 (cl z42)) :: ([] ++ F))))
    (λR' i=>R5.le R'∧i.1≤s.AA.length∧Rw (RwC R') i.2.2.2 ((s.AA.take i.1).map λt=>t.AD.map (nmA l (Ak met)))∧SW 23 1 i.2.2.2 i.2.1 i.2.2.1)
    (0,.slice none 0 0,[],[]) ⟨RM.le.refl _,by simp,Rw.nil,.inl ⟨rfl,rfl,rfl⟩⟩ rfl rfl ?_
   rintro K e R6 ⟨k,rv,A2,rows⟩ ⟨hR6,hkl,hrw,so⟩ he hK;dsimp only at hkl hrw so he hK ⊢;simp only[List.map,zc,zl,zj,z_t] at he;simp only[he];have hR36:=hR5.trans hR6;have h6:=h.le hR36;refine jlt (jif (λc=>?_) (λc=>?_));rotate_left
   ·have c:=z_g c;rw[Yz (by omega)] at hrw;exact h2 R6 (rv,A2,rows) ⟨hR6,hrw,so⟩
   have c:k < s.AA.length:=by have:=z_f c;omega
   have htl:=h.b.rl _ (Yv c);have hn1:=h.b.n1;refine jtr h6.c.th c λb o ty cs rtv hrt hb2 ho hrow=>HL hb2 ho hrow (ja λjb=>?_)
   obtain⟨ra,rc,rfl⟩:=hrt.sl;refine js (cs':=[.slice ra (s.AA[k]).AD.length rc,I (s.AA[k]).next,.bool (s.AA[k]).busy,I (s.AA[k]).Au]) rfl rfl (Yp rfl) rfl ?_;refine jfo (jl (v:=rv) rfl (jfo (jl (v:=.slice ra (s.AA[k]).AD.length rc) rfl ?_)));refine QY (by kernel_rfl) ?_;refine jc (A:=[(lb,C 23 [lv]),(hk,C 86 [Pt hb])]) (Hv (hv.le hR36) (hi.le hR36) (by omega) hinc hmem hrt (by omega) (λa ha=>hc1 a (ZS _ (List.mem_flatMap.2 ⟨_,Yv c,ha⟩))) hnz) ?_;rintro xv R7 A5 _ ⟨hR7,A6,so6,hA⟩;subst hR7 hA;refine Ai [(jb,C 83 [.slice ra (s.AA[k]).AD.length rc,I (s.AA[k]).next,.bool (s.AA[k]).busy,I (s.AA[k]).Au]),(gb,C 42 [nv,rv,.slice none 0 0]),(lb,C 23 [lv]),(hk,C 86 [Pt hb])] (G:=A6 ++ (A2 ++ ((g0,C 42 (cl z42)) :: ([] ++ F)))) (C4 (BH (D':=(gb,C 42 [nv,rv,.slice none 0 0]) :: (lb,C 23 [lv]) :: (hk,C 86 [Pt hb]) :: (A6 ++ (A2 ++ ((g0,C 42 (cl z42)) :: ([] ++ F))))) (ZP _) ?_));refine Ai A6 (G:=(gb,C 42 [nv,rv,.slice none 0 0]) :: (lb,C 23 [lv]) :: (hk,C 86 [Pt hb]) :: (A2 ++ ((g0,C 42 (cl z42)) :: ([] ++ F)))) ?_;refine E7 so6 λR8 hR8 hi8=>?_
   obtain⟨xa,xc,rfl⟩:=hi8.sl;refine Ae (jl (v:=rv) rfl jev) (jbs (cs:=[.slice xa ((s.AA[k]).AD.map (nmA l (Ak met))).length xc]) rfl rfl λbb=>Ae (jl (v:=rv) rfl jev) ?_);have hrl:=hrw.1;rw[ZF,Z0] at hrl;refine Sv [[.slice xa ((s.AA[k]).AD.map (nmA l (Ak met))).length xc]] so rfl (hrw.all λ_ _=>RwC.len) (by intro r hr;rw[Z3.1 hr];rfl) rfl rfl rfl (by decide) (by simp only[Z8,Zj];omega) λv' A' so'=>?_
   obtain⟨va,vc,hv'⟩:=so'.sl;subst hv';refine jfo (js (cs':=[nv,.slice va (rows ++ [[Value.slice xa ((s.AA[k]).AD.map (nmA l (Ak met))).length xc]]).length vc,.slice none 0 0]) rfl rfl (Yp rfl) rfl (jad ?_));refine Ai [(gb,C 42 [nv,.slice va (rows ++ [[Value.slice xa ((s.AA[k]).AD.map (nmA l (Ak met))).length xc]]).length vc,.slice none 0 0]),(lb,C 23 [lv]),(hk,C 86 [Pt hb])] (G:=A' ++ ((g0,C 42 (cl z42)) :: ([] ++ F))) ?_;refine hK R8 (k + 1,_,A',rows ++ [[Value.slice xa ((s.AA[k]).AD.map (nmA l (Ak met))).length xc]]) (by dsimp only;omega) ⟨hR6.trans hR8,c,?_,so'⟩;rw[Yq c,Zg];exact (hrw.mono λ_ _=>RwC.le hR8).app (Rw.one ⟨_,rfl,hi8⟩)
  rintro e R6 ⟨rv,A2,rows2⟩ ⟨hR6,hrw2,so2⟩ he;dsimp only at hrw2 so2 ⊢;simp only[List.map,zc,zl,zj,z_t] at he;simp only[he];obtain⟨ra,rc,hrv⟩:=so2.sl;refine Ai A2 (G:=(gb,C 42 [nv,rv,.slice none 0 0]) :: (lb,C 23 [lv]) :: (hk,C 86 [Pt hb]) :: (g0,C 42 (cl z42)) :: ([] ++ F)) ?_;refine jfw so2 (hrw2.all λ_ _=>RwC.len) λR7 hR7 hfz2=>?_
  have hrw2:=hrw2.mono λ_ _=>RwC.le hR7
  have hR7:=hR6.trans hR7;have hR37:=hR5.trans hR7;have h7:=h.le hR37;have hpl:=h.b.pl;obtain⟨pa,pc,rfl⟩:=h7.c.p.sl;refine jfo (jlr (v:=.slice pa s.AO.length pc) (hR37 _ _ hsb) rfl ?_);refine QY (by kernel_rfl) ?_;refine jc (A:=[(lb,C 23 [lv]),(hk,C 86 [Pt hb])]) (Hv (hv.le hR37) (hi.le hR37) (by omega) hinc hmem h7.c.p (by omega) (λa ha=>hc1 a (ZZ _ ha)) hnz) ?_;rintro xv R8 A5 _ ⟨hR8,A6,so6,hA⟩;subst hR8 hA;refine Ai [(gb,C 42 [nv,rv,.slice none 0 0]),(g0,C 42 (cl z42)),(lb,C 23 [lv]),(hk,C 86 [Pt hb])] (G:=A6 ++ ([] ++ F)) ?_;refine Ai A6 (G:=[(gb,C 42 [nv,rv,.slice none 0 0]),(g0,C 42 (cl z42)),(lb,C 23 [lv]),(hk,C 86 [Pt hb])] ++ ([] ++ F)) ?_;refine E7 so6 λR9 hR9 hi9=>?_
  obtain⟨xa,xc,rfl⟩:=hi9.sl;subst hnv hrv;refine jfo (js (cs':=[.slice na rows1.length nc,.slice ra rows2.length rc,.slice xa (s.AO.map (nmA l (Ak met))).length xc]) rfl rfl (Yp rfl) rfl ?_);refine jla (l:=[.slice na rows1.length nc,.slice ra rows2.length rc,.slice xa (s.AO.map (nmA l (Ak met))).length xc]) (Yp rfl) rfl ?_;refine js (cs':=[.slice na rows1.length nc,.slice ra rows2.length rc,.slice xa (s.AO.map (nmA l (Ak met))).length xc]) rfl rfl (Yp rfl) rfl ?_;refine jla (l:=[.slice na rows1.length nc,.slice ra rows2.length rc,.slice xa (s.AO.map (nmA l (Ak met))).length xc]) (Yp rfl) rfl ?_;refine BA (A:=[]) (hR3.trans (hR37.trans hR9)) ⟨rfl,_,⟨rows1,rows2,_,_,_,rfl,hrw1.mono λ_ _=>NdC.le (hR7.trans hR9),hfz.le (hR7.trans hR9),hrw2.mono λ_ _=>RwC.le hR9,hfz2.le hR9,hi9⟩,rfl⟩
end st
end Go.Lf
end
section
namespace Sm
open Go.Lf
theorem G7 {l:List AZ} {q:Int→Prop} (hq:∀x y,now l x = some y→y = 0∨q y):∀{xs acc r:List Int},(∀a∈acc,q a)→Ao l xs acc = some r→∀a∈r,q a
 | [],acc,r,h0,h=>by cases h;exact h0
 | b :: xs,acc,r,h0,h=>by
  rw[CO] at h;cases hn:now l b with
  | none=>rw[hn] at h;cases h
  | some y=>
   rw[hn] at h;refine G7 hq (xs:=xs) (λa ha=>?_) h;unfold CQ at ha;split at ha
   ·exact h0 a ha
   ·rename_i c;rcases ZD.1 ha with ha | ha
    ·exact h0 a ha
    ·rw[Z3.1 ha];exact (hq _ _ hn).resolve_left λe=>c (.inl e)
theorem NH {l:List AZ} {q:Int→Prop} (hq:∀x y,now l x = some y→y = 0∨q y):∀{n i:Nat} {out r:List Int},(∀a∈out,q a)→BN l n i out = some r→∀a∈r,q a
 | 0,i,out,r,h0,h=>by cases h
 | n + 1,i,out,r,h0,h=>by
  by_cases c:i < out.length
  ·cases ht:BW l out[i] with
   | none=>
    unfold BN at h;rw[Yl c] at h;dsimp only at h;rw[ht] at h;cases h
   | some t=>
    rw[Cr c ht] at h;cases hn:Ao l t.refs out with
    | none=>rw[hn] at h;cases h
    | some o=>rw[hn] at h;exact NH hq (G7 hq h0 hn) h
  ·rw[DC (by omega)] at h;cases h;exact h0
theorem HpF.nw {s:B7} {l:List AZ} {met:List Int} (hf:HpF s l met):∀a∈met,∀t,BW l a = some t→t.moved = a:=by
 have hh:=hf.head;unfold CX at hh;simp only[z_b] at hh;have Fq:=hh.1.1.1.1.1.1.1;unfold CK at Fq;rw[ZE] at Fq;have hq:∀x y,now l x = some y→y = 0∨∀t,BW l y = some t→t.moved = y:=λx y h=>by
  unfold now at h;split at h
  ·cases h;exact .inl rfl
  ·obtain⟨t,ht,rfl⟩:=aS.1 h;refine .inr λn hn=>?_
   obtain⟨hm,_⟩:=Bw ht;have:=Fq t hm;unfold Bx at this;rw[hn] at this;simp only[ZA,z_b,beq_iff_eq] at this;have hna:=(Bw hn).2;rcases this with e | e
   ·have h1:=ES hf.S.nd hm;rw[← e,hn] at h1;cases h1;rfl
   ·rw[e.1.1.2,hna]
 have hr:=hf.re;rw[Dt hh.2] at hr;cases hn:Ao l (DJ s) [] with
 | none=>rw[hn] at hr;cases hr
 | some out=>
  rw[hn,z_o] at hr;exact NH hq (G7 hq (λa h=>by cases h) hn) hr
theorem HpF.tp {s:B7} {l:List AZ} {met:List Int} (hf:HpF s l met):∀t∈l,∃k:Nat,∃h:k < s.A0.length,AS t.at_ = k∧t.at_ + AF t.sh≤(s.A0[k]).top:=by
 intro t ht;have h1:=hf.ths;unfold ER at h1;split at h1;rotate_left
 ·cases h1
 unfold BE at h1;obtain⟨g1,g2,g3,k,hk,g4,g5,g6⟩:=(Ea h1).2 t ht;rw[Zy] at hk;refine⟨k + 1,by omega,?_,?_⟩
 ·unfold AS;rw[if_neg (by omega)];omega
 ·rw[List.getElem_tail] at g5;exact g5
end Sm
namespace Go.Lf
open Go Sm
theorem MM {R:RM} {v:Value} (hc:Cod R v):Fn P F1 [v] R [] (λx R' A=>A = []∧DSF x R'):=by
 refine J1 λF=>?_
 unfold Ey;obtain⟨n,hf⟩:=hc;refine ja λb=>?_
 refine jc (A:=[]) (V3 hf) ?_;rintro _ R1 _ _ ⟨hR,rb,v',rfl,rfl,hb⟩;subst hR;refine jc (A:=[(rb,rdO v' 0)]) (Qv hb (by decide)) ?_;rintro x R2 A hR2 hd;refine XQ hd λR3 hR3 hx=>?_
 exact X3 hx (BA (A:=[]) (hR2.trans hR3) ⟨rfl,hx⟩)
def Bn (s:Sm.B7):List Int:=((C0 s).map λq=>Ak q.2).getD []
theorem WU {s:Sm.B7} {v:Value} {A:Chs} (h:QLv (C0 s) v A):∃sv,SO (Bn s) sv A∧v = .tuple #[sv,.bool (C0 s).isSome]:=by
 unfold Bn;cases hh:C0 s with
 | none=>rw[hh] at h;obtain⟨rfl,rfl⟩:=h;exact⟨_,.inl ⟨rfl,rfl,rfl⟩,rfl⟩
 | some q=>obtain⟨l,met⟩:=q;rw[hh] at h;obtain⟨sv,so,rfl⟩:=h;exact⟨sv,so,rfl⟩
theorem YC {s:Sm.B7} {v:Value} {R:RM} (h:Tw (C0 s) s v R):∃a c rv pv ok,v = .tuple #[.agg #[.slice a (Bn s).length c,rv,pv],.bool ok]∧flat rv = true∧flat pv = true∧cl rv = [rv]∧cl pv = [pv]:=by
 unfold Bn;cases hh:C0 s with
 | none=>rw[hh] at h;obtain rfl:v = _:=h;exact⟨none,0,_,_,_,rfl,rfl,rfl,rfl,rfl⟩
 | some q=>
  obtain⟨l,met⟩:=q;rw[hh] at h;obtain⟨gv,⟨r1,r2,nv,rv,pv,rfl,h2,h3,h4,h5,h6⟩,rfl⟩:=h;obtain⟨na,nc,rfl⟩:=h3.sl;obtain⟨ra,rc,rfl⟩:=h5.sl;obtain⟨pa,pc,rfl⟩:=h6.sl;have e:=h2.1;unfold WX at e;rw[ZF] at e;rw[e];exact⟨na,nc,.slice ra r2.length rc,.slice pa (WX s l (Ak met)).pinned.length pc,true,rfl,rfl,rfl,rfl,rfl⟩
set_option maxHeartbeats 2000000 in
set_option maxRecDepth 8000 in
theorem RZ {R:RM} {v:Value} (hc:Cod R v):Fn P GI [v] R [] (λx _ A=>x = .bool true∧A = []):=by
 refine Lo λF=>?_
 unfold GG;obtain⟨cn,hsl⟩:=XK hc;refine CN hsl (jgr (jif (λ_=>BA (A:=[]) (RM.le.refl R) ⟨rfl,rfl⟩) (λ_=>?_)));refine jc (A:=[]) (MM hc) ?_;rintro x0 R1 _ hR1 ⟨rfl,hd⟩;refine YY hd λb s wv tv mv thv ov pv _ h=>?_
 refine jla (l:=eSt s wv tv mv thv ov pv) (by exact z_n 13) rfl ?_;refine jc (A:=[]) (OB h) ?_;intro x R2 A2 hR2 hq;obtain⟨lv,so,rfl⟩:=WU hq;refine E7 so λR3 hR3 hi=>?_
 have h:=h.le (hR2.trans hR3);refine jex rfl (jex rfl (jla (l:=eSt s wv tv mv thv ov pv) (by exact z_n 13) rfl ?_));refine jc (A:=[]) (RW h) ?_;intro x R4 A4 hR4 hq;obtain⟨lv2,so,rfl⟩:=WU hq;refine E7 so λR5 hR5 hi2=>?_
 have h:=h.le (hR4.trans hR5);have hi:=hi.le (hR4.trans hR5);have hR5:=hR1.trans (hR2.trans (hR3.trans (hR4.trans hR5)));obtain⟨va,vc,rfl⟩:=hi.sl;have each:∀(i:Nat) (hil:i < (Bn s).length),∃t,BB s.AB (Bn s)[i] = (t,true)∧t.moved = (Bn s)[i]∧16≤(Bn s)[i]∧(Bn s)[i] < 192∧∃k:Nat,∃hk:k < s.A0.length,AS (Bn s)[i] = k∧(Bn s)[i] + AF t.sh≤(s.A0[k]).top:=λi hil=>by
  cases hh:C0 s with
  | none=>simp[Bn,hh] at hil
  | some q=>
   obtain⟨l,met⟩:=q;have hf:=Df hh;have el:Bn s = Ak met:=by simp[Bn,hh]
   have hm:(Bn s)[i]∈met:=(De hf.M.nd).2 _ |>.1 (by rw[← el];exact Yv hil)
   obtain⟨t,ht,hta⟩:=Y3 hf hm;obtain⟨h1,h2⟩:=Bw ht;obtain⟨k,hk,h3,h4⟩:=hf.tp t h1;rw[h2] at h3 h4;have:=hf.S.at16 t h1;have t1:=h.b.t1;refine⟨t,hta,hf.nw _ hm t ht,by omega,?_,k,hk,h3,h4⟩;unfold AS at h3;rw[if_neg (by omega)] at h3;omega
 have hl200:(Bn s).length≤192:=by
  cases hh:C0 s with
  | none=>simp[Bn,hh]
  | some q=>
   obtain⟨l,met⟩:=q;have hf:=Df hh;have:=hf.M.len;have:=(I7 h hf.ths).1;have el:Bn s = Ak met:=by simp[Bn,hh]
   have e2:=FQ met [];have e2:(Ak met).length = met.length:=by simpa [Ak] using e2
   rw[el,e2];omega
 have hasc:∀(i:Nat) (hil:i < (Bn s).length),0 < i→(Bn s)[i - 1] < (Bn s)[i]:=λi hil h0=>by
  cases hh:C0 s with
  | none=>simp[Bn,hh] at hil
  | some q=>
   obtain⟨l,met⟩:=q;have hf:=Df hh;have el:Bn s = Ak met:=by simp[Bn,hh]
   have:=(De hf.M.nd).1;rw[← el,aL] at this;exact this (i - 1) i (by omega) hil (by omega)
 have wl:=h.b.wl;have t1:=h.b.t1;have hinn:∀a:Int,inR (s.AB.getD (a.toNat + 1) 0):=λa=>by
  rw[Z5];cases hx:s.AB[a.toNat + 1]? with
  | none=>exact⟨by decide,by decide⟩
  | some x=>exact h.b.wr x (List.mem_of_getElem? hx)
 obtain⟨tb,tc,sp,rfl,hbt,htc⟩:=h.z;obtain⟨wa,wc,rfl⟩:=h.c.w.sl;refine jex rfl (jex rfl ?_);refine jor [Pt b,.slice va (Bn s).length vc] false (λK' hK'=>?_) (λe c u ho he=>?_)
 ·refine @jxb _ _ _ _ _ _ _ ?_;rw[bne_self_eq_false];refine jff (jro (U8 hi hi2 (by omega) (by omega)) ?_);rw[beq_self_eq_true];exact hK' _ _ _ Aj rfl
 simp only[List.map,zc,zl,zj,z_t] at he;simp only[he];rw[ho];refine Cn ?_;refine jci (λ_:Unit=>[Pt b,.slice va (Bn s).length vc])
  (λ_=>(b,C 28 (eSt s (.slice wa s.AB.length wc) (S0 tb s.A0.length tc) mv thv ov pv)) :: ([] ++ F)) (λR' _=>R5.le R') (λK1 h1=>?_) ?_
 ·refine jci (λ_:Unit=>[Pt b,.slice va (Bn s).length vc])
   (λ_=>(b,C 28 (eSt s (.slice wa s.AB.length wc) (S0 tb s.A0.length tc) mv thv ov pv)) :: ([] ++ F)) (λR' _=>R5.le R') (λK2 h2=>?_) ?_
  rotate_left
  ·rintro e R' i hp he;simp only[List.map,zc,zl,zj,z_t] at he;simp only[he];exact h1 R' i hp
  refine jli (λi:Nat=>(Bn s).length - i) (λi=>[Pt b,.slice va (Bn s).length vc,I i])
   (λ_=>(b,C 28 (eSt s (.slice wa s.AB.length wc) (S0 tb s.A0.length tc) mv thv ov pv)) :: ([] ++ F)) (λR' i=>R5.le R'∧i≤(Bn s).length) 0 ⟨RM.le.refl _,by omega⟩ rfl rfl ?_
  rintro K e R6 i ⟨hR6,hil⟩ he hK;simp only[List.map,zc,zl,zj,z_t] at he;simp only[he];refine jln (jlt (jif (λc=>?_) (λc=>h2 R6 () hR6)));have c:i < (Bn s).length:=by have:=z_f c;omega
  obtain⟨t,hta,hmv,ha16,ha192,k,hk,hrk,htop⟩:=each i c;have hi6:=hi.le hR6;have h6:=h.le hR6;refine jci (λq:Nat × Value × Value=>[Pt b,.slice va (Bn s).length vc,I i,.pointer (some ⟨q.1,0,none⟩),.bool true])
   (λq=>(q.1,C 62 (eTh t q.2.1 q.2.2)) :: (b,C 28 (eSt s (.slice wa s.AB.length wc) (S0 tb s.A0.length tc) mv thv ov pv)) :: ([] ++ F)) (λR' _=>R6.le R') (λK3 h3=>?_) ?_
  ·refine jfo (jl (v:=.slice wa s.AB.length wc) rfl (WN hi6 (by omega) (by omega) λp hp=>?_));simp only[Yj] at hp ⊢;refine E6 ?_ (DT ?_)
   ·refine jc (A:=[]) (Fs (Bn s)[i] h6.c.w (by omega) (hinn _)) ?_;rintro _ R7 _ hR7 ⟨rfl,x,⟨rv,nv,hx,hrv,hnv⟩,rfl⟩;subst hx;rw[hta] at hrv hnv ⊢;obtain⟨ra,rc,rfl⟩:=hrv.sl;obtain⟨na,nc,rfl⟩:=hnv.sl;refine jex rfl (jex rfl (ja λb3=>?_));refine js (cs':=eTh t (.slice ra t.refs.length rc) (.slice na t.nums.length nc)) rfl rfl (by exact z_n 6) rfl ?_;exact h3 R7 (b3,_,_) hR7
   ·refine ja λb3=>Ae (jl (v:=.slice wa s.AB.length wc) rfl jev) (Ae (hp λR' D'=>jev) ?_)
    refine jc (A:=[]) (Fs (Bn s)[i] h6.c.w (by omega) (hinn _)) ?_;rintro _ R7 _ hR7 ⟨rfl,x,⟨rv,nv,hx,hrv,hnv⟩,rfl⟩;subst hx;rw[hta] at hrv hnv ⊢;obtain⟨ra,rc,rfl⟩:=hrv.sl;obtain⟨na,nc,rfl⟩:=hnv.sl;refine jex rfl (jex rfl ?_);refine js (cs':=eTh t (.slice ra t.refs.length rc) (.slice na t.nums.length nc)) rfl rfl (by exact z_n 6) rfl ?_;exact h3 R7 (b3,_,_) hR7
  rintro e R7 ⟨b3,rv,nv⟩ hR7 he;dsimp only at he ⊢;simp only[List.map,zc,zl,zj,z_t] at he;simp only[he];have hi7:=hi6.le hR7;have hbt:=(hR6.trans hR7) _ _ hbt;refine Bz [Pt b,.slice va (Bn s).length vc,I i,.bool false] (λK4 h4=>?_) (λe he=>?_);rotate_left
  ·simp only[List.map,zc,zl,zj,z_t] at he;simp only[he];exact Cn (jad (C4 (hK R7 (i + 1) (by omega) ⟨hR6.trans hR7,c⟩)))
  refine jor [Pt b,.slice va (Bn s).length vc,I i,Pt b3] false (λK' hK'=>?_) (λe c1 u ho he=>?_)
  ·show J _ _ (GT (.bool false) false _ _);refine jff (jfo (jl (v:=I t.moved) rfl (Bv hi7 (by omega) (by omega) (jne ?_))));simp only[Yj];rw[hmv,bne_self_eq_false];exact hK' _ _ _ Aj rfl
  simp only[List.map,zc,zl,zj,z_t] at he;simp only[he];refine jor [Pt b,.slice va (Bn s).length vc,I i,Pt b3] false (λK' hK'=>?_) (λe c2 u2 ho2 he=>?_)
  ·rw[ho];refine jff (jgr (Bm (λg=>?_) (λg=>?_)))
   ·rw[g];have g:=z_f g;refine jsu (Bv hi7 (by omega) (by omega) (Bv hi7 (by omega) (by omega) (jge ?_)));refine ED (hK' _ _ _ Aj ?_);have:=hasc i c (by omega);have e1:((i:Int) - 1).toNat = i - 1:=by omega
    simp only[e1,Yj];exact decide_eq_false (by omega)
   ·rw[g];exact EC (hK' _ _ _ Aj rfl)
  simp only[List.map,zc,zl,zj,z_t] at he;simp only[he];refine jci (λp:Value=>[Pt b,.slice va (Bn s).length vc,I i,.bool false,.pointer (some ⟨b,0 + 1,none⟩),S0 tb s.A0.length tc,I (Bn s)[i],p,I (Bn s)[i],.pointer (some ⟨b3,0 + 2,none⟩),.agg #[I t.sh.refs,I t.sh.nums]])
   (λ_=>(b3,C 62 (eTh t rv nv)) :: (b,C 28 (eSt s (.slice wa s.AB.length wc) (S0 tb s.A0.length tc) mv thv ov pv)) :: ([] ++ F)) (λR' p=>R' = R7∧∀{D' : Chs} {k:Value→M},(∀(R' : RM) (D'' : Chs),J R7 D' (k (I (Bn s)[i])))→J R7 D' (L1 p k)) (λK5 h5=>?_) ?_
  ·rw[ho2];refine jff (jfo (jl (v:=S0 tb s.A0.length tc) rfl (Bv hi7 (by omega) (by omega) (WN hi7 (by omega) (by omega) λp hp=>?_))));simp only[Yj] at hp ⊢;exact jfo (jla (l:=[I t.sh.refs,I t.sh.nums]) (by exact (by decide:4≤6)) rfl (h5 R7 p ⟨rfl,hp⟩))
  rintro e R8 p ⟨hR8,hp⟩ he;subst hR8;simp only[List.map,zc,zl,zj,z_t] at he;simp only[he];have tr:=IK t.sh;have hcell:(Ab eRg s.A0 ++ sp)[0 + k * 5 + 2]? = some (I (s.A0[k]).top):=by rw[Z6];exact Bu (f:=2) hk rfl
  refine jff (jp (Hz (by omega) (by omega)) ?_);rw[hrk];refine Cs hk (jfo (jlr (v:=I (s.A0[k]).top) hbt hcell ?_));refine Ae (jl (v:=S0 tb s.A0.length tc) rfl jev) (Ae (hp λR' D'=>jev) (Ae (jla (l:=[I t.sh.refs,I t.sh.nums]) (by exact (by decide:4≤6)) rfl jev) ?_));refine jp (Eo t.sh) (jad (jlt (EC ?_)));refine Ae (jl (v:=S0 tb s.A0.length tc) rfl jev) (Ae (jlr (v:=I (s.A0[k]).top) hbt hcell jev) (Ae (hp λR' D'=>jev) ?_));rw[decide_eq_false (by omega)];exact h4
 rintro e R6 _ hR6 he;simp only[List.map,zc,zl,zj,z_t] at he;simp only[he];have h6:=h.le hR6;refine jla (l:=eSt s (.slice wa s.AB.length wc) (S0 tb s.A0.length tc) mv thv ov pv) (by exact z_n 13) rfl ?_;refine jc (A:=[]) (M5 h6) ?_;rintro x R7 _ hR7 ⟨rfl,hq⟩;obtain⟨ga,gc,rv,pv2,ok,rfl,f1,f2,f3,f4⟩:=YC hq;refine jex rfl (jex rfl (ja λgb=>?_));refine js (cs':=[.slice ga (Bn s).length gc,rv,pv2]) rfl (by show (true && (flat rv && (flat pv2 && true))) = true;rw[f1,f2];rfl) (Yp rfl) rfl ?_;refine jfo (jl (v:=.slice ga (Bn s).length gc) rfl (jln (jln (jeq ?_))));rw[beq_self_eq_true];exact BA (A:=[]) (hR5.trans (hR6.trans hR7)) ⟨rfl,rfl⟩
end Go.Lf
end
section
namespace Go.Proofs.YtlagojobcbkpdaaGreat.fnFullLive
open Go Go.Lf
open Go.ChangeShapes Go.WideShapes Go.ChangeAt Go.RowKit
theorem own:ownKnob Tryz.prog.godebug = none:=by kernel_rfl
theorem laidOut:laidOutB Tryz.prog = true:=by kernel_rfl
set_option maxRecDepth 100000 in
theorem lifted (os:Os) (started:os.Started) (H:Type) (enc:TypeId × Value→H) :
  ReturnsInHanded {} Tryz.checked os 7 .any (Rows.fnFullLiveSpec.pre6 enc Tryz.prog Tryz.f7 Rows.fnFullLiveRow.domain false) (Rows.fnFullLiveSpec.post enc Tryz.prog Tryz.f7 false true false false):=by
 refine returnsInHanded_of_change (C:=Tryz.checked) own started (by kernel_rfl) Tryz.func7
  (ChangeSpec.witness6 (enc:=enc) (C:=Tryz.checked) false ⟨#[],#[.slice none 0 0],[]⟩ 8 (by kernel_rfl) (by kernel_rfl) (by kernel_rfl) (by kernel_rfl)) ?_
 intro W base args ds gs before hval0 hW hcnd _;have hval:∀(j:Nat) t v,Tryz.f7.params[j]? = some t→args[j]? = some v→Value.okWide Tryz.prog W .any base t v:=hval0;have hW':=hW;obtain⟨p,q,hA0,hV,rfl,hfz,hnd⟩:=hW;have hA:DataW.TrodAll enc Tryz.prog W 0 (λ_=>true) true Tryz.f7.params.toList args.toList ds p:=hA0;rw[Tryz.params7] at hA hval;obtain⟨v0,vs0,d0,ds0,p0,q0,hargs,rfl,rfl,h0,r0⟩:=trodAll_cons hA;obtain⟨rfl,rfl,rfl⟩:=trodAll_nil r0;obtain rfl:args = #[v0]:=by cases args;simp_all
 obtain⟨rfl,rfl⟩:=trodVars_none hV;obtain⟨a0,len0,cap0,rfl⟩:=okWide_slice Tryz.underlying22 (hval 0 22 v0 rfl rfl);have k0:=h0;have lt0:∀x∈p0,x.block < W.heap.size:=by obtain⟨m,hm⟩:=k0;exact DataW.trod_lt m _ _ _ hm
 obtain⟨z0,w0⟩:∃zs,U1 W a0 len0 cap0 zs:=by
  obtain⟨fuel,hf⟩:=h0;rcases open_ints Tryz.underlying22 Tryz.underlying5 (by kernel_rfl) hf with ⟨hcs,_⟩ | ⟨x,l,c,zs,hcs,_,hl,hm,hz,_,hcell,hwz⟩
  ·simp[Value.cells] at hcs;obtain⟨rfl,rfl,rfl⟩:=hcs;exact⟨[],.inl ⟨rfl,rfl,rfl,rfl⟩⟩
  ·simp[Value.cells] at hcs;obtain⟨rfl,rfl,rfl⟩:=hcs;exact⟨zs,.inr ⟨_,rfl,hl,by simpa using hz,hcell,hwz⟩⟩
 clear hA0 hval0;refine (Ub (f:=7) (λR v h=>RZ h) w0).mono λe W' ⟨he,bel⟩=>?_
 subst he;have hst:DataW.Trod enc Tryz.prog W' 0 (λb=>decide (b < W.heap.size)) true 22 (Value.slice a0 len0 cap0) d0 p0:=WideElems.Trod_stays laidOut (by kernel_rfl) (z_f (by kernel_rfl)) k0 (λx hx=>bel.at_ (lt0 x hx)) (λx hx=>by simpa using lt0 x hx);exact⟨_,rfl,_,_,_,[],_,[],hW',trodAll_mk1 (shut_bool Tryz.underlying4 _),trodAll_mk1 hst,rfl,bel.frame _,λh=>by cases h⟩
theorem over:Rows.fnFullLiveRow.holds Tryz.pinned (OpenSpec.ofChange Rows.fnFullLiveSpec):=
 OpenClaim.holds_of_wide 7 Tryz.f7 rfl rfl rfl rfl rfl rfl rfl ⟨rfl,rfl,rfl,rfl,rfl⟩ rfl rfl rfl rfl rfl (by kernel_rfl) Tryz.func7 (by kernel_rfl)
  (z_f (by kernel_rfl)) (by unfold Func.isWrapper;rw[if_neg (z_g (by kernel_rfl))];exact⟨rfl,rfl⟩)
  (λos started H enc _=>lifted os started H enc)
theorem proved:Rows.FnFullLiveSaid:=over
#print axioms proved
end Go.Proofs.YtlagojobcbkpdaaGreat.fnFullLive
end
