/- The given row of this law is proved: whatever code comes in, it returns true and leaves the code as it was. Conditions: none. -/
import Derived.Test.YtlagojobcbkpdaaGreatBP
set_option linter.unusedVariables false
set_option linter.unusedSimpArgs false
section
namespace Sm
open Go.Lf
theorem MU {s:BE} {l:List AX} {t:AX} (ht:t∈l) (h:BU l t.moved = none) (nd:(l.map AX.at_).Nodup):C0 s l t = false:=by
 unfold C0;rw[h,Bool.or_false,beq_eq_false_iff_ne];intro e;rw[e,E2 nd ht] at h;cases h
theorem Mc {s:BE} {l:List AX} {t n:AX} (ht:t∈l) (h:BU l t.moved = some n) (nd:(l.map AX.at_).Nodup):C0 s l t = (!(n.moved != n.at_) && (n.sh == t.sh) && (t.moved == t.at_ || (!DR s n.at_ && DR s t.at_))):=by
 unfold C0;by_cases c:t.moved = t.at_
 ·have:n = t:=by rw[c,E2 nd ht] at h;exact (ZE h).symm
  subst this;rw[c];simp
 ·rw[h];dsimp only;unfold bne;rw[beq_eq_false_iff_ne.2 c];cases n.sh == t.sh<;>cases n.moved == n.at_<;>cases DR s n.at_<;>cases DR s t.at_<;>rfl
end Sm
namespace Sm
open Go.Lf
theorem Vj (had:List Int) (a:Int):(Cm had a).length≤had.length + 1:=by
 unfold Cm;split
 ·omega
 ·simp
theorem ED {l:List AX}:∀{xs acc r:List Int},Ax l xs acc = some r→r.length≤acc.length + xs.length
 | [],acc,r,h=>by cases h;simp
 | x :: xs,acc,r,h=>by
  rw[Do] at h;cases hn:now l x with
  | none=>rw[hn] at h;cases h
  | some y=>
   rw[hn] at h;have h1:=ED (xs:=xs) h;have h2:=Vj acc y;rw[Yj];omega
theorem TN {s:BE} {l:List AX} (h:ES s = some l) (hn:Ax l (Dj s) [] = none):(CK s).isSome = false:=by
 unfold CK;rw[h];dsimp only;split
 ·rename_i hh;have h2:=hh;unfold Cj at h2;simp only[z_b] at h2;rw[FF h2.2,hn];rfl
 ·rfl
end Sm
namespace Go.Lf
open Go Sm
section st
variable {R:RM} {s:Sm.BE} {wv tv mv thv ov pv:Value}
theorem Ij {l:List AX} (h:B9 s = some l) {t:AX} (ht:t∈l) (hn:s.A0.length≤12):∃r:Nat,AQ t.at_ = r∧∃hr:r < s.A0.length,DR s t.at_ = ((s.A0[r]).kind == 4):=by
 unfold B9 at h;obtain⟨_,h2⟩:=FM h;obtain⟨h3,h4,h5,k,hk,h6,h7,h8⟩:=h2 t ht;rw[Z8] at hk;have e:AQ t.at_ = (1 + k:Nat):=by unfold AQ;rw[if_neg (by omega)];omega
 refine⟨1 + k,e,by omega,?_⟩;unfold DR;rw[e,Dn (by omega:1 + k < s.A0.length)];rw[decide_eq_true (by omega:(0:Int)≤(1 + k:Nat)),decide_eq_true (by omega:((1 + k:Nat):Int) < s.A0.length)];rfl
set_option maxHeartbeats 4000000 in
set_option maxRecDepth 4000 in
theorem NA (h:SF R s wv tv mv thv ov pv):Ro JU [.agg (eSt s wv tv mv thv ov pv).toArray] (.bool (CK s).isSome) R []:=by
 refine Pj λF=>?_
 unfold Jf;refine ja λb=>?_
 rw[show cl (.agg (eSt s wv tv mv thv ov pv).toArray) = eSt s wv tv mv thv ov pv from rfl];obtain⟨tb,tc,sp,rfl,hb,htc⟩:=h.z;obtain⟨wa,wc,rfl⟩:=h.c.w.sl;obtain⟨ma,mc,rfl⟩:=h.c.m.sl;have t0:=h.b.t0;have t1:=h.b.t1;have wl:=h.b.wl;have n1:=h.b.n1;have fin:∀{R' : RM} {D:Chs} {x:Bool},R.le R'→(CK s).isSome = x→[Sf D F]→J R' D (El R F (λv' _ A=>v' = .bool (CK s).isSome∧A = []) (.bool x)):=λhR hx _=>by
  rw[← hx];exact Ay (A:=[]) hR ⟨rfl,rfl⟩
 refine jor [Pt b] ((!BI s.A6.length) || (!BH s.A0)) (λK' hK'=>?_) (λe c u ho he=>?_)
 ·refine jl (v:=.slice wa s.A6.length wc) rfl (jp (Il wa s.A6.length wc (by omega)) (BK (λh1=>?_) (λh1=>?_)))
  ·refine jl (v:=S0 tb s.A0.length tc) rfl (Xo hb (λR' _=>EC (t:=s.A0) (sp:=sp) (by omega)) (hK' _ _ _ (h1▸Ah) (by rw[h1,YM])))
  ·exact hK' _ _ _ (h1▸Ag) (by rw[h1,YP])
 simp only[List.map,zc,zl,zj,z_t] at he;simp only[he];refine jor [Pt b] ((!BI s.A6.length || !BH s.A0) || ((s.A0.length:Int) * 16 != (s.A6.length:Int))) (λK' hK'=>?_) (λe c u ho he=>?_)
 ·rw[ho];refine BK (λh1=>?_) (λh1=>?_)
  ·refine jl (v:=S0 tb s.A0.length tc) rfl (jln (GO ⟨by omega,by omega⟩ (jl (v:=.slice wa s.A6.length wc) rfl (jln (jne (hK' _ _ _ (h1▸Ah) (by rw[h1,YM])))))))
  ·exact hK' _ _ _ (h1▸Ag) (by rw[h1,YP])
 simp only[List.map,zc,zl,zj,z_t] at he;simp only[he];refine jor [Pt b] ((!BI s.A6.length || !BH s.A0 || ((s.A0.length:Int) * 16 != (s.A6.length:Int))) || ((s.AN.length:Int) != (s.A6.length:Int))) (λK' hK'=>?_) (λe c u ho he=>?_)
 ·rw[ho];refine BK (λh1=>?_) (λh1=>?_)
  ·refine jl (v:=.slice ma s.AN.length mc) rfl (jln (jl (v:=.slice wa s.A6.length wc) rfl (jln (jne (hK' _ _ _ (h1▸Ah) (by rw[h1,YM]))))))
  ·exact hK' _ _ _ (h1▸Ag) (by rw[h1,YP])
 simp only[List.map,zc,zl,zj,z_t] at he;simp only[he];rw[ho];have hfr:(!BI s.A6.length || !BH s.A0 || ((s.A0.length:Int) * 16 != (s.A6.length:Int)) || ((s.AN.length:Int) != (s.A6.length:Int))) = !EW s:=by
  have e1:((s.A0.length:Int) * 16 != (s.A6.length:Int)) = !(s.A0.length == s.A6.length / 16):=by
   rw[Z4,Yl,bne_iff_ne,beq_eq_false_iff_ne];omega
  have e2:((s.AN.length:Int) != (s.A6.length:Int)) = !(s.AN.length == s.A6.length):=by
   rw[Z4,Yl,bne_iff_ne,beq_eq_false_iff_ne];omega
  rw[e1,e2];unfold EW;cases BI s.A6.length<;>cases BH s.A0<;>cases s.A0.length == s.A6.length / 16<;>cases s.AN.length == s.A6.length<;>rfl
 rw[hfr];refine jif (λh0=>?_) (λh0=>?_)
 ·have h0:EW s = false:=by simpa using h0
  refine fin (RM.le.refl R) ?_;unfold CK ES;rw[if_neg (by rw[h0];decide)];rfl
 have hfo:EW s = true:=by simpa using h0
 have hth0:ES s = B9 s:=by unfold ES;rw[if_pos hfo]
 clear hfr h0 ho he;refine jor [Pt b] ((decide (s.AY < 0)) || (decide (s.AY > 3))) (λK' hK'=>?_) (λe c u ho he=>?_)
 ·refine jl (v:=I s.AY) rfl (jlt (BK (λh1=>?_) (λh1=>?_)))
  ·refine jl (v:=I s.AY) rfl (jgr (hK' _ _ _ (h1▸Ah) (by rw[h1,YM])))
  ·exact hK' _ _ _ (h1▸Ag) (by rw[h1,YP])
 simp only[List.map,zc,zl,zj,z_t] at he;simp only[he];refine jor [Pt b] ((decide (s.AY < 0) || decide (s.AY > 3)) || (decide ((s.A7.length:Int) < 1))) (λK' hK'=>?_) (λe c u ho he=>?_)
 ·rw[ho];refine BK (λh1=>?_) (λh1=>?_)
  ·refine jl (v:=thv) rfl (Ch h.c.th.sl (jlt (hK' _ _ _ (h1▸Ah) (by rw[h1,YM]))))
  ·exact hK' _ _ _ (h1▸Ag) (by rw[h1,YP])
 simp only[List.map,zc,zl,zj,z_t] at he;simp only[he];refine jor [Pt b] ((decide (s.AY < 0) || decide (s.AY > 3) || decide ((s.A7.length:Int) < 1)) || (decide ((s.A7.length:Int) > 3))) (λK' hK'=>?_) (λe c u ho he=>?_)
 ·rw[ho];refine BK (λh1=>?_) (λh1=>?_)
  ·refine jl (v:=thv) rfl (Ch h.c.th.sl (jgr (hK' _ _ _ (h1▸Ah) (by rw[h1,YM]))))
  ·exact hK' _ _ _ (h1▸Ag) (by rw[h1,YP])
 simp only[List.map,zc,zl,zj,z_t] at he;simp only[he];rw[ho];have hno:∀l,B9 s = some l→Cj s l = false→(CK s).isSome = false:=λl hl hh=>by
  rw[Lc (hth0.trans hl) hh];rfl
 refine jif (λh0=>?_) (λh0=>?_)
 ·refine fin (RM.le.refl R) ?_;cases hs:B9 s with
  | none=>unfold CK;rw[hth0,hs];rfl
  | some l=>
   refine hno l hs ?_;rw[ZN];intro hh;unfold Cj at hh;simp only[z_b,z_d] at hh;simp only[Yp,z_d] at h0;omega
 simp only[Yd,decide_eq_false_iff_not] at h0;obtain⟨⟨⟨p0,p1⟩,p2⟩,p3⟩:=h0;clear ho he;refine jla (l:=eSt s (.slice wa s.A6.length wc) (S0 tb s.A0.length tc) (.slice ma s.AN.length mc) thv ov pv) (by exact z_n 13) rfl ?_;refine jc (A:=[]) (H4 h.c (by omega) (by omega)) ?_;rintro _ R1 _ hR1 ⟨rfl,hq⟩;refine Nx ?_;cases hs:B9 s with
 | none=>
  rw[hs] at hq;obtain rfl:_ = Value.tuple #[.slice none 0 0,.bool false]:=hq;refine jex rfl (jex rfl (DA (fin hR1 ?_)));unfold CK;rw[hth0,hs];rfl
 | some l=>
  rw[hs] at hq;obtain⟨lv,htg,rfl⟩:=hq;refine jex rfl (jex rfl (CY ?_));have h:=h.le hR1;have hno:=hno l hs;have hu:=hs;unfold B9 at hu;obtain⟨as1,as2⟩:=FM hu;have nd:=NW as1 λx hx=>(as2 x hx).2.1
  have tbb:=Lh (by omega) hu;rw[Z8] at tbb;obtain⟨tbl,hll⟩:=tbb;obtain⟨la,lc,rfl⟩:=htg.sl;refine Tt [Pt b,.slice la l.length lc] (CL s l = true) (λK1 h1=>?_) (λe Ii he=>?_)
  ·refine Tt [Pt b,.slice la l.length lc] (CL s l = true) (λK2 h2=>?_) (λe hst he=>?_)
   ·refine YJ [Pt b,.slice la l.length lc] l.length (λi=>(l.take i).all (C0 s l) = true) rfl (λi K e hi hp hK he=>?_);simp only[List.map,zc,zl,zj,z_t] at he;simp only[he];refine jln (jlt (jif (λhc=>?_) (λhc=>?_)));rotate_left
    ·have hc:=z_g hc;rw[Yb (by omega)] at hp;exact h2 hp
    have hc:i < l.length:=by have:=z_f hc;omega
    have hmem:=YW hc;have bad:C0 s l l[i] = false→Cj s l = false:=λhh=>by
     rw[ZN];intro g;unfold Cj CL at g;simp only[z_b] at g;have:=Yr.1 g.1.1.1.1.1.1.1 _ hmem;rw[hh] at this;cases this
    have good:C0 s l l[i] = true→(l.take (i + 1)).all (C0 s l) = true:=λhh=>by
     rw[YT hc,List.all_append,hp];simpa using hh
    refine VE htg hc (jrp (Df (l[i]).moved htg (by omega)) ?_);cases hf:BU l (l[i]).moved with
    | none=>
     rw[GM hf];refine Bq [Pt b,.slice la l.length lc,I i,I (-1),.bool true] (λK' hK'=>?_) (λe he=>?_)
     ·refine Bq [Pt b,.slice la l.length lc,I i,I (-1),.bool true,U] (λK' hK'=>?_) (λe he=>?_)
      ·exact jlt (jtf hK')
      simp only[List.map,zc,zl,zj,z_t] at he;simp only[he];refine Bq [Pt b,.slice la l.length lc,I i,I (-1),.bool true,U,U] (λK' hK'=>?_) (λe he=>?_)
      ·exact jtf hK'
      simp only[List.map,zc,zl,zj,z_t] at he;simp only[he];exact jtf hK'
     simp only[List.map,zc,zl,zj,z_t] at he;simp only[he];exact DA (fin hR1 (hno (bad (MU hmem hf nd))))
    | some n=>
     obtain⟨k,hk,hfk,hn⟩:=E8 hf;subst hn;rw[hfk];have hT:=Mc (s:=s) hmem hf nd;cases c1:((l[k]).moved != (l[k]).at_) with
     | true=>
      refine Bq [Pt b,.slice la l.length lc,I i,I k,.bool true] (λK' hK'=>?_) (λe he=>?_)
      ·refine Bq [Pt b,.slice la l.length lc,I i,I k,.bool false,.bool true] (λK' hK'=>?_) (λe he=>?_)
       ·refine jlt ?_;rw[show decide ((k:Int) < 0) = false from decide_eq_false (by omega)];refine jff (VE htg hk (SP htg hk (jne ?_)));rw[c1];exact hK'
       simp only[List.map,zc,zl,zj,z_t] at he;simp only[he];refine Bq [Pt b,.slice la l.length lc,I i,I k,.bool true,U,U] (λK' hK'=>?_) (λe he=>?_)
       ·exact jtf hK'
       simp only[List.map,zc,zl,zj,z_t] at he;simp only[he];exact jtf hK'
      simp only[List.map,zc,zl,zj,z_t] at he;simp only[he];exact DA (fin hR1 (hno (bad (by rw[hT,c1];rfl))))
     | false=>
      refine Bq [Pt b,.slice la l.length lc,I i,I k,.bool (!((l[k]).sh == (l[i]).sh))] (λK' hK'=>?_) (λe he=>?_)
      ·refine Bq [Pt b,.slice la l.length lc,I i,I k,.bool false,.bool false] (λK' hK'=>?_) (λe he=>?_)
       ·refine jlt ?_;rw[show decide ((k:Int) < 0) = false from decide_eq_false (by omega)];refine jff (VE htg hk (SP htg hk (jne ?_)));rw[c1];exact hK'
       simp only[List.map,zc,zl,zj,z_t] at he;simp only[he];refine Bq [Pt b,.slice la l.length lc,I i,I k,.bool false,.agg #[I (l[k]).sh.refs,I (l[k]).sh.nums],.agg #[I (l[i]).sh.refs,I (l[i]).sh.nums]] (λK' hK'=>?_) (λe he=>?_)
       ·exact jff (Xn htg hk (Xn htg hc hK'))
       simp only[List.map,zc,zl,zj,z_t] at he;simp only[he];exact jff (@Xi (l[k]).sh (l[i]).sh _ _ _ _ _ hK')
      simp only[List.map,zc,zl,zj,z_t] at he;simp only[he];cases c2:((l[k]).sh == (l[i]).sh) with
      | false=>exact DA (fin hR1 (hno (bad (by rw[hT,c1,c2];rfl))))
      | true=>
       refine CY ?_;rw[c1,c2] at hT;have hki:k = i↔(l[i]).moved = (l[i]).at_:=by
        have hka:=(Cq hf).2;constructor
        ·rintro rfl;exact hka.symm
        ·intro e;rw[e,E2 nd hmem] at hf;have hf:=ZE hf;have a1:(l.map AX.at_)[k]? = some (l[k]).at_:=by rw[Z2,YO hk];rfl
         have a2:(l.map AX.at_)[i]? = some (l[k]).at_:=by rw[Z2,YO hc,← hf];rfl
         exact (List.getElem?_inj (by simpa using hk) nd).1 (a1.trans a2.symm)
       by_cases c3:k = i
       ·have hbe:((k:Int) != (i:Int)) = false:=by rw[c3];simp
        have hTt:C0 s l l[i] = true:=by rw[hT,beq_iff_eq.2 (hki.1 c3)];rfl
        refine Bq [Pt b,.slice la l.length lc,I i,.bool false] (λK' hK'=>?_) (λe he=>?_)
        ·refine Bq [Pt b,.slice la l.length lc,I i,I k,.bool false,U,U,U] (λK' hK'=>?_) (λe he=>?_)
         ·refine jne ?_;rw[hbe];exact jft hK'
         simp only[List.map,zc,zl,zj,z_t] at he;simp only[he];refine jft ?_;refine Bq [Pt b,.slice la l.length lc,I i,.bool false,U,U,U,U,U,U] (λK' hK'=>?_) (λe he=>?_)
         ·exact jft hK'
         simp only[List.map,zc,zl,zj,z_t] at he;simp only[he];refine Ad (jft jev) (jgu ?_);refine Bq [Pt b,.slice la l.length lc,I i,.bool false,U,U,U,U] (λK' hK'=>?_) (λe he=>?_)
         ·exact jgu hK'
         simp only[List.map,zc,zl,zj,z_t] at he;simp only[he];refine Bq [Pt b,.slice la l.length lc,I i,.bool false,U,U,U,U] (λK' hK'=>?_) (λe he=>?_)
         ·exact jft hK'
         simp only[List.map,zc,zl,zj,z_t] at he;simp only[he];exact Ad (jgu jev) hK'
        simp only[List.map,zc,zl,zj,z_t] at he;simp only[he];exact CY (jad (hK hc (good hTt)))
       ·have hbe:((k:Int) != (i:Int)) = true:=by simp;omega
        have hme:((l[i]).moved == (l[i]).at_) = false:=beq_eq_false_iff_ne.2 λe=>c3 (hki.2 e)
        rw[hme] at hT;obtain⟨r1,e1,hr1,f1⟩:=Ij hs hmem (by omega);obtain⟨r2,e2,hr2,f2⟩:=Ij hs (YW hk) (by omega);refine Bq [Pt b,.slice la l.length lc,I i,.bool (!C0 s l l[i])] (λK' hK'=>?_) (λe he=>?_)
        ·refine Bq [Pt b,.slice la l.length lc,I i,I k,.bool true,.pointer (some ⟨b,0 + 1,none⟩),S0 tb s.A0.length tc,I (l[i]).at_] (λK' hK'=>?_) (λe he=>?_)
         ·refine jne ?_;rw[hbe];exact jtt (jfo (jl (v:=S0 tb s.A0.length tc) rfl (SP htg hc hK')))
         simp only[List.map,zc,zl,zj,z_t] at he;simp only[he];refine jtt (jp (CB _ (by omega)) ?_);rw[e1];cases c4:((s.A0[r1]).kind == 4) with
         | false=>
          refine Bq [Pt b,.slice la l.length lc,I i,.bool true,.pointer (some ⟨b,0 + 1,none⟩),S0 tb s.A0.length tc,.bool true,U,U,U] (λK' hK'=>?_) (λe he=>?_)
          ·refine jtt (jrk h.z hr1 (jne ?_));rw[show ((s.A0[r1]).kind != 4) = true by unfold bne;rw[c4];rfl];exact jtf hK'
          simp only[List.map,zc,zl,zj,z_t] at he;simp only[he];refine Ad (jtt (jl (v:=S0 tb s.A0.length tc) rfl jev)) (jtf ?_);refine Bq [Pt b,.slice la l.length lc,I i,.bool true,.bool true,U,U,U] (λK' hK'=>?_) (λe he=>?_)
          ·exact jtf hK'
          simp only[List.map,zc,zl,zj,z_t] at he;simp only[he];refine Bq [Pt b,.slice la l.length lc,I i,.bool true,.bool true,U,U,.bool true] (λK' hK'=>?_) (λe he=>?_)
          ·exact jtt hK'
          simp only[List.map,zc,zl,zj,z_t] at he;simp only[he];refine Ad (jtf jev) ?_;rw[hT,f1,c4,Bool.and_false] at hK';exact hK'
         | true=>
          refine Bq [Pt b,.slice la l.length lc,I i,.bool true,.pointer (some ⟨b,0 + 1,none⟩),S0 tb s.A0.length tc,.bool false,.pointer (some ⟨b,0 + 1,none⟩),S0 tb s.A0.length tc,I (l[k]).at_] (λK' hK'=>?_) (λe he=>?_)
          ·refine jtt (jrk h.z hr1 (jne ?_));rw[show ((s.A0[r1]).kind != 4) = false by unfold bne;rw[c4];rfl];exact jff (jfo (jl (v:=S0 tb s.A0.length tc) rfl (SP htg hk hK')))
          simp only[List.map,zc,zl,zj,z_t] at he;simp only[he];refine Ad (jtt (jl (v:=S0 tb s.A0.length tc) rfl jev)) (jff (jp (CB _ (by omega)) ?_));rw[e2];refine Bq [Pt b,.slice la l.length lc,I i,.bool true,.bool false,.pointer (some ⟨b,0 + 1,none⟩),S0 tb s.A0.length tc,.bool ((s.A0[r2]).kind == 4)] (λK' hK'=>?_) (λe he=>?_)
          ·exact jff (jrk h.z hr2 (jeq hK'))
          simp only[List.map,zc,zl,zj,z_t] at he;simp only[he];refine Bq [Pt b,.slice la l.length lc,I i,.bool true,.bool false,.pointer (some ⟨b,0 + 1,none⟩),S0 tb s.A0.length tc,.bool ((s.A0[r2]).kind == 4)] (λK' hK'=>?_) (λe he=>?_)
          ·exact jtt hK'
          simp only[List.map,zc,zl,zj,z_t] at he;simp only[he];refine Ad (jff (jl (v:=S0 tb s.A0.length tc) rfl jev)) ?_;rw[hT,f1,c4,f2] at hK';cases c5:((s.A0[r2]).kind == 4)<;>(rw[c5] at hK';exact hK')
        simp only[List.map,zc,zl,zj,z_t] at he;simp only[he];refine jif (λg=>?_) (λg=>?_)
        ·exact fin hR1 (hno (bad (by simpa using g)))
        ·exact jad (hK hc (good (by simpa using g)))
   ·simp only[List.map,zc,zl,zj,z_t] at he;simp only[he];exact h1 hst
  simp only[List.map,zc,zl,zj,z_t] at he;simp only[he];have S:=QZ (hth0.trans hs) Ii;have hbadr:Ax l (Dj s) [] = none→(CK s).isSome = false:=λhn=>TN (hth0.trans hs) hn
  rw[show ((b,C 28 (cl (.agg (eSt s (.slice wa s.A6.length wc) (S0 tb s.A0.length tc) (.slice ma s.AN.length mc) thv ov pv).toArray))) :: ([] ++ F):Chs) = (b,C 28 (eSt s (.slice wa s.A6.length wc) (S0 tb s.A0.length tc) (.slice ma s.AN.length mc) thv ov pv)) :: ([] ++ F) from rfl];generalize hcs:eSt s (.slice wa s.A6.length wc) (S0 tb s.A0.length tc) (.slice ma s.AN.length mc) thv ov pv = cs;have c8:cs[8]? = some thv:=by rw[← hcs];rfl
  have c10:cs[10]? = some pv:=by rw[← hcs];rfl
  have c1:cs[1]? = some (S0 tb s.A0.length tc):=by rw[← hcs];rfl
  have rl:=h.b.rl;clear he ho;refine AI (λvs R' D'=>R' = R1∧∃ac v A,Ax l (s.A7.flatMap (·.AB)) [] = some ac∧s.A7.all EZ = true∧SO ac v A∧D' = A ++ ((b,C 28 cs) :: ([] ++ F))∧vs = [Pt b,.slice la l.length lc,v]) (λK1 h1=>?_) ?_
  ·refine AI (λvs R' D'=>R' = R1∧∃ac v A,Ax l (s.A7.flatMap (·.AB)) [] = some ac∧s.A7.all EZ = true∧SO ac v A∧D' = A ++ ((b,C 28 cs) :: ([] ++ F))∧vs = [Pt b,.slice la l.length lc,v]) (λK2 h2=>?_) ?_;rotate_left
   ·rintro e R2 D2 ⟨hR,ac,v,A,g1,g2,so,hD,he⟩;subst hR;rw[hD];clear hD;simp only[List.map,zc,zl,zj,z_t] at he;simp only[he];exact h1 _ _ _ ⟨rfl,ac,v,A,g1,g2,so,rfl,rfl⟩
   refine jlp (λm vs R' D'=>R' = R1∧∃(i:Nat) (ac:List Int) (v:Value) (A:Chs),i≤s.A7.length∧m = s.A7.length - i∧Ax l ((s.A7.take i).flatMap (·.AB)) [] = some ac∧(s.A7.take i).all EZ = true∧SO ac v A∧D' = A ++ ((b,C 28 cs) :: ([] ++ F))∧vs = [Pt b,.slice la l.length lc,v,I i]) (n:=s.A7.length) ⟨rfl,0,[],_,[],by omega,rfl,rfl,rfl,.inl ⟨rfl,rfl,rfl⟩,rfl,rfl⟩ ?_;rintro m e R2 D2 K ⟨hR,i,ac,v,A,hi,hmm,hac,hta,so,hD,he⟩ hK;subst hR;rw[hD];clear hD;simp only[List.map,zc,zl,zj,z_t] at he;simp only[he];refine jl (v:=thv) c8 (Ch h.c.th.sl (jlt (jif (λhc=>?_) (λhc=>?_))));rotate_left
   ·have hc:=z_g hc;rw[Yb (by omega)] at hac hta;exact h2 _ _ _ ⟨rfl,ac,v,A,hac,hta,so,rfl,rfl⟩
   have hc:i < s.A7.length:=by have:=z_f hc;omega
   have hrl:=rl _ (YW hc);have hacl:=ED hac;have hfl:=D0 (s.A7.take i) (λt ht=>rl t (Yw ht));have hfl2:9 * (s.A7.take i).length≤27:=by rw[Yc];omega
   rw[ZU] at hacl;refine AI (λvs R' D'=>R' = R2∧∃ac v A,Ax l ((s.A7.take (i + 1)).flatMap (·.AB)) [] = some ac∧(s.A7.take (i + 1)).all EZ = true∧SO ac v A∧D' = A ++ ((b,C 28 cs) :: ([] ++ F))∧vs = [Pt b,.slice la l.length lc,v,I i]) (λK3 h3=>?_) ?_;rotate_left
   ·rintro e R3 D3 ⟨hR,ac,v,A,g1,g2,so,hD,he⟩;subst hR;rw[hD];clear hD;simp only[List.map,zc,zl,zj,z_t] at he;simp only[he];exact jad (hK (s.A7.length - (i + 1)) _ _ _ (by omega) ⟨rfl,i + 1,ac,v,A,by omega,rfl,g1,g2,so,rfl,rfl⟩)
   refine AI (λvs R' D'=>R' = R2∧∃ac v A,Ax l ((s.A7.take (i + 1)).flatMap (·.AB)) [] = some ac∧(s.A7.take (i + 1)).all EZ = true∧SO ac v A∧D' = A ++ ((b,C 28 cs) :: ([] ++ F))∧vs = [Pt b,.slice la l.length lc,v,I i]) (λK4 h4=>?_) ?_;rotate_left
   ·rintro e R3 D3 ⟨hR,ac,v,A,g1,g2,so,hD,he⟩;subst hR;rw[hD];clear hD;simp only[List.map,zc,zl,zj,z_t] at he;simp only[he];exact h3 _ _ _ ⟨rfl,ac,v,A,g1,g2,so,rfl,rfl⟩
   refine jl (v:=thv) c8 (jtr h.c.th hc λb2 o2 ty cs2 rv hrv hb2 ho2 hrow=>?_);refine Ie (l:=[rv,I (s.A7[i]).next,.bool (s.A7[i]).busy,I (s.A7[i]).Aq]) hb2 ho2 hrow (ja λb3=>?_);obtain⟨ra,rc,rfl⟩:=hrv.sl;refine js (cs':=[.slice ra (s.A7[i]).AB.length rc,I (s.A7[i]).next,.bool (s.A7[i]).busy,I (s.A7[i]).Aq]) rfl rfl (Ye rfl) rfl ?_;refine jor [Pt b,.slice la l.length lc,v,I i,Pt b3] ((decide (((s.A7[i]).AB.length:Int) > 8)) || (decide ((s.A7[i]).Aq < 0))) (λK' hK'=>?_) (λe c u ho he=>?_)
   ·refine jl (v:=.slice ra (s.A7[i]).AB.length rc) rfl (jln (jgr (BK (λh1=>?_) (λh1=>?_))))
    ·refine jl (v:=I (s.A7[i]).Aq) rfl (jlt (hK' _ _ _ (h1▸Ah) (by rw[h1,YM])))
    ·exact hK' _ _ _ (h1▸Ag) (by rw[h1,YP])
   simp only[List.map,zc,zl,zj,z_t] at he;simp only[he];refine jor [Pt b,.slice la l.length lc,v,I i,Pt b3] ((decide (((s.A7[i]).AB.length:Int) > 8) || decide ((s.A7[i]).Aq < 0)) || (decide ((s.A7[i]).Aq > 2))) (λK' hK'=>?_) (λe c u ho he=>?_)
   ·rw[ho];refine BK (λh1=>?_) (λh1=>?_)
    ·refine jl (v:=I (s.A7[i]).Aq) rfl (jgr (hK' _ _ _ (h1▸Ah) (by rw[h1,YM])))
    ·exact hK' _ _ _ (h1▸Ag) (by rw[h1,YP])
   simp only[List.map,zc,zl,zj,z_t] at he;simp only[he];rw[ho];have hthr:(decide (((s.A7[i]).AB.length:Int) > 8) || decide ((s.A7[i]).Aq < 0) || decide ((s.A7[i]).Aq > 2)) = !EZ s.A7[i]:=by
    unfold EZ;rw[Z4];simp only[Yp,Yl,Zp,z_d,decide_eq_false_iff_not];omega
   rw[hthr];refine jif (λg=>?_) (λg=>?_)
   ·refine fin hR1 (hno ?_);rw[ZN];intro hh;unfold Cj at hh;simp only[z_b] at hh;have:=Yr.1 hh.1.2 _ (YW hc);rw[this] at g;cases g
   have htok:(s.A7.take (i + 1)).all EZ = true:=by
    rw[YT hc,List.all_append,hta];simpa using g
   have hfe:(s.A7.take (i + 1)).flatMap (·.AB) = (s.A7.take i).flatMap (·.AB) ++ (s.A7[i]).AB:=by
    rw[YT hc,List.flatMap_append];simp
   have hre:∃rest,Dj s = (s.A7.take i).flatMap (·.AB) ++ ((s.A7[i]).AB ++ rest):=by
    refine⟨(s.A7.drop (i + 1)).flatMap (·.AB) ++ s.AM,?_⟩;unfold Dj
    conv=>lhs;rw[← Zc (i + 1) s.A7]
    rw[List.flatMap_append,hfe];simp
   obtain⟨rest,hre⟩:=hre;refine Ar A (G:=((b3,C 83 [.slice ra (s.A7[i]).AB.length rc,I (s.A7[i]).next,.bool (s.A7[i]).busy,I (s.A7[i]).Aq]) :: (b,C 28 cs) :: ([] ++ F))) ?_;refine AI (λvs R' D'=>R' = R2∧∃ac2 v A,Ax l (s.A7[i]).AB ac = some ac2∧SO ac2 v A∧D' = A ++ ((b,C 28 cs) :: ([] ++ F))∧vs = [Pt b,.slice la l.length lc,v,I i]) (λK5 h5=>?_) ?_;rotate_left
   ·rintro e R3 D3 ⟨hR,ac2,v2,A2,g1,so2,hD,he⟩;subst hR;rw[hD];clear hD;simp only[List.map,zc,zl,zj,z_t] at he;simp only[he];refine h4 _ _ _ ⟨rfl,ac2,v2,A2,?_,htok,so2,rfl,rfl⟩;rw[hfe,CP,hac];exact g1
   refine jlp (λm vs R' D'=>R' = R2∧∃(j:Nat) (ac2:List Int) (v:Value) (A:Chs),j≤(s.A7[i]).AB.length∧m = (s.A7[i]).AB.length - j∧Ax l ((s.A7[i]).AB.take j) ac = some ac2∧SO ac2 v A∧D' = A ++ ((b3,C 83 [.slice ra (s.A7[i]).AB.length rc,I (s.A7[i]).next,.bool (s.A7[i]).busy,I (s.A7[i]).Aq]) :: (b,C 28 cs) :: ([] ++ F))∧vs = [Pt b,.slice la l.length lc,v,I i,Pt b3,I j]) (n:=(s.A7[i]).AB.length) ⟨rfl,0,ac,v,A,by omega,rfl,rfl,so,rfl,rfl⟩ ?_;clear so ho he hmm hK;rintro m e R3 D3 K ⟨hR,j,ac2,v2,A2,hj,hmm,hac2,so2,hD,he⟩ hK;subst hR;rw[hD];clear hD;simp only[List.map,zc,zl,zj,z_t] at he;simp only[he];refine jl (v:=.slice ra (s.A7[i]).AB.length rc) rfl (jln (jlt (jif (λhc2=>?_) (λhc2=>?_))));rotate_left
   ·have hc2:=z_g hc2;rw[Yb (by omega)] at hac2;refine Ar A2 (G:=((b,C 28 cs) :: ([] ++ F))) ?_;exact h5 _ _ _ ⟨rfl,ac2,v2,A2,hac2,so2,rfl,rfl⟩
   have hc2:j < (s.A7[i]).AB.length:=by have:=z_f hc2;omega
   have hac2l:=ED hac2;rw[Yc] at hac2l;have hnx:Ax l ((s.A7[i]).AB.take (j + 1)) ac = (now l (s.A7[i]).AB[j]).bind λy=>some (Cm ac2 y):=by
    rw[YT hc2,CP,hac2];rfl
   refine jan [Pt b,.slice la l.length lc,v2,I i,Pt b3,I j] (((s.A7[i]).AB[j] != 0) && decide (OM l (s.A7[i]).AB[j] < 0)) (λK' hK'=>?_) (λe c u ho he=>?_)
   ·refine jl (v:=.slice ra (s.A7[i]).AB.length rc) rfl (CF hrv (by omega) (by omega) ?_);simp only[YN];refine jne (Bk (λg=>?_) (λg=>?_))
    ·refine jl (v:=.slice ra (s.A7[i]).AB.length rc) rfl (CF hrv (by omega) (by omega) ?_);simp only[YN];exact jrp (Df _ htg (by omega)) (jlt (hK' _ _ _ (g▸Ak) (by rw[g,YX])))
    ·exact hK' _ _ _ (g▸As) (by rw[g,Ya])
   simp only[List.map,zc,zl,zj,z_t] at he;simp only[he];rw[ho];refine jif (λg=>?_) (λg=>?_)
   ·refine fin hR1 (hbadr ?_);simp only[z_b,bne_iff_ne,z_d] at g;have hnn:now l (s.A7[i]).AB[j] = none:=by
     unfold now;rw[if_neg g.1];cases hf:BU l (s.A7[i]).AB[j] with
     | none=>rfl
     | some t=>obtain⟨q,_,e,_⟩:=E8 hf;omega
    rw[hre,CP,hac,z_o,CP]
    conv=>lhs;rw[← Zc (j + 1) (s.A7[i]).AB,CP,hnx,hnn]
    rfl
   obtain⟨x,hx⟩:∃x,now l (s.A7[i]).AB[j] = some x:=by
    unfold now;by_cases g0:(s.A7[i]).AB[j] = 0
    ·exact⟨0,by rw[if_pos g0]⟩
    ·rw[if_neg g0];cases hf:BU l (s.A7[i]).AB[j] with
     | none=>rw[GM hf] at g;simp[g0] at g
     | some t=>exact⟨_,rfl⟩
   refine jl (v:=.slice ra (s.A7[i]).AB.length rc) rfl (CF hrv (by omega) (by omega) ?_);simp only[YN];refine jrp (GJ htg (by omega) hx) ?_;refine jc (A:=A2) (KL x so2 (by omega)) ?_;rintro v3 R4 A3 _ ⟨hR,so3⟩;subst hR;refine jad ?_;refine hK ((s.A7[i]).AB.length - (j + 1)) _ _ _ (by omega) ⟨rfl,j + 1,_,v3,A3,by omega,rfl,?_,so3,rfl,rfl⟩;rw[hnx,hx];rfl
  rintro e R2 D2 ⟨hR,ac,v,A,hac,hta,so,hD,he⟩;subst hR;rw[hD];clear hD;simp only[List.map,zc,zl,zj,z_t] at he;simp only[he];have hacl:=ED hac;have hfl:=D0 s.A7 rl;have hfl2:9 * s.A7.length≤27:=by omega
  rw[ZU] at hacl;obtain⟨pa,pc,rfl⟩:=h.c.p.sl;refine jl (v:=.slice pa s.AM.length pc) c10 (jln (jgr (jif (λg=>?_) (λg=>?_))))
  ·refine fin hR1 (hno ?_);rw[ZN];intro hh;unfold Cj at hh;simp only[z_b,z_d] at hh;have:=z_f g;omega
  have hpl:s.AM.length≤8:=by have:=z_g g;omega
  refine AI (λvs R' D'=>R' = R2∧∃out v A,Ax l (Dj s) [] = some out∧s.AM.all (Dm s l) = true∧SO out v A∧D' = A ++ ((b,C 28 cs) :: ([] ++ F))∧vs = [.slice la l.length lc,v]) (λK1 h1=>?_) ?_
  ·refine AI (λvs R' D'=>R' = R2∧∃out v A,Ax l (Dj s) [] = some out∧s.AM.all (Dm s l) = true∧SO out v A∧D' = A ++ ((b,C 28 cs) :: ([] ++ F))∧vs = [.slice la l.length lc,v]) (λK2 h2=>?_) ?_;rotate_left
   ·rintro e R3 D3 ⟨hR,ac,v,A,g1,g2,so,hD,he⟩;subst hR;rw[hD];clear hD;simp only[List.map,zc,zl,zj,z_t] at he;simp only[he];exact h1 _ _ _ ⟨rfl,ac,v,A,g1,g2,so,rfl,rfl⟩
   refine jlp (λm vs R' D'=>R' = R2∧∃(i:Nat) (v:Value) (A:Chs),i≤s.AM.length∧m = s.AM.length - i∧(s.AM.take i).all (Dm s l) = true∧SO ((s.AM.take i).foldl Cm ac) v A∧D' = A ++ ((b,C 28 cs) :: ([] ++ F))∧vs = [Pt b,.slice la l.length lc,v,I i]) (n:=s.AM.length) ⟨rfl,0,v,A,by omega,rfl,rfl,so,rfl,rfl⟩ ?_;clear so;rintro m e R3 D3 K ⟨hR,i,v,A,hi,hmm,hpa,so,hD,he⟩ hK;subst hR;rw[hD];clear hD;simp only[List.map,zc,zl,zj,z_t] at he;simp only[he];refine jl (v:=.slice pa s.AM.length pc) c10 (jln (jlt (jif (λhc=>?_) (λhc=>?_))));rotate_left
   ·have hc:=z_g hc;rw[Yb (by omega)] at hpa so;refine h2 _ _ _ ⟨rfl,_,v,A,?_,hpa,so,rfl,rfl⟩;unfold Dj;rw[CP,hac];exact KM hpa
   have hc:i < s.AM.length:=by have:=z_f hc;omega
   have bad:Dm s l s.AM[i] = false→Cj s l = false:=λhh=>by
    rw[ZN];intro g;unfold Cj at g;simp only[z_b] at g;have:=Yr.1 g.2 _ (YW hc);rw[hh] at this;cases this
   have hsl:((s.AM.take i).foldl Cm ac).length < 1000000:=by
    have:=ED (KM (acc:=ac) hpa);rw[Yc] at this;omega
   refine jl (v:=.slice pa s.AM.length pc) c10 (CF h.c.p (by omega) (by omega) ?_);simp only[YN];refine jrp (Df _ htg (by omega)) ?_;cases hf:BU l s.AM[i] with
   | none=>
    rw[GM hf];refine Bq [Pt b,.slice la l.length lc,v,I i,.bool true] (λK' hK'=>?_) (λe he=>?_)
    ·refine Bq [Pt b,.slice la l.length lc,v,I i,I (-1),.bool true,U] (λK' hK'=>?_) (λe he=>?_)
     ·exact jlt (jtf hK')
     simp only[List.map,zc,zl,zj,z_t] at he;simp only[he];refine Bq [Pt b,.slice la l.length lc,v,I i,.bool true,U,U,U] (λK' hK'=>?_) (λe he=>?_)
     ·exact jtf hK'
     simp only[List.map,zc,zl,zj,z_t] at he;simp only[he];exact jtf (Ad jev hK')
    simp only[List.map,zc,zl,zj,z_t] at he;simp only[he];exact DA (fin hR1 (hno (bad (by unfold Dm;rw[hf]))))
   | some n=>
    obtain⟨k,hk,hfk,hn⟩:=E8 hf;subst hn;rw[hfk];obtain⟨hkm,hka⟩:=Cq hf;have hpo:Dm s l s.AM[i] = (!((l[k]).moved != (l[k]).at_) && !DR s (l[k]).at_):=by
     unfold Dm;rw[hf];dsimp only;rw[hka];unfold bne;cases (l[k]).moved == s.AM[i]<;>rfl
    obtain⟨r2,e2,hr2,f2⟩:=Ij hs hkm (by omega);refine Bq [Pt b,.slice la l.length lc,v,I i,.bool (!Dm s l s.AM[i])] (λK' hK'=>?_) (λe he=>?_)
    ·refine Bq [Pt b,.slice la l.length lc,v,I i,I k,.bool false,.bool ((l[k]).moved != (l[k]).at_)] (λK' hK'=>?_) (λe he=>?_)
     ·refine jlt ?_;rw[show decide ((k:Int) < 0) = false from decide_eq_false (by omega)];exact jff (VE htg hk (SP htg hk (jne hK')))
     simp only[List.map,zc,zl,zj,z_t] at he;simp only[he];cases c4:((l[k]).moved != (l[k]).at_) with
     | true=>
      refine Bq [Pt b,.slice la l.length lc,v,I i,.bool true,U,U,U] (λK' hK'=>?_) (λe he=>?_)
      ·exact jtf hK'
      simp only[List.map,zc,zl,zj,z_t] at he;simp only[he];rw[hpo,c4] at hK';exact jtf (Ad jev hK')
     | false=>
      refine Bq [Pt b,.slice la l.length lc,v,I i,.bool false,.pointer (some ⟨b,0 + 1,none⟩),S0 tb s.A0.length tc,I (l[k]).at_] (λK' hK'=>?_) (λe he=>?_)
      ·exact jff (jfo (jl (v:=S0 tb s.A0.length tc) (by rw[Yi];exact c1) (SP htg hk hK')))
      simp only[List.map,zc,zl,zj,z_t] at he;simp only[he];refine jff (jp (CB _ (by omega)) ?_);rw[e2];refine jrk h.z hr2 (jeq ?_);rw[hpo,c4,f2] at hK';refine Ad (jl (v:=S0 tb s.A0.length tc) (by rw[Yi];exact c1) jev) ?_;cases c5:((s.A0[r2]).kind == 4)<;>(rw[c5] at hK';exact hK')
    simp only[List.map,zc,zl,zj,z_t] at he;simp only[he];refine jif (λg=>?_) (λg=>?_)
    ·exact fin hR1 (hno (bad (by simpa using g)))
    have hok:Dm s l s.AM[i] = true:=by simpa using g
    refine jl (v:=.slice pa s.AM.length pc) c10 (CF h.c.p (by omega) (by omega) ?_);simp only[YN];refine jc (A:=A) (KL s.AM[i] so hsl) ?_;rintro v3 R4 A3 _ ⟨hR,so3⟩;subst hR;refine jad ?_;refine hK (s.AM.length - (i + 1)) _ _ _ (by omega) ⟨rfl,i + 1,v3,A3,by omega,rfl,?_,?_,rfl,rfl⟩
    ·rw[YT hc,List.all_append,hpa];simpa using hok
    ·rw[YT hc,List.foldl_append];exact so3
  rintro e R3 D3 ⟨hR,out,v,A,hout,hpa,so,hD,he⟩;subst hR;rw[hD];clear hD;simp only[List.map,zc,zl,zj,z_t] at he;simp only[he];have M0:DN l out:=DN.nil.all S hout;have hhead:Cj s l = true:=by
   unfold Cj;simp only[z_b,z_d];exact⟨⟨⟨⟨⟨⟨⟨Ii,by omega⟩,by omega⟩,by omega⟩,by omega⟩,by omega⟩,hta⟩,hpa⟩
  have hho:CK s = (Ba l (l.length + 2) 0 out).map λm=>(l,m):=by
   unfold CK;rw[hth0,hs];dsimp only;rw[if_pos hhead,FF hpa,hout];rfl
  refine jlp (λm vs R' D'=>R' = R3∧∃(i:Nat) (ac:List Int) (v:Value) (A:Chs),i≤ac.length∧m = l.length + 2 - i∧Ba l (l.length + 2 - i) i ac = Ba l (l.length + 2) 0 out∧DN l ac∧SO ac v A∧D' = A ++ ((b,C 28 cs) :: ([] ++ F))∧vs = [.slice la l.length lc,v,I i]) (n:=l.length + 2) ⟨rfl,0,out,v,A,by omega,by omega,rfl,M0,so,rfl,rfl⟩ ?_;clear so hac hacl;rintro m e R4 D4 K ⟨hR,i,ac,v,A,hi,hmm,hrl,M,so,hD,he⟩ hK;subst hR;rw[hD];clear hD;simp only[List.map,zc,zl,zj,z_t] at he;simp only[he];have hal:=M.len;obtain⟨va,vc,hvv⟩:=so.sln;refine Ch ⟨va,vc,hvv⟩ (jlt (jif (λhc=>?_) (λhc=>?_)));rotate_left
  ·have hc:=z_g hc;obtain⟨q,hq⟩:∃q,l.length + 2 - i = q + 1:=⟨l.length + 1 - i,by omega⟩;rw[hq,Ek (by omega)] at hrl;refine fin hR1 ?_;rw[hho,← hrl];rfl
  have hc:i < ac.length:=by have:=z_f hc;omega
  obtain⟨t,ht⟩:=M.th _ (YW hc);obtain⟨htm,hta'⟩:=Cq ht;obtain⟨q,hq⟩:∃q,l.length + 2 - i = q + 1:=⟨l.length + 1 - i,by omega⟩;rw[hq,EP hc ht] at hrl;have htb:=tbl t htm;refine AI (λvs R' D'=>R' = R4∧∃ac2 v A,Ax l t.refs ac = some ac2∧SO ac2 v A∧D' = A ++ ((b,C 28 cs) :: ([] ++ F))∧vs = [.slice la l.length lc,v,I i]) (λK3 h3=>?_) ?_;rotate_left
  ·rintro e R5 D5 ⟨hR,ac2,v2,A2,hn,so2,hD,he⟩;subst hR;rw[hD];clear hD;simp only[List.map,zc,zl,zj,z_t] at he;simp only[he];rw[hn,z_o] at hrl;have M2:=M.all S hn;have:=M2.len;have hge:=DV hn;exact jad (hK q _ _ _ (by omega) ⟨rfl,i + 1,ac2,v2,A2,by omega,by omega,by rw[← hrl];congr 1;omega,M2,so2,rfl,rfl⟩)
  refine AI (λvs R' D'=>R' = R4∧∃ac2 v A,Ax l t.refs ac = some ac2∧SO ac2 v A∧D' = A ++ ((b,C 28 cs) :: ([] ++ F))∧vs = [.slice la l.length lc,v,I i]) (λK4 h4=>?_) ?_;rotate_left
  ·rintro e R5 D5 ⟨hR,ac2,v2,A2,hn,so2,hD,he⟩;subst hR;rw[hD];clear hD;simp only[List.map,zc,zl,zj,z_t] at he;simp only[he];exact h3 _ _ _ ⟨rfl,ac2,v2,A2,hn,so2,rfl,rfl⟩
  refine XK so hc (jrp (Df _ htg (by omega)) ?_);obtain⟨k,hk,hfk,hn⟩:=E8 ht;rw[hfk];refine jtg htg hk λb2 o2 ty cs2 rv nv hrv hnv hb2 ho2 hrow=>?_
  rw[hn] at hrv hnv hrow;obtain⟨ra,rc,rfl⟩:=hrv.sl;obtain⟨na,nc,rfl⟩:=hnv.sl;refine Ie (l:=eTh t (.slice ra t.refs.length rc) (.slice na t.nums.length nc)) hb2 ho2 hrow (ja λb3=>?_);refine js (cs':=eTh t (.slice ra t.refs.length rc) (.slice na t.nums.length nc)) rfl rfl (by exact z_n 6) rfl ?_;refine Ar A (G:=((b3,C 62 (eTh t (.slice ra t.refs.length rc) (.slice na t.nums.length nc))) :: (b,C 28 cs) :: ([] ++ F))) ?_;refine AI (λvs R' D'=>R' = R4∧∃ac2 v A,Ax l t.refs ac = some ac2∧SO ac2 v A∧D' = A ++ ((b,C 28 cs) :: ([] ++ F))∧vs = [.slice la l.length lc,v,I i]) (λK5 h5=>?_) ?_;rotate_left
  ·rintro e R5 D5 ⟨hR,ac2,v2,A2,hn,so2,hD,he⟩;subst hR;rw[hD];clear hD;simp only[List.map,zc,zl,zj,z_t] at he;simp only[he];exact h4 _ _ _ ⟨rfl,ac2,v2,A2,hn,so2,rfl,rfl⟩
  refine jlp (λm vs R' D'=>R' = R4∧∃(j:Nat) (ac2:List Int) (v:Value) (A:Chs),j≤t.refs.length∧m = t.refs.length - j∧Ax l (t.refs.take j) ac = some ac2∧SO ac2 v A∧D' = A ++ ((b3,C 62 (eTh t (.slice ra t.refs.length rc) (.slice na t.nums.length nc))) :: (b,C 28 cs) :: ([] ++ F))∧vs = [.slice la l.length lc,v,I i,Pt b3,I j]) (n:=t.refs.length) ⟨rfl,0,ac,v,A,by omega,rfl,rfl,so,rfl,rfl⟩ ?_;clear so hmm hK he;rintro m e R5 D5 K ⟨hR,j,ac2,v2,A2,hj,hmm,hac2,so2,hD,he⟩ hK;subst hR;rw[hD];clear hD;simp only[List.map,zc,zl,zj,z_t] at he;simp only[he];refine jl (v:=.slice ra t.refs.length rc) rfl (jln (jlt (jif (λhc2=>?_) (λhc2=>?_))));rotate_left
  ·have hc2:=z_g hc2;rw[Yb (by omega)] at hac2;refine Ar A2 (G:=((b,C 28 cs) :: ([] ++ F))) ?_;exact h5 _ _ _ ⟨rfl,ac2,v2,A2,hac2,so2,rfl,rfl⟩
  have hc2:j < t.refs.length:=by have:=z_f hc2;omega
  have hac2l:=ED hac2;rw[Yc] at hac2l;have hnx:Ax l (t.refs.take (j + 1)) ac = (now l t.refs[j]).bind λy=>some (Cm ac2 y):=by
   rw[YT hc2,CP,hac2];rfl
  refine jan [.slice la l.length lc,v2,I i,Pt b3,I j] ((t.refs[j] != 0) && decide (OM l t.refs[j] < 0)) (λK' hK'=>?_) (λe c u ho he=>?_)
  ·refine jl (v:=.slice ra t.refs.length rc) rfl (CF hrv (by omega) (by omega) ?_);simp only[YN];refine jne (Bk (λg=>?_) (λg=>?_))
   ·refine jl (v:=.slice ra t.refs.length rc) rfl (CF hrv (by omega) (by omega) ?_);simp only[YN];exact jrp (Df _ htg (by omega)) (jlt (hK' _ _ _ (g▸Ak) (by rw[g,YX])))
   ·exact hK' _ _ _ (g▸As) (by rw[g,Ya])
  simp only[List.map,zc,zl,zj,z_t] at he;simp only[he];rw[ho];refine jif (λg=>?_) (λg=>?_)
  ·refine fin hR1 ?_;simp only[z_b,bne_iff_ne,z_d] at g;have hnn:now l t.refs[j] = none:=by
    unfold now;rw[if_neg g.1];cases hf:BU l t.refs[j] with
    | none=>rfl
    | some t=>obtain⟨q,_,e,_⟩:=E8 hf;omega
   have:Ax l t.refs ac = none:=by
    conv=>lhs;rw[← Zc (j + 1) t.refs,CP,hnx,hnn]
    rfl
   rw[this] at hrl;rw[hho,← hrl];rfl
  obtain⟨x,hx⟩:∃x,now l t.refs[j] = some x:=by
   unfold now;by_cases g0:t.refs[j] = 0
   ·exact⟨0,by rw[if_pos g0]⟩
   ·rw[if_neg g0];cases hf:BU l t.refs[j] with
    | none=>rw[GM hf] at g;simp[g0] at g
    | some t=>exact⟨_,rfl⟩
  refine jl (v:=.slice ra t.refs.length rc) rfl (CF hrv (by omega) (by omega) ?_);simp only[YN];refine jrp (GJ htg (by omega) hx) ?_;refine jc (A:=A2) (KL x so2 (by omega)) ?_;rintro v3 R6 A3 _ ⟨hR,so3⟩;subst hR;refine jad ?_;refine hK (t.refs.length - (j + 1)) _ _ _ (by omega) ⟨rfl,j + 1,_,v3,A3,by omega,rfl,?_,so3,rfl,rfl⟩;rw[hnx,hx];rfl
end st
end Go.Lf
end
section
namespace Go.Lf
open Go Sm
section st
variable {R:RM} {s:Sm.BE} {wv tv mv thv ov pv:Value}
def QLv (r:Option (List AX × List Int)) (v:Value) (A:Chs):Prop:=match r with
 | none=>v = .tuple #[.slice none 0 0,.bool false]∧A = []
 | some (_,met)=>∃sv,SO (B8 met) sv A∧v = .tuple #[sv,.bool true]
theorem Hw {l:List AX} (h:SF R s wv tv mv thv ov pv) (hl:ES s = some l):l.length≤192∧TB l:=by
 have h1:=hl;unfold ES at h1;split at h1;rotate_left
 ·cases h1
 unfold B9 at h1;have h2:=Lh (by have:=h.b.wl;have:=h.b.t1;omega) h1;have:=h.b.t1;rw[Z8] at h2;exact⟨by omega,h2.1⟩
set_option maxRecDepth 4000 in
theorem NP (h:SF R s wv tv mv thv ov pv):Fn P Ho [.agg (eSt s wv tv mv thv ov pv).toArray] R [] (λv R' A=>QLv (CK s) v A):=by
 refine OJ λF=>?_
 unfold IW;refine ja λb=>jla (l:=eSt s wv tv mv thv ov pv) (by exact z_n 13) rfl ?_
 refine jc (A:=[]) (KU h) ?_;rintro x R1 _ hR ⟨rfl,hq⟩;cases hh:CK s with
 | none=>
  rw[hh] at hq;obtain rfl:x = _:=hq;exact jxr (λw=>WA w _ _) (DA (Ay (A:=[]) hR ⟨rfl,rfl⟩))
 | some q=>
  obtain⟨l,met⟩:=q;rw[hh] at hq;obtain⟨hb,mb,v,rfl,hv⟩:=hq;have hf:=DX hh;have:=hf.M.len;have:=(Hw h hf.ths).1;refine jxr (λw=>WE w _ _ hb) (CY ?_);refine jc (A:=[]) (UA hv hf.M.nd (by omega)) ?_;rintro sv R2 A2 _ ⟨hR2,so⟩;subst hR2;exact Ay (A:=A2) hR ⟨sv,so,rfl⟩
theorem QC (h:SF R s wv tv mv thv ov pv):Fn P He [.agg (eSt s wv tv mv thv ov pv).toArray] R [] (λv R' A=>QLv (CK s) v A):=by
 refine No λF=>?_
 unfold IV;refine ja λb=>jla (l:=eSt s wv tv mv thv ov pv) (by exact z_n 13) rfl (jrp (NA h) ?_)
 cases hh:CK s with
 | none=>exact DA (Ay (A:=[]) (RM.le.refl R) ⟨rfl,rfl⟩)
 | some q=>
  obtain⟨l,met⟩:=q;have hf:=DX hh;obtain⟨hll,tbl⟩:=Hw h hf.ths;have hml:=hf.M.len;have t1:=h.b.t1;have wl:=h.b.wl;have n1:=h.b.n1;have rl:=h.b.rl;have pl:=h.b.pl;have hth:B9 s = some l:=by
   have h1:=hf.ths;unfold ES at h1;split at h1
   ·exact h1
   ·cases h1
  refine CY (jla (l:=eSt s wv tv mv thv ov pv) (by exact z_n 13) rfl ?_);refine jc (A:=[]) (H4 h.c (by omega) (by omega)) ?_;rintro _ R1 _ hR1 ⟨rfl,hq⟩;rw[hth] at hq;obtain⟨lv,htg,rfl⟩:=hq;refine jex rfl (jex rfl (jla (l:=eSt s wv tv mv thv ov pv) (by exact z_n 13) rfl ?_));refine jc (A:=[]) (Jc (h.le hR1).c htg (by omega) hf.re (by omega) (λt ht=>by have:=rl t ht;omega) (by omega) (λt ht=>by have:=tbl t ht;omega)) ?_;rintro rv R2 A2 hR2 so;refine F5 so λR3 hR3 hi=>?_
  refine jc (A:=[]) (Ld hi (by omega)) ?_;rintro sv R4 A4 _ ⟨hR,so4⟩;subst hR;exact Ay (A:=A4) (hR1.trans (hR2.trans hR3)) ⟨sv,so4,rfl⟩
end st
section rules
variable {R:RM} {D:Chs} {k:Value→M}
theorem YI {lv:List Nat} {B:(List Value→M)→Env→M} {vs:List Value} (n:Nat) (q:Nat→List Value→Prop) (h0:q 0 vs)
  (H:∀(i:Nat) K e,i≤n→q i (lv.map e)→(∀vs',i < n→q (i + 1) vs'→J R D (K vs'))→J R D (B K e)):J R D (LP lv B vs):=by
 refine jlp (λm vs R' D'=>R' = R∧D' = D∧∃i:Nat,i≤n∧m = n - i∧q i vs) (n:=n) ⟨rfl,rfl,0,by omega,by omega,h0⟩ ?_;rintro m e R1 D1 K ⟨hR,hD,i,hi,hm,hp⟩ hK;subst hR hD;exact H i K e hi hp (λvs' h hp'=>hK (n - (i + 1)) _ _ _ (by omega) ⟨rfl,rfl,i + 1,by omega,rfl,hp'⟩)
end rules
def DSF (x:Value) (R:RM):Prop:=∃(s:Sm.BE) (wv tv mv thv ov pv:Value),x = .agg (eSt s wv tv mv thv ov pv).toArray∧SF R s wv tv mv thv ov pv
theorem XB {R R' : RM} {rb:Nat} {v:Value} {m c:Int} {x:Value} {A F:Chs} {mm:M} (h:DSt R rb v m c x R' A) (H:∀R2,R'.le R2→DSF x R2→J R2 F mm):J R' (A ++ F) mm:=by
 obtain⟨s,wv,mv,thv,ov,pv,tb,tc,tsp,m',sb,hw,hm,hth,hov,hpv,htc,_,_,rfl,rfl⟩:=h;show J R' ((rb,rdO v m') :: (tb,C AH (AZ eRg s.A0 ++ tsp)) :: F) mm;refine Bu (Be (b:=tb) λR2 hR2 hb=>?_);exact H R2 hR2 ⟨s,wv,_,mv,thv,ov,pv,rfl,⟨hw.le hR2,Uy hb htc,hm.le hR2,hth.le hR2,hov.le hR2,hpv.le hR2⟩,⟨tb,tc,tsp,rfl,hb,htc⟩,sb⟩
theorem DSF.cut {x:Value} {R:RM} (h:DSF x R):∃(s:Sm.BE) (wa:Option Addr) (wc tb tc:Nat) (ma:Option Addr) (mc:Nat) (ta:Option Addr) (thc:Nat) (oa:Option Addr) (oc:Nat) (pa:Option Addr) (pc:Nat),x = .agg (eSt s (.slice wa s.A6.length wc) (S0 tb s.A0.length tc) (.slice ma s.AN.length mc) (.slice ta s.A7.length thc) (.slice oa s.old.length oc) (.slice pa s.AM.length pc)).toArray∧SF R s (.slice wa s.A6.length wc) (S0 tb s.A0.length tc) (.slice ma s.AN.length mc) (.slice ta s.A7.length thc) (.slice oa s.old.length oc) (.slice pa s.AM.length pc):=by
 obtain⟨s,wv,tv,mv,thv,ov,pv,rfl,h⟩:=h;obtain⟨tb,tc,sp,rfl,hb,htc⟩:=h.z;obtain⟨wa,wc,rfl⟩:=h.c.w.sl;obtain⟨ma,mc,rfl⟩:=h.c.m.sl;obtain⟨tha,thc,rfl⟩:=h.c.th.sl;obtain⟨oa,oc,rfl⟩:=h.c.o.sl;obtain⟨pa,pc,rfl⟩:=h.c.p.sl;exact⟨s,wa,wc,tb,tc,ma,mc,tha,thc,oa,oc,pa,pc,rfl,h⟩
theorem X7 {x:Value} {R:RM} {F:Chs} {b:Nat} {k:Value→M} (h:DSF x R) (H:J R F (k x)):J R ((b,C 28 (cl z28)) :: F) (ST 13 (Pt b) x (LA 13 (Pt b) k)):=by
 obtain⟨s,wa,wc,tb,tc,ma,mc,tha,thc,oa,oc,pa,pc,rfl,h⟩:=h.cut;refine js (cs':=eSt s (.slice wa s.A6.length wc) (S0 tb s.A0.length tc) (.slice ma s.AN.length mc) (.slice tha s.A7.length thc) (.slice oa s.old.length oc) (.slice pa s.AM.length pc)) rfl rfl (by exact z_n 13) rfl ?_;exact jla (l:=eSt s (.slice wa s.A6.length wc) (S0 tb s.A0.length tc) (.slice ma s.AN.length mc) (.slice tha s.A7.length thc) (.slice oa s.old.length oc) (.slice pa s.AM.length pc)) (by exact z_n 13) rfl (Bu H)
end Go.Lf
end
section
namespace Sm
open Go.Lf
theorem LG {a b:List Int} (h:a.Perm b):a.sum = b.sum:=by
 induction h with
 | nil=>rfl
 | cons x _ ih=>rw[List.sum_cons,List.sum_cons,ih]
 | swap x y l=>simp only[List.sum_cons];omega
 | trans _ _ h1 h2=>exact h1.trans h2
def szA (l:List AX) (a:Int):Int:=((BU l a).map λt=>AD t.sh).getD 0
def Bc (l:List AX) (xs:List Int):Int:=(xs.map (szA l)).sum
def DF (l:List AX):Int:=(l.map λt=>AD t.sh).sum
theorem Iv {l:List AX} {a:Int} {t:AX} (h:BU l a = some t):szA l a = AD t.sh:=by
 unfold szA;rw[h];rfl
theorem VF (l:List AX) (a:Int):0≤szA l a∧szA l a≤10:=by
 unfold szA;cases BU l a with
 | none=>exact⟨by decide,by decide⟩
 | some t=>exact Di t.sh
theorem F1 {l:List AX}:∀xs:List Int,0≤Bc l xs∧Bc l xs≤10 * xs.length
 | []=>⟨by simp[Bc],by simp[Bc]⟩
 | x :: xs=>by
  have h1:=VF l x;have h2:=F1 (l:=l) xs;unfold Bc at h2 ⊢;rw[ZF,List.sum_cons,Yj];omega
theorem HD {l:List AX} {xs:List Int} {i:Nat} (h:i < xs.length):Bc l (xs.take (i + 1)) = Bc l (xs.take i) + szA l xs[i]:=by
 unfold Bc;rw[YT h,ZK,List.sum_append];simp
theorem Kl:∀{l:List AX} {xs:List Int},(l.map AX.at_).Nodup→xs.Nodup→(∀a∈xs,∃t,BU l a = some t)→Bc l xs≤DF l
 | [],xs,_,_,h=>by
  cases xs with
  | nil=>exact Yz _
  | cons x xs=>obtain⟨t,ht⟩:=h x (.head _);cases ht
 | t :: l,xs,hn,hx,h=>by
  rw[ZF,ZL] at hn;have hsz:=Di t.sh;have key:∀ys:List Int,t.at_ ∉ ys→Bc (t :: l) ys = Bc l ys:=λys hy=>by
   unfold Bc;congr 1;apply List.map_congr_left;intro a ha;unfold szA BU;rw[ZY];simpa using λe:t.at_ = a=>hy (e▸ha)
  have sub:∀ys:List Int,t.at_ ∉ ys→(∀a∈ys,a∈xs)→∀a∈ys,∃t,BU l a = some t:=λys hy hs a ha=>by
   obtain⟨t',ht'⟩:=h a (hs a ha);unfold BU at ht';rw[ZY (by simpa using λe:t.at_ = a=>hy (e▸ha))] at ht';exact⟨t',ht'⟩
  unfold DF;rw[ZF,List.sum_cons];by_cases c:t.at_∈xs
  ·have p:=List.perm_cons_erase c;have e:Bc (t :: l) xs = szA (t :: l) t.at_ + Bc (t :: l) (xs.erase t.at_):=by
    unfold Bc;rw[LG (p.map _),ZF,List.sum_cons]
   have hnm:t.at_ ∉ xs.erase t.at_:=λhm=>((hx.mem_erase_iff).1 hm).1 rfl
   have ih:=Kl (l:=l) (xs:=xs.erase t.at_) hn.2 (hx.erase _) (sub _ hnm λa ha=>List.mem_of_mem_erase ha);have e2:szA (t :: l) t.at_ = AD t.sh:=Iv (by unfold BU;rw[Zm (by simp)]);rw[e,key _ hnm,e2];unfold DF at ih;omega
  ·have ih:=Kl (l:=l) (xs:=xs) hn.2 hx (sub _ c λa ha=>ha);rw[key _ c];unfold DF at ih;omega
def Cg:Nat→List Rg→Int
 | _,[]=>0
 | r,x :: t=>x.top - AE r + Cg (r + 1) t
theorem PF {w:List Int}:∀{n:Nat} {a top:Int} {l:List AX},a≤top→Ai w n a top = some l→DF l = top - a
 | 0,a,top,l,ha,h=>by
  unfold Ai at h;split at h
  ·cases h
  ·cases h;unfold DF;simp;omega
 | n + 1,a,top,l,ha,h=>by
  unfold Ai at h;split at h;rotate_left
  ·cases h;unfold DF;simp;omega
  dsimp only at h;split at h;rotate_left
  ·cases h
  rename_i h1 h2;simp only[z_b,z_d] at h2;cases ht:Ai w n (a + AD (B7 w a).1.sh) top with
  | none=>rw[ht] at h;cases h
  | some l2=>
   rw[ht] at h;cases h;have ih:=PF h2.2 ht;unfold DF at ih ⊢;rw[ZF,List.sum_cons,ih];omega
theorem NR {w:List Int}:∀{t:List Rg} {r:Nat} {l:List AX},BT w r t = some l→DF l = Cg r t
 | [],r,l,h=>by cases h;rfl
 | x :: t,r,l,h=>by
  unfold BT at h;cases h1:BC w r x.top with
  | none=>rw[h1] at h;cases h
  | some a=>
   rw[h1] at h;dsimp only at h;cases h2:BT w (r + 1) t with
   | none=>rw[h2] at h;cases h
   | some b=>
    rw[h2] at h;cases h;have e1:DF a = x.top - AE r:=by
     unfold BC at h1;split at h1
     ·rename_i c;simp only[z_b,z_d] at c;exact PF c.1.2 h1
     ·cases h1
    have e2:=NR h2;unfold DF at e1 e2 ⊢;unfold Cg;rw[ZK,List.sum_append,e1,e2]
theorem HH:∀{a b:List Rg} {r:Nat},Cg r (a ++ b) = Cg r a + Cg (r + a.length) b
 | [],b,r=>by simp[Cg]
 | x :: a,b,r=>by
  show x.top - AE r + Cg (r + 1) (a ++ b) = x.top - AE r + Cg (r + 1) a + Cg (r + (a.length + 1)) b;rw[HH,show r + 1 + a.length = r + (a.length + 1) from by omega];omega
end Sm
namespace Go.Lf
open Go Sm
section st
variable {R:RM} {s:Sm.BE} {wv tv mv thv ov pv:Value}
def Dk (s:Sm.BE):Int × Int:=match CK s with
 | none=>(0,0)
 | some (l,met)=>(Bc l met,DF l)
theorem Tw {l:List AX} {met:List Int} (hf:HpF s l met):B9 s = some l:=by
 have h1:=hf.ths;unfold ES at h1;split at h1
 ·exact h1
 ·cases h1
theorem WD {l:List AX} {met:List Int} (hf:HpF s l met) {a:Int} (ha:a∈met):∃t,BU l a = some t∧B7 s.A6 a = (t,true):=by
 obtain⟨t,ht⟩:=hf.M.th a ha;obtain⟨h1,h2⟩:=Cq ht;have h3:=Tw hf;unfold B9 at h3;have:=((FM h3).2 t h1).2.2.1;rw[h2] at this;exact⟨t,ht,this⟩
set_option maxHeartbeats 1000000 in
set_option maxRecDepth 4000 in
theorem KQ (h:SF R s wv tv mv thv ov pv):Ro Fx [.agg (eSt s wv tv mv thv ov pv).toArray] (.tuple #[I (Dk s).1,I (Dk s).2]) R []:=by
 refine Ln λF=>?_
 unfold Fs;refine ja λb=>jla (l:=eSt s wv tv mv thv ov pv) (by exact z_n 13) rfl ?_
 refine jc (A:=[]) (KU h) ?_;rintro x R1 _ hR ⟨rfl,hq⟩;unfold Dk;cases hh:CK s with
 | none=>
  rw[hh] at hq;obtain rfl:x = _:=hq;exact jxr (λw=>WA w _ _) (DA (Ay (A:=[]) hR ⟨rfl,rfl⟩))
 | some q=>
  obtain⟨l,met⟩:=q;rw[hh] at hq;obtain⟨hb,mb,v,rfl,o,g1,g2,g3,g4⟩:=hq;have hf:=DX hh;have hml:=hf.M.len;obtain⟨hll,tbl⟩:=Hw h hf.ths;obtain⟨va,vc,rfl⟩:=g4.sl;obtain⟨ps,hmg,hp2,hp3⟩:=g3;dsimp only;refine jxr (λw=>WE w _ _ hb) (CY ?_);refine Bq [Pt hb,I (Bc l met),I 0] (λK1 h1=>?_) (λe he=>?_)
  ·refine jnc (jfo (jlr (v:=.slice va met.length vc) g1 rfl (jln ?_)));refine Bq [Pt hb,I (Bc l met),I 0] (λK2 h2=>?_) (λe he=>?_)
   ·refine YI met.length (λi vs=>vs = [Pt hb,I (Bc l (met.take i)),I 0,.slice va met.length vc,I met.length,I i]) rfl (λi K e hi he hK=>?_);simp only[List.map,zc,zl,zj,z_t] at he;simp only[he];refine jlt (jif (λhc=>?_) (λhc=>?_));rotate_left
    ·have hc:=z_g hc;rw[Yb (by omega)];exact h2
    have hc:i < met.length:=by have:=z_f hc;omega
    obtain⟨t,ht⟩:=hf.M.th _ (YW hc);have sr:=F1 (l:=l) (met.take i);have se:=Iv ht;have tr:=Di t.sh;rw[Yc] at sr;refine CF g4 (by omega) (by omega) ?_;simp only[YN];refine jnc (jfo (jlr (v:=.map (some mb)) g1 rfl ?_));refine @Vh _ _ _ mb o l met[i] false (Li.fz g2) ⟨ps,hmg,hp2,hp3⟩ (λe=>by rw[ht] at e;cases e) (λt2 v e hv=>?_);rw[ht] at e;cases e;refine De hv (jad (jad (hK _ hc ?_)));rw[HD hc,se];rfl
   ·simp only[List.map,zc,zl,zj,z_t] at he;simp only[he];exact h1
  simp only[List.map,zc,zl,zj,z_t] at he;simp only[he];refine AI (λvs R' D'=>R' = R1∧Sf D' F∧vs = [I (Bc l met),I (DF l)]) (λK1 h1=>?_) ?_;rotate_left
  ·rintro e R2 D2 ⟨hR2,hsf,he⟩;subst hR2;simp only[List.map,zc,zl,zj,z_t] at he;simp only[he];exact @Ay _ _ _ _ _ D2 _ _ hR ⟨rfl,rfl⟩ (Sp.nil _) hsf
  refine jnc (jfo (jlr (v:=.map (some mb)) g1 rfl ?_));refine @XN _ _ _ 73 62 mb o ps (Li.fz g2) NO hmg λib it hit=>?_
  refine AI (λvs R' D'=>R' = R1∧Sf D' F∧vs = [I (Bc l met),I (DF l)]) (λK2 h2=>?_) ?_;rotate_left
  ·rintro e R2 D2 ⟨hR2,hsf,he⟩;subst hR2;simp only[List.map,zc,zl,zj,z_t] at he;simp only[he];exact h1 _ _ _ ⟨rfl,hsf,rfl⟩
  refine jk1 (F:=F) ib ?_;have pl:∀p∈ps,∃t∈l,p.1 = t.at_∧ThV R1 p.2 t:=λp hp=>Ug (o:=o) hp2 hp3 hp
  have psz:(ps.map λp=>szA l p.1).sum = DF l:=by
   unfold DF;congr 1;apply List.ext_getElem (by simpa using hp2);intro i h1 h2;rw[List.getElem_map,List.getElem_map];have:=(hp3 i (by simpa using h1) (by simpa using h2)).1;rw[this];exact Iv (E2 hf.S.nd (YW _))
  refine jlp (λm vs R' D'=>R' = R1∧∃(rem don:List (Int × Value)) (it:Obj) (cur:Option (Int × Value)),m = rem.length∧ps.Perm (don ++ rem)∧ItG mb o it rem cur∧D' = (ib,it) :: F∧vs = [I (Bc l met),I (don.map λp=>szA l p.1).sum,Pt ib])
   (n:=ps.length) ⟨rfl,ps,[],it,none,rfl,Z1 _,hit,rfl,rfl⟩ ?_
  rintro m e R2 D2 K ⟨hR2,rem,don,it,cur,hmm,hpm,hit,hD,he⟩ hK;subst hR2;rw[hD];clear hD;simp only[List.map,zc,zl,zj,z_t] at he;simp only[he];refine @Xe _ _ _ mb ib o it _ ps rem cur _ (Li.fz g2) hmg hit (λh0=>?_) (λp rem' it' hpr hit'=>?_)
  ·subst h0;refine jex rfl (CY ?_);have e1:=LG (hpm.map λp=>szA l p.1);rw[psz,Z6] at e1;rw[← e1];exact h2 _ _ _ ⟨rfl,inferInstance,rfl⟩
  have hpp:p∈ps:=hpm.mem_iff.2 (Yq.2 (.inr (hpr.mem_iff.2 (.head _))));obtain⟨t,ht,hpt,rv,nv,hpv,hrv,hnv⟩:=pl p hpp;obtain⟨ra,rc,rfl⟩:=hrv.sl;obtain⟨na,nc,rfl⟩:=hnv.sl;have hlen:rem'.length < m:=by rw[hmm,hpr.length_eq,Yj];omega
  have hpm' : ps.Perm ((don ++ [p]) ++ rem'):=hpm.trans (by
   rw[YV]
   exact List.Perm.append_left don hpr)
  have se:szA l p.1 = AD t.sh:=by rw[hpt];exact Iv (E2 hf.S.nd ht)
  have tr:=Di t.sh;have dr:=F1 (l:=l) (don.map Prod.fst);have de:(don.map λp=>szA l p.1).sum = Bc l (don.map Prod.fst):=by unfold Bc;rw[List.map_map];rfl
  have dl:don.length≤ps.length:=by rw[hpm.length_eq,YQ];omega
  rw[Yu] at dr;refine jex rfl (DA (@Xs _ _ _ mb ib o it' ps rem' p _ (Li.fz g2) hmg hit' ?_));rw[hpv];refine jex rfl (ja λtbk=>?_);refine js (cs':=eTh t (.slice ra t.refs.length rc) (.slice na t.nums.length nc)) rfl rfl (by exact z_n 6) rfl ?_;refine jla (l:=eTh t (.slice ra t.refs.length rc) (.slice na t.nums.length nc)) (by exact z_n 6) rfl (De ⟨_,_,rfl,hrv,hnv⟩ (jad (Bu ?_)));refine hK rem'.length _ _ _ hlen ⟨rfl,rem',don ++ [p],it',some p,rfl,hpm',hit',rfl,?_⟩;rw[ZK,List.sum_append];simp[se]
theorem K0 {l:List AX} {met:List Int} (h:met.Nodup):Bc l (B8 met) = Bc l met:=by
 have p:=List.mergeSort_perm met (λx y=>decide (x≤y));have e:Ix met = B8 met:=SE h;unfold Bc;rw[← e];exact LG (p.map _)
theorem Ku {r:Nat}:∀(t:List Rg),(∀x∈t,-100 * ((9:Nat):Int)≤x.top∧x.top≤100 * ((9:Nat):Int))→-1100 * (t.length:Int)≤Cg r t∧Cg r t≤1100 * t.length:=by
 intro t;induction t generalizing r with
 | nil=>intro _;exact⟨by simp[Cg],by simp[Cg]⟩
 | cons x t ih=>
  intro h;have h1:=h x (.head _);have h2:=ih (r:=r + 1) λy hy=>h y (ZA _ hy)
  have hb:0≤AE r∧AE r≤176:=by unfold AE;split<;>omega
  unfold Cg;rw[Yj];omega
theorem WC {D:Chs} {v:Value} {l:List Int} {i:Int} {B:Value→Value→M} (h:BJ R v l) (h0:0≤i) (h1:i < l.length)
  (H:∀p,(∀{D' : Chs} {k:Value→M},(∀(R' : RM) (D'' : Chs),J R D' (k (I (l[i.toNat]'(by omega)))))→J R D' (L1 p k))→J R D (B p (I (l[i.toNat]'(by omega))))):J R D (IA 1 v (I i) λp=>L1 p λx=>B p x):=by
 rcases h with ⟨_,h2,_⟩ | ⟨b,o,cap,t,cs,rfl,h2,h3,h4,h5⟩
 ·omega
 ·have hcell:cs[o + i.toNat * 1]? = some (I (l[i.toNat]'(by omega))):=by
   have e:((cs.drop o).take (l.length * 1))[i.toNat]? = (l.map I)[i.toNat]?:=by rw[h4]
   rw[List.getElem?_take_of_lt (by omega),ZO,Z2,YO (l:=l) (i:=i.toNat) (by omega)] at e;rw[ZV];exact e
  refine jia h0 h1 (jlr h2 hcell (H _ λ{D'} {k} hk=>jlr h2 hcell (hk R D')))
set_option maxHeartbeats 1000000 in
theorem OI (h:SF R s wv tv mv thv ov pv):Ro G3 [.agg (eSt s wv tv mv thv ov pv).toArray] (.tuple #[I (Dk s).1,I (Dk s).2]) R []:=by
 refine KT λF=>?_
 unfold GB;refine ja λb=>jla (l:=eSt s wv tv mv thv ov pv) (by exact z_n 13) rfl ?_
 refine jc (A:=[]) (QC h) ?_;intro x R1 A1 hR1 hq;unfold Dk;cases hh:CK s with
 | none=>
  rw[hh] at hq;obtain⟨rfl,rfl⟩:=hq;exact jex rfl (jex rfl (DA (Ay (A:=[]) hR1 ⟨rfl,rfl⟩)))
 | some q=>
  obtain⟨l,met⟩:=q;rw[hh] at hq;obtain⟨sv,so,rfl⟩:=hq;dsimp only;have hf:=DX hh;have hml:=hf.M.len;obtain⟨hll,tbl⟩:=Hw h hf.ths;have t0:=h.b.t0;have t1:=h.b.t1;have wl:=h.b.wl;have tp:=h.b.tp;have hinn:∀a:Int,inR (s.A6.getD (a.toNat + 1) 0):=λa=>by
   rw[Yg];cases hx:s.A6[a.toNat + 1]? with
   | none=>exact⟨by decide,by decide⟩
   | some x=>exact h.b.wr x (List.mem_of_getElem? hx)
  obtain⟨hinc,hsm⟩:=Ee hf.M.nd;have hsl:(B8 met).length = met.length:=by
   have:=FR met [];simpa [B8] using this
  have hsp:Bc l (B8 met) = Bc l met:=K0 hf.M.nd;refine jex rfl (jex rfl (CY (F5 so λR2 hR2 hi=>?_)));obtain⟨va,vc,rfl⟩:=hi.sl;have h:=h.le (hR1.trans hR2);obtain⟨tb,tc,sp,rfl,hbt,htc⟩:=h.z;obtain⟨wa,wc,rfl⟩:=h.c.w.sl;rw[show (cl (.agg (eSt s (.slice wa s.A6.length wc) (S0 tb s.A0.length tc) mv thv ov pv).toArray)) = eSt s (.slice wa s.A6.length wc) (S0 tb s.A0.length tc) mv thv ov pv from rfl];refine AI (λvs R' D'=>R2.le R'∧D' = (b,C 28 (eSt s (.slice wa s.A6.length wc) (S0 tb s.A0.length tc) mv thv ov pv)) :: F∧vs = [Pt b,I (Bc l met)]) (λK1 h1=>?_) ?_
  ·refine AI (λvs R' D'=>R2.le R'∧D' = (b,C 28 (eSt s (.slice wa s.A6.length wc) (S0 tb s.A0.length tc) mv thv ov pv)) :: F∧vs = [Pt b,I (Bc l met)]) (λK2 h2=>?_) ?_;rotate_left
   ·rintro e R3 D3 ⟨hR3,hD,he⟩;rw[hD];clear hD;simp only[List.map,zc,zl,zj,z_t] at he;simp only[he];exact h1 _ _ _ ⟨hR3,rfl,rfl⟩
   refine jlp (λm vs R' D'=>R2.le R'∧∃i:Nat,i≤(B8 met).length∧m = (B8 met).length - i∧D' = (b,C 28 (eSt s (.slice wa s.A6.length wc) (S0 tb s.A0.length tc) mv thv ov pv)) :: F∧vs = [Pt b,.slice va (B8 met).length vc,I (Bc l ((B8 met).take i)),I i]) (n:=(B8 met).length) ⟨RM.le.refl _,0,by omega,rfl,rfl,rfl⟩ ?_;rintro m e R3 D3 K ⟨hR3,i,hi',hmm,hD,he⟩ hK;rw[hD];clear hD;simp only[List.map,zc,zl,zj,z_t] at he;simp only[he];refine jln (jlt (jif (λhc=>?_) (λhc=>?_)));rotate_left
   ·have hc:=z_g hc;rw[Yb (by omega),hsp];exact h2 _ _ _ ⟨hR3,rfl,rfl⟩
   have hc:i < (B8 met).length:=by have:=z_f hc;omega
   obtain⟨t,ht,hta⟩:=WD hf ((hsm _).1 (YW hc));have sr:=F1 (l:=l) ((B8 met).take i);have se:=Iv ht;have tr:=Di t.sh;rw[Yc] at sr;have hi3:=hi.le hR3;have h3:=h.le hR3;refine AI (λvs R' D'=>R2.le R'∧∃b3 rv nv,D' = (b3,C 62 (eTh t rv nv)) :: (b,C 28 (eSt s (.slice wa s.A6.length wc) (S0 tb s.A0.length tc) mv thv ov pv)) :: F∧vs = [Pt b,.slice va (B8 met).length vc,I (Bc l ((B8 met).take i)),I i,Pt b3]) (λK3 h3'=>?_) ?_;rotate_left
   ·rintro e R4 D4 ⟨hR4,b3,rv,nv,hD,he⟩;rw[hD];clear hD;simp only[List.map,zc,zl,zj,z_t] at he;simp only[he];refine jfo (jla (t:=62) (cs:=eTh t rv nv) (l:=[I t.sh.refs,I t.sh.nums]) (by exact (by decide:4≤6)) rfl (jp (Bt t.sh) (jad (jad (Bu ?_)))));refine hK ((B8 met).length - (i + 1)) _ _ _ (by omega) ⟨hR4,i + 1,by omega,rfl,rfl,?_⟩;rw[HD hc,se];rfl
   refine jl (v:=.slice wa s.A6.length wc) rfl ?_;refine WC hi3 (by omega) (by omega) λp hp=>?_
   simp only[YN] at hp ⊢;refine EA ?_ (Db ?_)
   ·refine jc (A:=[]) (Iq (B8 met)[i] h3.c.w (by omega)) ?_;rintro _ R4 _ hR4 ⟨rfl,x,⟨rv,nv,hx,hrv,hnv⟩,rfl⟩;subst hx;rw[hta] at hrv hnv ⊢;obtain⟨ra,rc,rfl⟩:=hrv.sl;obtain⟨na,nc,rfl⟩:=hnv.sl;refine jex rfl (jex rfl (ja λb3=>?_));refine js (cs':=eTh t (.slice ra t.refs.length rc) (.slice na t.nums.length nc)) rfl rfl (by exact z_n 6) rfl ?_;exact h3' _ _ _ ⟨hR3.trans hR4,b3,_,_,rfl,rfl⟩
   ·refine ja λb3=>Ad (jl (v:=.slice wa s.A6.length wc) rfl jev) (Ad (hp λR' D'=>jev) ?_)
    refine jc (A:=[]) (Iq (B8 met)[i] h3.c.w (by omega)) ?_;rintro _ R4 _ hR4 ⟨rfl,x,⟨rv,nv,hx,hrv,hnv⟩,rfl⟩;subst hx;rw[hta] at hrv hnv ⊢;obtain⟨ra,rc,rfl⟩:=hrv.sl;obtain⟨na,nc,rfl⟩:=hnv.sl;refine jex rfl (jex rfl ?_);refine js (cs':=eTh t (.slice ra t.refs.length rc) (.slice na t.nums.length nc)) rfl rfl (by exact z_n 6) rfl ?_;exact h3' _ _ _ ⟨hR3.trans hR4,b3,_,_,rfl,rfl⟩
  rintro e R3 D3 ⟨hR3,hD,he⟩;rw[hD];clear hD;simp only[List.map,zc,zl,zj,z_t] at he;simp only[he];have hbt:=hR3 _ _ hbt;refine Bq [I (Bc l met),I (DF l)] (λK1 h1=>?_) (λe he=>?_)
  ·refine Bq [I (Bc l met),I (DF l)] (λK2 h2=>?_) (λe he=>?_)
   ·refine jlp (λm vs R' D'=>R' = R3∧D' = (b,C 28 (eSt s (.slice wa s.A6.length wc) (S0 tb s.A0.length tc) mv thv ov pv)) :: F∧∃i:Nat,1≤i∧i≤s.A0.length∧m = s.A0.length - i∧vs = [Pt b,I (Bc l met),I (Cg 1 (s.A0.tail.take (i - 1))),I i]) (n:=s.A0.length - 1) ⟨rfl,rfl,1,by omega,by omega,by omega,rfl⟩ ?_;rintro m e R4 D4 K ⟨hR4,hD,i,hi0,hi1,hmm,he⟩ hK;subst hR4;rw[hD];clear hD;simp only[List.map,zc,zl,zj,z_t] at he;simp only[he];refine jl (v:=S0 tb s.A0.length tc) rfl (jln (jlt (jif (λhc=>?_) (λhc=>?_))));rotate_left
    ·have hc:=z_g hc;rw[Yb (by rw[Z8];omega),← NR (Tw hf)];exact h2
    have hc:i < s.A0.length:=by have:=z_f hc;omega
    have htr:=Ku (r:=1) (s.A0.tail.take (i - 1)) (λx hx=>tp x (List.mem_of_mem_tail (Yw hx)));rw[Yc,Z8] at htr;have hti:=tp _ (YW hc);have hbr:0≤AE i∧AE i≤176:=by unfold AE;split<;>omega
    have hcell:(AZ eRg s.A0 ++ sp)[0 + i * 5 + 2]? = some (I (s.A0[i]).top):=by rw[Yi];exact Bm (f:=2) hc rfl
    refine jl (v:=S0 tb s.A0.length tc) rfl (Cl hc (jfo (jlr (v:=I (s.A0[i]).top) hbt hcell ?_)));refine jad (jp (BL i) (jsu ?_));refine Ad (jl (v:=S0 tb s.A0.length tc) rfl jev) (Ad (jlr (v:=I (s.A0[i]).top) hbt hcell jev) (jad ?_));refine hK (s.A0.length - (i + 1)) _ _ _ (by omega) ⟨rfl,rfl,i + 1,by omega,by omega,rfl,?_⟩;have e1:i + 1 - 1 = (i - 1) + 1:=by omega
    have e2:i - 1 < s.A0.tail.length:=by rw[Z8];omega
    rw[e1,YT e2,HH];have e3:s.A0.tail[i - 1] = s.A0[i]:=by rw[List.getElem_tail];congr 1;omega
    have e4:1 + (s.A0.tail.take (i - 1)).length = i:=by rw[Yc,Z8];omega
    rw[e3,e4];have:Cg i [s.A0[i]] = (s.A0[i]).top - AE i:=by simp[Cg]
    rw[this];congr 4;omega
   ·simp only[List.map,zc,zl,zj,z_t] at he;simp only[he];exact h1
  simp only[List.map,zc,zl,zj,z_t] at he;simp only[he];exact Ay (A:=[]) (hR1.trans (hR2.trans hR3)) ⟨rfl,rfl⟩
set_option maxHeartbeats 1000000 in
theorem TS (h:SF R s wv tv mv thv ov pv) {l:List AX} {met:List Int} (hh:CK s = some (l,met)):Ro JV [.agg (eSt s wv tv mv thv ov pv).toArray] (.tuple #[I (Bc l met),I (DF l)]) R []:=by
 refine Oe λF=>?_
 unfold JC;refine ja λb=>jla (l:=eSt s wv tv mv thv ov pv) (by exact z_n 13) rfl ?_
 refine jc (A:=[]) (NP h) ?_;intro x R1 A1 hR1 hq;rw[hh] at hq;obtain⟨sv,so,rfl⟩:=hq;have hf:=DX hh;have hml:=hf.M.len;obtain⟨hll,tbl⟩:=Hw h hf.ths;have t0:=h.b.t0;have t1:=h.b.t1;have wl:=h.b.wl;have tp:=h.b.tp;have hinn:∀a:Int,inR (s.A6.getD (a.toNat + 1) 0):=λa=>by
  rw[Yg];cases hx:s.A6[a.toNat + 1]? with
  | none=>exact⟨by decide,by decide⟩
  | some x=>exact h.b.wr x (List.mem_of_getElem? hx)
 obtain⟨hinc,hsm⟩:=Ee hf.M.nd;have hsl:(B8 met).length = met.length:=by
  have:=FR met [];simpa [B8] using this
 have hsp:Bc l (B8 met) = Bc l met:=K0 hf.M.nd;refine jex rfl (jex rfl (F5 so λR2 hR2 hi=>?_));obtain⟨va,vc,rfl⟩:=hi.sl;have h:=h.le (hR1.trans hR2);obtain⟨tb,tc,sp,rfl,hbt,htc⟩:=h.z;obtain⟨wa,wc,rfl⟩:=h.c.w.sl;rw[show (cl (.agg (eSt s (.slice wa s.A6.length wc) (S0 tb s.A0.length tc) mv thv ov pv).toArray)) = eSt s (.slice wa s.A6.length wc) (S0 tb s.A0.length tc) mv thv ov pv from rfl];refine AI (λvs R' D'=>R2.le R'∧D' = (b,C 28 (eSt s (.slice wa s.A6.length wc) (S0 tb s.A0.length tc) mv thv ov pv)) :: F∧vs = [Pt b,I (Bc l met)]) (λK1 h1=>?_) ?_
 ·refine AI (λvs R' D'=>R2.le R'∧D' = (b,C 28 (eSt s (.slice wa s.A6.length wc) (S0 tb s.A0.length tc) mv thv ov pv)) :: F∧vs = [Pt b,I (Bc l met)]) (λK2 h2=>?_) ?_;rotate_left
  ·rintro e R3 D3 ⟨hR3,hD,he⟩;rw[hD];clear hD;simp only[List.map,zc,zl,zj,z_t] at he;simp only[he];exact h1 _ _ _ ⟨hR3,rfl,rfl⟩
  refine jlp (λm vs R' D'=>R2.le R'∧∃i:Nat,i≤(B8 met).length∧m = (B8 met).length - i∧D' = (b,C 28 (eSt s (.slice wa s.A6.length wc) (S0 tb s.A0.length tc) mv thv ov pv)) :: F∧vs = [Pt b,.slice va (B8 met).length vc,I (Bc l ((B8 met).take i)),I i]) (n:=(B8 met).length) ⟨RM.le.refl _,0,by omega,rfl,rfl,rfl⟩ ?_;rintro m e R3 D3 K ⟨hR3,i,hi',hmm,hD,he⟩ hK;rw[hD];clear hD;simp only[List.map,zc,zl,zj,z_t] at he;simp only[he];refine jln (jlt (jif (λhc=>?_) (λhc=>?_)));rotate_left
  ·have hc:=z_g hc;rw[Yb (by omega),hsp];exact h2 _ _ _ ⟨hR3,rfl,rfl⟩
  have hc:i < (B8 met).length:=by have:=z_f hc;omega
  obtain⟨t,ht,hta⟩:=WD hf ((hsm _).1 (YW hc));have sr:=F1 (l:=l) ((B8 met).take i);have se:=Iv ht;have tr:=Di t.sh;rw[Yc] at sr;have hi3:=hi.le hR3;have h3:=h.le hR3;refine AI (λvs R' D'=>R2.le R'∧∃b3 rv nv,D' = (b3,C 62 (eTh t rv nv)) :: (b,C 28 (eSt s (.slice wa s.A6.length wc) (S0 tb s.A0.length tc) mv thv ov pv)) :: F∧vs = [Pt b,.slice va (B8 met).length vc,I (Bc l ((B8 met).take i)),I i,Pt b3]) (λK3 h3'=>?_) ?_;rotate_left
  ·rintro e R4 D4 ⟨hR4,b3,rv,nv,hD,he⟩;rw[hD];clear hD;simp only[List.map,zc,zl,zj,z_t] at he;simp only[he];refine jfo (jla (t:=62) (cs:=eTh t rv nv) (l:=[I t.sh.refs,I t.sh.nums]) (by exact (by decide:4≤6)) rfl (jp (Ej t.sh) (jad (jad (Bu ?_)))));refine hK ((B8 met).length - (i + 1)) _ _ _ (by omega) ⟨hR4,i + 1,by omega,rfl,rfl,?_⟩;rw[HD hc,se];rfl
  refine jl (v:=.slice wa s.A6.length wc) rfl ?_;refine WC hi3 (by omega) (by omega) λp hp=>?_
  simp only[YN] at hp ⊢;refine EA ?_ (Db ?_)
  ·refine jc (A:=[]) (GC (B8 met)[i] h3.c.w (by omega) (hinn _)) ?_;rintro _ R4 _ hR4 ⟨rfl,x,⟨rv,nv,hx,hrv,hnv⟩,rfl⟩;subst hx;rw[hta] at hrv hnv ⊢;obtain⟨ra,rc,rfl⟩:=hrv.sl;obtain⟨na,nc,rfl⟩:=hnv.sl;refine jex rfl (jex rfl (ja λb3=>?_));refine js (cs':=eTh t (.slice ra t.refs.length rc) (.slice na t.nums.length nc)) rfl rfl (by exact z_n 6) rfl ?_;exact h3' _ _ _ ⟨hR3.trans hR4,b3,_,_,rfl,rfl⟩
  ·refine ja λb3=>Ad (jl (v:=.slice wa s.A6.length wc) rfl jev) (Ad (hp λR' D'=>jev) ?_)
   refine jc (A:=[]) (GC (B8 met)[i] h3.c.w (by omega) (hinn _)) ?_;rintro _ R4 _ hR4 ⟨rfl,x,⟨rv,nv,hx,hrv,hnv⟩,rfl⟩;subst hx;rw[hta] at hrv hnv ⊢;obtain⟨ra,rc,rfl⟩:=hrv.sl;obtain⟨na,nc,rfl⟩:=hnv.sl;refine jex rfl (jex rfl ?_);refine js (cs':=eTh t (.slice ra t.refs.length rc) (.slice na t.nums.length nc)) rfl rfl (by exact z_n 6) rfl ?_;exact h3' _ _ _ ⟨hR3.trans hR4,b3,_,_,rfl,rfl⟩
 rintro e R3 D3 ⟨hR3,hD,he⟩;rw[hD];clear hD;simp only[List.map,zc,zl,zj,z_t] at he;simp only[he];have hbt:=hR3 _ _ hbt;refine Bq [I (Bc l met),I (DF l)] (λK1 h1=>?_) (λe he=>?_)
 ·refine Bq [I (Bc l met),I (DF l)] (λK2 h2=>?_) (λe he=>?_)
  ·refine jlp (λm vs R' D'=>R' = R3∧D' = (b,C 28 (eSt s (.slice wa s.A6.length wc) (S0 tb s.A0.length tc) mv thv ov pv)) :: F∧∃i:Nat,1≤i∧i≤s.A0.length∧m = s.A0.length - i∧vs = [Pt b,I (Bc l met),I (Cg 1 (s.A0.tail.take (i - 1))),I i]) (n:=s.A0.length - 1) ⟨rfl,rfl,1,by omega,by omega,by omega,rfl⟩ ?_;rintro m e R4 D4 K ⟨hR4,hD,i,hi0,hi1,hmm,he⟩ hK;subst hR4;rw[hD];clear hD;simp only[List.map,zc,zl,zj,z_t] at he;simp only[he];refine jl (v:=S0 tb s.A0.length tc) rfl (jln (jlt (jif (λhc=>?_) (λhc=>?_))));rotate_left
   ·have hc:=z_g hc;rw[Yb (by rw[Z8];omega),← NR (Tw hf)];exact h2
   have hc:i < s.A0.length:=by have:=z_f hc;omega
   have htr:=Ku (r:=1) (s.A0.tail.take (i - 1)) (λx hx=>tp x (List.mem_of_mem_tail (Yw hx)));rw[Yc,Z8] at htr;have hti:=tp _ (YW hc);have hbr:0≤AE i∧AE i≤176:=by unfold AE;split<;>omega
   have hcell:(AZ eRg s.A0 ++ sp)[0 + i * 5 + 2]? = some (I (s.A0[i]).top):=by rw[Yi];exact Bm (f:=2) hc rfl
   refine jl (v:=S0 tb s.A0.length tc) rfl (Cl hc (jfo (jlr (v:=I (s.A0[i]).top) hbt hcell ?_)));refine jad (jp (DJ i) (jsu ?_));refine Ad (jl (v:=S0 tb s.A0.length tc) rfl jev) (Ad (jlr (v:=I (s.A0[i]).top) hbt hcell jev) (jad ?_));refine hK (s.A0.length - (i + 1)) _ _ _ (by omega) ⟨rfl,rfl,i + 1,by omega,by omega,rfl,?_⟩;have e1:i + 1 - 1 = (i - 1) + 1:=by omega
   have e2:i - 1 < s.A0.tail.length:=by rw[Z8];omega
   rw[e1,YT e2,HH];have e3:s.A0.tail[i - 1] = s.A0[i]:=by rw[List.getElem_tail];congr 1;omega
   have e4:1 + (s.A0.tail.take (i - 1)).length = i:=by rw[Yc,Z8];omega
   rw[e3,e4];have:Cg i [s.A0[i]] = (s.A0[i]).top - AE i:=by simp[Cg]
   rw[this];congr 4;omega
  ·simp only[List.map,zc,zl,zj,z_t] at he;simp only[he];exact h1
 simp only[List.map,zc,zl,zj,z_t] at he;simp only[he];exact Ay (A:=[]) (hR1.trans (hR2.trans hR3)) ⟨rfl,rfl⟩
end st
end Go.Lf
end
section
namespace Go.Lf
open Go Sm
theorem Ip {R:RM} {v:Value} (hc:Cod R v):Fn P EQ [v] R [] (λx R' A=>A = []∧DSF x R'):=by
 refine HI λF=>?_
 unfold EH;obtain⟨n,hf⟩:=hc;refine ja λb=>?_
 refine jc (A:=[]) (Ue hf) ?_;rintro _ R1 _ _ ⟨hR,rb,v',rfl,rfl,hb⟩;subst hR;refine jc (A:=[(rb,rdO v' 0)]) (Qy hb (by decide)) ?_;rintro x R2 A hR2 hd;refine XB hd λR3 hR3 hx=>?_
 exact X7 hx (Ay (A:=[]) (hR2.trans hR3) ⟨rfl,hx⟩)
theorem Y7 {x:Value} {R:RM} {F:Chs} {k:Value→M} (h:DSF x R) (H:∀(b:Nat) (s:Sm.BE) (wv tv mv thv ov pv:Value),x = .agg (eSt s wv tv mv thv ov pv).toArray→SF R s wv tv mv thv ov pv→J R ((b,C 28 (eSt s wv tv mv thv ov pv)) :: F) (k (Pt b))) :
  J R F (AL 28 z28 λp=>ST 13 p x (k p)):=by
 obtain⟨s,wa,wc,tb,tc,ma,mc,tha,thc,oa,oc,pa,pc,rfl,h2⟩:=h.cut;refine ja λb=>?_
 refine js (cs':=eSt s (.slice wa s.A6.length wc) (S0 tb s.A0.length tc) (.slice ma s.AN.length mc) (.slice tha s.A7.length thc) (.slice oa s.old.length oc) (.slice pa s.AM.length pc)) rfl rfl (by exact z_n 13) rfl ?_;exact H b s _ _ _ _ _ _ rfl h2
theorem Ww {R:RM} {v:Value} (hc:Cod R v):∃n:Nat,∃a c,v = .slice a n c:=by
 obtain⟨n,hf⟩:=hc;exact⟨n,hf.sl⟩
theorem Nw {R:RM} {v:Value} (hc:Cod R v):Fn P Ez [v] R [] (λx _ A=>x = .bool true∧A = []):=by
 refine Iu λF=>?_
 unfold F4;obtain⟨cn,hsl⟩:=Ww hc;refine Ch hsl (jgr (jif (λ_=>Ay (A:=[]) (RM.le.refl R) ⟨rfl,rfl⟩) (λ_=>?_)));refine jc (A:=[]) (Ip hc) ?_;rintro x0 R1 _ hR1 ⟨rfl,hd⟩;refine Y7 hd λb s wv tv mv thv ov pv _ h=>?_
 refine jla (l:=eSt s wv tv mv thv ov pv) (by exact z_n 13) rfl (jrp (KQ h) (jex rfl (jex rfl ?_)));refine jla (l:=eSt s wv tv mv thv ov pv) (by exact z_n 13) rfl (jrp (OI h) (jex rfl (jex rfl ?_)));refine jor [Pt b,I (Dk s).1,I (Dk s).2] false (λK' hK'=>?_) (λe c u ho he=>?_)
 ·refine jne ?_;rw[show ((Dk s).1 != (Dk s).1) = false by simp];exact jff (jne (hK' _ _ _ Ah (by simp)))
 simp only[List.map,zc,zl,zj,z_t] at he;simp only[he];rw[ho];refine CY (jla (l:=eSt s wv tv mv thv ov pv) (by exact z_n 13) rfl (jrp (NA h) ?_));cases hh:CK s with
 | none=>
  have e:Dk s = (0,0):=by unfold Dk;rw[hh]
  rw[e];refine DA (jan [] true (λK' hK'=>?_) (λe c u ho he=>?_))
  ·exact jeq (jtt (jeq (hK' _ _ _ Ak rfl)))
  simp only[List.map,zc,zl,zj,z_t] at he;simp only[he];rw[ho];exact Ay (A:=[]) hR1 ⟨rfl,rfl⟩
 | some q=>
  obtain⟨l,met⟩:=q;have hf:=DX hh;have e:Dk s = (Bc l met,DF l):=by unfold Dk;rw[hh]
  rw[e];refine CY (jla (l:=eSt s wv tv mv thv ov pv) (by exact z_n 13) rfl (jrp (TS h hh) (jex rfl (jex rfl ?_))));refine jan [I (Bc l met),I (DF l)] true (λK' hK'=>?_) (λe c u ho he=>?_)
  ·refine jeq ?_;rw[beq_self_eq_true];exact jtt (jeq (hK' _ _ _ Ak (beq_self_eq_true _)))
  simp only[List.map,zc,zl,zj,z_t] at he;simp only[he];refine jan [] true (λK' hK'=>?_) (λe c u ho he=>?_)
  ·rw[ho];exact jtt (jle (hK' _ _ _ Ak (decide_eq_true (Kl hf.S.nd hf.M.nd hf.M.th))))
  simp only[List.map,zc,zl,zj,z_t] at he;simp only[he];rw[ho];exact Ay (A:=[]) hR1 ⟨rfl,rfl⟩
end Go.Lf
end
section
namespace Go.Proofs.YtlagojobcbkpdaaGreat.fnAuditWords
open Go Go.Lf
open Go.ChangeShapes Go.WideShapes Go.ChangeAt Go.RowKit
theorem own:ownKnob Tryz.prog.godebug = none:=by kernel_rfl
theorem laidOut:laidOutB Tryz.prog = true:=by kernel_rfl
set_option maxRecDepth 100000 in
theorem lifted (os:Os) (started:os.Started) (H:Type) (enc:TypeId × Value→H) :
  ReturnsInHanded {} Tryz.checked os 6 .any (Rows.fnAuditWordsSpec.pre6 enc Tryz.prog Tryz.f6 Rows.fnAuditWordsRow.domain false) (Rows.fnAuditWordsSpec.post enc Tryz.prog Tryz.f6 false true false false):=by
 refine returnsInHanded_of_change (C:=Tryz.checked) own started (by kernel_rfl) Tryz.func6
  (ChangeSpec.witness6 (enc:=enc) (C:=Tryz.checked) false ⟨#[],#[.slice none 0 0],[]⟩ 8 (by kernel_rfl) (by kernel_rfl) (by kernel_rfl) (by kernel_rfl)) ?_
 intro W base args ds gs before hval0 hW hcnd _;have hval:∀(j:Nat) t v,Tryz.f6.params[j]? = some t→args[j]? = some v→Value.okWide Tryz.prog W .any base t v:=hval0;have hW':=hW;obtain⟨p,q,hA0,hV,rfl,hfz,hnd⟩:=hW;have hA:DataW.TrodAll enc Tryz.prog W 0 (λ_=>true) true Tryz.f6.params.toList args.toList ds p:=hA0;rw[Tryz.params6] at hA hval;obtain⟨v0,vs0,d0,ds0,p0,q0,hargs,rfl,rfl,h0,r0⟩:=trodAll_cons hA;obtain⟨rfl,rfl,rfl⟩:=trodAll_nil r0;obtain rfl:args = #[v0]:=by cases args;simp_all
 obtain⟨rfl,rfl⟩:=trodVars_none hV;obtain⟨a0,len0,cap0,rfl⟩:=okWide_slice Tryz.underlying22 (hval 0 22 v0 rfl rfl);have k0:=h0;have lt0:∀x∈p0,x.block < W.heap.size:=by obtain⟨m,hm⟩:=k0;exact DataW.trod_lt m _ _ _ hm
 obtain⟨z0,w0⟩:∃zs,Tj W a0 len0 cap0 zs:=by
  obtain⟨fuel,hf⟩:=h0;rcases open_ints Tryz.underlying22 Tryz.underlying5 (by kernel_rfl) hf with ⟨hcs,_⟩ | ⟨x,l,c,zs,hcs,_,hl,hm,hz,_,hcell,hwz⟩
  ·simp[Value.cells] at hcs;obtain⟨rfl,rfl,rfl⟩:=hcs;exact⟨[],.inl ⟨rfl,rfl,rfl,rfl⟩⟩
  ·simp[Value.cells] at hcs;obtain⟨rfl,rfl,rfl⟩:=hcs;exact⟨zs,.inr ⟨_,rfl,hl,by simpa using hz,hcell,hwz⟩⟩
 clear hA0 hval0;refine (Tg (f:=6) (λR v h=>Nw h) w0).mono λe W' ⟨he,bel⟩=>?_
 subst he;have hst:DataW.Trod enc Tryz.prog W' 0 (λb=>decide (b < W.heap.size)) true 22 (Value.slice a0 len0 cap0) d0 p0:=WideElems.Trod_stays laidOut (by kernel_rfl) (z_f (by kernel_rfl)) k0 (λx hx=>bel.at_ (lt0 x hx)) (λx hx=>by simpa using lt0 x hx);exact⟨_,rfl,_,_,_,[],_,[],hW',trodAll_mk1 (shut_bool Tryz.underlying4 _),trodAll_mk1 hst,rfl,bel.frame _,λh=>by cases h⟩
theorem over:Rows.fnAuditWordsRow.holds Tryz.pinned (OpenSpec.ofChange Rows.fnAuditWordsSpec):=
 OpenClaim.holds_of_wide 6 Tryz.f6 rfl rfl rfl rfl rfl rfl rfl ⟨rfl,rfl,rfl,rfl,rfl⟩ rfl rfl rfl rfl rfl (by kernel_rfl) Tryz.func6 (by kernel_rfl)
  (z_f (by kernel_rfl)) (by unfold Func.isWrapper;rw[if_neg (z_g (by kernel_rfl))];exact⟨rfl,rfl⟩)
  (λos started H enc _=>lifted os started H enc)
theorem proved:Rows.FnAuditWordsSaid:=over
#print axioms proved
end Go.Proofs.YtlagojobcbkpdaaGreat.fnAuditWords
end
