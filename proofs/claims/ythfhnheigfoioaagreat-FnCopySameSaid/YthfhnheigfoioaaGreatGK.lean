/- A part of the proof of the given row. Conditions: none. -/
import Derived.Test.YthfhnheigfoioaaGreatGJ
set_option linter.unusedVariables false
set_option linter.unusedSimpArgs false
set_option maxRecDepth 100000
section
namespace Sm
open Go.Lf
theorem Nc {s:Ah} {l:List AQ} {t:AQ} (j:t∈l) (h:Ax l t.moved = none) (nd:(l.map AQ.at_).Nodup):CL s l t = false:=by
 unfold CL;rw[h,Bool.or_false,beq_eq_false_iff_ne];intro e;rw[e,DM nd j] at h;cases h
theorem No {s:Ah} {l:List AQ} {t n:AQ} (j:t∈l) (h:Ax l t.moved = some n) (nd:(l.map AQ.at_).Nodup):CL s l t = (!(n.moved != n.at_) && (n.sh == t.sh) && (t.moved == t.at_ || (!Dk s n.at_ && Dk s t.at_))):=by
 unfold CL;by_cases c:t.moved = t.at_
 .have:n = t:=by rw[c,DM nd j] at h;exact (ei h).symm
  subst this;rw[c];simp
 .rw[h];dsimp only;unfold bne;rw[beq_eq_false_iff_ne.2 c];cases n.sh == t.sh<;>cases n.moved == n.at_<;>cases Dk s n.at_<;>cases Dk s t.at_<;>rfl
end Sm
namespace Sm
open Go.Lf
theorem ZK (had:List Int) (a:Int):(Bu had a).length<=had.length + 1:=by
 unfold Bu;split
 .omega
 .simp
theorem FS {l:List AQ}:∀{xs acc r:List Int},Aq l xs acc = some r->r.length<=acc.length + xs.length
 | [],acc,r,h=>by cases h;simp
 | x :: xs,acc,r,h=>by
  rw[Bn] at h;cases j:now l x with
  | none=>rw[j] at h;cases h
  | some y=>
   rw[j] at h;have A:=FS (xs:=xs) h;have D:=ZK acc y;rw[dR];omega
theorem Vr {s:Ah} {l:List AQ} (h:Ey s = some l) (y:Aq l (Ct s) [] = none):(CD s).isSome = false:=by
 unfold CD;rw[h];dsimp only;split
 .rename_i x;have j:=x;unfold C8 at j;simp only[z_b] at j;rw[DZ j.2,y];rfl
 .rfl
end Sm
namespace Go.Lf
open Go Sm
section st
variable {R:RM} {s:Sm.Ah} {wv tv mv thv ov pv:Value}
theorem Jt {l:List AQ} (h:BJ s = some l) {t:AQ} (y:t∈l) (O:s.AA.length<=12):∃r:Nat,AN t.at_ = r/\∃Q:r < s.AA.length,Dk s t.at_ = ((s.AA[r]).kind == 4):=by
 unfold BJ at h;obtain⟨_,j⟩:=FP h;obtain⟨A,D,G,k,x,H,K,N⟩:=j t y;rw[fh] at x;have e:AN t.at_ = (1 + k:Nat):=by unfold AN;rw[if_neg Z];omega
 refine⟨1 + k,e,Z,?_⟩;unfold Dk;rw[e,Eh (by omega:1 + k < s.AA.length)];rw[decide_eq_true (by omega:(0:Int)<=(1 + k:Nat)),decide_eq_true (by omega:((1 + k:Nat):Int) < s.AA.length)];rfl
set_option maxHeartbeats 4000000 in
set_option maxRecDepth 4000 in
theorem Ul (h:SF R s wv tv mv thv ov pv):Ro KI [.agg (eSt s wv tv mv thv ov pv).toArray] (.bool (CD s).isSome) R []:=by
 refine QX λF=>?_
 refine z_1 ?_;refine ja λb=>?_
 rw[show cl (.agg (eSt s wv tv mv thv ov pv).toArray) = eSt s wv tv mv thv ov pv from rfl];obtain⟨tb,tc,sp,rfl,hb,k4⟩:=h.z;obtain⟨wa,wc,rfl⟩:=h.c.w.sl;obtain⟨ma,mc,rfl⟩:=h.c.m.sl;have t0:=h.b.t0;have t1:=h.b.t1;have wl:=h.b.wl;have n1:=h.b.n1;have a0:∀{R' : RM} {D:Chs} {x:Bool},R.le R'->(CD s).isSome = x->[Sf D F]->J R' D (Fj R F (λv' _ A=>v' = .bool (CD s).isSome/\A = []) (.bool x)):=λhR hx _=>by
  rw[<- hx];exact Ao (A:=[]) hR ⟨rfl,rfl⟩
 refine jor [Pt b] ((!BM s.AC.length) || (!BT s.AA)) (λW H=>?_) (λe c u ho he=>?_)
 .refine jl (v:=.slice wa s.AC.length wc) rfl (jp (Jn wa s.AC.length wc Z) (jgO H λh1 hN=>jl (v:=S0 tb s.AA.length tc) rfl (cG hb (λR' _=>FQ (t:=s.AA) (sp:=sp) Z) hN)))
 refine z_V ?_;refine jor [Pt b] ((!BM s.AC.length || !BT s.AA) || ((s.AA.length:Int) * 16 != (s.AC.length:Int))) (λW H=>?_) (λe c u ho he=>?_)
 .rw[ho];refine jgO H λh1 hN=>jl (v:=S0 tb s.AA.length tc) rfl (jln (HV ⟨Z,Z⟩ (jl (v:=.slice wa s.AC.length wc) rfl (jln (jne hN)))))
 refine z_V ?_;refine jor [Pt b] ((!BM s.AC.length || !BT s.AA || ((s.AA.length:Int) * 16 != (s.AC.length:Int))) || ((s.AM.length:Int) != (s.AC.length:Int))) (λW H=>?_) (λe c u ho he=>?_)
 .rw[ho];refine jgO H λh1 hN=>jl (v:=.slice ma s.AM.length mc) rfl (jln (jl (v:=.slice wa s.AC.length wc) rfl (jln (jne hN))))
 refine z_V ?_;rw[ho];have f8:(!BM s.AC.length || !BT s.AA || ((s.AA.length:Int) * 16 != (s.AC.length:Int)) || ((s.AM.length:Int) != (s.AC.length:Int))) = !EQ s:=by
  have e1:((s.AA.length:Int) * 16 != (s.AC.length:Int)) = !(s.AA.length == s.AC.length / 16):=by
   rw[eY,dp,bne_iff_ne,beq_eq_false_iff_ne];omega
  have e2:((s.AM.length:Int) != (s.AC.length:Int)) = !(s.AM.length == s.AC.length):=by
   rw[eY,dp,bne_iff_ne,beq_eq_false_iff_ne];omega
  rw[e1,e2];unfold EQ;cases BM s.AC.length<;>cases BT s.AA<;>cases s.AA.length == s.AC.length / 16<;>cases s.AM.length == s.AC.length<;>rfl
 rw[f8];refine jif (λh0=>?_) (λh0=>?_)
 .have h0:EQ s = false:=by simpa using h0
  refine a0 (RM.le.refl R) ?_;unfold CD Ey;rw[if_neg (by rw[h0];decide)];rfl
 have i7:EQ s = true:=by simpa using h0
 have a8:Ey s = BJ s:=by unfold Ey;rw[if_pos i7]
 clear f8 h0 ho he;refine jor [Pt b] ((decide (s.Ae < 0)) || (decide (s.Ae > 3))) (λW H=>?_) (λe c u ho he=>?_)
 .refine jl (v:=I s.Ae) rfl (jlt (jgO H λh1 hN=>jl (v:=I s.Ae) rfl (jgr hN)))
 refine z_V ?_;refine jor [Pt b] ((decide (s.Ae < 0) || decide (s.Ae > 3)) || (decide ((s.AB.length:Int) < 1))) (λW H=>?_) (λe c u ho he=>?_)
 .rw[ho];refine jgO H λh1 hN=>jl (v:=thv) rfl (Bf h.c.th.sl (jlt hN))
 refine z_V ?_;refine jor [Pt b] ((decide (s.Ae < 0) || decide (s.Ae > 3) || decide ((s.AB.length:Int) < 1)) || (decide ((s.AB.length:Int) > 3))) (λW H=>?_) (λe c u ho he=>?_)
 .rw[ho];refine jgO H λh1 hN=>jl (v:=thv) rfl (Bf h.c.th.sl (jgr hN))
 refine z_V ?_;rw[ho];have a6:∀l,BJ s = some l->C8 s l = false->(CD s).isSome = false:=λl hl hh=>by
  rw[NA (a8.trans hl) hh];rfl
 refine jif (λh0=>?_) (λh0=>?_)
 .refine a0 (RM.le.refl R) ?_;cases hs:BJ s with
  | none=>unfold CD;rw[a8,hs];rfl
  | some l=>
   refine a6 l hs ?_;rw[fU];intro hh;unfold C8 at hh;simp only[z_b,z_d] at hh;simp only[du,z_d] at h0;omega
 simp only[db,decide_eq_false_iff_not] at h0;obtain⟨⟨⟨p0,p1⟩,p2⟩,p3⟩:=h0;clear ho he;refine jla (l:=eSt s (.slice wa s.AC.length wc) (S0 tb s.AA.length tc) (.slice ma s.AM.length mc) thv ov pv) (by exact z_n 13) rfl ?_;refine jc (A:=[]) (IL h.c Z Z) ?_;rintro _ R1 _ a4 ⟨rfl,hq⟩;refine Pa ?_;cases hs:BJ s with
 | none=>
  rw[hs] at hq;obtain rfl:_ = Value.tuple #[SN,.bool false]:=hq;refine jex rfl (jex rfl (DG (a0 a4 ?_)));unfold CD;rw[a8,hs];rfl
 | some l=>
  rw[hs] at hq;obtain⟨lv,T,rfl⟩:=hq;refine jex rfl (jex rfl (CQ ?_));have h:=h.le a4;have a6:=a6 l hs;have hu:=hs;unfold BJ at hu;obtain⟨h8,h9⟩:=FP hu;have nd:=MJ h8 λx hx=>(h9 x hx).2.1
  have h7:=NF Z hu;rw[fh] at h7;obtain⟨j5,j9⟩:=h7;obtain⟨N,O,rfl⟩:=T.sl;refine PH [Pt b,.slice N l.length O] (CP s l = true) (λK1 h1=>?_) (λe Em he=>?_)
  .refine PH [Pt b,.slice N l.length O] (CP s l = true) (λK2 h2=>?_) (λe j2 he=>?_)
   .refine Nm [Pt b,.slice N l.length O] l.length (λi=>(l.take i).all (CL s l) = true) rfl (λi K e hi hp hK he=>?_);refine z_V ?_;refine jln (jlt (jif (λhc=>?_) (λhc=>?_)));rotate_left
    .have hc:=z_g hc;rw[dO Z] at hp;exact h2 hp
    have hc:i < l.length:=by have:=z_f hc;omega
    have b1:=dL hc;have b6:CL s l l[i] = false->C8 s l = false:=λhh=>by
     rw[fU];intro g;unfold C8 CP at g;simp only[z_b] at g;have:=df.1 g.1.1.1.1.1.1.1 _ b1;rw[hh] at this;cases this
    have d3:CL s l l[i] = true->(l.take (i + 1)).all (CL s l) = true:=λhh=>by
     rw[dJ hc,gW,hp];simpa using hh
    refine Yg T hc (jrp (Do (l[i]).moved T Z) ?_);cases hf:Ax l (l[i]).moved with
    | none=>
     rw[Hl hf];refine Bv [Pt b,.slice N l.length O,I i,I (-1),.bool true] (λW H=>?_) (λe he=>?_)
     .refine Bv [Pt b,.slice N l.length O,I i,I (-1),.bool true,U] (λW H=>?_) (λe he=>?_)
      .exact jlt (jtf H)
      refine z_V ?_;refine Bv [Pt b,.slice N l.length O,I i,I (-1),.bool true,U,U] (λW H=>?_) (λe he=>?_)
      .exact jtf H
      refine z_V ?_;exact jtf H
     refine z_V ?_;exact DG (a0 a4 (a6 (b6 (Nc b1 hf nd))))
    | some n=>
     obtain⟨k,hk,c6,hn⟩:=Ei hf;subst hn;rw[c6];have hT:=No (s:=s) b1 hf nd;cases c1:((l[k]).moved != (l[k]).at_) with
     | true=>
      refine Bv [Pt b,.slice N l.length O,I i,I k,.bool true] (λW H=>?_) (λe he=>?_)
      .refine Bv [Pt b,.slice N l.length O,I i,I k,.bool false,.bool true] (λW H=>?_) (λe he=>?_)
       .refine jlt ?_;rw[show decide ((k:Int) < 0) = false from decide_eq_false Z];refine jff (Yg T hk (VT T hk (jne ?_)));rw[c1];exact H
       refine z_V ?_;refine Bv [Pt b,.slice N l.length O,I i,I k,.bool true,U,U] (λW H=>?_) (λe he=>?_)
       .exact jtf H
       refine z_V ?_;exact jtf H
      refine z_V ?_;exact DG (a0 a4 (a6 (b6 (by rw[hT,c1];rfl))))
     | false=>
      refine Bv [Pt b,.slice N l.length O,I i,I k,.bool (!((l[k]).sh == (l[i]).sh))] (λW H=>?_) (λe he=>?_)
      .refine Bv [Pt b,.slice N l.length O,I i,I k,.bool false,.bool false] (λW H=>?_) (λe he=>?_)
       .refine jlt ?_;rw[show decide ((k:Int) < 0) = false from decide_eq_false Z];refine jff (Yg T hk (VT T hk (jne ?_)));rw[c1];exact H
       refine z_V ?_;refine Bv [Pt b,.slice N l.length O,I i,I k,.bool false,.agg #[I (l[k]).sh.refs,I (l[k]).sh.nums],.agg #[I (l[i]).sh.refs,I (l[i]).sh.nums]] (λW H=>?_) (λe he=>?_)
       .exact jff (Zc T hk (Zc T hc H))
       refine z_V ?_;exact jff (@cJ (l[k]).sh (l[i]).sh _ _ _ _ _ H)
      refine z_V ?_;cases c2:((l[k]).sh == (l[i]).sh) with
      | false=>exact DG (a0 a4 (a6 (b6 (by rw[hT,c1,c2];rfl))))
      | true=>
       refine CQ ?_;rw[c1,c2] at hT;have g4:k = i↔(l[i]).moved = (l[i]).at_:=by
        have e9:=(BF hf).2;constructor
        .rintro rfl;exact e9.symm
        .intro e;rw[e,DM nd b1] at hf;have hf:=ei hf;have a1:(l.map AQ.at_)[k]? = some (l[k]).at_:=by rw[eH,dH hk];rfl
         have a2:(l.map AQ.at_)[i]? = some (l[k]).at_:=by rw[eH,dH hc,<- hf];rfl
         exact (List.getElem?_inj (by simpa using hk) nd).1 (a1.trans a2.symm)
       by_cases c3:k = i
       .have e6:((k:Int) != (i:Int)) = false:=by rw[c3];simp
        have i5:CL s l l[i] = true:=by rw[hT,beq_iff_eq.2 (g4.1 c3)];rfl
        refine Bv [Pt b,.slice N l.length O,I i,.bool false] (λW H=>?_) (λe he=>?_)
        .refine Bv [Pt b,.slice N l.length O,I i,I k,.bool false,U,U,U] (λW H=>?_) (λe he=>?_)
         .refine jne ?_;rw[e6];exact jft H
         refine z_V ?_;refine jft ?_;refine Bv [Pt b,.slice N l.length O,I i,.bool false,U,U,U,U,U,U] (λW H=>?_) (λe he=>?_)
         .exact jft H
         refine z_V ?_;refine Ak (jft jev) (jgu ?_);refine Bv [Pt b,.slice N l.length O,I i,.bool false,U,U,U,U] (λW H=>?_) (λe he=>?_)
         .exact jgu H
         refine z_V ?_;refine Bv [Pt b,.slice N l.length O,I i,.bool false,U,U,U,U] (λW H=>?_) (λe he=>?_)
         .exact jft H
         refine z_V ?_;exact Ak (jgu jev) H
        refine z_V ?_;exact CQ (jad (hK hc (d3 i5)))
       .have e6:((k:Int) != (i:Int)) = true:=by simp;omega
        have i9:((l[i]).moved == (l[i]).at_) = false:=beq_eq_false_iff_ne.2 λe=>c3 (g4.2 e)
        rw[i9] at hT;obtain⟨r1,e1,g7,f1⟩:=Jt hs b1 Z;obtain⟨r2,e2,f4,f2⟩:=Jt hs (dL hk) Z;refine Bv [Pt b,.slice N l.length O,I i,.bool (!CL s l l[i])] (λW H=>?_) (λe he=>?_)
        .refine Bv [Pt b,.slice N l.length O,I i,I k,.bool true,.pointer (some ⟨b,0 + 1,none⟩),S0 tb s.AA.length tc,I (l[i]).at_] (λW H=>?_) (λe he=>?_)
         .refine jne ?_;rw[e6];exact jtt (jfo (jl (v:=S0 tb s.AA.length tc) rfl (VT T hc H)))
         refine z_V ?_;refine jtt (jp (Cf _ Z) ?_);rw[e1];cases c4:((s.AA[r1]).kind == 4) with
         | false=>
          refine Bv [Pt b,.slice N l.length O,I i,.bool true,.pointer (some ⟨b,0 + 1,none⟩),S0 tb s.AA.length tc,.bool true,U,U,U] (λW H=>?_) (λe he=>?_)
          .refine jtt (jrk h.z g7 (jne ?_));rw[show ((s.AA[r1]).kind != 4) = true by unfold bne;rw[c4];rfl];exact jtf H
          refine z_V ?_;refine Ak (jtt (jl (v:=S0 tb s.AA.length tc) rfl jev)) (jtf ?_);refine Bv [Pt b,.slice N l.length O,I i,.bool true,.bool true,U,U,U] (λW H=>?_) (λe he=>?_)
          .exact jtf H
          refine z_V ?_;refine Bv [Pt b,.slice N l.length O,I i,.bool true,.bool true,U,U,.bool true] (λW H=>?_) (λe he=>?_)
          .exact jtt H
          refine z_V ?_;refine Ak (jtf jev) ?_;rw[hT,f1,c4,Bool.and_false] at H;exact H
         | true=>
          refine Bv [Pt b,.slice N l.length O,I i,.bool true,.pointer (some ⟨b,0 + 1,none⟩),S0 tb s.AA.length tc,.bool false,.pointer (some ⟨b,0 + 1,none⟩),S0 tb s.AA.length tc,I (l[k]).at_] (λW H=>?_) (λe he=>?_)
          .refine jtt (jrk h.z g7 (jne ?_));rw[show ((s.AA[r1]).kind != 4) = false by unfold bne;rw[c4];rfl];exact jff (jfo (jl (v:=S0 tb s.AA.length tc) rfl (VT T hk H)))
          refine z_V ?_;refine Ak (jtt (jl (v:=S0 tb s.AA.length tc) rfl jev)) (jff (jp (Cf _ Z) ?_));rw[e2];refine Bv [Pt b,.slice N l.length O,I i,.bool true,.bool false,.pointer (some ⟨b,0 + 1,none⟩),S0 tb s.AA.length tc,.bool ((s.AA[r2]).kind == 4)] (λW H=>?_) (λe he=>?_)
          .exact jff (jrk h.z f4 (jeq H))
          refine z_V ?_;refine Bv [Pt b,.slice N l.length O,I i,.bool true,.bool false,.pointer (some ⟨b,0 + 1,none⟩),S0 tb s.AA.length tc,.bool ((s.AA[r2]).kind == 4)] (λW H=>?_) (λe he=>?_)
          .exact jtt H
          refine z_V ?_;refine Ak (jff (jl (v:=S0 tb s.AA.length tc) rfl jev)) ?_;rw[hT,f1,c4,f2] at H;cases c5:((s.AA[r2]).kind == 4)<;>(rw[c5] at H;exact H)
        refine z_V ?_;refine jif (λg=>?_) (λg=>?_)
        .exact a0 a4 (a6 (b6 (by simpa using g)))
        .exact jad (hK hc (d3 (by simpa using g)))
   .refine z_V ?_;exact h1 j2
  refine z_V ?_;have S:=Tt (a8.trans hs) Em;have e5:Aq l (Ct s) [] = none->(CD s).isSome = false:=λhn=>Vr (a8.trans hs) hn
  rw[show ((b,C 50 (cl (.agg (eSt s (.slice wa s.AC.length wc) (S0 tb s.AA.length tc) (.slice ma s.AM.length mc) thv ov pv).toArray))) :: ([] ++ F):Chs) = (b,C 50 (eSt s (.slice wa s.AC.length wc) (S0 tb s.AA.length tc) (.slice ma s.AM.length mc) thv ov pv)) :: ([] ++ F) from rfl];generalize e7:eSt s (.slice wa s.AC.length wc) (S0 tb s.AA.length tc) (.slice ma s.AM.length mc) thv ov pv = cs;have c8:cs[8]? = some thv:=by rw[<- e7];rfl
  have d2:cs[10]? = some pv:=by rw[<- e7];rfl
  have c1:cs[1]? = some (S0 tb s.AA.length tc):=by rw[<- e7];rfl
  have rl:=h.b.rl;clear he ho;refine Ac (λvs R' D'=>R' = R1/\∃ac v A,Aq l (s.AB.flatMap (·.AD)) [] = some ac/\s.AB.all Fs = true/\SO ac v A/\D' = A ++ ((b,C 50 cs) :: ([] ++ F))/\vs = [Pt b,.slice N l.length O,v]) (λK1 h1=>?_) ?_
  .refine jcI h1 λK2 h2=>?_
   refine jlp (λm vs R' D'=>R' = R1/\∃(i:Nat) (ac:List Int) (v:Value) (A:Chs),i<=s.AB.length/\m = s.AB.length - i/\Aq l ((s.AB.take i).flatMap (·.AD)) [] = some ac/\(s.AB.take i).all Fs = true/\SO ac v A/\D' = A ++ ((b,C 50 cs) :: ([] ++ F))/\vs = [Pt b,.slice N l.length O,v,I i]) (n:=s.AB.length) ⟨rfl,0,[],_,[],Z,rfl,rfl,rfl,.inl ⟨rfl,rfl,rfl⟩,rfl,rfl⟩ ?_;rintro m e R2 D2 K ⟨hR,i,ac,v,A,hi,c0,a9,c9,so,hD,he⟩ hK;subst hR;refine z_W ?_;clear hD;refine jl (v:=thv) c8 (Bf h.c.th.sl (jlt (jif (λhc=>?_) (λhc=>?_))));rotate_left
   .have hc:=z_g hc;rw[dO Z] at a9 c9;exact h2 _ _ _ ⟨rfl,ac,v,A,a9,c9,so,rfl,rfl⟩
   have hc:i < s.AB.length:=by have:=z_f hc;omega
   have b5:=rl _ (dL hc);have b8:=FS a9;have i6:=Dc (s.AB.take i) (λt ht=>rl t (eJ ht));have f7:9 * (s.AB.take i).length<=27:=by rw[dU];omega
   rw[f9] at b8;refine Ac (λvs R' D'=>R' = R2/\∃ac v A,Aq l ((s.AB.take (i + 1)).flatMap (·.AD)) [] = some ac/\(s.AB.take (i + 1)).all Fs = true/\SO ac v A/\D' = A ++ ((b,C 50 cs) :: ([] ++ F))/\vs = [Pt b,.slice N l.length O,v,I i]) (λK3 h3=>?_) ?_;rotate_left
   .rintro e R3 D3 ⟨hR,ac,v,A,g1,g2,so,hD,he⟩;subst hR;refine z_W ?_;clear hD;exact jad (hK (s.AB.length - (i + 1)) _ _ _ Z ⟨rfl,i + 1,ac,v,A,Z,rfl,g1,g2,so,rfl,rfl⟩)
   refine jcI h3 λK4 h4=>?_
   refine jl (v:=thv) c8 (jtr h.c.th hc λb2 o2 ty i4 rv a7 e4 f3 b9=>?_);refine DR (l:=[rv,I (s.AB[i]).next,.bool (s.AB[i]).busy,I (s.AB[i]).Am]) e4 f3 b9 (ja λb3=>?_);obtain⟨ra,rc,rfl⟩:=a7.sl;refine jS ([.slice ra (s.AB[i]).AD.length rc,I (s.AB[i]).next,.bool (s.AB[i]).busy,I (s.AB[i]).Am]) ?_;refine jor [Pt b,.slice N l.length O,v,I i,Pt b3] ((decide (((s.AB[i]).AD.length:Int) > 8)) || (decide ((s.AB[i]).Am < 0))) (λW H=>?_) (λe c u ho he=>?_)
   .refine jl (v:=.slice ra (s.AB[i]).AD.length rc) rfl (jln (jgr (jgO H λh1 hN=>jl (v:=I (s.AB[i]).Am) rfl (jlt hN))))
   refine z_V ?_;refine jor [Pt b,.slice N l.length O,v,I i,Pt b3] ((decide (((s.AB[i]).AD.length:Int) > 8) || decide ((s.AB[i]).Am < 0)) || (decide ((s.AB[i]).Am > 2))) (λW H=>?_) (λe c u ho he=>?_)
   .rw[ho];refine jgO H λh1 hN=>jl (v:=I (s.AB[i]).Am) rfl (jgr hN)
   refine z_V ?_;rw[ho];have g8:(decide (((s.AB[i]).AD.length:Int) > 8) || decide ((s.AB[i]).Am < 0) || decide ((s.AB[i]).Am > 2)) = !Fs s.AB[i]:=by
    unfold Fs;rw[eY];simp only[du,dp,gM,z_d,decide_eq_false_iff_not];omega
   rw[g8];refine jif (λg=>?_) (λg=>?_)
   .refine a0 a4 (a6 ?_);rw[fU];intro hh;unfold C8 at hh;simp only[z_b] at hh;have:=df.1 hh.1.2 _ (dL hc);rw[this] at g;cases g
   have h6:(s.AB.take (i + 1)).all Fs = true:=by
    rw[dJ hc,gW,c9];simpa using g
   have f6:(s.AB.take (i + 1)).flatMap (·.AD) = (s.AB.take i).flatMap (·.AD) ++ (s.AB[i]).AD:=by
    rw[dJ hc,List.flatMap_append];simp
   have f5:∃e3,Ct s = (s.AB.take i).flatMap (·.AD) ++ ((s.AB[i]).AD ++ e3):=by
    refine⟨(s.AB.drop (i + 1)).flatMap (·.AD) ++ s.AJ,?_⟩;unfold Ct
    conv=>lhs;rw[<- fk (i + 1) s.AB]
    rw[List.flatMap_append,f6];simp
   obtain⟨e3,f5⟩:=f5;refine Al A (G:=((b3,C 117 [.slice ra (s.AB[i]).AD.length rc,I (s.AB[i]).next,.bool (s.AB[i]).busy,I (s.AB[i]).Am]) :: (b,C 50 cs) :: ([] ++ F))) ?_;refine Ac (λvs R' D'=>R' = R2/\∃Q v A,Aq l (s.AB[i]).AD ac = some Q/\SO Q v A/\D' = A ++ ((b,C 50 cs) :: ([] ++ F))/\vs = [Pt b,.slice N l.length O,v,I i]) (λK5 h5=>?_) ?_;rotate_left
   .rintro e R3 D3 ⟨hR,Q,v2,A2,g1,b0,hD,he⟩;subst hR;refine z_W ?_;clear hD;refine h4 _ _ _ ⟨rfl,Q,v2,A2,?_,h6,b0,rfl,rfl⟩;rw[f6,Cx,a9];exact g1
   refine jlp (λm vs R' D'=>R' = R2/\∃(j:Nat) (Q:List Int) (v:Value) (A:Chs),j<=(s.AB[i]).AD.length/\m = (s.AB[i]).AD.length - j/\Aq l ((s.AB[i]).AD.take j) ac = some Q/\SO Q v A/\D' = A ++ ((b3,C 117 [.slice ra (s.AB[i]).AD.length rc,I (s.AB[i]).next,.bool (s.AB[i]).busy,I (s.AB[i]).Am]) :: (b,C 50 cs) :: ([] ++ F))/\vs = [Pt b,.slice N l.length O,v,I i,Pt b3,I j]) (n:=(s.AB[i]).AD.length) ⟨rfl,0,ac,v,A,Z,rfl,rfl,so,rfl,rfl⟩ ?_;clear so ho he c0 hK;rintro m e R3 D3 K ⟨hR,j,Q,v2,A2,hj,c0,a3,b0,hD,he⟩ hK;subst hR;refine z_W ?_;clear hD;refine jl (v:=.slice ra (s.AB[i]).AD.length rc) rfl (jln (jlt (jif (λa5=>?_) (λa5=>?_))));rotate_left
   .have a5:=z_g a5;rw[dO Z] at a3;refine Al A2 (G:=((b,C 50 cs) :: ([] ++ F))) ?_;exact h5 _ _ _ ⟨rfl,Q,v2,A2,a3,b0,rfl,rfl⟩
   have a5:j < (s.AB[i]).AD.length:=by have:=z_f a5;omega
   have b7:=FS a3;rw[dU] at b7;have c7:Aq l ((s.AB[i]).AD.take (j + 1)) ac = (now l (s.AB[i]).AD[j]).bind λy=>some (Bu Q y):=by
    rw[dJ a5,Cx,a3];rfl
   refine jan [Pt b,.slice N l.length O,v2,I i,Pt b3,I j] (((s.AB[i]).AD[j] != 0) && decide (PT l (s.AB[i]).AD[j] < 0)) (λW H=>?_) (λe c u ho he=>?_)
   .refine jl (v:=.slice ra (s.AB[i]).AD.length rc) rfl (Bk a7 Z Z ?_);simp only[dG];refine jne (jgA H λg hN=>?_);refine jl (v:=.slice ra (s.AB[i]).AD.length rc) rfl (Bk a7 Z Z ?_);simp only[dG];exact jrp (Do _ T Z) (jlt hN)
   refine z_V ?_;rw[ho];refine jif (λg=>?_) (λg=>?_)
   .refine a0 a4 (e5 ?_);simp only[z_b,bne_iff_ne,z_d] at g;have f0:now l (s.AB[i]).AD[j] = none:=by
     unfold now;rw[if_neg g.1];cases hf:Ax l (s.AB[i]).AD[j] with
     | none=>rfl
     | some t=>obtain⟨q,_,e,_⟩:=Ei hf;omega
    rw[f5,Cx,a9,z_o,Cx]
    conv=>lhs;rw[<- fk (j + 1) (s.AB[i]).AD,Cx,c7,f0]
    rfl
   obtain⟨x,hx⟩:∃x,now l (s.AB[i]).AD[j] = some x:=by
    unfold now;by_cases g0:(s.AB[i]).AD[j] = 0
    .exact⟨0,by rw[if_pos g0]⟩
    .rw[if_neg g0];cases hf:Ax l (s.AB[i]).AD[j] with
     | none=>rw[Hl hf] at g;simp[g0] at g
     | some t=>exact⟨_,rfl⟩
   refine jl (v:=.slice ra (s.AB[i]).AD.length rc) rfl (Bk a7 Z Z ?_);simp only[dG];refine jrp (Fp T Z hx) ?_;refine jc (A:=A2) (LL x b0 Z) ?_;rintro v3 R4 A3 _ ⟨hR,d1⟩;subst hR;refine jad ?_;refine hK ((s.AB[i]).AD.length - (j + 1)) _ _ _ Z ⟨rfl,j + 1,_,v3,A3,Z,rfl,?_,d1,rfl,rfl⟩;rw[c7,hx];rfl
  rintro e R2 D2 ⟨hR,ac,v,A,a9,c9,so,hD,he⟩;subst hR;refine z_W ?_;clear hD;have b8:=FS a9;have i6:=Dc s.AB rl;have f7:9 * s.AB.length<=27:=Z
  rw[f9] at b8;obtain⟨pa,pc,rfl⟩:=h.c.p.sl;refine jl (v:=.slice pa s.AJ.length pc) d2 (jln (jgr (jif (λg=>?_) (λg=>?_))))
  .refine a0 a4 (a6 ?_);rw[fU];intro hh;unfold C8 at hh;simp only[z_b,z_d] at hh;have:=z_f g;omega
  have k2:s.AJ.length<=8:=by have:=z_g g;omega
  refine Ac (λvs R' D'=>R' = R2/\∃out v A,Aq l (Ct s) [] = some out/\s.AJ.all (E6 s l) = true/\SO out v A/\D' = A ++ ((b,C 50 cs) :: ([] ++ F))/\vs = [.slice N l.length O,v]) (λK1 h1=>?_) ?_
  .refine jcI h1 λK2 h2=>?_
   refine jlp (λm vs R' D'=>R' = R2/\∃(i:Nat) (v:Value) (A:Chs),i<=s.AJ.length/\m = s.AJ.length - i/\(s.AJ.take i).all (E6 s l) = true/\SO ((s.AJ.take i).foldl Bu ac) v A/\D' = A ++ ((b,C 50 cs) :: ([] ++ F))/\vs = [Pt b,.slice N l.length O,v,I i]) (n:=s.AJ.length) ⟨rfl,0,v,A,Z,rfl,rfl,so,rfl,rfl⟩ ?_;clear so;rintro m e R3 D3 K ⟨hR,i,v,A,hi,c0,b4,so,hD,he⟩ hK;subst hR;refine z_W ?_;clear hD;refine jl (v:=.slice pa s.AJ.length pc) d2 (jln (jlt (jif (λhc=>?_) (λhc=>?_))));rotate_left
   .have hc:=z_g hc;rw[dO Z] at b4 so;refine h2 _ _ _ ⟨rfl,_,v,A,?_,b4,so,rfl,rfl⟩;unfold Ct;rw[Cx,a9];exact LQ b4
   have hc:i < s.AJ.length:=by have:=z_f hc;omega
   have b6:E6 s l s.AJ[i] = false->C8 s l = false:=λhh=>by
    rw[fU];intro g;unfold C8 at g;simp only[z_b] at g;have:=df.1 g.2 _ (dL hc);rw[hh] at this;cases this
   have j1:((s.AJ.take i).foldl Bu ac).length < 1000000:=by
    have:=FS (LQ (j:=ac) b4);rw[dU] at this;omega
   refine jl (v:=.slice pa s.AJ.length pc) d2 (Bk h.c.p Z Z ?_);simp only[dG];refine jrp (Do _ T Z) ?_;cases hf:Ax l s.AJ[i] with
   | none=>
    rw[Hl hf];refine Bv [Pt b,.slice N l.length O,v,I i,.bool true] (λW H=>?_) (λe he=>?_)
    .refine Bv [Pt b,.slice N l.length O,v,I i,I (-1),.bool true,U] (λW H=>?_) (λe he=>?_)
     .exact jlt (jtf H)
     refine z_V ?_;refine Bv [Pt b,.slice N l.length O,v,I i,.bool true,U,U,U] (λW H=>?_) (λe he=>?_)
     .exact jtf H
     refine z_V ?_;exact jtf (Ak jev H)
    refine z_V ?_;exact DG (a0 a4 (a6 (b6 (by unfold E6;rw[hf]))))
   | some n=>
    obtain⟨k,hk,c6,hn⟩:=Ei hf;subst hn;rw[c6];obtain⟨i8,e9⟩:=BF hf;have g6:E6 s l s.AJ[i] = (!((l[k]).moved != (l[k]).at_) && !Dk s (l[k]).at_):=by
     unfold E6;rw[hf];dsimp only;rw[e9];unfold bne;cases (l[k]).moved == s.AJ[i]<;>rfl
    obtain⟨r2,e2,f4,f2⟩:=Jt hs i8 Z;refine Bv [Pt b,.slice N l.length O,v,I i,.bool (!E6 s l s.AJ[i])] (λW H=>?_) (λe he=>?_)
    .refine Bv [Pt b,.slice N l.length O,v,I i,I k,.bool false,.bool ((l[k]).moved != (l[k]).at_)] (λW H=>?_) (λe he=>?_)
     .refine jlt ?_;rw[show decide ((k:Int) < 0) = false from decide_eq_false Z];exact jff (Yg T hk (VT T hk (jne H)))
     refine z_V ?_;cases c4:((l[k]).moved != (l[k]).at_) with
     | true=>
      refine Bv [Pt b,.slice N l.length O,v,I i,.bool true,U,U,U] (λW H=>?_) (λe he=>?_)
      .exact jtf H
      refine z_V ?_;rw[g6,c4] at H;exact jtf (Ak jev H)
     | false=>
      refine Bv [Pt b,.slice N l.length O,v,I i,.bool false,.pointer (some ⟨b,0 + 1,none⟩),S0 tb s.AA.length tc,I (l[k]).at_] (λW H=>?_) (λe he=>?_)
      .exact jff (jfo (jl (v:=S0 tb s.AA.length tc) (by rw[da];exact c1) (VT T hk H)))
      refine z_V ?_;refine jff (jp (Cf _ Z) ?_);rw[e2];refine jrk h.z f4 (jeq ?_);rw[g6,c4,f2] at H;refine Ak (jl (v:=S0 tb s.AA.length tc) (by rw[da];exact c1) jev) ?_;cases c5:((s.AA[r2]).kind == 4)<;>(rw[c5] at H;exact H)
    refine z_V ?_;refine jif (λg=>?_) (λg=>?_)
    .exact a0 a4 (a6 (b6 (by simpa using g)))
    have j0:E6 s l s.AJ[i] = true:=by simpa using g
    refine jl (v:=.slice pa s.AJ.length pc) d2 (Bk h.c.p Z Z ?_);simp only[dG];refine jc (A:=A) (LL s.AJ[i] so j1) ?_;rintro v3 R4 A3 _ ⟨hR,d1⟩;subst hR;refine jad ?_;refine hK (s.AJ.length - (i + 1)) _ _ _ Z ⟨rfl,i + 1,v3,A3,Z,rfl,?_,?_,rfl,rfl⟩
    .rw[dJ hc,gW,b4];simpa using j0
    .rw[dJ hc,gY];exact d1
  rintro e R3 D3 ⟨hR,out,v,A,d4,b4,so,hD,he⟩;subst hR;refine z_W ?_;clear hD;have M0:E4 l out:=E4.nil.all S d4;have e8:C8 s l = true:=by
   unfold C8;simp only[z_b,z_d];exact⟨⟨⟨⟨⟨⟨⟨Em,Z⟩,Z⟩,Z⟩,Z⟩,Z⟩,c9⟩,b4⟩
  have g3:CD s = (BI l (l.length + 2) 0 out).map λm=>(l,m):=by
   unfold CD;rw[a8,hs];dsimp only;rw[if_pos e8,DZ b4,d4];rfl
  refine jlp (λm vs R' D'=>R' = R3/\∃(i:Nat) (ac:List Int) (v:Value) (A:Chs),i<=ac.length/\m = l.length + 2 - i/\BI l (l.length + 2 - i) i ac = BI l (l.length + 2) 0 out/\E4 l ac/\SO ac v A/\D' = A ++ ((b,C 50 cs) :: ([] ++ F))/\vs = [.slice N l.length O,v,I i]) (n:=l.length + 2) ⟨rfl,0,out,v,A,Z,Z,rfl,M0,so,rfl,rfl⟩ ?_;clear so a9 b8;rintro m e R4 D4 K ⟨hR,i,ac,v,A,hi,c0,b5,M,so,hD,he⟩ hK;subst hR;refine z_W ?_;clear hD;have j7:=M.len;obtain⟨va,vc,j4⟩:=so.sln;refine Bf ⟨va,vc,j4⟩ (jlt (jif (λhc=>?_) (λhc=>?_)));rotate_left
  .have hc:=z_g hc;obtain⟨q,hq⟩:∃q,l.length + 2 - i = q + 1:=⟨l.length + 1 - i,Z⟩;rw[hq,CJ Z] at b5;refine a0 a4 ?_;rw[g3,<- b5];rfl
  have hc:i < ac.length:=by have:=z_f hc;omega
  obtain⟨t,ht⟩:=M.th _ (dL hc);obtain⟨j3,j6⟩:=BF ht;obtain⟨q,hq⟩:∃q,l.length + 2 - i = q + 1:=⟨l.length + 1 - i,Z⟩;rw[hq,C9 hc ht] at b5;have k3:=j5 t j3;refine Ac (λvs R' D'=>R' = R4/\∃Q v A,Aq l t.refs ac = some Q/\SO Q v A/\D' = A ++ ((b,C 50 cs) :: ([] ++ F))/\vs = [.slice N l.length O,v,I i]) (λK3 h3=>?_) ?_;rotate_left
  .rintro e R5 D5 ⟨hR,Q,v2,A2,hn,b0,hD,he⟩;subst hR;refine z_W ?_;clear hD;rw[hn,z_o] at b5;have M2:=M.all S hn;have:=M2.len;have j8:=EG hn;exact jad (hK q _ _ _ Z ⟨rfl,i + 1,Q,v2,A2,Z,Z,by rw[<- b5];congr 1;omega,M2,b0,rfl,rfl⟩)
  refine jcI h3 λK4 h4=>?_
  refine VX so hc (jrp (Do _ T Z) ?_);obtain⟨k,hk,c6,hn⟩:=Ei ht;rw[c6];refine jtg T hk λb2 o2 ty i4 rv nv a7 g5 e4 f3 b9=>?_
  rw[hn] at a7 g5 b9;obtain⟨ra,rc,rfl⟩:=a7.sl;obtain⟨na,nc,rfl⟩:=g5.sl;refine DR (l:=eTh t (.slice ra t.refs.length rc) (.slice na t.nums.length nc)) e4 f3 b9 (ja λb3=>?_);refine jS (eTh t (.slice ra t.refs.length rc) (.slice na t.nums.length nc)) ?_;refine Al A (G:=((b3,C 70 (eTh t (.slice ra t.refs.length rc) (.slice na t.nums.length nc))) :: (b,C 50 cs) :: ([] ++ F))) ?_;refine jcI h4 λK5 h5=>?_
  refine jlp (λm vs R' D'=>R' = R4/\∃(j:Nat) (Q:List Int) (v:Value) (A:Chs),j<=t.refs.length/\m = t.refs.length - j/\Aq l (t.refs.take j) ac = some Q/\SO Q v A/\D' = A ++ ((b3,C 70 (eTh t (.slice ra t.refs.length rc) (.slice na t.nums.length nc))) :: (b,C 50 cs) :: ([] ++ F))/\vs = [.slice N l.length O,v,I i,Pt b3,I j]) (n:=t.refs.length) ⟨rfl,0,ac,v,A,Z,rfl,rfl,so,rfl,rfl⟩ ?_;clear so c0 hK he;rintro m e R5 D5 K ⟨hR,j,Q,v2,A2,hj,c0,a3,b0,hD,he⟩ hK;subst hR;refine z_W ?_;clear hD;refine jl (v:=.slice ra t.refs.length rc) rfl (jln (jlt (jif (λa5=>?_) (λa5=>?_))));rotate_left
  .have a5:=z_g a5;rw[dO Z] at a3;refine Al A2 (G:=((b,C 50 cs) :: ([] ++ F))) ?_;exact h5 _ _ _ ⟨rfl,Q,v2,A2,a3,b0,rfl,rfl⟩
  have a5:j < t.refs.length:=by have:=z_f a5;omega
  have b7:=FS a3;rw[dU] at b7;have c7:Aq l (t.refs.take (j + 1)) ac = (now l t.refs[j]).bind λy=>some (Bu Q y):=by
   rw[dJ a5,Cx,a3];rfl
  refine jan [.slice N l.length O,v2,I i,Pt b3,I j] ((t.refs[j] != 0) && decide (PT l t.refs[j] < 0)) (λW H=>?_) (λe c u ho he=>?_)
  .refine jl (v:=.slice ra t.refs.length rc) rfl (Bk a7 Z Z ?_);simp only[dG];refine jne (jgA H λg hN=>?_);refine jl (v:=.slice ra t.refs.length rc) rfl (Bk a7 Z Z ?_);simp only[dG];exact jrp (Do _ T Z) (jlt hN)
  refine z_V ?_;rw[ho];refine jif (λg=>?_) (λg=>?_)
  .refine a0 a4 ?_;simp only[z_b,bne_iff_ne,z_d] at g;have f0:now l t.refs[j] = none:=by
    unfold now;rw[if_neg g.1];cases hf:Ax l t.refs[j] with
    | none=>rfl
    | some t=>obtain⟨q,_,e,_⟩:=Ei hf;omega
   have:Aq l t.refs ac = none:=by
    conv=>lhs;rw[<- fk (j + 1) t.refs,Cx,c7,f0]
    rfl
   rw[this] at b5;rw[g3,<- b5];rfl
  obtain⟨x,hx⟩:∃x,now l t.refs[j] = some x:=by
   unfold now;by_cases g0:t.refs[j] = 0
   .exact⟨0,by rw[if_pos g0]⟩
   .rw[if_neg g0];cases hf:Ax l t.refs[j] with
    | none=>rw[Hl hf] at g;simp[g0] at g
    | some t=>exact⟨_,rfl⟩
  refine jl (v:=.slice ra t.refs.length rc) rfl (Bk a7 Z Z ?_);simp only[dG];refine jrp (Fp T Z hx) ?_;refine jc (A:=A2) (LL x b0 Z) ?_;rintro v3 R6 A3 _ ⟨hR,d1⟩;subst hR;refine jad ?_;refine hK (t.refs.length - (j + 1)) _ _ _ Z ⟨rfl,j + 1,_,v3,A3,Z,rfl,?_,d1,rfl,rfl⟩;rw[c7,hx];rfl
end st
end Go.Lf
end
section
namespace Go.Lf
open Go Sm
def mkB (n:Nat) (xs:List Int):List Bool:=(List.range n).map λ(i:Nat)=>decide ((i:Int)∈xs)
theorem Oe (n:Nat) (xs:List Int):(mkB n xs).length = n:=by simp[mkB]
theorem Yj (n:Nat):mkB n [] = List.replicate n false:=by
 apply fY<;>simp[mkB]
theorem Yz {n k:Nat} {xs:List Int} (h:k < n):(mkB n xs).set k true = mkB n (xs ++ [(k:Int)]):=by
 apply List.ext_getElem?;intro i;rw[gC];unfold mkB;simp only[dN,List.length_range,eH,List.getElem?_range',dg,dZ];by_cases e:k = i
 .subst e;rw[if_pos rfl,if_pos h,gI h];simp
 .rw[if_neg e];by_cases j:i < n
  .rw[gI j];have:¬ ((i:Int) = k):=Z
   simp[this]
  .rw[eT (by simpa using j)];rfl
section st
variable {R:RM} {s:Sm.Ah} {wv tv mv thv ov pv:Value}
theorem Ho {l:List AQ} (h:SF R s wv tv mv thv ov pv) (hl:Ey s = some l):l.length<=192/\TB l:=by
 have j:=hl;unfold Ey at j;split at j;rotate_left
 .cases j
 unfold BJ at j;have x:=NF (by have:=h.b.wl;have:=h.b.t1;omega) j;have:=h.b.t1;rw[fh] at x;exact⟨Z,x.1⟩
theorem cV {D:Chs} {b n k:Nat} {xs:List Int} {m:M} {D' : Chs} (j:k < n) [a:At D b (C Az ((mkB n xs).map Value.bool))] [u:Up D b (C Az ((mkB n xs).map Value.bool)) (C Az ((mkB n (xs ++ [(k:Int)])).map Value.bool)) D']
  (H:J R D' m):J R D (IA 1 (S0 b n n) (I (k:Int)) λp=>ST 1 p (.bool true) m):=by
 refine C0 j (js (cs':=(mkB n (xs ++ [(k:Int)])).map Value.bool) rfl rfl (by rw[dN,Oe];show 0 + k * 1 + 1<=n;omega) ?_ H);rw[fN,da];show lay _ k [.bool true] = _;rw[Ga (by rw[dN,Oe];exact j),<- List.map_set,Yz j]
end st
section rules
variable {R:RM} {D:Chs} {k:Value->M}
theorem dE {A:List Nat} {B:(List Value->M)->Env->M} {x:List Value} (n:Nat) (q:Nat->List Value->Prop) (h0:q 0 x)
  (H:∀(i:Nat) K e,i<=n->q i (A.map e)->(∀j,i < n->q (i + 1) j->J R D (K j))->J R D (B K e)):J R D (LP A B x):=by
 refine jlp (λm x N G=>N = R/\G = D/\∃i:Nat,i<=n/\m = n - i/\q i x) (n:=n) ⟨rfl,rfl,0,Z,Z,h0⟩ ?_;rintro m e R1 D1 K ⟨Q,hD,i,T,hm,W⟩ O;subst Q hD;exact H i K e T W (λj h y=>O (n - (i + 1)) _ _ _ Z ⟨rfl,rfl,i + 1,Z,rfl,y⟩)
end rules
def DSF (x:Value) (R:RM):Prop:=∃(s:Sm.Ah) (wv tv mv thv ov pv:Value),x = .agg (eSt s wv tv mv thv ov pv).toArray/\s.BK<=90000/\SF R s wv tv mv thv ov pv
theorem DSF.cut {x:Value} {R:RM} (h:DSF x R):∃(s:Sm.Ah) (H:Option Addr) (wc tb tc:Nat) (y:Option Addr) (mc:Nat) (O:Option Addr) (j:Nat) (A:Option Addr) (D:Nat) (G:Option Addr) (pc:Nat),x = .agg (eSt s (.slice H s.AC.length wc) (S0 tb s.AA.length tc) (.slice y s.AM.length mc) (.slice O s.AB.length j) (.slice A s.old.length D) (.slice G s.AJ.length pc)).toArray/\s.BK<=90000/\SF R s (.slice H s.AC.length wc) (S0 tb s.AA.length tc) (.slice y s.AM.length mc) (.slice O s.AB.length j) (.slice A s.old.length D) (.slice G s.AJ.length pc):=by
 obtain⟨s,wv,tv,mv,thv,ov,pv,rfl,K,h⟩:=h;obtain⟨tb,tc,sp,rfl,hb,Q⟩:=h.z;obtain⟨H,wc,rfl⟩:=h.c.w.sl;obtain⟨y,mc,rfl⟩:=h.c.m.sl;obtain⟨N,j,rfl⟩:=h.c.th.sl;obtain⟨A,D,rfl⟩:=h.c.o.sl;obtain⟨G,pc,rfl⟩:=h.c.p.sl;exact⟨s,H,wc,tb,tc,y,mc,N,j,A,D,G,pc,rfl,K,h⟩
theorem aI {x:Value} {R:RM} {F:Chs} {b:Nat} {k:Value->M} (h:DSF x R) (H:J R F (k x)):J R ((b,C 50 (cl z50)) :: F) (ST 13 (Pt b) x (LA 13 (Pt b) k)):=by
 obtain⟨s,O,wc,tb,tc,D,mc,j,y,G,K,N,pc,rfl,A,h⟩:=h.cut;refine js rfl rfl (by exact z_n 13) rfl (jla (l:=eSt s (.slice O s.AC.length wc) (S0 tb s.AA.length tc) (.slice D s.AM.length mc) (.slice j s.AB.length y) (.slice G s.old.length K) (.slice N s.AJ.length pc)) (by exact z_n 13) rfl (BV H))
end Go.Lf
end
section
namespace Sm
open Go.Lf
theorem QD {a b:List Int} (h:a.Perm b):a.sum = b.sum:=by
 induction h with
 | nil=>rfl
 | cons x _ D=>rw[List.sum_cons,List.sum_cons,D]
 | swap x y l=>simp only[List.sum_cons];omega
 | trans _ _ j A=>exact j.trans A
def szA (l:List AQ) (a:Int):Int:=((Ax l a).map λt=>AF t.sh).getD 0
def DS (l:List AQ) (xs:List Int):Int:=(xs.map (szA l)).sum
def JP (l:List AQ):Int:=(l.map λt=>AF t.sh).sum
theorem KA {l:List AQ} {a:Int} {t:AQ} (h:Ax l a = some t):szA l a = AF t.sh:=by
 unfold szA;rw[h];rfl
theorem Yd (l:List AQ) (a:Int):0<=szA l a/\szA l a<=10:=by
 unfold szA;cases Ax l a with
 | none=>exact⟨δ,δ⟩
 | some t=>exact EE t.sh
theorem Jp {l:List AQ}:∀j:List Int,0<=DS l j/\DS l j<=10 * j.length
 | []=>⟨by simp[DS],by simp[DS]⟩
 | x :: j=>by
  have A:=Yd l x;have y:=Jp (l:=l) j;unfold DS at y ⊢;rw[eN,List.sum_cons,dR];omega
theorem Tg {l:List AQ} {xs:List Int} {i:Nat} (h:i < xs.length):DS l (xs.take (i + 1)) = DS l (xs.take i) + szA l xs[i]:=by
 unfold DS;rw[dJ h,dz,List.sum_append];simp
end Sm
namespace Go.Lf
open Go Sm
section st
variable {R:RM} {s:Sm.Ah} {wv tv mv thv ov pv:Value}
def IS (s:Sm.Ah):Int × Int:=match CD s with
 | none=>(0,0)
 | some (l,met)=>(DS l met,JP l)
theorem ZL {l:List AQ} {x:List Int} (y:HpF s l x):BJ s = some l:=by
 have j:=y.ths;unfold Ey at j;split at j
 .exact j
 .cases j
theorem L7 {l:List AQ} {j:List Int} (y:HpF s l j) {a:Int} (H:a∈j):∃t,Ax l a = some t/\As s.AC a = (t,true):=by
 obtain⟨t,A⟩:=y.M.th a H;obtain⟨D,G⟩:=BF A;have x:=ZL y;unfold BJ at x;have:=((FP x).2 t D).2.2.1;rw[G] at this;exact⟨t,A,this⟩
set_option maxHeartbeats 1000000 in
set_option maxRecDepth 4000 in
theorem HD (h:SF R s wv tv mv thv ov pv):Ro HC [.agg (eSt s wv tv mv thv ov pv).toArray] (.tuple #[I (IS s).1,I (IS s).2]) R []:=by
 refine N6 λF=>?_
 refine z_1 ?_;refine ja λb=>jla (l:=eSt s wv tv mv thv ov pv) (by exact z_n 13) rfl ?_
 refine jc (A:=[]) (IU h) ?_;rintro x R1 _ hR ⟨rfl,hq⟩;unfold IS;cases hh:CD s with
 | none=>
  rw[hh] at hq;obtain rfl:x = _:=hq;exact jxr (λw=>Pw w _ _) (DG (Ao (A:=[]) hR ⟨rfl,rfl⟩))
 | some q=>
  obtain⟨l,j⟩:=q;rw[hh] at hq;obtain⟨hb,mb,v,rfl,o,g1,g2,g3,g4⟩:=hq;have hf:=Cq hh;have b5:=hf.M.len;obtain⟨b4,b7⟩:=Ho h hf.ths;obtain⟨va,vc,rfl⟩:=g4.sl;obtain⟨G,N,a1,a2⟩:=g3;dsimp only;refine jxr (λw=>QW w _ _ hb) (CQ ?_);refine Bv [Pt hb,I (DS l j),I 0] (λK1 h1=>?_) (λe he=>?_)
  .refine jnc (jfo (jlr (v:=.slice va j.length vc) g1 rfl (jln ?_)));refine Bv [Pt hb,I (DS l j),I 0] (λK2 h2=>?_) (λe he=>?_)
   .refine dE j.length (λi vs=>vs = [Pt hb,I (DS l (j.take i)),I 0,.slice va j.length vc,I j.length,I i]) rfl (λi K e hi he hK=>?_);refine z_V ?_;refine jlt (jif (λhc=>?_) (λhc=>?_));rotate_left
    .have hc:=z_g hc;rw[dO Z];exact h2
    have hc:i < j.length:=by have:=z_f hc;omega
    obtain⟨t,ht⟩:=hf.M.th _ (dL hc);have sr:=Jp (l:=l) (j.take i);have se:=KA ht;have tr:=EE t.sh;rw[dU] at sr;refine Bk g4 Z Z ?_;simp only[dG];refine jnc (jfo (jlr (v:=.map (some mb)) g1 rfl ?_));refine @Ot _ _ _ mb o l j[i] false (Li.fz g2) ⟨G,N,a1,a2⟩ (λe=>by rw[ht] at e;cases e) (λt2 v e hv=>?_);rw[ht] at e;cases e;refine Dm hv (jad (jad (hK _ hc ?_)));rw[Tg hc,se];rfl
   .refine z_V ?_;exact h1
  refine z_V ?_;refine Ac (λvs R' D'=>R' = R1/\Sf D' F/\vs = [I (DS l j),I (JP l)]) (λK1 h1=>?_) ?_;rotate_left
  .rintro e R2 D2 ⟨W,b2,he⟩;subst W;refine z_V ?_;exact @Ao _ _ _ _ _ D2 _ _ hR ⟨rfl,rfl⟩ (Sp.nil _) b2
  refine jnc (jfo (jlr (v:=.map (some mb)) g1 rfl ?_));refine @bB _ _ _ 101 70 mb o G (Li.fz g2) MA N λib it a0=>?_
  refine jcI h1 λK2 h2=>?_
  refine jk1 (F:=F) ib ?_;have pl:∀p∈G,∃t∈l,p.1 = t.at_/\ThV R1 p.2 t:=λp hp=>T5 (o:=o) a1 a2 hp
  have b3:(G.map λp=>szA l p.1).sum = JP l:=by
   unfold JP;congr 1;apply fY (by simpa using a1);intro i h1 h2;rw[fQ,fQ];have:=(a2 i (by simpa using h1) (by simpa using h2)).1;rw[this];exact KA (DM hf.S.nd (dL _))
  refine jlp (λm vs R' D'=>R' = R1/\∃(H y:List (Int × Value)) (it:Obj) (T:Option (Int × Value)),m = H.length/\G.Perm (y ++ H)/\ItG mb o it H T/\D' = (ib,it) :: F/\vs = [I (DS l j),I (y.map λp=>szA l p.1).sum,Pt ib])
   (n:=G.length) ⟨rfl,G,[],it,none,rfl,eK _,a0,rfl,rfl⟩ ?_
  rintro m e R2 D2 K ⟨W,H,y,it,T,a8,O,a0,hD,he⟩ hK;subst W;refine z_W ?_;refine @aS _ _ _ mb ib o it _ G H T _ (Li.fz g2) N a0 (λh0=>?_) (λp D a7 a3 Q=>?_)
  .subst h0;refine jex rfl (CQ ?_);have e1:=QD (O.map λp=>szA l p.1);rw[b3,eD] at e1;rw[<- e1];exact h2 _ _ _ ⟨rfl,inferInstance,rfl⟩
  have a9:p∈G:=O.mem_iff.2 (dg.2 (.inr (a3.mem_iff.2 (.head _))));obtain⟨t,ht,b0,rv,nv,b1,a6,a4⟩:=pl p a9;obtain⟨ra,rc,rfl⟩:=a6.sl;obtain⟨na,nc,rfl⟩:=a4.sl;have hlen:D.length < m:=by rw[a8,a3.length_eq,dR];omega
  have a5 : G.Perm ((y ++ [p]) ++ D):=O.trans (by
   rw[dS]
   exact List.Perm.append_left y a3)
  have se:szA l p.1 = AF t.sh:=by rw[b0];exact KA (DM hf.S.nd ht)
  have tr:=EE t.sh;have dr:=Jp (l:=l) (y.map Prod.fst);have de:(y.map λp=>szA l p.1).sum = DS l (y.map Prod.fst):=by unfold DS;rw[fq];rfl
  have dl:y.length<=G.length:=by rw[O.length_eq,dK];omega
  rw[dN] at dr;refine jex rfl (DG (@aC _ _ _ mb ib o a7 G D p _ (Li.fz g2) N Q ?_));rw[b1];refine jex rfl (ja λb6=>?_);refine jS (eTh t (.slice ra t.refs.length rc) (.slice na t.nums.length nc)) ?_;refine jla (l:=eTh t (.slice ra t.refs.length rc) (.slice na t.nums.length nc)) (by exact z_n 6) rfl (Dm ⟨_,_,rfl,a6,a4⟩ (jad (BV ?_)));refine hK D.length _ _ _ hlen ⟨rfl,D,y ++ [p],a7,some p,rfl,a5,Q,rfl,?_⟩;rw[dz,List.sum_append];simp[se]
end st
end Go.Lf
end
section
namespace Go.Lf
open Go Sm
theorem cN {x:Value} {R:RM} {F:Chs} {k:Value->M} (h:DSF x R) (H:∀(b:Nat) (s:Sm.Ah) (wv tv mv thv ov pv:Value),x = .agg (eSt s wv tv mv thv ov pv).toArray->s.BK<=90000->SF R s wv tv mv thv ov pv->J R ((b,C 50 (eSt s wv tv mv thv ov pv)) :: F) (k (Pt b))) :
  J R F (AL 50 z50 λp=>ST 13 p x (k p)):=by
 obtain⟨s,Q,wc,tb,tc,G,mc,y,A,K,N,O,pc,rfl,j,D⟩:=h.cut;refine ja λb=>?_
 refine jS (eSt s (.slice Q s.AC.length wc) (S0 tb s.AA.length tc) (.slice G s.AM.length mc) (.slice y s.AB.length A) (.slice K s.old.length N) (.slice O s.AJ.length pc)) ?_;exact H b s _ _ _ _ _ _ rfl j D
theorem Zq {R:RM} {v:Value} (hc:Cod R v):∃n:Nat,∃a c,v = .slice a n c:=by
 obtain⟨n,j⟩:=hc;exact⟨n,j.sl⟩
section rules
variable {R:RM} {D:Chs} {k:Value->M}
theorem cr {x y:Int} {kd:IntKind} (h:0<=y) (H:J R D (k (.int kd (x.fdiv (2 ^ min y.toNat kd.bits))))):J R D (BO .shr (.int kd x) (.int kd y) k):=by
 unfold BO;simp only[if_true];exact λj A=>⟨h,H j A⟩
theorem bF (x:Int) (w:World):(Go.convert 3 179 (I x):Sem Value).run P w = .ok (.int .u64 (IntKind.u64.wrap x)) w:=by kernel_rfl
theorem bL (x:Int) (w:World):(Go.convert 179 3 (.int .u64 x):Sem Value).run P w = .ok (I (IntKind.i64.wrap x)) w:=by kernel_rfl
theorem XT {n:Int} (h0:0<=n) (j:n < 9223372036854775808):IntKind.u64.wrap n = n:=by
 unfold IntKind.wrap;simp only[IntKind.bits,IntKind.signed];simp;omega
end rules
theorem aK (x:Int):Pu L3 [I x] (.bool false):=by
 intro R;refine Qc λF=>?_
 refine z_1 ?_;refine jne (Ao (A:=[]) (RM.le.refl R) ?_);simp
theorem Zw (x:Int):Pu HF [I x] (.bool false):=by
 intro R;refine MI λF=>?_
 refine z_1 ?_;refine jne (Ao (A:=[]) (RM.le.refl R) ?_);simp
theorem Zz (x y:Int):Pu Mm [I x,I y] (.bool (decide (x < y))):=by
 intro R;refine SV λF=>?_
 refine z_2 ?_;refine jan [I x,I y] false (λG j=>?_) (λe c u D he=>?_)
 .exact jp (aK x) (jft (j _ _ _ By rfl))
 refine z_V ?_;refine jor [] (decide (x < y)) (λG j=>?_) (λe c u D he=>?_)
 .rw[D];exact jff (jlt (j _ _ _ CH rfl))
 refine z_V ?_;rw[D];exact Ao (A:=[]) (RM.le.refl R) rfl
def lbI (l:List Int) (x:Int):Nat:=(l.filter λy=>decide (y < x)).length
theorem Wy {l:List Int} {x:Int} {i:Nat} (N:i<=l.length) (H:∀k (h:k < l.length),k < i->l[k] < x) (K:∀k (h:k < l.length),i<=k->x<=l[k]):lbI l x = i:=by
 unfold lbI
 conv=>lhs;rw[<- fk i l]
 rw[List.filter_append,dK];have D:(l.take i).filter (λy=>decide (y < x)) = l.take i:=by
  rw[List.filter_eq_self];intro y A;obtain⟨k,j,rfl⟩:=dm A;rw[dU] at j;rw[fy];exact decide_eq_true (H k Z Z)
 have G:(l.drop i).filter (λy=>decide (y < x)) = []:=by
  rw[List.filter_eq_nil_iff];intro y A;obtain⟨k,j,rfl⟩:=dm A;rw[eO] at j;rw[fT];have:=K (i + k) Z Z;simpa using this
 rw[D,G,dU];simp;omega
theorem KD {l:List Int} {x:Int} (D:l.Pairwise (· < ·)) (h:x∈l):(lbI l x:Int) = BP l x:=by
 unfold BP;rw[if_pos h];have j:l.idxOf x < l.length:=List.idxOf_lt_length_iff.2 h;have H:l[l.idxOf x] = x:=V
 rw[gB] at D;congr 1;refine Wy Z (λk A y=>?_) (λk A G=>?_)
 .have:=D k _ A j y;omega
 .by_cases c:k = l.idxOf x
  .subst c;omega
  .have:=D _ k j A Z;omega
set_option maxRecDepth 4000 in
theorem M7 {R:RM} {v:Value} {l:List Int} (x:Int) (h:Ay R v l) (hl:l.length < 1000000) (hs:l.Pairwise (· < ·)):Ro Ej [v,I x] (.tuple #[I (lbI l x),.bool (decide (x∈l))]) R []:=by
 refine H3 λF=>?_
 refine z_2 ?_;obtain⟨va,vc,rfl⟩:=h.sl;refine jln ?_;have a7:=gB.1 hs;refine Bv [.slice va l.length vc,I x,I l.length,I (lbI l x)] (λK1 Q=>?_) (λe he=>?_)
 .refine Bv [.slice va l.length vc,I x,I l.length,I (lbI l x)] (λK2 h2=>?_) (λe he=>?_)
  .refine jlp (λm vs N H=>N = R/\H = [] ++ F/\∃i j:Nat,i<=j/\j<=l.length/\m = j - i/\(∀k (h:k < l.length),k < i->l[k] < x)/\(∀k (h:k < l.length),j<=k->x<=l[k])/\vs = [.slice va l.length vc,I x,I l.length,I i,I j]) (n:=l.length) ⟨rfl,rfl,0,l.length,Z,Z,Z,λk _ h=>Z,λk h h'=>Z,rfl⟩ ?_;rintro m e R1 D1 K ⟨T,hD,i,j,a9,hj,hm,a0,W,he⟩ hK;subst T;refine z_W ?_;refine jlt (jif (λhc=>?_) (λhc=>?_));rotate_left
   .have hc:=z_g hc;have:i = j:=Z
    subst this;rw[Wy hj a0 W] at h2;exact h2
   have hc:i < j:=by have:=z_f hc;omega
   refine Ac (λvs N H=>N = R1/\H = [] ++ F/\∃G D : Nat,G<=D/\D<=l.length/\D - G < m/\(∀k (h:k < l.length),k < G->l[k] < x)/\(∀k (h:k < l.length),D<=k->x<=l[k])/\vs = [.slice va l.length vc,I x,I l.length,I G,I D]) (λK3 h3=>?_) ?_
   .refine jad (@jxr _ _ _ _ (.int .u64 ((i:Int) + j)) (λw=>by rw[bF,XT Z Z]) (cr δ ?_));have e1:((i:Int) + j).fdiv (2 ^ min (1:Int).toNat IntKind.u64.bits) = (((i + j) / 2:Nat):Int):=by
     show ((i:Int) + j).fdiv 2 = _;rw[Int.fdiv_eq_ediv_of_nonneg _ δ];omega
    rw[e1];refine @jxr _ _ _ _ (I (((i + j) / 2:Nat):Int)) (λw=>by rw[bL,Fb ⟨Z,Z⟩]) ?_;have A:(i + j) / 2 < l.length:=Z
    refine Bk h Z Z ?_;simp only[dG];refine jp (Zz _ x) (jif (λg=>?_) (λg=>?_))
    .have g:=z_f g;refine jad (h3 _ _ _ ⟨rfl,rfl,(i + j) / 2 + 1,j,Z,hj,Z,λk hk y=>?_,W,rfl⟩);by_cases c:k = (i + j) / 2
     .subst c;exact g
     .have:=a7 k _ hk A Z;omega
    .have g:=z_g g;refine h3 _ _ _ ⟨rfl,rfl,i,(i + j) / 2,Z,Z,Z,a0,λk hk b1=>?_,rfl⟩;by_cases c:k = (i + j) / 2
     .subst c;omega
     .have:=a7 _ k A hk Z;omega
   rintro e R2 D2 ⟨T,hD,G,D,a1,a2,a3,a4,a5,he⟩;subst T;refine z_W ?_;exact hK (D - G) _ _ _ Z ⟨rfl,rfl,G,D,a1,a2,rfl,a4,a5,rfl⟩
  .refine z_V ?_;exact Q
 refine z_V ?_;have b0:lbI l x<=l.length:=List.length_filter_le _ _;have a8:∀(y:lbI l x < l.length),(l[lbI l x] == x) = decide (x∈l):=by
  intro y;by_cases c:x∈l
  .have hp:=KD hs c;unfold BP at hp;rw[if_pos c] at hp;have:lbI l x = l.idxOf x:=Z
   simp only[this];simp[c]
  .rw[decide_eq_false c,beq_eq_false_iff_ne];intro e;exact c (e▸dL y)
 have a6:¬ lbI l x < l.length->x ∉ l:=λy c=>by
  have hp:=KD hs c;unfold BP at hp;rw[if_pos c] at hp;have:=List.idxOf_lt_length_iff.2 c;omega
 refine Ac (λvs N H=>N = R/\H = [] ++ F/\∃c u,vs = [I (lbI l x),c,u]/\GP c u (decide (x∈l))) (λK1 Q=>?_) ?_
 .refine jlt (Dl (λg=>?_) (λg=>?_))
  .have y:lbI l x < l.length:=by have:=z_f g;omega
   rw[g];refine Bk h Z Z ?_;simp only[dG];refine jeq ?_;rw[a8 y];refine FB (λO=>?_) (λO=>?_)
   .refine Bk h Z Z ?_;simp only[dG];rw[O];exact jp (Zw _) (jft (Q _ _ _ ⟨rfl,rfl,_,_,rfl,by rw[O];exact Bh⟩))
   .rw[O];exact Q _ _ _ ⟨rfl,rfl,_,_,rfl,by rw[O];exact Bh⟩
  .have y:¬ lbI l x < l.length:=by have:=z_g g;omega
   rw[g];exact Q _ _ _ ⟨rfl,rfl,_,_,rfl,by rw[decide_eq_false (a6 y)];exact By⟩
 rintro e R2 D2 ⟨T,hD,c,u,he,ho⟩;subst T;refine z_W ?_;rw[ho];exact BB rfl
end Go.Lf
end
section
namespace Sm
open Go.Lf
theorem Xc {had:List Int} {a x:Int}:x∈had->x∈Bu had a:=λh=>by
 unfold Bu;split
 .exact h
 .exact dx _ h
theorem Un {had:List Int} {a:Int}:a = 0\/a∈Bu had a:=by
 unfold Bu;split
 .rename_i h;rcases h with h | h
  .exact .inl h
  .exact .inr h
 .exact .inr V
theorem Fu {l:List AQ}:∀{xs acc r:List Int},Aq l xs acc = some r->∀x∈acc,x∈r
 | [],acc,r,h,x,hx=>by cases h;exact hx
 | a :: xs,acc,r,h,x,hx=>by
  rw[Bn] at h;cases j:now l a with
  | none=>rw[j] at h;cases h
  | some y=>rw[j] at h;exact Fu (xs:=xs) h x (Xc hx)
theorem G6 {l:List AQ}:∀{xs acc r:List Int},Aq l xs acc = some r->∀a∈xs,∃x,now l a = some x/\(x = 0\/x∈r)
 | [],acc,r,h,a,j=>by cases j
 | b :: xs,acc,r,h,a,j=>by
  rw[Bn] at h;cases A:now l b with
  | none=>rw[A] at h;cases h
  | some y=>
   rw[A] at h;have h:Aq l xs (Bu acc y) = some r:=h;rcases dX.1 j with rfl | j
   .refine⟨y,A,?_⟩;rcases Un (had:=acc) (a:=y) with e | e
    .exact .inl e
    .exact .inr (Fu h _ e)
   .exact G6 (xs:=xs) h a j
theorem Ks {l:List AQ}:∀{n i:Nat} {out r:List Int},BI l n i out = some r->(∀j (h:j < out.length),j < i->∀t,Ax l out[j] = some t->∀a∈t.refs,∃x,now l a = some x/\(x = 0\/x∈r))->
  (∀x∈out,x∈r)/\∀b∈r,∀t,Ax l b = some t->∀a∈t.refs,∃x,now l a = some x/\(x = 0\/x∈r)
 | 0,i,out,r,h,_=>by cases h
 | n + 1,i,out,r,h,hj=>by
  by_cases c:i < out.length
  .cases H:Ax l out[i] with
   | none=>
    unfold BI at h;rw[dH c] at h;dsimp only at h;rw[H] at h;cases h
   | some t=>
    rw[C9 c H] at h;cases A:Aq l t.refs out with
    | none=>rw[A] at h;cases h
    | some o=>
     rw[A,z_o] at h;have O:∀{R D r:List Int},Aq l R D = some r->∃e,r = D ++ e:=by
      intro R;induction R with
      | nil=>intro D r h;cases h;exact⟨[],V⟩
      | cons a R W=>
       intro D r h;rw[Bn] at h;cases A:now l a with
       | none=>rw[A] at h;cases h
       | some y=>
        rw[A] at h;obtain⟨e,he⟩:=W h;unfold Bu at he;split at he
        .exact⟨e,he⟩
        .exact⟨[y] ++ e,by rw[he,dS]⟩
     obtain⟨e,he⟩:=O A;have mono:∀{n i:Nat} {out r:List Int},BI l n i out = some r->∀x∈out,x∈r:=by
      intro n;induction n with
      | zero=>intro i out r h;cases h
      | succ n W=>
       intro i out r h x K;by_cases c:i < out.length
       .cases H:Ax l out[i] with
        | none=>
         unfold BI at h;rw[dH c] at h;dsimp only at h;rw[H] at h;cases h
        | some t=>
         rw[C9 c H] at h;cases A:Aq l t.refs out with
         | none=>rw[A] at h;cases h
         | some o=>rw[A] at h;exact W h x (Fu A x K)
       .rw[CJ Z] at h;cases h;exact K
     have hm:=mono h;have:=Ks h λj a1 a0 t' G a Q=>?_
     .exact⟨λx K=>this.1 x (Fu A x K),this.2⟩
     .have N:j < out.length:=Z
      have e1:o[j] = out[j]:=by subst he;rw[fj N]
      rw[e1] at G;by_cases cj:j = i
      .subst cj;rw[H] at G;cases G;obtain⟨x,h1,h2⟩:=G6 A a Q;exact⟨x,h1,h2.elim .inl λh=>.inr (hm x h)⟩
      .exact hj j N Z t' G a Q
  .rw[CJ Z] at h;cases h;refine⟨λx K=>K,λb hb t H a Q=>?_⟩;obtain⟨j,T,rfl⟩:=dm hb;exact hj j T Z t H a Q
theorem HpF.closed {s:Ah} {l:List AQ} {y:List Int} (H:HpF s l y):(∀a∈Ct s,∃x,now l a = some x/\(x = 0\/x∈y))/\∀b∈y,∀t,Ax l b = some t->∀a∈t.refs,∃x,now l a = some x/\(x = 0\/x∈y):=by
 have D:=H.head;unfold C8 at D;simp only[z_b] at D;have A:=H.re;rw[DZ D.2] at A;cases G:Aq l (Ct s) [] with
 | none=>rw[G] at A;cases A
 | some out=>
  rw[G,z_o] at A;obtain⟨O,Q⟩:=Ks A λj h T=>absurd T Z
  refine⟨λa R=>?_,Q⟩;obtain⟨x,K,N⟩:=G6 G a R;exact⟨x,K,N.elim .inl λh=>.inr (O x h)⟩
end Sm
end
section
namespace Go.Lf
open Go Sm
def nmA (l:List AQ) (AI:List Int) (a:Int):Int:=if a = 0 then -1 else BP AI ((now l a).getD 0)
section st
variable {R:RM} {s:Sm.Ah} {wv tv mv thv ov pv:Value} {l:List AQ} {met:List Int}
theorem Uc {hb mb:Nat} {v:Value} {a x:Int} (y:HpV R s wv tv mv thv ov pv l met hb mb v) (j:now l a = some x):Ro Gk [Pt hb,I a] (I x) R []:=by
 refine JI λF=>?_
 refine z_2 ?_;obtain⟨o,A,D,G,H⟩:=y;unfold now at j;refine jeq (jif (λh=>?_) (λh=>?_))
 .rw[if_pos (by simpa using h)] at j;cases j;exact BB rfl
 have h:a≠0:=by simpa using h
 rw[if_neg h] at j;refine jnc (jfo (jlr A rfl (@Ot _ _ _ mb o l a false (Li.fz D) G (λe=>?_) (λt v e y=>?_))))
 .rw[e] at j;cases j
 .rw[e] at j;obtain⟨rv,nv,rfl,_,_⟩:=y;cases j;exact jfd rfl (BB rfl)
set_option maxRecDepth 4000 in
theorem JC {hb mb H N:Nat} {v W xv:Value} {AI xs:List Int} (hv:HpV R s wv tv mv thv ov pv l met hb mb v) (a7:Ay R W AI) (a6:AI.length < 1000000) (a0:AI.Pairwise (· < ·)) (hm:∀x,x∈AI↔x∈met) (b5:Ay R xv xs) (b3:xs.length < 1000000)
  (hc:∀a∈xs,∃x,now l a = some x/\(x = 0\/x∈met)) (a8:∀t∈l,t.moved≠0) :
  Fn P CC [xv,Pt H,Pt N] R [(H,C 30 [W]),(N,C 98 [Pt hb])]
   (λv R' A=>R' = R/\∃A2,SO (xs.map (nmA l AI)) v A2/\A = (H,C 30 [W]) :: (N,C 98 [Pt hb]) :: A2):=by
 refine Ji λF=>?_
 refine z_3 ?_;refine jc (Dq b5 b3) ?_;rintro Q R1 A1 _ ⟨hR,D,_⟩;subst hR;obtain⟨ca,cc,a4⟩:=D.sln;refine Ac (λvs R' D'=>R' = R1/\∃A,SO (xs.map (nmA l AI)) Q A/\D' = (H,C 30 [W]) :: (N,C 98 [Pt hb]) :: (A ++ F)/\vs = [Q]) (λK1 h1=>?_) ?_
 .refine Bf ⟨ca,cc,a4⟩ (Ac (λvs R' D'=>R' = R1/\∃A,SO (xs.map (nmA l AI)) Q A/\D' = (H,C 30 [W]) :: (N,C 98 [Pt hb]) :: (A ++ F)/\vs = [Q]) (λK2 h2=>?_) ?_);rotate_left
  .rintro e R2 D2 ⟨hR,A,D,hD,he⟩;subst hR;refine z_W ?_;clear hD;exact h1 _ _ _ ⟨rfl,A,D,rfl,rfl⟩
  refine Al [(H,C 30 [W]),(N,C 98 [Pt hb])] (G:=A1 ++ ([] ++ F)) (jlp (λm vs R' D'=>R' = R1/\∃(i:Nat) (A:Chs),i<=xs.length/\m = xs.length - i/\SO ((xs.take i).map (nmA l AI) ++ xs.drop i) Q A/\D' = (H,C 30 [W]) :: (N,C 98 [Pt hb]) :: (A ++ F)/\vs = [Pt H,Pt N,Q,Q,I xs.length,I i]) ⟨rfl,0,A1,Z,rfl,by simpa using D,rfl,rfl⟩ ?_);clear D;rintro m e R2 D2 K ⟨hR,i,A,hi,b7,D,hD,he⟩ hK;subst hR;refine z_W ?_;clear hD;refine jlt (jif (λj=>?_) (λj=>?_));rotate_left
  .have j:=z_g j;rw[dO Z,dT Z,eD] at D;exact h2 _ _ _ ⟨rfl,A,D,rfl,rfl⟩
  have j:i < xs.length:=by have:=z_f j;omega
  have a2:=dL j;obtain⟨x,hx,b4⟩:=hc _ a2;have hlen:((xs.take i).map (nmA l AI) ++ xs.drop i).length = xs.length:=by simp;omega
  have a5:((xs.take i).map (nmA l AI) ++ xs.drop i)[i]'(Z) = xs[i]:=by
   rw[fD (by simp;omega)];simp only[dN,dU,fT];congr 1;omega
  have a9:∀y,((xs.take i).map (nmA l AI) ++ xs.drop i).set i y = (xs.take i).map (nmA l AI) ++ y :: xs.drop (i + 1):=λy=>by
   rw[fH _ _ (by simp;omega),dQ j];simp only[dN,dU];rw[show i - min i xs.length = 0 from Z];rfl
  have T:∀(y:Int) (A3:Chs),y = nmA l AI xs[i]->SO ((xs.take i).map (nmA l AI) ++ y :: xs.drop (i + 1)) Q A3->SO ((xs.take (i + 1)).map (nmA l AI) ++ xs.drop (i + 1)) Q A3:=λy A3 hy D=>by
   rw[dJ j,dz,dS];subst hy;exact D
  refine Ac (λvs R' D'=>R' = R2/\∃A,SO ((xs.take (i + 1)).map (nmA l AI) ++ xs.drop (i + 1)) Q A/\D' = (H,C 30 [W]) :: (N,C 98 [Pt hb]) :: (A ++ F)/\vs = [Pt H,Pt N,Q,Q,I xs.length,I i]) (λK3 h3=>?_) ?_;rotate_left
  .rintro e R3 D3 ⟨hR,A3,O,hD,he⟩;subst hR;refine z_W ?_;clear hD;exact jad (hK (xs.length - (i + 1)) _ _ _ Z ⟨rfl,i + 1,A3,Z,rfl,O,rfl,rfl⟩)
  refine jcI h3 λK4 h4=>?_
  refine VX D Z ?_;rw[a5];refine jl rfl (jl rfl (jrp (Uc hv hx) (Ak (jl rfl jev) (jrp (M7 x a7 a6 a0) (jex rfl (jex rfl (Al A (G:=(H,C 30 [W]) :: (N,C 98 [Pt hb]) :: F) (XW D Z λA2 a1=>?_))))))));rw[a9] at a1;refine jeq (jif (λg=>?_) (λg=>?_))
  .have g:xs[i] = 0:=by simpa using g
   have b6:((xs.take i).map (nmA l AI) ++ (lbI AI x:Int) :: xs.drop (i + 1)).length = xs.length:=by simp;omega
   refine XW a1 Z λA3 O=>?_
   rw[fH _ _ (by simp;omega)] at O;simp only[dN,dU] at O;rw[show i - min i xs.length = 0 from Z] at O;refine Al [(H,C 30 [W]),(N,C 98 [Pt hb])] (G:=A3 ++ F) (h4 _ _ _ ⟨rfl,A3,T (-1) A3 (by unfold nmA;rw[if_pos g]) O,rfl,rfl⟩)
  .have g:xs[i]≠0:=by simpa using g
   have b0:x≠0:=λe=>by
    subst e;unfold now at hx;rw[if_neg g] at hx;obtain⟨t,ht,e⟩:=gA.1 hx;exact a8 t (BF ht).1 e
   have a3:x∈AI:=(hm x).2 (b4.resolve_left b0);refine Al [(H,C 30 [W]),(N,C 98 [Pt hb])] (G:=A2 ++ F) (h4 _ _ _ ⟨rfl,A2,T _ A2 (by unfold nmA;rw[if_neg g,hx];exact KD a0 a3) a1,rfl,rfl⟩)
 rintro e R2 D2 ⟨hR,A,D,hD,he⟩;subst hR;refine z_W ?_;clear hD;exact Ao (RM.le.refl _) ⟨rfl,A,D,rfl⟩
end st
end Go.Lf
end
section
namespace Sm
structure PG where
 nodes:List (List Int × List Int)
 AD:List (List Int)
 pinned:List Int
end Sm
namespace Go.Lf
open Go Sm
section rules
variable {R:RM} {D:Chs}
theorem jci {ι:Type} {G:List Nat} {B:(List Value->M)->M} {K:Env->M} (W:ι->List Value) (E:ι->Chs) (p:RM->ι->Prop)
  (H:∀x : List Value->M,(∀j i,p j i->J j (E i) (x (W i)))->J R D (B x)) (N:∀e j i,p j i->G.map e = W i->J j (E i) (K e)):J R D (CUT G B K):=
 Ac (λT j A=>∃i,p j i/\A = E i/\T = W i) (λx h=>H x λ_ i y=>h _ _ _ ⟨i,y,rfl,rfl⟩) λe j A ⟨i,y,O,Q⟩=>by
  rw[O];exact N e j i y Q
theorem jiI {ι:Type} {x:List Nat} {B:(List Value->M)->M} {A:List Value->M} {K:ι->List Value} {E:ι->Chs} {p:RM->ι->Prop} (G:∀j i,p j i->J j (E i) (A (K i)))
  (H:∀y : List Value->M,(∀j i,p j i->J j (E i) (y (K i)))->J R D (B y)):J R D (CUT x B (λe=>A (x.map e))):=jci K E p H λe j i h he=>by rw[he];exact G j i h
theorem jli {ι:Type} {N:List Nat} {B:(List Value->M)->Env->M} {A:List Value} (n:ι->Nat) (a0:ι->List Value) (E:ι->Chs) (p:RM->ι->Prop) (i:ι) (h0:p R i) (hv:A = a0 i) (hD:D = E i)
  (H:∀K e y i,p y i->N.map e = a0 i->(∀j x,n x < n i->p j x->J j (E x) (K (a0 x)))->J y (E i) (B K e)):J R D (LP N B A):=by
 subst hv;refine jlp (λm A y O=>∃i,p y i/\O = E i/\A = a0 i/\m = n i) (n:=n i) ⟨i,h0,hD,rfl,rfl⟩ ?_;rintro m e Q D1 K ⟨i,hp,T,W,h4⟩ hK;rw[T];exact H K e Q i hp W λj x hn G=>hK (n x) _ _ _ Z ⟨x,G,rfl,rfl,rfl⟩
end rules
def NdC (R:RM) (row:List Value) (n:List Int × List Int):Prop:=∃rv nv,row = [rv,nv]/\Ay R rv n.1/\Ay R nv n.2
theorem NdC.le {R j : RM} {row:List Value} {n:List Int × List Int} (h:R.le j) (H:NdC R row n):NdC j row n:=by
 obtain⟨a,b,x,y,A⟩:=H;exact⟨a,b,x,y.le h,A.le h⟩
theorem NdC.len {R:RM} {row:List Value} {n:List Int × List Int} (H:NdC R row n):row.length = 2:=by obtain⟨a,b,rfl,_⟩:=H;rfl
def RwC (R:RM) (row:List Value) (l:List Int):Prop:=∃v,row = [v]/\Ay R v l
theorem RwC.le {R j : RM} {row:List Value} {l:List Int} (h:R.le j) (H:RwC R row l):RwC j row l:=by
 obtain⟨a,x,y⟩:=H;exact⟨a,x,y.le h⟩
theorem RwC.len {R:RM} {row:List Value} {l:List Int} (H:RwC R row l):row.length = 1:=by obtain⟨a,rfl,_⟩:=H;rfl
def GrF (R:RM) (v:Value) (g:PG):Prop:=∃r1 r2 nv rv pv,v = .agg #[nv,rv,pv]/\Rw (NdC R) r1 g.nodes/\Fz R nv 2 r1.length r1.flatten/\Rw (RwC R) r2 g.AD/\Fz R rv 1 r2.length r2.flatten/\Ay R pv g.pinned
theorem GrF.le {R j : RM} {v:Value} {g:PG} (h:R.le j) (H:GrF R v g):GrF j v g:=by
 obtain⟨r1,N,nv,rv,pv,x,y,A,D,G,K⟩:=H;exact⟨r1,N,nv,rv,pv,x,y.mono λ_ _=>NdC.le h,A.le h,D.mono λ_ _=>RwC.le h,G.le h,K.le h⟩
def ndP (l:List AQ) (AI:List Int) (a:Int):List Int × List Int:=match Ax l a with
 | some t=>(t.refs.map (nmA l AI),t.nums)
 | none=>([],[])
def Gy (s:Sm.Ah) (l:List AQ) (AI:List Int):PG:=⟨AI.map (ndP l AI),s.AB.map λt=>t.AD.map (nmA l AI),s.AJ.map (nmA l AI)⟩
def Zk (r:Option (List AQ × List Int)) (s:Sm.Ah) (v:Value) (R:RM):Prop:=match r with
 | none=>v = .tuple #[.agg #[SN,SN,SN],.bool false]
 | some (l,met)=>∃gv,GrF R gv (Gy s l (Aa met))/\v = .tuple #[gv,.bool true]
section st
variable {R:RM} {s:Sm.Ah} {wv tv mv thv ov pv:Value} {l:List AQ} {met:List Int}
theorem HpV.le {R j : RM} {hb mb:Nat} {v:Value} (h:R.le j) (H:HpV R s wv tv mv thv ov pv l met hb mb v):HpV j s wv tv mv thv ov pv l met hb mb v:=by
 obtain⟨o,x,y,A,D⟩:=H;exact⟨o,h _ _ x,h _ _ y,A.le h,D.le h⟩
theorem Wk {D:Chs} {k:Value->M} {hb mb:Nat} {v:Value} {a:Int} {t:AQ} (j:HpV R s wv tv mv thv ov pv l met hb mb v) (O:Ax l a = some t) (H:∀A G x y,Ay R (.slice A t.refs.length G) t.refs->Ay R (.slice x t.nums.length y) t.nums->J R D (k (.agg (eTh t (.slice A t.refs.length G) (.slice x t.nums.length y)).toArray))):J R D (X P (Instr.lookup 101 (.map (some mb)) (I a) false) k):=by
 obtain⟨o,W,Q,T,h4⟩:=j;refine @Ot _ _ _ mb o l a false (Li.fz Q) T (λe=>?_) (λt' v e j=>?_)
 .rw[O] at e;cases e
 .rw[O] at e;cases e;obtain⟨rv,nv,rfl,K,N⟩:=j;obtain⟨A,G,rfl⟩:=K.sl;obtain⟨x,y,rfl⟩:=N.sl;exact H _ _ _ _ K N
theorem TU {j:List Int} (h:j.Nodup):(Aa j).Pairwise (· < ·):=(Bt h).1
theorem SO.frz {l:List Int} {v:Value} {A:Chs} (j:SO l v A):∃a c,v = .slice a l.length c:=by
 obtain⟨a,c,h⟩:=j.sln;exact⟨a,c,h⟩
set_option maxHeartbeats 2000000 in
set_option maxRecDepth 8000 in
theorem HU (h:SF R s wv tv mv thv ov pv):Fn P Hb [.agg (eSt s wv tv mv thv ov pv).toArray] R [] (λv T A=>A = []/\Zk (CD s) s v T):=by
 refine MT λF=>?_
 refine z_1 ?_;refine ja λsb=>B9 (b:=sb) λR0 c5 b1=>ja λQ=>DR b1 (by exact z_n 13) rfl ?_
 have h:=h.le c5;refine jc (A:=[]) (IU h) ?_;rintro x R1 _ b0 ⟨rfl,hq⟩;have h:=h.le b0;have b1:=b0 _ _ b1;have b0:=c5.trans b0;clear c5;cases hh:CD s with
 | none=>
  rw[hh] at hq;obtain rfl:x = _:=hq;refine ja λj=>jS [.pointer none] (jl (v:=.pointer none) rfl (jxr (λw=>Pw w _ _) (DG ?_)))
  refine jbd (cs:=[SN,SN,SN]) rfl rfl (jS [SN,SN,SN] (jla (l:=[SN,SN,SN]) (dM rfl) rfl ?_));exact Ao (A:=[]) b0 ⟨rfl,rfl⟩
 | some q=>
  obtain⟨l,met⟩:=q;rw[hh] at hq;obtain⟨hb,mb,v,rfl,hv⟩:=hq;have hf:=Cq hh;have h4:=hf.M.len;have h3:=(Ho h hf.ths).1;obtain⟨d3,f6⟩:=hf.closed;have b6:=hf.S.nz;have a6:=TU hf.M.nd;have a2:∀x,x∈Aa met↔x∈met:=λx=>(Bt hf.M.nd).2 x
  have i5:(Aa met).length = met.length:=by have:=En met [];simpa [Aa] using this
  refine ja λj=>jS [Pt hb] (jl (v:=Pt hb) rfl (jxr (λw=>QW w _ _ hb) (CQ (jl (v:=Pt hb) rfl ?_))))
  refine jc (A:=[]) (QU hv hf.M.nd Z) ?_;rintro sv R2 A2 _ ⟨f4,so⟩;subst f4;refine Dv so λR3 b3 hi=>?_
  have h:=h.le b3;have hv:=hv.le b3;have b1:=b3 _ _ b1;have b3:=b0.trans b3;clear b0;obtain⟨sa,sc,rfl⟩:=hi.sl;refine ja λlb=>jS [.slice sa (Aa met).length sc] (ja λD=>?_)
  generalize f7:Value.slice sa (Aa met).length sc = N at hi ⊢;have g2:∀(T : RM),R3.le T->∃o,T hb = some (C 103 (eHp s wv tv mv thv ov pv mb v))/\T mb = some o/\MpT T o l/\Ay T v met:=λT f3=>hv.le f3
  refine jci (λ_:Value × Chs × List (List Value)=>[Pt sb,Pt Q,.func (.func CC) #[] #[Pt lb,Pt j],Pt D])
   (λi=>(D,C 40 [i.1,SN,SN]) :: (lb,C 30 [N]) :: (j,C 98 [Pt hb]) :: (i.2.1 ++ ((Q,C 40 (cl z40)) :: ([] ++ F))))
   (λT i=>R3.le T/\Rw (NdC T) i.2.2 ((Aa met).map (ndP l (Aa met)))/\SW 60 2 i.2.2 i.1 i.2.1) (λK1 h1=>?_) ?_
  .refine jl (v:=N) rfl (Bf ⟨sa,sc,f7.symm⟩ ?_);refine jiI h1 λK2 h2=>?_
   refine jli (λi:Nat × Value × Chs × List (List Value)=>(Aa met).length - i.1)
    (λi=>[Pt sb,Pt Q,Pt j,.func (.func CC) #[] #[Pt lb,Pt j],Pt D,N,I (Aa met).length,I i.1])
    (λi=>(D,C 40 [i.2.1,SN,SN]) :: (lb,C 30 [N]) :: (j,C 98 [Pt hb]) :: (i.2.2.1 ++ ((Q,C 40 (cl z40)) :: ([] ++ F))))
    (λT i=>R3.le T/\i.1<=(Aa met).length/\Rw (NdC T) i.2.2.2 (((Aa met).take i.1).map (ndP l (Aa met)))/\SW 60 2 i.2.2.2 i.2.1 i.2.2.1)
    (0,SN,[],[]) ⟨RM.le.refl _,V,Rw.nil,.inl ⟨rfl,rfl,rfl⟩⟩ rfl rfl ?_
   rintro K e R4 ⟨k,nv,A1,rows⟩ ⟨a5,c7,O,so⟩ he hK;dsimp only at c7 O so he hK ⊢;refine z_V ?_;have b9:=hi.le a5;have a9:=hv.le a5;obtain⟨o,g1,-,-,-⟩:=g2 R4 a5;refine jlt (jif (λc=>?_) (λc=>?_));rotate_left
   .have c:=z_g c;rw[dO Z] at O;exact h2 R4 (nv,A1,rows) ⟨a5,O,so⟩
   have c:k < (Aa met).length:=by have:=z_f c;omega
   refine jci (λ_:Value × Chs × List (List Value)=>[Pt sb,Pt Q,Pt j,.func (.func CC) #[] #[Pt lb,Pt j],Pt D,N,I (Aa met).length,I k])
    (λi=>(D,C 40 [i.1,SN,SN]) :: (lb,C 30 [N]) :: (j,C 98 [Pt hb]) :: (i.2.1 ++ ((Q,C 40 (cl z40)) :: ([] ++ F))))
    (λT i=>R3.le T/\Rw (NdC T) i.2.2 (((Aa met).take (k + 1)).map (ndP l (Aa met)))/\SW 60 2 i.2.2 i.1 i.2.1) (λK7 h7=>?_) ?_
   rotate_left
   .rintro e T i ⟨p1,p2,p3⟩ he;refine z_V ?_;exact jad (hK T (k + 1,i) (by dsimp only;omega) ⟨p1,c,p2,p3⟩)
   refine jiI h7 λK9 h9=>?_
   clear h7 hK h2 h1;have d2:(Aa met)[k]∈met:=(a2 _).1 (dL c);obtain⟨t,ht⟩:=hf.M.th _ d2;have i6:=(Ho h hf.ths).2 t (BF ht).1;have c4:∀(xv cv:Value) (A6 A7:Chs),SO (t.refs.map (nmA l (Aa met))) xv A6->SO t.nums cv A7->
     J R4 ((D,C 40 [nv,SN,SN]) :: (lb,C 30 [N]) :: (j,C 98 [Pt hb]) :: (A7 ++ (A6 ++ (A1 ++ ((Q,C 40 (cl z40)) :: ([] ++ F))))))
      (BD (cl z60) [(0,1,xv),(1,1,cv)] λg5=>AND (L1 (Pt D) λx=>EV x nv)<|BS 60 1 (ZR 1 z60) [(0,2,g5)] λg6=>AND (L1 (Pt D) λx=>EV x nv)<|AP 60 2 48 (cl z60) nv g6 λg7=>FO 0 (Pt D) λg8=>ST 1 g8 g7<|K9 [Pt sb,Pt Q,Pt j,.func (.func CC) #[] #[Pt lb,Pt j],Pt D,N,I (Aa met).length,I k]):=by
    intro xv cv A6 A7 a1 b2;refine Al A7 (G:=(D,C 40 [nv,SN,SN]) :: (lb,C 30 [N]) :: (j,C 98 [Pt hb]) :: (A6 ++ (A1 ++ ((Q,C 40 (cl z40)) :: ([] ++ F))))) (Dv b2 λR5 y e2=>Al A6 (G:=(D,C 40 [nv,SN,SN]) :: (lb,C 30 [N]) :: (j,C 98 [Pt hb]) :: (A1 ++ ((Q,C 40 (cl z40)) :: ([] ++ F)))) (Dv a1 λR6 a3 e1=>?_));obtain⟨xa,xc,rfl⟩:=e1.sl;obtain⟨ca,cc,rfl⟩:=e2.sl;refine jbd (cs:=[.slice xa (t.refs.map (nmA l (Aa met))).length xc,.slice ca t.nums.length cc]) rfl rfl (Ak (jl (v:=nv) rfl jev) (jbs (cs:=[.slice xa (t.refs.map (nmA l (Aa met))).length xc,.slice ca t.nums.length cc]) rfl rfl λbb=>Ak (jl (v:=nv) rfl jev) ?_));have c8:=O.1;rw[dN,dU] at c8;refine Qm [[.slice xa (t.refs.map (nmA l (Aa met))).length xc,.slice ca t.nums.length cc]] so rfl (O.all λ_ _=>NdC.len) (by intro r hr;rw[dZ.1 hr];rfl) rfl rfl rfl δ (by simp only[dR,f9];omega) λv' A' b7=>?_
    obtain⟨va,vc,c9⟩:=b7.sl;subst c9;refine jfo (jS ([.slice va (rows ++ [[Value.slice xa (t.refs.map (nmA l (Aa met))).length xc,.slice ca t.nums.length cc]]).length vc,SN,SN]) ?_);refine Al [(D,C 40 [.slice va (rows ++ [[Value.slice xa (t.refs.map (nmA l (Aa met))).length xc,.slice ca t.nums.length cc]]).length vc,SN,SN]),(lb,C 30 [N]),(j,C 98 [Pt hb])] (G:=A' ++ ((Q,C 40 (cl z40)) :: ([] ++ F))) ?_;refine h9 R6 (_,A',rows ++ [[Value.slice xa (t.refs.map (nmA l (Aa met))).length xc,.slice ca t.nums.length cc]]) ⟨a5.trans (y.trans a3),?_,b7⟩;rw[dJ c,dz];refine (O.mono λ_ _=>NdC.le (y.trans a3)).app (Rw.one ⟨_,_,rfl,?_,?_⟩)
    .unfold ndP;rw[ht];exact e1
    .unfold ndP;rw[ht];exact e2.le a3
   have c6:=f6 _ d2 t ht;refine Bk b9 Z Z ?_;simp only[dG];refine jfo (jl (v:=nv) rfl (jl (v:=Pt hb) rfl (jnc (jfo (jlr (v:=.map (some mb)) g1 rfl (jl (v:=Pt hb) rfl (jnc (jfo (jlr (v:=.map (some mb)) g1 rfl ?_)))))))));refine FG ?_ (E8 ?_)
   .refine Wk a9 ht λra rc na nc hr hn=>jfd (v:=.slice ra t.refs.length rc) rfl (Ak (jl (v:=nv) rfl jev) (Ak (jl (v:=Pt hb) rfl jev) (Ak (jlr (v:=.map (some mb)) g1 rfl jev) (FG ?_ (E8 ?_)))))
    .refine H4 (by kernel_rfl) ?_;refine jc (A:=[(lb,C 30 [N]),(j,C 98 [Pt hb])]) (JC a9 b9 Z a6 a2 hr Z c6 b6) ?_;rintro xv R5 A5 _ ⟨y,A6,a1,hA⟩;subst y hA;refine Ak (jl (v:=nv) rfl jev) (Ak (jl (v:=Pt hb) rfl jev) (Ak (jlr (v:=.map (some mb)) g1 rfl jev) ?_));refine Wk a9 ht λra rc na nc hr hn=>jfd (v:=.slice na t.nums.length nc) rfl (Ak (jl (v:=nv) rfl jev) ?_)
     refine jc (A:=[]) (Dq hn Z) ?_;rintro cv R7 A7 _ ⟨H,b2,_⟩;subst H;refine Al [(D,C 40 [nv,SN,SN]),(lb,C 30 [N]),(j,C 98 [Pt hb])] (G:=A7 ++ (A6 ++ (A1 ++ ((Q,C 40 (cl z40)) :: ([] ++ F))))) ?_;exact c4 xv cv A6 A7 a1 b2
    .refine Wk a9 ht λf1 f2 e9 f0 e6 e5=>jfd (v:=.slice e9 t.nums.length f0) rfl (Ak (jl (v:=nv) rfl jev) ?_)
     refine H4 (by kernel_rfl) ?_;refine jc (A:=[(lb,C 30 [N]),(j,C 98 [Pt hb])]) (JC a9 b9 Z a6 a2 hr Z c6 b6) ?_;rintro xv R5 A5 _ ⟨y,A6,a1,hA⟩;subst y hA;refine Ak (jl (v:=nv) rfl jev) ?_;refine jc (A:=[]) (Dq e5 Z) ?_;rintro cv R7 A7 _ ⟨H,b2,_⟩;subst H;refine Al [(D,C 40 [nv,SN,SN]),(lb,C 30 [N]),(j,C 98 [Pt hb])] (G:=A7 ++ (A6 ++ (A1 ++ ((Q,C 40 (cl z40)) :: ([] ++ F))))) ?_;exact c4 xv cv A6 A7 a1 b2
   .refine Wk a9 ht λra rc na nc hr hn=>jfd (v:=.slice na t.nums.length nc) rfl (Ak (jl (v:=nv) rfl jev) (Ak (jl (v:=Pt hb) rfl jev) (Ak (jlr (v:=.map (some mb)) g1 rfl jev) ?_)))
    refine Wk a9 ht λf1 f2 e9 f0 e6 e5=>jfd (v:=.slice f1 t.refs.length f2) rfl (Ak (jl (v:=nv) rfl jev) ?_)
    refine H4 (by kernel_rfl) ?_;refine jc (A:=[(lb,C 30 [N]),(j,C 98 [Pt hb])]) (JC a9 b9 Z a6 a2 e6 Z c6 b6) ?_;rintro xv R5 A5 _ ⟨y,A6,a1,hA⟩;subst y hA;refine Ak (jl (v:=nv) rfl jev) ?_;refine jc (A:=[]) (Dq hn Z) ?_;rintro cv R7 A7 _ ⟨H,b2,_⟩;subst H;refine Al [(D,C 40 [nv,SN,SN]),(lb,C 30 [N]),(j,C 98 [Pt hb])] (G:=A7 ++ (A6 ++ (A1 ++ ((Q,C 40 (cl z40)) :: ([] ++ F))))) ?_;exact c4 xv cv A6 A7 a1 b2
  rintro e R4 ⟨nv,A1,W⟩ ⟨a5,a7,c0⟩ he;dsimp only at a7 c0 ⊢;refine z_V ?_;obtain⟨na,nc,f8⟩:=c0.sl;refine Al A1 (G:=(D,C 40 [nv,SN,SN]) :: (lb,C 30 [N]) :: (j,C 98 [Pt hb]) :: (Q,C 40 (cl z40)) :: ([] ++ F)) ?_;refine jfw c0 (a7.all λ_ _=>NdC.len) λR5 y hfz=>?_
  have a7:=a7.mono λ_ _=>NdC.le y
  have y:=a5.trans y;clear a5 c0;refine jci (λ_:Value × Chs × List (List Value)=>[Pt sb,Pt Q,.func (.func CC) #[] #[Pt lb,Pt j],Pt D])
   (λi=>(D,C 40 [nv,i.1,SN]) :: (lb,C 30 [N]) :: (j,C 98 [Pt hb]) :: (i.2.1 ++ ((Q,C 40 (cl z40)) :: ([] ++ F))))
   (λT i=>R5.le T/\Rw (RwC T) i.2.2 (s.AB.map λt=>t.AD.map (nmA l (Aa met)))/\SW 30 1 i.2.2 i.1 i.2.1) (λK1 h1=>?_) ?_
  .have h5:=h.le y;obtain⟨ta,tc,g4⟩:=h5.c.th.sl;refine jfo (jlr (v:=thv) (y _ _ b1) rfl (Bf ⟨ta,tc,g4⟩ ?_));refine jiI h1 λK2 h2=>?_
   refine jli (λi:Nat × Value × Chs × List (List Value)=>s.AB.length - i.1)
    (λi=>[Pt sb,Pt Q,.func (.func CC) #[] #[Pt lb,Pt j],Pt D,thv,I s.AB.length,I i.1])
    (λi=>(D,C 40 [nv,i.2.1,SN]) :: (lb,C 30 [N]) :: (j,C 98 [Pt hb]) :: (i.2.2.1 ++ ((Q,C 40 (cl z40)) :: ([] ++ F))))
    (λT i=>R5.le T/\i.1<=s.AB.length/\Rw (RwC T) i.2.2.2 ((s.AB.take i.1).map λt=>t.AD.map (nmA l (Aa met)))/\SW 30 1 i.2.2.2 i.2.1 i.2.2.1)
    (0,SN,[],[]) ⟨RM.le.refl _,V,Rw.nil,.inl ⟨rfl,rfl,rfl⟩⟩ rfl rfl ?_
   rintro K e R6 ⟨k,rv,A2,rows⟩ ⟨a3,c7,O,so⟩ he hK;dsimp only at c7 O so he hK ⊢;refine z_V ?_;have b4:=y.trans a3;have h6:=h.le b4;refine jlt (jif (λc=>?_) (λc=>?_));rotate_left
   .have c:=z_g c;rw[dO Z] at O;exact h2 R6 (rv,A2,rows) ⟨a3,O,so⟩
   have c:k < s.AB.length:=by have:=z_f c;omega
   have i7:=h.b.rl _ (dL c);have h8:=h.b.n1;refine jtr h6.c.th c λb o ty cs i8 e8 f5 ho e7=>DR f5 ho e7 (ja λjb=>?_)
   obtain⟨ra,rc,rfl⟩:=e8.sl;refine jS ([.slice ra (s.AB[k]).AD.length rc,I (s.AB[k]).next,.bool (s.AB[k]).busy,I (s.AB[k]).Am]) ?_;refine jfo (jl (v:=rv) rfl (jfo (jl (v:=.slice ra (s.AB[k]).AD.length rc) rfl ?_)));refine H4 (by kernel_rfl) ?_;refine jc (A:=[(lb,C 30 [N]),(j,C 98 [Pt hb])]) (JC (hv.le b4) (hi.le b4) Z a6 a2 e8 Z (λa ha=>d3 a (dx _ (fi.2 ⟨_,dL c,ha⟩))) b6) ?_;rintro xv R7 A5 _ ⟨H,A6,a1,hA⟩;subst H hA;refine Al [(jb,C 117 [.slice ra (s.AB[k]).AD.length rc,I (s.AB[k]).next,.bool (s.AB[k]).busy,I (s.AB[k]).Am]),(D,C 40 [nv,rv,SN]),(lb,C 30 [N]),(j,C 98 [Pt hb])] (G:=A6 ++ (A2 ++ ((Q,C 40 (cl z40)) :: ([] ++ F)))) (BV (B8 (D':=(D,C 40 [nv,rv,SN]) :: (lb,C 30 [N]) :: (j,C 98 [Pt hb]) :: (A6 ++ (A2 ++ ((Q,C 40 (cl z40)) :: ([] ++ F))))) (eK _) ?_));refine Al A6 (G:=(D,C 40 [nv,rv,SN]) :: (lb,C 30 [N]) :: (j,C 98 [Pt hb]) :: (A2 ++ ((Q,C 40 (cl z40)) :: ([] ++ F)))) ?_;refine Dv a1 λR8 b8 e3=>?_
   obtain⟨xa,xc,rfl⟩:=e3.sl;refine Ak (jl (v:=rv) rfl jev) (jbs (cs:=[.slice xa ((s.AB[k]).AD.map (nmA l (Aa met))).length xc]) rfl rfl λbb=>Ak (jl (v:=rv) rfl jev) ?_);have c8:=O.1;rw[dN,dU] at c8;refine Qm [[.slice xa ((s.AB[k]).AD.map (nmA l (Aa met))).length xc]] so rfl (O.all λ_ _=>RwC.len) (by intro r hr;rw[dZ.1 hr];rfl) rfl rfl rfl δ (by simp only[dR,f9];omega) λv' A' b7=>?_
   obtain⟨va,vc,c9⟩:=b7.sl;subst c9;refine jfo (jS ([nv,.slice va (rows ++ [[Value.slice xa ((s.AB[k]).AD.map (nmA l (Aa met))).length xc]]).length vc,SN]) (jad ?_));refine Al [(D,C 40 [nv,.slice va (rows ++ [[Value.slice xa ((s.AB[k]).AD.map (nmA l (Aa met))).length xc]]).length vc,SN]),(lb,C 30 [N]),(j,C 98 [Pt hb])] (G:=A' ++ ((Q,C 40 (cl z40)) :: ([] ++ F))) ?_;refine hK R8 (k + 1,_,A',rows ++ [[Value.slice xa ((s.AB[k]).AD.map (nmA l (Aa met))).length xc]]) (by dsimp only;omega) ⟨a3.trans b8,c,?_,b7⟩;rw[dJ c,dz];exact (O.mono λ_ _=>RwC.le b8).app (Rw.one ⟨_,rfl,e3⟩)
  rintro e R6 ⟨rv,A2,a0⟩ ⟨a3,a8,d1⟩ he;dsimp only at a8 d1 ⊢;refine z_V ?_;obtain⟨ra,rc,g3⟩:=d1.sl;refine Al A2 (G:=(D,C 40 [nv,rv,SN]) :: (lb,C 30 [N]) :: (j,C 98 [Pt hb]) :: (Q,C 40 (cl z40)) :: ([] ++ F)) ?_;refine jfw d1 (a8.all λ_ _=>RwC.len) λR7 H d4=>?_
  have a8:=a8.mono λ_ _=>RwC.le H
  have H:=a3.trans H;have a4:=y.trans H;have h7:=h.le a4;have i4:=h.b.pl;obtain⟨pa,pc,rfl⟩:=h7.c.p.sl;refine jfo (jlr (v:=.slice pa s.AJ.length pc) (a4 _ _ b1) rfl ?_);refine H4 (by kernel_rfl) ?_;refine jc (A:=[(lb,C 30 [N]),(j,C 98 [Pt hb])]) (JC (hv.le a4) (hi.le a4) Z a6 a2 h7.c.p Z (λa ha=>d3 a (eM _ ha)) b6) ?_;rintro xv R8 A5 _ ⟨b8,A6,a1,hA⟩;subst b8 hA;refine Al [(D,C 40 [nv,rv,SN]),(Q,C 40 (cl z40)),(lb,C 30 [N]),(j,C 98 [Pt hb])] (G:=A6 ++ ([] ++ F)) ?_;refine Al A6 (G:=[(D,C 40 [nv,rv,SN]),(Q,C 40 (cl z40)),(lb,C 30 [N]),(j,C 98 [Pt hb])] ++ ([] ++ F)) ?_;refine Dv a1 λR9 b5 e4=>?_
  obtain⟨xa,xc,rfl⟩:=e4.sl;subst f8 g3;refine jfo (jS [.slice na W.length nc,.slice ra a0.length rc,.slice xa (s.AJ.map (nmA l (Aa met))).length xc] ?_);refine jla (l:=[.slice na W.length nc,.slice ra a0.length rc,.slice xa (s.AJ.map (nmA l (Aa met))).length xc]) (dM rfl) rfl ?_;refine jS [.slice na W.length nc,.slice ra a0.length rc,.slice xa (s.AJ.map (nmA l (Aa met))).length xc] ?_;refine jla (l:=[.slice na W.length nc,.slice ra a0.length rc,.slice xa (s.AJ.map (nmA l (Aa met))).length xc]) (dM rfl) rfl ?_;refine Ao (A:=[]) (b3.trans (a4.trans b5)) ⟨rfl,_,⟨W,a0,_,_,_,rfl,a7.mono λ_ _=>NdC.le (H.trans b5),hfz.le (H.trans b5),a8.mono λ_ _=>RwC.le b5,d4.le b5,e4⟩,rfl⟩
end st
end Go.Lf
end
section
namespace Sm
open Go.Lf
theorem HR {l:List AQ} {q:Int->Prop} (D:∀x y,now l x = some y->y = 0\/q y):∀{xs acc r:List Int},(∀a∈acc,q a)->Aq l xs acc = some r->∀a∈r,q a
 | [],acc,r,h0,h=>by cases h;exact h0
 | b :: xs,acc,r,h0,h=>by
  rw[Bn] at h;cases A:now l b with
  | none=>rw[A] at h;cases h
  | some y=>
   rw[A] at h;refine HR D (λa j=>?_) h;unfold Bu at j;split at j
   .exact h0 a j
   .rename_i c;rcases dg.1 j with j | j
    .exact h0 a j
    .rw[dZ.1 j];exact (D _ _ A).resolve_left λe=>c (.inl e)
theorem OF {l:List AQ} {q:Int->Prop} (A:∀x y,now l x = some y->y = 0\/q y):∀{n i:Nat} {out r:List Int},(∀a∈out,q a)->BI l n i out = some r->∀a∈r,q a
 | 0,i,out,r,h0,h=>by cases h
 | n + 1,i,out,r,h0,h=>by
  by_cases c:i < out.length
  .cases D:Ax l out[i] with
   | none=>
    unfold BI at h;rw[dH c] at h;dsimp only at h;rw[D] at h;cases h
   | some t=>
    rw[C9 c D] at h;cases j:Aq l t.refs out with
    | none=>rw[j] at h;cases h
    | some o=>rw[j] at h;exact OF A (HR A h0 j) h
  .rw[CJ Z] at h;cases h;exact h0
theorem HpF.nw {s:Ah} {l:List AQ} {D:List Int} (H:HpF s l D):∀a∈D,∀t,Ax l a = some t->t.moved = a:=by
 have G:=H.head;unfold C8 at G;simp only[z_b] at G;have Em:=G.1.1.1.1.1.1.1;unfold CP at Em;rw[df] at Em;have Q:∀x y,now l x = some y->y = 0\/∀t,Ax l y = some t->t.moved = y:=λx y h=>by
  unfold now at h;split at h
  .cases h;exact .inl rfl
  .obtain⟨t,R,rfl⟩:=gA.1 h;refine .inr λn j=>?_
   obtain⟨O,_⟩:=BF R;have:=Em t O;unfold CL at this;rw[j] at this;simp only[du,z_b,beq_iff_eq] at this;have K:=(BF j).2;rcases this with e | e
   .have N:=DM H.S.nd O;rw[<- e,j] at N;cases N;rfl
   .rw[e.1.1.2,K]
 have A:=H.re;rw[DZ G.2] at A;cases j:Aq l (Ct s) [] with
 | none=>rw[j] at A;cases A
 | some out=>
  rw[j,z_o] at A;exact OF Q (HR Q (λa h=>by cases h) j) A
theorem HpF.tp {s:Ah} {l:List AQ} {x:List Int} (A:HpF s l x):∀t∈l,∃k:Nat,∃h:k < s.AA.length,AN t.at_ = k/\t.at_ + AF t.sh<=(s.AA[k]).top:=by
 intro t G;have j:=A.ths;unfold Ey at j;split at j;rotate_left
 .cases j
 unfold BJ at j;obtain⟨H,K,N,k,D,O,y,Q⟩:=(FP j).2 t G;rw[fh] at D;refine⟨k + 1,Z,?_,?_⟩
 .unfold AN;rw[if_neg Z];omega
 .rw[List.getElem_tail] at y;exact y
end Sm
namespace Go.Lf
open Go Sm
end Go.Lf
end
section
namespace Sm
open Go.Lf
theorem Ld {w:List Int}:∀{n:Nat} {a top:Int} {l:List AQ},Au w n a top = some l->a<=top->(a = top\/∃y∈l,y.at_ = a)/\∀x∈l,x.at_ + AF x.sh = top\/∃y∈l,y.at_ = x.at_ + AF x.sh
 | 0,a,top,l,h,hle=>by
  unfold Au at h;split at h
  .cases h
  .cases h;exact⟨.inl Z,λt A=>by cases A⟩
 | n + 1,a,top,l,h,hle=>by
  unfold Au at h;split at h;rotate_left
  .cases h;exact⟨.inl Z,λt A=>by cases A⟩
  dsimp only at h;split at h;rotate_left
  .cases h
  rename_i D j;simp only[z_b,z_d] at j;have H:(As w a).1.at_ = a:=by
   have:=j.1;unfold As at this ⊢;split at this
   .rename_i c1;rw[if_pos c1];dsimp only at this ⊢;split at this
    .rename_i c2;rw[if_pos c2]
    .cases this
   .cases this
  cases A:Au w n (a + AF (As w a).1.sh) top with
  | none=>rw[A] at h;cases h
  | some K=>
   rw[A] at h;cases h;obtain⟨i1,i2⟩:=Ld A j.2;refine⟨.inr ⟨_,gD,H⟩,λx G=>?_⟩;rcases dX.1 G with rfl | G
   .rw[H];exact i1.imp id λ⟨y,D,j⟩=>⟨y,dh _ D,j⟩
   .exact (i2 x G).imp id λ⟨y,D,j⟩=>⟨y,dh _ D,j⟩
theorem O0 {w:List Int}:∀{t:List Rg} {r:Nat} {l:List AQ},Bc w r t = some l->(∀x∈l,(∃k:Nat,∃h:k < t.length,x.at_ / 16 = r + k/\x.at_ + AF x.sh = (t[k]).top)\/∃y∈l,y.at_ = x.at_ + AF x.sh)/\∀(k:Nat) (h:k < t.length),(t[k]).top = 16 * (r + k)\/∃y∈l,y.at_ = 16 * (r + k)
 | [],r,l,h=>by cases h;exact⟨λt T=>(by cases T),λk h=>absurd h V⟩
 | x :: t,r,l,h=>by
  unfold Bc at h;cases j:BU w r x.top with
  | none=>rw[j] at h;cases h
  | some a=>
   rw[j] at h;dsimp only at h;cases H:Bc w (r + 1) t with
   | none=>rw[H] at h;cases h
   | some b=>
    rw[H] at h;cases h;obtain⟨W,j2⟩:=O0 H;have R:=Pk j;unfold BU at j;split at j;rotate_left
    .cases j
    rename_i c;simp only[z_b,z_d] at c;obtain⟨⟨⟨⟨c1,c2⟩,c3⟩,K⟩,O⟩:=c;have:(r:Int) < 12:=by
     unfold BM at c1;simp only[z_b,z_d] at c1;omega
    have hb:=Bq Z this;rw[hb] at j K O;obtain⟨i1,i2⟩:=Ld j K;refine⟨λy D=>?_,λk N=>?_⟩
    .rcases dg.1 D with D | D
     .rcases i2 y D with e | ⟨z,A,G⟩
      .have:=R.2 y D;exact .inl ⟨0,V,Z,by simpa using e⟩
      .exact .inr ⟨z,dx _ A,G⟩
     .rcases W y D with ⟨k,N,e1,Q⟩ | ⟨z,A,G⟩
      .exact .inl ⟨k + 1,by simp;omega,Z,by simpa using Q⟩
      .exact .inr ⟨z,eM _ A,G⟩
    .cases k with
     | zero=>
      rcases i1 with e | ⟨z,A,G⟩
      .exact .inl (by simp only[List.getElem_cons_zero];omega)
      .exact .inr ⟨z,dx _ A,Z⟩
     | succ k=>
      rcases j2 k (by simpa using N) with e | ⟨z,A,G⟩
      .exact .inl (by simp only[gQ];omega)
      .exact .inr ⟨z,eM _ A,Z⟩
theorem Kx {w:List Int} {x:AQ} (h:As w x.at_ = (x,true)):AF x.sh = sz w x.at_/\(AS (wv w (x.at_ + 1))).2 = true/\x = thg w x.at_:=by
 have h0:16<=x.at_:=by
  unfold As at h;split at h
  .rename_i c;exact (FM c).1
  .cases h
 have e:wv w (x.at_ + 1) = w.getD (x.at_.toNat + 1) 0:=by
  unfold wv gv;rw[show (x.at_ + 1).toNat = x.at_.toNat + 1 from Z]
 unfold As at h;split at h;rotate_left
 .cases h
 dsimp only at h;split at h;rotate_left
 .cases h
 rename_i c1 c2;rw[z_b] at c2;have j:=congrArg Prod.fst h;dsimp only at j;have y:x.sh = shp w x.at_:=by rw[<- j];unfold shp;rw[e]
 refine⟨by unfold sz;rw[y],by rw[e];exact c2.1,?_⟩;rw[<- j];unfold thg shp;simp only[e];rfl
def bgs (l:List AQ) (a:Int):Prop:=∃t∈l,t.at_ = a
theorem EW {s:Ah} {l:List AQ} (h:Ey s = some l):Geo s.AC s.AA (bgs l)/\Thn s.AC (bgs l) l/\BJ s = some l:=by
 unfold Ey at h;split at h;rotate_left
 .cases h
 rename_i R;unfold EQ at R;simp only[z_b,beq_iff_eq] at R;obtain⟨⟨⟨f1,f2⟩,f3⟩,f4⟩:=R;have T:=Bj.1 f2;have a0:=h;unfold BJ at h;obtain⟨N,G⟩:=FP h;obtain⟨c1,c2⟩:=O0 h;have n0:=T.n0;unfold BM at f1;simp only[z_b,z_d,beq_iff_eq] at f1;have H:∀(k:Nat) (D:k < s.AA.tail.length),rv s.AA (1 + (k:Int)) = s.AA.tail[k]:=λk D=>by
  have:=JO D;rw[this];congr 1
 have hnd:=MJ N λx A=>(G x A).2.1
 refine⟨⟨Z,T,?_,?_,?_,?_⟩,⟨λx A=>⟨⟨x,A,rfl⟩,(Kx (G x A).2.2.1).2.2⟩,?_⟩,a0⟩
 .rintro a ⟨x,A,rfl⟩;obtain⟨g1,g2,g3,k,D,O,Q,g6⟩:=G x A;obtain⟨K,e2,_⟩:=Kx g3;refine⟨Z,?_,e2⟩;rw[<- K,O,show ((1:Nat):Int) + k = 1 + (k:Int) from rfl,H k D];exact Q
 .rintro a ⟨x,A,rfl⟩;obtain⟨K,_,_⟩:=Kx (G x A).2.2.1;rw[<- K];rcases c1 x A with ⟨k,D,O,Q⟩ | ⟨y,y1,y2⟩
  .left;rw[O,show ((1:Nat):Int) + k = 1 + (k:Int) from rfl,H k D];exact Q
  .exact .inr ⟨y,y1,y2⟩
 .intro r r0 r1;obtain⟨k,rfl⟩:∃k:Nat,r = 1 + (k:Int):=⟨(r - 1).toNat,Z⟩;have D:k < s.AA.tail.length:=by rw[fh];omega
  rw[H k D];rcases c2 k D with e | ⟨y,y1,y2⟩
  .exact .inl Z
  .exact .inr ⟨y,y1,Z⟩
 .rintro a b ⟨x,A,rfl⟩ ⟨y,hy,rfl⟩ a3;obtain⟨K,_,_⟩:=Kx (G x A).2.2.1;rw[<- K];obtain⟨i,hi,rfl⟩:=dm A;obtain⟨j,W,rfl⟩:=dm hy;rw[gB] at N;by_cases c:i < j
  .exact N i j hi W c
  .by_cases c' : i = j
   .subst c';omega
   .have:=N j i W hi Z;have:=(G _ (dL W)).2.1;omega
 .rintro a ⟨x,A,rfl⟩;rw[<- (Kx (G x A).2.2.1).2.2];exact A
end Sm
end
section
namespace Go.Lf
open Go Sm
def EZ:Nat->List Th->Int
 | _,[]=>-1
 | i,t :: r=>if t.busy = true then i else EZ (i + 1) r
theorem NZ {i:Nat} {t:Th} {r:List Th}:EZ i (t :: r) = if t.busy = true then (i:Int) else EZ (i + 1) r:=rfl
theorem J8:∀(l:List Th) (i:Nat),decide (EZ i l>=0) = l.any (·.busy)
 | [],i=>by simp[EZ]
 | t :: r,i=>by
  unfold EZ;cases h:t.busy with
  | true=>simp[h]
  | false=>simp only[List.any_cons,h,eU];exact J8 r (i + 1)
section
variable {R:RM} {D:Chs}
theorem XC {x:Value} {n t:Int} {b:Bool} (A:flat x = true) (j:cl x = [x]):Ro F4 [.agg #[x,I n,.bool b,I t]] (.bool b) R D:=by
 refine Re λF=>?_
 refine z_1 ?_;exact ja λy=>jfo (jl rfl (BV (BB rfl)))
theorem Vh {v:Value} {l:List Th} (h:Ths R v l) (hl:l.length < 1000000):Ro Ea [v,.func (.func F4) #[] #[]] (I (EZ 0 l)) R D:=by
 refine GW λF=>?_
 refine z_2 ?_;obtain⟨a,c,O⟩:=h.sl;refine Bf ⟨a,c,O⟩ (jli (λi:Nat=>l.length - i) (λi=>[v,.func (.func F4) #[] #[],I l.length,I i]) (λ_=>D ++ F) (λy i=>y = R/\i<=l.length/\EZ 0 l = EZ i (l.drop i)) 0 ⟨rfl,Z,by rw[fG]⟩ rfl rfl ?_);rintro K e y i ⟨H,T,j⟩ he G;subst H;refine z_V ?_;refine jlt (jif (λc=>?_) (λc=>?_));rotate_left
 .have c:=z_g c;refine BB ?_;rw[j,dT Z];rfl
 have c:i < l.length:=by have:=z_f c;omega
 refine jtr h c λb o ty Q rv A hb N x=>DR hb N x ?_
 obtain⟨W,rc,rfl⟩:=A.sl;refine H4 (by kernel_rfl) (jro (XC rfl rfl) ?_);rw[dQ c,NZ] at j;refine jif (λg=>?_) (λg=>?_)
 .rw[if_pos g] at j;exact BB (by rw[j])
 .rw[if_neg (by rw[g];decide)] at j;exact jad (G y (i + 1) Z ⟨rfl,Z,j⟩)
theorem Uq {v:Value} {l:List Th} (h:Ths R v l) (hl:l.length < 1000000):Ro E7 [v,.func (.func F4) #[] #[]] (.bool (l.any (·.busy))) R D:=by
 refine Fk λF=>?_
 refine z_2 ?_;refine jro (Vh h hl) (jge ?_);rw[J8];exact BB rfl
end
def Dj (s:Sm.Ah):Option (List AQ × List Int):=if s.AB.any (·.busy) then none else CD s
section st
variable {R:RM} {s:Sm.Ah} {wv tv mv thv ov pv:Value}
def Og (r:Option (List AQ × List Int)) (s:Sm.Ah) (wv tv mv thv ov pv:Value) (x:Value) (R:RM):Prop:=match r with
 | none=>x = .pointer none
 | some (l,met)=>∃hb mb v,x = Pt hb/\HpV R s wv tv mv thv ov pv l met hb mb v
set_option maxRecDepth 4000 in
theorem OG (h:SF R s wv tv mv thv ov pv):Fn P ON [.agg (eSt s wv tv mv thv ov pv).toArray] R [] (λr N A=>A = []/\Og (Dj s) s wv tv mv thv ov pv r N):=by
 refine VW λF=>?_
 refine z_1 ?_;refine ja λsb=>B9 λR0 O G=>DR G (by exact z_n 13) rfl ?_
 have h:=h.le O;refine jc (IU h) ?_;rintro x R1 _ D ⟨rfl,K⟩;have h:=h.le D;have G:=D _ _ G;have D:=O.trans D;have fu:=h.b.fu;have n1:=h.b.n1;have W:∀(t:Bool),(t = true->Dj s = none)->(t = false->Og (Dj s) s wv tv mv thv ov pv x R1)->J R1 ([] ++ F) (IF (.bool t) (Fj R F (λr N A=>A = []/\Og (Dj s) s wv tv mv thv ov pv r N) (.pointer none)) (Fj R F (λr N A=>A = []/\Og (Dj s) s wv tv mv thv ov pv r N) x)):=λt g1 g2=>by
  refine jif (λg=>Ao D ⟨rfl,?_⟩) (λg=>Ao D ⟨rfl,g2 g⟩);rw[g1 g];rfl
 obtain⟨H,Q,hx⟩:∃H:Bool,(H = (CD s).isNone)/\∀(y z:Operand) (w:World),(do eqGuard .eql 98 y z x (.pointer none);binOp .eql 98 x (.pointer none):Sem Value).run P w = .ok (.bool H) w:=by
  cases T:CD s with
  | none=>
   rw[T] at K;obtain rfl:x = _:=K;exact⟨true,rfl,λy z w=>Pw w y z⟩
  | some q=>
   obtain⟨l,met⟩:=q;rw[T] at K;obtain⟨hb,mb,v,rfl,hv⟩:=K;exact⟨false,rfl,λy z w=>QW w y z hb⟩
 refine jor [Pt sb,x] H (λK' j=>?_) (λe c u ho he=>?_)
 .refine jxr (hx _ _) (FB (λg=>?_) (λg=>?_))
  .rw[g];exact jfo (jlr G rfl (jlt (j _ _ _ CH (by rw[g];exact decide_eq_false Z))))
  .rw[g];exact j _ _ _ DN g.symm
 refine z_V ?_;refine jor [Pt sb,x] H (λK' j=>?_) (λe c u a0 he=>?_)
 .rw[ho];refine FB (λg=>?_) (λg=>?_)
  .rw[g];exact jfo (jlr G rfl (jgr (j _ _ _ CH (by rw[g];exact decide_eq_false Z))))
  .rw[g];exact j _ _ _ DN g.symm
 refine z_V ?_;refine jor [x] (H || s.AB.any (·.busy)) (λK' j=>?_) (λe c u a1 he=>?_)
 .rw[a0];refine FB (λg=>?_) (λg=>?_)
  .rw[g];exact jfo (jlr G rfl (jro (Uq h.c.th Z) (j _ _ _ CH (by rw[g,eU]))))
  .rw[g];exact j _ _ _ DN (by rw[g,fW])
 refine z_V ?_;rw[a1];refine W _ (λg=>?_) (λg=>?_)
 .unfold Dj;rw[du] at g;rcases g with g | g
  .rw[Q] at g;split
   .rfl
   .exact Option.isNone_iff_eq_none.1 g
  .rw[if_pos g]
 .rw[db] at g;unfold Dj;rw[if_neg (by rw[g.2];decide)];cases T:CD s with
  | none=>rw[Q,T] at g;exact absurd g.1 δ
  | some q=>
   obtain⟨l,met⟩:=q;rw[T] at K;exact K
theorem V7 {hb mb:Nat} {v:Value} {l:List AQ} {Q:List Int} (h:SF R s wv tv mv thv ov pv) (hv:HpV R s wv tv mv thv ov pv l Q hb mb v):Fn P HW [Pt hb] R [] (λr j A=>j = R/\∃b o,r = .map (some b)/\MpI o (λr=>Aj s.AJ r = true)/\A = [(b,o)]):=by
 refine MQ λF=>?_
 refine z_1 ?_;obtain⟨o,W,h2,h3,h4⟩:=hv;have pl:=h.b.pl;have T:=h.b.pv;refine ae λb o0 H=>(jci (λ_:Obj=>[.map (some b)]) (λo=>(b,o) :: ([] ++ F)) (λj o=>j = R/\MpI o (λr=>Aj s.AJ r = true)) (λK1 k1=>?_) ?_)
 .obtain⟨pa,pc,O⟩:=h.c.p.sl;refine jnc (jfo (jfo (jlr W rfl (Bf ⟨pa,pc,O⟩ (jci (λ_:Obj=>[.map (some b)]) (λo=>(b,o) :: ([] ++ F)) (λj o=>j = R/\MpI o (λr=>Aj s.AJ r = true)) (λK2 k2=>?_) ?_)))));rotate_left
  .rintro e j o hp he;refine z_V ?_;exact k1 j o hp
  refine jli (λi:Nat × Obj=>s.AJ.length - i.1) (λi=>[.map (some b),pv,I s.AJ.length,I i.1]) (λi=>(b,i.2) :: ([] ++ F)) (λj i=>j = R/\i.1<=s.AJ.length/\MpI i.2 (λr=>Aj (s.AJ.take i.1) r = true)) (0,o0) ⟨rfl,V,by simpa [Aj] using H⟩ rfl rfl ?_;rintro K e j ⟨i,o⟩ ⟨D,hi,x⟩ he hK;subst D;dsimp only at hi x he;refine z_V ?_;refine jlt (jif (λc=>?_) (λc=>?_));rotate_left
  .have c:=z_g c;rw[dO Z] at x;exact k2 j o ⟨rfl,x⟩
  have c:i < s.AJ.length:=by have:=z_f c;omega
  have N:=T _ (dL c);refine Bk h.c.p Z Z ?_;simp only[dG];refine jp (FK N.1 Z) (@jmu _ _ _ _ _ _ _ _ _ x λo' G=>(jad (hK j (i + 1,o') (by dsimp only;omega) ⟨rfl,c,?_⟩)));have e:(λr=>Aj (s.AJ.take (i + 1)) r = true) = λy=>Aj (s.AJ.take i) y = true\/y = AN s.AJ[i]:=by
   funext r;rw[dJ c];unfold Aj;simp only[List.any_append,List.any_cons,List.any_nil,Bool.or_false,du,beq_iff_eq];exact propext ⟨λh=>h.imp id Eq.symm,λh=>h.imp id Eq.symm⟩
  dsimp only;rw[e];exact G
 rintro e j o ⟨D,x⟩ he;subst D;refine z_V ?_;exact Ao (RM.le.refl _) ⟨rfl,b,o,rfl,x,rfl⟩
end st
end Go.Lf
end
section
namespace Sm
open Go.Lf
def nxt (AJ tops:List Int) (n:Int):Nat->Nat->Nat
 | 0,r=>r
 | f + 1,r=>if r < tops.length/\(Aj AJ r = true\/AK r + 16 < tops.getD r 0 + n) then nxt AJ tops n f (r + 1) else r
def CW (l:List AQ) (a:Int):Int:=match Ax l a with | some t=>AF t.sh | none=>2
def Ca (AJ:List Int) (l:List AQ):List Int->List Int->Nat->Option (List Int × List Int)
 | [],tops,_=>some ([],tops)
 | a :: rest,tops,r=>if Aj AJ (AN a) = true then (Ca AJ l rest tops r).map λq=>(a :: q.1,q.2) else
  if nxt AJ tops (CW l a) (tops.length + 1) r = tops.length then none else
  (Ca AJ l rest (tops.set (nxt AJ tops (CW l a) (tops.length + 1) r) (tops.getD (nxt AJ tops (CW l a) (tops.length + 1) r) 0 + CW l a)) (nxt AJ tops (CW l a) (tops.length + 1) r)).map λq=>(tops.getD (nxt AJ tops (CW l a) (tops.length + 1) r) 0 :: q.1,q.2)
def Rel (tops:List Int) (t:List Rg):Prop:=tops.length = t.length/\∀q:Nat,1<=q->q < t.length->tops.getD q 0 = (rv t q).top
theorem Tz {AJ tops:List Int} {t:List Rg} {size:Int} (hl:t.length<=12) (h:Rel tops t):∀(n:Nat) (r j : Int),FA AJ t size n r = some j->1<=r->j < t.length->∀f:Nat,j - r < f->nxt AJ tops size f r.toNat = j.toNat/\r<=j
 | 0,r,j,e,_,_,f,_=>by cases e
 | n + 1,r,j,e,h1,h2,f,hf=>by
  unfold FA at e;have D:FA AJ t size n (r + 1) = some j->(Aj AJ r = true\/AK r + 16 < (rv t r).top + size)->nxt AJ tops size f r.toNat = j.toNat/\r<=j:=λH hc=>by
   have N:=(Tz hl h n (r + 1) _ H Z h2 (j - r).toNat.succ Z).2;cases f with
   | zero=>omega
   | succ f=>
    obtain⟨K,R⟩:=Tz hl h n (r + 1) _ H Z h2 f Z;refine⟨?_,Z⟩;unfold nxt;rw[if_pos]
    .rw[<- K];congr 1;omega
    .refine⟨by rw[h.1];omega,?_⟩;rw[show ((r.toNat:Nat):Int) = r from Z,h.2 r.toNat Z Z,show ((r.toNat:Nat):Int) = r from Z];exact hc
  by_cases G:Aj AJ r = true
  .rw[if_pos G] at e;exact D e (.inl G)
  .rw[if_neg G] at e;obtain⟨x,O,e⟩:=AG e;obtain⟨p,y,e⟩:=AG e;obtain⟨T,W,Q⟩:=Fx De O;have A:x = rv t r:=Q.symm;have y:p = x.top + size:=by unfold Cg at y;split at y<;>cases y;rfl
   by_cases c:AK r + 16 < p
   .rw[if_pos c] at e;exact D e (.inr (by rw[<- A,<- y];exact c))
   .rw[if_neg c] at e;cases e;refine⟨?_,eE _⟩;cases f with
    | zero=>omega
    | succ f=>
     unfold nxt;rw[if_neg];rintro⟨_,c2⟩;rw[show ((r.toNat:Nat):Int) = r from Z,h.2 r.toNat Z Z,show ((r.toNat:Nat):Int) = r from Z] at c2;rcases c2 with c2 | c2
     .exact G c2
     .rw[<- A,<- y] at c2;exact c c2
def IZ (AJ:List Int) (r:Int) (top:Int):Rg:=if AK r < top\/Aj AJ r = true then ⟨3,-1,top,top,0⟩ else Dp r
theorem IY {AJ:List Int} {l:List AQ}:∀(la:List Int) (t N : List Rg) (r:Int) (Q out j:List Int),slide AJ l la t r Q = some (N,out)->t.length<=12->1<=r->Rel j t->(∀q:Int,1<=q->q < t.length->rv t q = IZ AJ q (rv t q).top/\AK q<=(rv t q).top)->(∀a∈la,∀x,Ax l a = some x->0 < AF x.sh)->
  ∃D y,out = Q ++ D/\Ca AJ l la j r.toNat = some (D,y)/\Rel y N/\N.length = t.length/\(∀q:Int,1<=q->q < t.length->rv N q = IZ AJ q (rv N q).top/\AK q<=(rv N q).top)/\D.length = la.length
 | [],t,N,r,Q,out,j,h,hl,h1,hr,hf,_=>by
  cases h;exact⟨[],j,V,rfl,hr,rfl,hf,rfl⟩
 | a :: la,t,N,r,Q,out,j,h,hl,h1,hr,hf,hs=>by
  unfold slide at h;obtain⟨x,hx,h⟩:=AG h;have a2:CW l a = AF x.sh:=by unfold CW;rw[hx]
  have W:=λb hb=>hs b (dh _ hb)
  by_cases hh:Aj AJ (AN a) = true
  .rw[if_pos hh] at h;obtain⟨D,y,g1,g2,g3,g4,g5,g6⟩:=IY la t N r (Q ++ [a]) out j h hl h1 hr hf W;refine⟨a :: D,y,by rw[g1];simp,?_,g3,g4,g5,by simp[g6]⟩;unfold Ca;rw[if_pos hh,g2];rfl
  .rw[if_neg hh] at h;obtain⟨A,a1,h⟩:=AG h;obtain⟨row,T,h⟩:=AG h;obtain⟨top,H,h⟩:=AG h;obtain⟨x0,x1,x2⟩:=Fx De T;have K:row = rv t A:=x2.symm;have ht:top = row.top + AF x.sh:=by unfold Cg at H;split at H<;>cases H;rfl
   obtain⟨n1,n2⟩:=Tz hl hr _ _ _ a1 h1 x1 (j.length + 1) (by rw[hr.1];omega);have h0:=hs a V x hx;have et:∀q:Int,0<=q->rv (AT t A { row with kind:=3,top:=top,BC:=top }) q = if q = A then { row with kind:=3,top:=top,BC:=top } else rv t q:=λq q0=>DB Z x1 q0
   have G:=hf A Z x1;have a0:rv t A = { rv t A with AX:=-1,AI:=0 }:=by
    rw[G.1];unfold IZ;split<;>rfl
   have R:Rel (j.set A.toNat (j.getD A.toNat 0 + AF x.sh)) (AT t A { row with kind:=3,top:=top,BC:=top }):=by
    refine⟨by rw[eG,hr.1];simp[AT],λq q1 O=>?_⟩;have O:q < t.length:=by simpa [AT] using O
    rw[et q Z,dI,gC];by_cases c:A.toNat = q
    .rw[if_pos c,if_pos (by rw[hr.1];omega),if_pos Z];show j.getD A.toNat 0 + AF x.sh = top;rw[hr.2 _ Z Z,show ((A.toNat:Nat):Int) = A from Z,ht,K]
    .rw[if_neg c,if_neg Z,<- dI];exact hr.2 q q1 O
   obtain⟨D,y,g1,g2,g3,g4,g5,g6⟩:=IY la _ N A (Q ++ [row.top]) out _ h (by simpa [AT] using hl) Z R (λq q1 O=>by
     have O:q < t.length:=by simpa [AT] using O
     rw[et q Z]
     by_cases c:q = A
     .subst c
      simp only[if_true]
      have e1:=G.2
      have e2:AK q < top:=by rw[ht,K];omega
      refine⟨?_,Z⟩
      unfold IZ
      rw[if_pos (.inl e2)]
      rw[a0] at K
      rw[K]
     .rw[if_neg c];exact hf q q1 O) W
   refine⟨row.top :: D,y,by rw[g1];simp,?_,g3,by rw[g4];simp[AT],λq q1 O=>g5 q q1 (by simpa [AT] using O),by simp[g6]⟩;unfold Ca;rw[if_neg hh,a2,n1,if_neg (by rw[hr.1];omega),g2];show some (j.getD A.toNat 0 :: D,y) = _;rw[hr.2 _ Z Z,show ((A.toNat:Nat):Int) = A from Z,<- K]
def CE:List Int->Int->List Int->List Int
 | w,_,[]=>w
 | w,a,v :: c=>CE (AT w a v) (a + 1) c
theorem EC:∀{c w:List Int} {a:Int},(CE w a c).length = w.length
 | [],_,_=>rfl
 | v :: c,w,a=>by unfold CE;rw[EC];simp[AT]
theorem HB:∀{c w:List Int} {a x:Int},0<=a->a + c.length<=w.length->0<=x->wv (CE w a c) x = if a<=x/\x < a + c.length then c.getD (x - a).toNat 0 else wv w x
 | [],w,a,x,h0,h1,hx=>by unfold CE;rw[if_neg V]
 | v :: c,w,a,x,h0,h1,hx=>by
  unfold CE;simp only[dR] at h1;rw[HB Z (by simp[AT];omega) hx,Co Z Z hx];simp only[dR];by_cases c1:a + 1<=x/\x < a + 1 + c.length
  .rw[if_pos c1,if_pos Z,show (x - a).toNat = (x - (a + 1)).toNat + 1 from Z];rfl
  .rw[if_neg c1];by_cases c2:x = a
   .subst c2;rw[if_pos rfl,if_pos Z,Int.sub_self];rfl
   .rw[if_neg c2,if_neg Z]
theorem TG:∀{j w:List Int} {a:Int},0<=a->a + j.length<=w.length->wrs w a j = some (CE w a j)
 | [],w,a,_,_=>rfl
 | v :: j,w,a,h0,h1=>by
  simp only[dR] at h1;unfold wrs CE;rw[Gn h0 Z];exact TG Z (by simp[AT];omega)
theorem Hg:∀{c d w:List Int} {a:Int},CE w a (c ++ d) = CE (CE w a c) (a + c.length) d
 | [],d,w,a=>by simp[CE]
 | v :: c,d,w,a=>by
  show CE (AT w a v) (a + 1) (c ++ d) = CE (CE (AT w a v) (a + 1) c) (a + ((v :: c).length:Nat)) d;rw[Hg,show a + 1 + (c.length:Int) = a + ((v :: c).length:Nat) from by simp only[dR];omega]
theorem Xl {j y:List Int} (hl:j.length = y.length) (h:∀x,0<=x->wv j x = wv y x):j = y:=by
 apply fY hl;intro i A D;have:=h i Z;unfold wv gv at this;simp only[dG,dI,dH A,dH D,eI] at this;exact this
theorem OE {w:List Int} {a:Int} (h0:0<=a) (j:a < w.length):AT w a (wv w a) = w:=
 Xl (by simp[AT]) λx y=>by
  rw[Co h0 j y];by_cases c:x = a
  .rw[if_pos c,c]
  .rw[if_neg c]
def plc (l:List AQ) (AI to:List Int) (v:Int):Int:=match now l v with
 | some u=>if u∈AI then to.getD (AI.idxOf u) 0 else 0
 | none=>0
theorem Qs {l:List AQ} {AI to:List Int} (hlen:to.length = AI.length):∀(j w:List Int) (a:Int),(∀v∈j,∃u,now l v = some u)->0<=a->a + j.length<=w.length->(∀x,a<=x->x < a + j.length->wv w x = 0)->
  F3 l AI to w a j = some (CE w a (j.map (plc l AI to)))
 | [],w,a,_,_,_,_=>rfl
 | v :: r,w,a,hv,h0,h1,hz=>by
  simp only[dR] at h1 hz;obtain⟨u,A⟩:=hv v V;unfold F3;rw[A,eN];simp only[dP,z_o];unfold CE;have e:(if 0<=BP AI u then (idx to (BP AI u)).bind λx=>wr w a x else some w) = some (AT w a (plc l AI to v)):=by
   unfold plc;rw[A];dsimp only;by_cases c:u∈AI
   .have H:=(DF (l:=AI) (n:=u)).1 c;have D:BP AI u = (AI.idxOf u:Nat):=by unfold BP;rw[if_pos c]
    rw[if_pos H.1,if_pos c,D];have G:AI.idxOf u < to.length:=by rw[hlen];exact eQ c
    unfold idx;rw[if_pos Z];simp only[dG,dH G,z_o,dI,eI];exact Gn h0 Z
   .rw[(DF (l:=AI) (n:=u)).2 c,if_neg δ,if_neg c];have:=OE (w:=w) h0 Z;rw[hz a (eE _) Z] at this;rw[this]
  rw[e];simp only[z_o];exact Qs hlen r _ (a + 1) (λv y=>hv v (dh _ y)) Z (by simp[AT];omega) λx K N=>by
   rw[Co h0 Z Z,if_neg Z];exact hz x Z Z
def Bo (w:List Int) (bl:List (Int × List Int)):List Int:=bl.foldl (λw b=>CE w b.1 b.2) w
theorem CB:∀{j:List (Int × List Int)} {w:List Int},(Bo w j).length = w.length
 | [],_=>rfl
 | b :: j,w=>by
  show (Bo (CE w b.1 b.2) j).length = _;rw[CB,EC]
def inB (b:Int × List Int) (x:Int):Prop:=b.1<=x/\x < b.1 + b.2.length
theorem EF:∀{j:List (Int × List Int)} {w:List Int} {x:Int},(∀b∈j,0<=b.1/\b.1 + b.2.length<=w.length)->0<=x->(∀b∈j,¬ inB b x)->wv (Bo w j) x = wv w x
 | [],_,_,_,_,_=>rfl
 | b :: j,w,x,h,hx,hn=>by
  show wv (Bo (CE w b.1 b.2) j) x = _;rw[EF (λc hc=>by rw[EC];exact h c (dh _ hc)) hx λc hc=>hn c (dh _ hc)];have hb:=h b V;rw[HB hb.1 hb.2 hx];exact if_neg (hn b V)
theorem Ep:∀{j:List (Int × List Int)} {w:List Int} {x:Int} {b:Int × List Int},(∀b∈j,0<=b.1/\b.1 + b.2.length<=w.length)->j.Pairwise (λb c=>∀x,¬ (inB b x/\inB c x))->b∈j->inB b x->wv (Bo w j) x = b.2.getD (x - b.1).toNat 0
 | [],_,_,_,_,_,hb,_=>by cases hb
 | c :: j,w,x,b,h,hp,hb,hx=>by
  rw[gE] at hp;show wv (Bo (CE w c.1 c.2) j) x = _;have A : ∀d∈j,0<=d.1/\d.1 + d.2.length<=(CE w c.1 c.2).length:=λd hd=>by rw[EC];exact h d (dh _ hd)
  have hc:=h c V;rcases dX.1 hb with rfl | hb
  .have D:0<=x:=by have:=hx.1;omega
   rw[EF A D λd hd y=>hp.1 d hd x ⟨hx,y⟩,HB hc.1 hc.2 D];exact if_pos hx
  .exact Ep A hp.2 hb hx
def DK (l:List AQ) (AI to:List Int) (a d:Int):Int × List Int:=(d,match Ax l a with
 | some t=>d :: AY t.sh :: (t.refs.map (plc l AI to) ++ t.nums)
 | none=>[])
theorem Pl {l:List AQ} {AI to:List Int} (hlen:to.length = AI.length):∀(la ld w:List Int),la.length = ld.length->
  (∀p∈la.zip ld,∃t,Ax l p.1 = some t/\(∀v∈t.refs,∃u,now l v = some u)/\0<=p.2/\p.2 + (2 + t.refs.length + t.nums.length:Nat)<=w.length/\∀x,p.2 + 2<=x->x < p.2 + 2 + t.refs.length->wv w x = 0)->
  ((la.zip ld).map λp=>DK l AI to p.1 p.2).Pairwise (λb c=>∀x,¬ (inB b x/\inB c x))->
  El l AI to la ld w = some (Bo w ((la.zip ld).map λp=>DK l AI to p.1 p.2))
 | [],[],w,_,_,_=>rfl
 | [],_ :: _,w,h,_,_=>by simp at h
 | _ :: _,[],w,h,_,_=>by simp at h
 | a :: la,d :: ld,w,h,hp,hd=>by
  rw[g9] at hp hd ⊢;rw[eN,gE] at hd;obtain⟨t,G,hr,d0,R,Q⟩:=hp (a,d) V;dsimp only at G d0 R Q;have N:DK l AI to a d = (d,d :: AY t.sh :: (t.refs.map (plc l AI to) ++ t.nums)):=by unfold DK;rw[G]
  have j:∀x:Int,0<=x->wv (AT (AT w d d) (d + 1) (AY t.sh)) x = if x = d + 1 then AY t.sh else if x = d then d else wv w x:=λx O=>by
   rw[Co Z (by simp[AT];omega) O];split
   .rfl
   .rw[Co Z Z O]
  have e:(do
    let w <- wr w d d
    let w <- wr w (d + 1) (AY t.sh)
    let w <- F3 l AI to w (d + 2) t.refs
    wrs w (d + 2 + t.refs.length) t.nums) = some (CE w d (d :: AY t.sh :: (t.refs.map (plc l AI to) ++ t.nums))):=by
   rw[Gn d0 Z];simp only[dP,z_o];rw[Gn Z (by simp[AT];omega)];simp only[z_o];rw[Qs hlen t.refs _ (d + 2) hr Z (by simp[AT];omega) λx A D=>by
    rw[j x Z,if_neg Z,if_neg Z];exact Q x A D]
   simp only[z_o];rw[TG Z (by rw[EC];simp[AT];omega)];have T:CE w d (d :: AY t.sh :: (t.refs.map (plc l AI to) ++ t.nums)) = CE (CE (AT (AT w d d) (d + 1) (AY t.sh)) (d + 1 + 1) (t.refs.map (plc l AI to))) (d + 1 + 1 + ((t.refs.map (plc l AI to)).length:Nat)) t.nums:=Hg;rw[T,dN,show d + 1 + 1 = d + 2 from Z]
  unfold El;rw[G];simp only[dP,z_o] at e ⊢;have:=Pl hlen la ld (CE w d (d :: AY t.sh :: (t.refs.map (plc l AI to) ++ t.nums))) (by simpa using h) (λp y=>by
   obtain⟨t2,A,D,W,h4,h5⟩:=hp p (dh _ y)
   refine⟨t2,A,D,W,by rw[EC];exact h4,λx H K=>?_⟩
   rw[HB d0 (by simp;omega) Z,if_neg]
   .exact h5 x H K
   .intro hc
    refine hd.1 _ (fI y) x ⟨by rw[N];exact hc,?_⟩
    unfold DK inB
    rw[A]
    dsimp only
    refine⟨Z,?_⟩
    simp only[dR,dK,dN];omega) hd.2
  rw[eN];show _ = some (Bo (CE w (DK l AI to a d).1 (DK l AI to a d).2) _);rw[N,<- this];revert e;cases wr w d d with
  | none=>intro e;cases e
  | some w1=>
   simp only[z_o];cases wr w1 (d + 1) (AY t.sh) with
   | none=>intro e;cases e
   | some w2=>
    simp only[z_o];cases F3 l AI to w2 (d + 2) t.refs with
    | none=>intro e;cases e
    | some w3=>
     simp only[z_o];intro e;rw[e];rfl
theorem Nw:∀{n:Nat} {w:List Int} {a:Int},0<=a->a + n<=w.length->(∀x,a<=x->x < a + n->wv w x = 0)->CE w a (List.replicate n 0) = w
 | 0,w,a,_,_,_=>rfl
 | n + 1,w,a,h0,h1,hz=>by
  have e:=OE (w:=w) h0 Z;rw[hz a (eE _) Z] at e;show CE (AT w a 0) (a + 1) (List.replicate n 0) = w;rw[e];exact Nw Z Z λx j y=>hz x Z Z
def Du (x:AQ):Int × List Int:=(x.at_,x.at_ :: AY x.sh :: (List.replicate x.refs.length 0 ++ x.nums))
theorem IR {s:Ah}:∀(l:List AQ) (w:List Int) (t:List Rg) (D : List Int) (H : List Rg),stay s l w t = some (D,H)->
  (∀x∈l,Aj s.AJ (AN x.at_) = true->0<=x.at_/\x.at_ + (2 + x.refs.length + x.nums.length:Nat)<=w.length/\∀y,x.at_ + 2<=y->y < x.at_ + 2 + x.refs.length->wv w y = 0)->
  ((l.filter λx=>Aj s.AJ (AN x.at_)).map Du).Pairwise (λb c=>∀x,¬ (inB b x/\inB c x))->
  D = Bo w ((l.filter λx=>Aj s.AJ (AN x.at_)).map Du)
 | [],w,t,D,H,h,_,_=>by cases h;rfl
 | x :: l,w,t,D,H,h,hp,hd=>by
  unfold stay at h;dsimp only at h;by_cases j:Aj s.AJ (AN x.at_) = true
  .rw[if_pos j] at h;rw[List.filter_cons_of_pos (by simpa using j),eN,gE] at hd;obtain⟨K,a1,Q⟩:=hp x V j;rw[Gn K Z] at h;simp only[dP,z_o] at h;rw[Gn Z (by simp[AT];omega)] at h;simp only[z_o] at h;rw[TG Z (by simp[AT];omega)] at h;simp only[z_o] at h;obtain⟨row,_,h⟩:=AG h;obtain⟨_,_,h⟩:=AG h;have e:CE (AT (AT w x.at_ x.at_) (x.at_ + 1) (AY x.sh)) (x.at_ + 2 + x.refs.length) x.nums = CE w x.at_ (x.at_ :: AY x.sh :: (List.replicate x.refs.length 0 ++ x.nums)):=by
    have e9:CE w x.at_ (x.at_ :: AY x.sh :: (List.replicate x.refs.length 0 ++ x.nums)) = CE (CE (AT (AT w x.at_ x.at_) (x.at_ + 1) (AY x.sh)) (x.at_ + 1 + 1) (List.replicate x.refs.length 0)) (x.at_ + 1 + 1 + ((List.replicate x.refs.length (0:Int)).length:Nat)) x.nums:=Hg;rw[e9,dV,show x.at_ + 1 + 1 = x.at_ + 2 from Z,Nw Z (by simp[AT];omega)];intro y N O;rw[Co Z (by simp[AT];omega) Z,if_neg Z,Co K Z Z,if_neg Z];exact Q y N O
   rw[e] at h;rw[List.filter_cons_of_pos (by simpa using j),eN];exact IR l _ _ _ _ h (λy G A=>by
    obtain⟨R,T,W⟩:=hp y (dh _ G) A
    refine⟨R,by show _<=((CE w x.at_ _).length:Int);rw[EC];exact T,λz N O=>?_⟩
    show wv (CE w x.at_ (x.at_ :: AY x.sh :: (List.replicate x.refs.length 0 ++ x.nums))) z = 0
    rw[HB K (by simp;omega) Z,if_neg]
    .exact W z N O
    .intro hc
     refine hd.1 _ (fI (eV.2 ⟨G,by simpa using A⟩)) z ⟨hc,?_⟩
     unfold Du inB
     dsimp only
     refine⟨Z,?_⟩
     simp only[dR,dK,dV];omega) hd.2
  .rw[if_neg j] at h;rw[List.filter_cons_of_neg (by simpa using j)] at hd ⊢;exact IR l w t D H h (λy G=>hp y (dh _ G)) hd
theorem JX {AJ:List Int} {t:List Rg} {size:Int} (hl:t.length<=12):∀(n:Nat) (r j : Int),FA AJ t size n r = some j->1<=r->r<=j/\Aj AJ j = false/\j < t.length/\(rv t j).top + size<=16 * j + 16
 | 0,r,j,e,_=>by cases e
 | n + 1,r,j,e,h1=>by
  unfold FA at e;by_cases D:Aj AJ r = true
  .rw[if_pos D] at e;obtain⟨H,A⟩:=JX hl n (r + 1) j e Z;exact⟨Z,A⟩
  .rw[if_neg D] at e;obtain⟨x,K,e⟩:=AG e;obtain⟨p,y,e⟩:=AG e;obtain⟨Q,N,O⟩:=Fx De K;have G:x = rv t r:=O.symm;have y:p = x.top + size:=by unfold Cg at y;split at y<;>cases y;rfl
   by_cases c:AK r + 16 < p
   .rw[if_pos c] at e;obtain⟨H,A⟩:=JX hl n (r + 1) j e Z;exact⟨Z,A⟩
   .rw[if_neg c] at e;cases e;rw[Bq Z Z] at c;exact⟨eE _,by simpa using D,N,by rw[<- G];omega⟩
theorem Lj {AJ:List Int} {l:List AQ}:∀(la:List Int) (t t' : List Rg) (r:Int) (Q out:List Int),slide AJ l la t r Q = some (t',out)->t.length<=12->1<=r->(∀q:Int,1<=q->q < t.length->16 * q<=(rv t q).top)->(∀a∈la,0<=a/\∀x,Ax l a = some x->0 < AF x.sh)->la.Nodup->
  ∃j,out = Q ++ j/\j.length = la.length/\j.Nodup/\∀p∈la.zip j,(Aj AJ (AN p.1) = true/\p.2 = p.1)\/(Aj AJ (AN p.1) = false/\Aj AJ (p.2 / 16) = false/\1<=p.2 / 16/\p.2 / 16 < t.length/\(rv t (p.2 / 16)).top<=p.2)
 | [],t,t',r,Q,out,h,_,_,_,_,_=>by
  cases h;exact⟨[],V,rfl,List.nodup_nil,λp y=>by simp at y⟩
 | a :: la,t,t',r,Q,out,h,hl,h1,ht,hs,nd=>by
  rw[fJ] at nd;unfold slide at h;obtain⟨x,hx,h⟩:=AG h;have H:=λb hb=>hs b (dh _ hb)
  obtain⟨a2,a4⟩:=hs a V;by_cases O:Aj AJ (AN a) = true
  .rw[if_pos O] at h;obtain⟨j,g1,T,g3,W⟩:=Lj la t t' r (Q ++ [a]) out h hl h1 ht H nd.2;refine⟨a :: j,by rw[g1];simp,by simp[T],fJ.2 ⟨λhm=>?_,g3⟩,λp y=>?_⟩
   .obtain⟨b,hb⟩:=GY T.symm hm;rcases W _ hb with ⟨_,e⟩ | ⟨_,e,_⟩
    .dsimp only at e;exact nd.1 (e▸(fB hb).1)
    .dsimp only at e;rw[Be a2] at O;rw[O] at e;cases e
   .rw[g9] at y;rcases dX.1 y with rfl | y
    .exact .inl ⟨O,rfl⟩
    .exact W p y
  .rw[if_neg O] at h;obtain⟨G,a3,h⟩:=AG h;obtain⟨row,a1,h⟩:=AG h;obtain⟨top,A,h⟩:=AG h;obtain⟨x0,x1,x2⟩:=Fx De a1;have D:row = rv t G:=x2.symm;have a5:top = row.top + AF x.sh:=by unfold Cg at A;split at A<;>cases A;rfl
   obtain⟨n1,n2,n3,n4⟩:=JX hl _ _ _ a3 h1;have h0:=a4 x hx;have hb:=ht G Z x1;have et:∀q:Int,0<=q->rv (AT t G { row with kind:=3,top:=top,BC:=top }) q = if q = G then { row with kind:=3,top:=top,BC:=top } else rv t q:=λq q0=>DB Z x1 q0
   obtain⟨j,g1,T,g3,W⟩:=Lj la _ t' G (Q ++ [row.top]) out h (by simpa [AT] using hl) Z (λq q1 q2=>by
    rw[et q Z]
    by_cases c:q = G
    .subst c
     rw[if_pos rfl]
     show 16 * q<=top
     rw[a5,D];omega
    .rw[if_neg c];exact ht q q1 (by simpa [AT] using q2)) H nd.2
   have N:row.top / 16 = G:=by rw[D];omega
   refine⟨row.top :: j,by rw[g1];simp,by simp[T],fJ.2 ⟨λhm=>?_,g3⟩,λp y=>?_⟩
   .obtain⟨b,a0⟩:=GY T.symm hm;rcases W _ a0 with ⟨R,e2⟩ | ⟨_,_,_,_,e⟩
    .dsimp only at R e2;have a6:=(H b (fB a0).1).1;rw[<- e2,Be Z,N,n2] at R;cases R
    .dsimp only at e;rw[N,et G Z,if_pos rfl] at e;have e:top<=row.top:=e;omega
   .rw[g9] at y;rcases dX.1 y with rfl | y
    .exact .inr ⟨by simpa using O,by dsimp only;rw[N];exact n2,by dsimp only;rw[N];omega,by dsimp only;rw[N];exact n3,by dsimp only;rw[N,D];exact eE _⟩
    .rcases W p y with e | ⟨R,e2,e3,e4,K⟩
     .exact .inl e
     .refine .inr ⟨R,e2,e3,by simpa [AT] using e4,?_⟩;rw[et _ Z] at K;by_cases c:p.2 / 16 = G
      .rw[if_pos c] at K;have K:top<=p.2:=K;rw[c,<- D];omega
      .rw[if_neg c] at K;exact K
theorem VQ {AJ:List Int} {l:List AQ} {W:List Int} {T0:List Rg} {B0:Int->Prop} (T:Thn W B0 l) (G0:Geo W T0 B0):∀(la:List Int) (t H:List Rg) (r:Int) (K out:List Int) (f:Int->Shp) (B:Int->Prop),
  slide AJ l la t r K = some (H,out)->(∀a∈la,B0 a)->If f t B->1<=r->(∀q:Int,1<=q->q < t.length->(rv t q).AX = -1)->(∀a∈la,Aj AJ (a / 16) = true->B a/\f a = shp W a)->
  ∃x D A,out = K ++ x/\x.length = la.length/\If D H A/\H.length = t.length/\(∀b,B b->A b/\D b = f b)/\(∀b,A b->B b\/(b∈x/\Aj AJ (b / 16) = false))/\
   (∀p∈la.zip x,A p.2/\D p.2 = shp W p.1/\(Aj AJ (p.1 / 16) = true->p.2 = p.1)):=by
 intro la;induction la with
 | nil=>
  intro t H r K out f B h _ G _ _ _;cases h;exact⟨[],f,B,V,rfl,G,rfl,λb h=>⟨h,rfl⟩,λb h=>.inl h,λp h=>(by simp at h)⟩
 | cons a la ih=>
  intro t H r K out f B h hB G r0 ho h4;have N:=hB a V;obtain⟨g1,g2,g3,g4,g5,g6,g7,g8⟩:=G0.inn N;have n1:=G.ok.n1;unfold slide at h;rw[T.find N] at h;simp only[dP,z_o] at h;have es:AF (thg W a).sh = sz W a:=rfl;rw[es,Be Z] at h;cases Q:Aj AJ (a / 16) with
  | true=>
   rw[if_pos Q] at h;obtain⟨hb,hf⟩:=h4 a V Q;obtain⟨x,D,A,e,k1,k2,k3,k5,k6,k7⟩:=ih t H r (K ++ [a]) out f B h (λb hb=>hB b (by simp[hb])) G r0 ho (λb hb=>h4 b (by simp[hb]));refine⟨a :: x,D,A,by rw[e];simp,by simp[k1],k2,k3,k5,λb hb=>?_,λp y=>?_⟩
   .rcases k6 b hb with h | h
    .exact .inl h
    .exact .inr ⟨by simp[h.1],h.2⟩
   .rw[g9] at y;rcases dX.1 y with y | y
    .subst y;exact⟨(k5 a hb).1,by rw[(k5 a hb).2,hf],λ_=>rfl⟩
    .exact k7 p y
  | false=>
   rw[if_neg (by rw[Q];decide)] at h;obtain⟨j,e1,h⟩:=AG h;obtain⟨p1,p3,p2,p4⟩:=JX n1 _ _ _ e1 r0;have R:=G.ok.row j Z Z;have t0:=R.t0;rw[Cm Z Z] at h;simp only[z_o] at h;rw[BQ Z Z] at h;simp only[z_o] at h;have O:AF (shp W a) = sz W a:=rfl;obtain⟨G2,nd,ed⟩:=G.add (r:=j) (sh:=shp W a) Z Z rfl (ho j Z Z) (Ge W a) (by rw[O];exact p4);rw[O] at G2;have et:∀q,0<=q->rv (AT t j { rv t j with kind:=3,top:=(rv t j).top + sz W a,BC:=(rv t j).top + sz W a }) q = if q = j then { rv t j with kind:=3,top:=(rv t j).top + sz W a,BC:=(rv t j).top + sz W a } else rv t q:=λq q0=>DB Z Z q0
   obtain⟨x,D,A,e,k1,k2,k3,k5,k6,k7⟩:=ih _ H j (K ++ [(rv t j).top]) out _ _ h (λb hb=>hB b (by simp[hb])) G2 Z (λq q0 q1=>by
     rw[et q Z];split
     .exact ho j Z Z
     .exact ho q q0 (by simpa using q1)) (λb hb a0=>by
     obtain⟨c1,c2⟩:=h4 b (by simp[hb]) a0
     refine⟨.inl c1,?_⟩
     have:b≠(rv t j).top:=λc=>nd (c▸c1)
     simp only[if_neg this];exact c2)
   refine⟨(rv t j).top :: x,D,A,by rw[e];simp,by simp[k1],k2,by rw[k3];simp,λb hb=>?_,λb hb=>?_,λp y=>?_⟩
   .obtain⟨c1,c2⟩:=k5 b (.inl hb);refine⟨c1,?_⟩;have:b≠(rv t j).top:=λc=>nd (c▸hb)
    rw[c2];simp only[if_neg this]
   .rcases k6 b hb with (h | h) | h
    .exact .inl h
    .exact .inr ⟨by simp[h],by rw[h,ed];exact p3⟩
    .exact .inr ⟨by simp[h.1],h.2⟩
   .rw[g9] at y;rcases dX.1 y with y | y
    .subst y;obtain⟨c1,c2⟩:=k5 (rv t j).top (.inr rfl);refine⟨c1,by rw[c2];simp,λh=>by rw[Q] at h;cases h⟩
    .exact k7 p y
def Bl (s:Ah):List Int:=(List.range s.AA.length).map λ(r:Nat)=>if Aj s.AJ r = true then (rv s.AA r).top else AK r
structure DT (s s' : Ah) (l:List AQ) (AI to tops:List Int):Prop where
 ld:Ca s.AJ l AI (Bl s) 1 = some (to,tops)
 wd:s'.AC = Bo (Bo (List.replicate s.AC.length 0) ((l.filter λx=>Aj s.AJ (AN x.at_)).map Du)) ((AI.zip to).map λp=>DK l AI to p.1 p.2)
 tl:Rel tops s'.AA
 tn:s'.AA.length = s.AA.length
 e0:rv s'.AA 0 = De
 rw_:∀q:Int,1<=q->q < s.AA.length->rv s'.AA q = IZ s.AJ q (rv s'.AA q).top
 th:Da l AI to s.AB = some s'.AB
 eq:s' = ⟨s'.AC,s'.AA,List.replicate s.AC.length false,0,false,false,s.Ap,0,s'.AB,[],s.AJ,s.BE,s.BK + 1⟩
 hlen:to.length = AI.length
 hd:((AI.zip to).map λp=>DK l AI to p.1 p.2).Pairwise (λb c=>∀x,¬ (inB b x/\inB c x))
 dd:((l.filter λx=>Aj s.AJ (AN x.at_)).map Du).Pairwise (λb c=>∀x,¬ (inB b x/\inB c x))
 rg:∀p∈AI.zip to,(Aj s.AJ (p.1 / 16) = true/\p.2 = p.1)\/(Aj s.AJ (p.1 / 16) = false/\Aj s.AJ (p.2 / 16) = false)
 rn:∀p∈AI.zip to,16<=p.2/\∀t,Ax l p.1 = some t->p.2 + (2 + t.refs.length + t.nums.length:Nat)<=s.AC.length/\p.2 + (2 + t.refs.length + t.nums.length:Nat)<=16 * (p.2 / 16) + 16
 gs:∃f B',If f s'.AA B'/\(∀b,(bgs l b/\Aj s.AJ (b / 16) = true)->B' b/\f b = shp s.AC b)/\(∀b,B' b->(bgs l b/\Aj s.AJ (b / 16) = true)\/(b∈to/\Aj s.AJ (b / 16) = false))/\∀p∈AI.zip to,B' p.2/\f p.2 = shp s.AC p.1/\(Aj s.AJ (p.1 / 16) = true->p.2 = p.1)
structure Od (met AI:List Int):Prop where
 nd:AI.Nodup
 m:∀a,a∈AI↔a∈met
theorem Jg {j:List Int} (h:j.Nodup):Od j (Aa j):=⟨(Bt h).1.imp λh e=>Z,(Bt h).2⟩
theorem E0 {w:List Int} {t:List Rg} {B:Int->Prop} (G:Geo w t B) {a:Int} (h:B a):((thg w a).refs.length:Int) = (shp w a).refs/\((thg w a).nums.length:Int) = (shp w a).nums/\((2 + (thg w a).refs.length + (thg w a).nums.length:Nat):Int) = sz w a:=by
 have i:=G.inn h;have o:=Ew (Ge w a);have y:AF (shp w a) = sz w a:=rfl;have j:((thg w a).refs.length:Int) = (shp w a).refs:=Hn Z Z Z;have x:((thg w a).nums.length:Int) = (shp w a).nums:=Hn Z Z Z;exact⟨j,x,Z⟩
def IB (AI:List Int) (s:Ah):Option Ah:=do
 let l:=(BJ s).getD []
 let (AC,AA) <- stay s l (List.replicate s.AC.length 0) (AV s.AA.length)
 let (AA,to) <- slide s.AJ l AI AA 1 []
 let AC <- El l AI to AI to AC
 let ths <- Da l AI to s.AB
 let BK <- Cg s.BK 1
 some ⟨AC,AA,List.replicate AC.length false,0,false,false,s.Ap,0,ths,[],s.AJ,s.BE,BK⟩
theorem Qy {s:Ah} {l:List AQ} {a7 AI:List Int} (hf:HpF s l a7) (O:Od a7 AI) (hs:∀w1 t1,stay s l (List.replicate s.AC.length 0) (AV s.AA.length) = some (w1,t1)->t1.length = s.AA.length->If (shp s.AC) t1 (λb=>bgs l b/\Aj s.AJ (b / 16) = true)->(∀r:Int,1<=r->r < s.AA.length->(rv t1 r = ⟨3,-1,(rv s.AA r).top,(rv s.AA r).top,0⟩/\Aj s.AJ r = true)\/(rv t1 r = ⟨1,-1,16 * r,16 * r,0⟩/\Aj s.AJ r = false))->∃t2 to,slide s.AJ l AI t1 1 [] = some (t2,to)) (a6:-900000<=s.BK/\s.BK<=900000):∃s' to a0,IB AI s = some s'/\DT s s' l AI to a0:=by
 obtain⟨G,T,b6⟩:=EW hf.ths;have To:=G.ok;have n0:=To.n0;have n1:=To.n1;have len:=G.len;have a1:∀a,bgs l a->16<=a:=λa h=>(G.at_ a h).1
 have sm:=O.m;have j:∀a∈AI,bgs l a:=λa h=>by
  obtain⟨t,ht⟩:=hf.M.th a ((sm a).1 h);obtain⟨H,A⟩:=BF ht;exact⟨t,H,A⟩
 have a4:∀p∈s.AJ,bgs l p:=λp D=>by
  have hh:=hf.head;unfold C8 at hh;simp only[z_b] at hh;have:=df.1 hh.2 p D;unfold E6 at this;cases ht:Ax l p with
  | none=>rw[ht] at this;cases this
  | some t=>obtain⟨H,A⟩:=BF ht;exact⟨t,H,A⟩
 have a5:∀r:Int,Aj s.AJ r = true->∃x,bgs l x/\x / 16 = r:=λr h=>by
  unfold Aj at h;rw[List.any_eq_true] at h;obtain⟨p,D,e⟩:=h;have b2:=a1 p (a4 p D);exact⟨p,a4 p D,by rw[<- Be Z];simpa using e⟩
 obtain⟨b3,b4⟩:=hf.closed;obtain⟨c7,b9,c0⟩:=EA (n:=s.AA.length) Z Z;obtain⟨w1,t1,e3,l1,b1,s1,s2,s3,s4⟩:=OD (s:=s) (B0:=bgs l) G l (List.replicate s.AC.length 0) (AV s.AA.length) T.all V Z;have z0:∀x,wv (List.replicate s.AC.length 0) x = 0:=λx=>by
  unfold wv gv;rw[dI,List.getElem?_replicate];split<;>rfl
 have N:∀r:Int,1<=r->r < s.AA.length->(rv t1 r = ⟨3,-1,(rv s.AA r).top,(rv s.AA r).top,0⟩/\Aj s.AJ r = true)\/(rv t1 r = ⟨1,-1,16 * r,16 * r,0⟩/\Aj s.AJ r = false):=λr r0 r1=>by
  rw[s4 r Z];cases hh:Aj s.AJ r with
  | true=>
   obtain⟨x,⟨t,H,A⟩,h3⟩:=a5 r hh;exact .inl ⟨by rw[if_pos ⟨rfl,t,H,by rw[A];exact h3⟩],rfl⟩
  | false=>
   exact .inr ⟨by rw[if_neg (λh=>by cases h.1),c0 r r0 r1,(Cu r0 Z).2],rfl⟩
 have To1:TOk t1:=by
  refine⟨Z,Z,?_,λr r0 r1=>?_,λr q r0 r1 W Q ho _=>?_⟩
  .rw[s4 0 Z,if_neg,b9];rintro⟨_,x,hx,h⟩;have:=a1 _ (T.all x hx).1;omega
  .have R:=To.row r r0 Z;rcases N r r0 Z with ⟨h,_⟩ | ⟨h,_⟩
   .rw[h];exact⟨V,V,R.t0,R.t1,R.t0,eE _,eE 0,by show 0<=(rv s.AA r).top - 16 * r;have:=R.t0;omega,λh=>by simp at h,V,V,V⟩
   .rw[h];exact⟨V,V,eE _,by show 16 * r<=16 * r + 16;omega,eE _,eE _,eE 0,by show 0<=16 * r - 16 * r;omega,λ_=>rfl,V,V,V⟩
  .rcases N r r0 Z with ⟨h,_⟩ | ⟨h,_⟩<;>rw[h] at ho<;>simp at ho
 have a3:∀b,(bgs l b/\Aj s.AJ (b / 16) = true)->(rv t1 (b / 16)).top = (rv s.AA (b / 16)).top:=λb hb=>by
  have i:=G.inn hb.1;rcases N (b / 16) i.2.1 i.2.2.1 with ⟨h,_⟩ | ⟨_,h⟩
  .rw[h]
  .rw[hb.2] at h;cases h
 have G1:If (shp s.AC) t1 (λb=>bgs l b/\Aj s.AJ (b / 16) = true):=by
  refine⟨To1,λa K=>?_,λa K=>?_,λr r0 r1=>?_,λa b K hb h=>G.dj a b K.1 hb.1 h⟩
  .rw[a3 a K];obtain⟨H,A,_⟩:=G.at_ a K.1;exact⟨H,A,Ge s.AC a⟩
  .rw[a3 a K];have i:=G.inn K.1;have es:AF (shp s.AC a) = sz s.AC a:=rfl;rw[es];by_cases h0:a + sz s.AC a = (rv s.AA (a / 16)).top
   .exact .inl h0
   .right;rcases G.nx a K.1 with h | h
    .exact absurd h h0
    .exact⟨h,by rw[show (a + sz s.AC a) / 16 = a / 16 from Z];exact K.2⟩
  .rcases N r r0 Z with ⟨h,A⟩ | ⟨h,_⟩
   .rw[h];rcases G.bs r r0 Z with h3 | h3
    .exact .inl h3
    .exact .inr ⟨h3,by rw[show 16 * r / 16 = r from Z];exact A⟩
   .rw[h];exact .inl rfl
 have b0:∀q:Int,1<=q->q < s.AA.length->16 * q<=(rv t1 q).top:=λq W Q=>(To1.row q W Z).t0
 obtain⟨t2,to,e4⟩:=hs w1 t1 e3 Z G1 N;obtain⟨a2,f,B',k0,k1,G2,k3,k5,k6,k7⟩:=VQ (AJ:=s.AJ) T G AI t1 t2 1 [] to (shp s.AC) _ e4 j G1 (eE 1)
  (λq W Q=>by rcases N q W Z with ⟨h,_⟩ | ⟨h,_⟩<;>rw[h])
  (λa K hq=>⟨⟨j a K,hq⟩,rfl⟩)
 simp only[zl] at k0;subst k0;have b8:t2.length = s.AA.length:=by rw[k3,b1]
 have a9:∀a∈AI,∀x,Ax l a = some x->0 < AF x.sh:=λa K x hx=>by
  rw[T.find (j a K)] at hx;cases hx;have:=(G.inn (j a K)).2.2.2.2.2.2.1;show 0 < sz s.AC a;omega
 have a8:Rel (Bl s) t1:=by
  refine⟨by unfold Bl;simp[b1],λq W Q=>?_⟩;unfold Bl;rw[dI,eH,gI Z];show (if Aj s.AJ q = true then (rv s.AA q).top else AK q) = _;rcases N q Z Z with ⟨h,A⟩ | ⟨h,A⟩
  .rw[if_pos A,h]
  .rw[if_neg (by rw[A];decide),h,Bq Z Z]
 obtain⟨a2,a0,g1,g2,g3,g4,g5,g6⟩:=IY (AJ:=s.AJ) AI t1 t2 1 [] to (Bl s) e4 Z (eE 1) a8 (λq W Q=>by
   have Q:q < s.AA.length:=Z
   refine⟨?_,by rw[Bq Z Z];exact b0 q W Q⟩
   unfold IZ
   rcases N q W Q with ⟨h,A⟩ | ⟨h,A⟩
   .rw[if_pos (.inr A),h]
   .rw[if_neg,h,(Cu W Z).2]
    rintro (c | c)
    .rw[h,Bq Z Z] at c;simp at c
    .rw[A] at c;cases c) a9
 have g1:to = a2:=by simpa using g1
 subst g1;obtain⟨a2,d1,d2,d3,d4⟩:=Lj (AJ:=s.AJ) AI t1 t2 1 [] to e4 Z (eE 1) (λq W Q=>b0 q W Z) (λa K=>⟨by have:=a1 a (j a K);omega,a9 a K⟩) O.nd;have d1:to = a2:=by simpa using d1
 subst d1;have rg:∀p∈AI.zip to,(Aj s.AJ (p.1 / 16) = true/\p.2 = p.1)\/(Aj s.AJ (p.1 / 16) = false/\Aj s.AJ (p.2 / 16) = false):=λp D=>by
  have b2:=a1 _ (j p.1 (fB D).1);rw[<- Be (a:=p.1) Z];rcases d4 p D with ⟨H,A⟩ | ⟨H,A,_⟩
  .exact .inl ⟨H,A⟩
  .exact .inr ⟨H,A⟩
 have pz:∀p∈AI.zip to,B' p.2/\AF (f p.2) = sz s.AC p.1/\Ax l p.1 = some (thg s.AC p.1)/\bgs l p.1:=λp D=>by
  obtain⟨Q,q2,_⟩:=k7 p D;have hb:=j p.1 (fB D).1;exact⟨Q,by rw[q2];rfl,T.find hb,hb⟩
 have bl:∀p∈AI.zip to,∀x,inB (DK l AI to p.1 p.2) x↔p.2<=x/\x < p.2 + sz s.AC p.1:=λp D x=>by
  obtain⟨_,_,h3,h4⟩:=pz p D;have:=(E0 G h4).2.2;unfold inB DK;rw[h3];simp only[dR,dK,dN];constructor
  .rintro⟨a,b⟩;exact⟨a,Z⟩
  .rintro⟨a,b⟩;exact⟨a,Z⟩
 have hd:((AI.zip to).map λp=>DK l AI to p.1 p.2).Pairwise (λb c=>∀x,¬ (inB b x/\inB c x)):=by
  rw[gZ];have hnd:(AI.zip to).Pairwise (λp q=>p.2≠q.2):=by
   have:((AI.zip to).map Prod.snd).Nodup:=by rw[List.map_snd_zip Z];exact d3
   rw[List.Nodup,gZ] at this;exact this
  refine hnd.imp_of_mem λ{p q} D hq b5 x hx=>?_
  rw[bl p D,bl q hq] at hx;obtain⟨p1,p2,_⟩:=pz p D;obtain⟨Q,q2,_⟩:=pz q hq;rcases Int.lt_or_gt_of_ne b5 with c | c
  .have:=G2.dj _ _ p1 Q c;omega
  .have:=G2.dj _ _ Q p1 c;omega
 have dd:((l.filter λx=>Aj s.AJ (AN x.at_)).map Du).Pairwise (λb c=>∀x,¬ (inB b x/\inB c x)):=by
  rw[gZ];refine (hf.asc.filter _).imp_of_mem λ{x y} hx hy c4 z hz=>?_
  obtain⟨x1,x2⟩:=T.all x (eV.1 hx).1;obtain⟨y1,y2⟩:=T.all y (eV.1 hy).1;have H:=(E0 G x1).2.2;rw[<- x2] at H;have es:AF x.sh = sz s.AC x.at_:=by
   have:=congrArg (λt=>AF t.sh) x2;exact this
  unfold inB Du at hz;simp only[dR,dK,dV] at hz;omega
 have b7:=IR (s:=s) l _ _ _ _ e3 (λx hx _=>by
  obtain⟨x1,x2⟩:=T.all x hx
  have i:=G.inn x1
  have H:=(E0 G x1).2.2
  rw[<- x2] at H
  exact⟨Z,by rw[dV];omega,λy _ _=>z0 y⟩) dd
 have e5:=Pl (l:=l) (AI:=AI) (to:=to) k1 AI to w1 k1.symm (λp D=>by
  obtain⟨H,A,h3,h4⟩:=pz p D
  have i2:=G2.inn H
  have h5:=E0 G h4
  refine⟨_,h3,λv hv=>?_,Z,by rw[l1];omega,λx c5 c6=>?_⟩
  .obtain⟨u,hu,_⟩:=b4 p.1 ((sm _).1 (fB D).1) _ h3 v hv
   exact⟨u,hu⟩
  .rcases rg p D with ⟨g1,g2⟩ | ⟨g1,g2⟩
   .rw[show x = p.1 + 2 + (x - p.1 - 2) from Z,s2 p.1 _ h4 Z Z]
    exact z0 _
   .rw[s3 x Z (by rw[show x / 16 = p.2 / 16 from Z];exact g2)]
    exact z0 _) hd
 obtain⟨ths,e6,l6,m6⟩:=Kw (l:=l) (AI:=AI) (to:=to) k1 s.AB (λt ht a K=>by
  obtain⟨u,hu,_⟩:=b3 a (dx _ (fi.2 ⟨t,ht,K⟩))
  exact⟨u,hu⟩)
 have a6:Cg s.BK 1 = some (s.BK + 1):=BQ Z Z;have l2:(Bo w1 ((AI.zip to).map λp=>DK l AI to p.1 p.2)).length = s.AC.length:=by rw[CB];exact l1
 refine⟨⟨Bo w1 ((AI.zip to).map λp=>DK l AI to p.1 p.2),t2,List.replicate s.AC.length false,0,false,false,s.Ap,0,ths,[],s.AJ,s.BE,s.BK + 1⟩,to,a0,?_,g2,by show Bo w1 _ = _;rw[<- b7],g3,b8,?_,λq W Q=>(g5 q W Z).1,e6,rfl,k1,hd,dd,rg,λp D=>?_,f,B',G2,k5,k6,k7⟩
 .unfold IB;rw[b6];simp only[eI,dP];rw[e3];simp only[z_o];rw[e4];simp only[z_o];rw[e5];simp only[z_o];rw[e6];simp only[z_o];rw[a6];simp only[z_o];rw[l2]
 .exact G2.ok.e
 .obtain⟨H,A,h3,h4⟩:=pz p D;have i2:=G2.inn H;refine⟨Z,λt ht=>?_⟩;rw[h3] at ht;cases ht;have h5:=(E0 G h4).2.2;exact⟨Z,Z⟩
theorem Ob {s:Ah} {l:List AQ} {y:List Int} (H:HpF s l y) (a0:-900000<=s.BK/\s.BK<=900000):∃R Q x,Fi s = some R/\DT s R l (Aa y) Q x:=by
 obtain⟨G,T,a1⟩:=EW H.ths;have n0:=G.ok.n0;have n1:=G.ok.n1;obtain⟨sp,sm⟩:=Bt H.M.nd;have j:∀a∈Aa y,bgs l a:=λa h=>by
  obtain⟨t,ht⟩:=H.M.th a ((sm a).1 h);obtain⟨N,W⟩:=BF ht;exact⟨t,N,W⟩
 obtain⟨R,Q,x,N,W⟩:=Qy H (Jg H.M.nd) (λw1 t1 e3 a2 G1 D=>by
  have O:∀q:Int,1<=q->q < s.AA.length->Aj s.AJ q = false->(rv t1 q).top = 16 * q:=λq K q1 A=>by
   rcases D q K q1 with ⟨_,h⟩ | ⟨h,_⟩
   .rw[A] at h;cases h
   .rw[h]
  obtain⟨t2,Q,f,B',e4,_⟩:=Lv (AJ:=s.AJ) T G (Aa y) t1 1 [] (shp s.AC) _ j sp G1 Z (eE 1)
   (λq K q1=>by rcases D q K Z with ⟨h,_⟩ | ⟨h,_⟩<;>rw[h])
   (λq K=>by
    by_cases c1:q < s.AA.length
    .by_cases c2:1<=q
     .rcases D q c2 c1 with ⟨h,_⟩ | ⟨h,_⟩<;>rw[h]<;>simp
     .rw[show q = 0 from Z,G1.ok.e];simp[De]
    .rw[Df K Z];simp[De])
   (λq K q1 A=>O q Z Z A)
   (λa ha A=>by
    have i:=G.inn (j a ha)
    refine⟨i.2.1,λN=>?_⟩
    rw[O 1 Z Z (by rw[N];exact A)];omega)
   (λa ha A=>⟨⟨j a ha,A⟩,rfl⟩)
  exact⟨t2,Q,e4⟩) a0
 refine⟨R,Q,x,?_,W⟩;rw[<- N];unfold Fi IB;rw[a1];simp only[eI];rw[H.re];rfl
end Sm
end
section
namespace Go.Lf
open Go Sm
theorem MN {R:RM} {b t n w x:Nat} {j sp:List Value} (hb:R b = some (C t (j ++ sp))) (hl:j.length = n * w) (hc:n<=x):Fz R (S0 b n x) w n j:=
 .inr ⟨b,0,x,t,_,rfl,hb,by rw[dK,hl];omega,by rw[fG,<- hl,eX (z_n _),dO (z_n _)],hc⟩
def fdO (s:Sm.Ah):Option Sm.Ah:=match Dj s with | none=>none | some _=>Fi s
def QFd (r:Option Sm.Ah) (v:Value) (R:RM):Prop:=match r with
 | none=>v = .tuple #[z50,.bool false]
 | some s'=>∃wv tv mv thv ov pv,StC R s' wv tv mv thv ov pv/\RgZ R tv s'.AA/\v = .tuple #[.agg (eSt s' wv tv mv thv ov pv).toArray,.bool true]
section st
variable {R:RM} {s:Sm.Ah} {wv tv mv thv ov pv:Value}
theorem XE (h:SF R s wv tv mv thv ov pv):Ro Ms [.agg (eSt s wv tv mv thv ov pv).toArray] (.bool (!s.AB.any (·.busy))) R []:=by
 refine Tq λF=>?_
 refine z_1 ?_;have n1:=h.b.n1;obtain⟨N,tc,A⟩:=h.c.th.sl;refine ja λb=>(jli (λi:Nat=>s.AB.length - i) (λi=>[Pt b,I i]) (λ_=>(b,C 50 (eSt s wv tv mv thv ov pv)) :: ([] ++ F)) (λy i=>y = R/\i<=s.AB.length/\s.AB.any (·.busy) = (s.AB.drop i).any (·.busy)) 0 ⟨rfl,Z,by rw[fG]⟩ rfl rfl ?_)
 rintro K e y i ⟨G,T,j⟩ he D;subst G;refine z_V ?_;refine jfo (jl rfl (Bf ⟨N,tc,A⟩ (jlt (jif (λc=>?_) (λc=>?_)))));rotate_left
 .have c:=z_g c;refine BV (BB ?_);rw[j,dT Z];rfl
 have c:i < s.AB.length:=by have:=z_f c;omega
 rw[dQ c,List.any_cons] at j;refine jfo (jl rfl (jtr h.c.th c λO o ty Q rv H hb W x=>jfo (jlr hb (Bm x rfl) (jif (λg=>?_) (λg=>?_)))))
 .refine BV (BB ?_);rw[j,g];rfl
 .exact jad (D y (i + 1) Z ⟨rfl,Z,by rw[j,g,eU]⟩)
end st
end Go.Lf
end
