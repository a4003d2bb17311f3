/- A part of the proof of the given row. Conditions: none. -/
import Derived.Test.YthfhnheigfoioaaGreatFJ
set_option linter.unusedVariables false
set_option linter.unusedSimpArgs false
set_option maxRecDepth 100000
section
namespace Sm
open Go.Lf
theorem Nn {s:Aj} {l:List AO} {t:AO} (j:t∈l) (h:Av l t.moved = none) (nd:(l.map AO.at_).Nodup):CN s l t = false:=by
 unfold CN;rw[h,Bool.or_false,beq_eq_false_iff_ne];intro e;rw[e,Dp nd j] at h;cases h
theorem Ny {s:Aj} {l:List AO} {t n:AO} (j:t∈l) (h:Av l t.moved = some n) (nd:(l.map AO.at_).Nodup):CN s l t = (!(n.moved != n.at_) && (n.sh == t.sh) && (t.moved == t.at_ || (!Do s n.at_ && Do s t.at_))):=by
 unfold CN;by_cases c:t.moved = t.at_
 .have:n = t:=by rw[c,Dp nd j] at h;exact (fN h).symm
  subst this;rw[c];simp
 .rw[h];dsimp only;unfold bne;rw[beq_eq_false_iff_ne.2 c];cases n.sh == t.sh<;>cases n.moved == n.at_<;>cases Do s n.at_<;>cases Do s t.at_<;>rfl
end Sm
namespace Sm
open Go.Lf
theorem ZZ (had:List Int) (a:Int):(Bq had a).length<=had.length + 1:=by
 unfold Bq;split
 .omega
 .simp
theorem FQ {l:List AO}:∀{xs acc r:List Int},Au l xs acc = some r->r.length<=acc.length + xs.length
 | [],acc,r,h=>by cases h;simp
 | x :: xs,acc,r,h=>by
  rw[Bo] at h;cases j:now l x with
  | none=>rw[j] at h;cases h
  | some y=>
   rw[j] at h;have A:=FQ (xs:=xs) h;have D:=ZZ acc y;rw[dl];omega
theorem Vy {s:Aj} {l:List AO} (h:Ei s = some l) (y:Au l (Cq s) [] = none):(Bw s).isSome = false:=by
 unfold Bw;rw[h];dsimp only;split
 .rename_i x;have j:=x;unfold C8 at j;simp only[z_b] at j;rw[DY j.2,y];rfl
 .rfl
end Sm
namespace Go.Lf
open Go Sm
section st
variable {R:RM} {s:Sm.Aj} {wv tv mv thv ov pv:Value}
theorem Hr {l:List AO} (h:BK s = some l) {t:AO} (y:t∈l) (O:s.AA.length<=12):∃r:Nat,AM t.at_ = r/\∃Q:r < s.AA.length,Do s t.at_ = ((s.AA[r]).kind == 4):=by
 unfold BK at h;obtain⟨_,j⟩:=FK h;obtain⟨A,D,G,k,x,H,K,N⟩:=j t y;rw[fZ] at x;have e:AM t.at_ = (1 + k:Nat):=by unfold AM;rw[if_neg Z];omega
 refine⟨1 + k,e,Z,?_⟩;unfold Do;rw[e,EL (by omega:1 + k < s.AA.length)];rw[decide_eq_true (by omega:(0:Int)<=(1 + k:Nat)),decide_eq_true (by omega:((1 + k:Nat):Int) < s.AA.length)];rfl
set_option maxHeartbeats 4000000 in
set_option maxRecDepth 4000 in
theorem Ur (h:SF R s wv tv mv thv ov pv):Ro KL [.agg (eSt s wv tv mv thv ov pv).toArray] (.bool (Bw s).isSome) R []:=by
 refine QX λF=>?_
 refine z_1 ?_;refine ja λb=>?_
 rw[show cl (.agg (eSt s wv tv mv thv ov pv).toArray) = eSt s wv tv mv thv ov pv from rfl];obtain⟨tb,tc,sp,rfl,hb,l4⟩:=h.z;obtain⟨wa,wc,rfl⟩:=h.c.w.sl;obtain⟨ma,mc,rfl⟩:=h.c.m.sl;have t0:=h.b.t0;have t1:=h.b.t1;have wl:=h.b.wl;have n1:=h.b.n1;have a0:∀{R' : RM} {D:Chs} {x:Bool},R.le R'->(Bw s).isSome = x->[Sf D F]->J R' D (Fj R F (λv' _ A=>v' = .bool (Bw s).isSome/\A = []) (.bool x)):=λhR hx _=>by
  rw[<- hx];exact Ao (A:=[]) hR ⟨rfl,rfl⟩
 refine jor [Pt b] ((!BM s.AC.length) || (!BR s.AA)) (λW H=>?_) (λe c u ho he=>?_)
 .refine jl (v:=.slice wa s.AC.length wc) rfl (jp (Jt wa s.AC.length wc Z) (jgO H λh1 hN=>jl (v:=S0 tb s.AA.length tc) rfl (cY hb (λR' _=>FM (t:=s.AA) (sp:=sp) Z) hN)))
 refine z_V ?_;refine jor [Pt b] ((!BM s.AC.length || !BR s.AA) || ((s.AA.length:Int) * 16 != (s.AC.length:Int))) (λW H=>?_) (λe c u ho he=>?_)
 .rw[ho];refine jgO H λh1 hN=>jl (v:=S0 tb s.AA.length tc) rfl (jln (Ha ⟨Z,Z⟩ (jl (v:=.slice wa s.AC.length wc) rfl (jln (jne hN)))))
 refine z_V ?_;refine jor [Pt b] ((!BM s.AC.length || !BR s.AA || ((s.AA.length:Int) * 16 != (s.AC.length:Int))) || ((s.AQ.length:Int) != (s.AC.length:Int))) (λW H=>?_) (λe c u ho he=>?_)
 .rw[ho];refine jgO H λh1 hN=>jl (v:=.slice ma s.AQ.length mc) rfl (jln (jl (v:=.slice wa s.AC.length wc) rfl (jln (jne hN))))
 refine z_V ?_;rw[ho];have g3:(!BM s.AC.length || !BR s.AA || ((s.AA.length:Int) * 16 != (s.AC.length:Int)) || ((s.AQ.length:Int) != (s.AC.length:Int))) = !EO s:=by
  have e1:((s.AA.length:Int) * 16 != (s.AC.length:Int)) = !(s.AA.length == s.AC.length / 16):=by
   rw[fL,eL,bne_iff_ne,beq_eq_false_iff_ne];omega
  have e2:((s.AQ.length:Int) != (s.AC.length:Int)) = !(s.AQ.length == s.AC.length):=by
   rw[fL,eL,bne_iff_ne,beq_eq_false_iff_ne];omega
  rw[e1,e2];unfold EO;cases BM s.AC.length<;>cases BR s.AA<;>cases s.AA.length == s.AC.length / 16<;>cases s.AQ.length == s.AC.length<;>rfl
 rw[g3];refine jif (λh0=>?_) (λh0=>?_)
 .have h0:EO s = false:=by simpa using h0
  refine a0 (RM.le.refl R) ?_;unfold Bw Ei;rw[if_neg (by rw[h0];decide)];rfl
 have j1:EO s = true:=by simpa using h0
 have a8:Ei s = BK s:=by unfold Ei;rw[if_pos j1]
 clear g3 h0 ho he;refine jor [Pt b] ((decide (s.Ac < 0)) || (decide (s.Ac > 3))) (λW H=>?_) (λe c u ho he=>?_)
 .refine jl (v:=I s.Ac) rfl (jlt (jgO H λh1 hN=>jl (v:=I s.Ac) rfl (jgr hN)))
 refine z_V ?_;refine jor [Pt b] ((decide (s.Ac < 0) || decide (s.Ac > 3)) || (decide ((s.AB.length:Int) < 1))) (λW H=>?_) (λe c u ho he=>?_)
 .rw[ho];refine jgO H λh1 hN=>jl (v:=thv) rfl (Bl h.c.th.sl (jlt hN))
 refine z_V ?_;refine jor [Pt b] ((decide (s.Ac < 0) || decide (s.Ac > 3) || decide ((s.AB.length:Int) < 1)) || (decide ((s.AB.length:Int) > 3))) (λW H=>?_) (λe c u ho he=>?_)
 .rw[ho];refine jgO H λh1 hN=>jl (v:=thv) rfl (Bl h.c.th.sl (jgr hN))
 refine z_V ?_;rw[ho];have a6:∀l,BK s = some l->C8 s l = false->(Bw s).isSome = false:=λl hl hh=>by
  rw[NJ (a8.trans hl) hh];rfl
 refine jif (λh0=>?_) (λh0=>?_)
 .refine a0 (RM.le.refl R) ?_;cases hs:BK s with
  | none=>unfold Bw;rw[a8,hs];rfl
  | some l=>
   refine a6 l hs ?_;rw[g9];intro hh;unfold C8 at hh;simp only[z_b,z_d] at hh;simp only[eN,z_d] at h0;omega
 simp only[eF,decide_eq_false_iff_not] at h0;obtain⟨⟨⟨p0,p1⟩,p2⟩,p3⟩:=h0;clear ho he;refine jla (l:=eSt s (.slice wa s.AC.length wc) (S0 tb s.AA.length tc) (.slice ma s.AQ.length mc) thv ov pv) (by exact z_n 13) rfl ?_;refine jc (A:=[]) (LY h.c Z Z) ?_;rintro _ R1 _ a4 ⟨rfl,hq⟩;refine Ph ?_;cases hs:BK s with
 | none=>
  rw[hs] at hq;obtain rfl:_ = Value.tuple #[SN,.bool false]:=hq;refine jex rfl (jex rfl (DJ (a0 a4 ?_)));unfold Bw;rw[a8,hs];rfl
 | some l=>
  rw[hs] at hq;obtain⟨lv,T,rfl⟩:=hq;refine jex rfl (jex rfl (CK ?_));have h:=h.le a4;have a6:=a6 l hs;have hu:=hs;unfold BK at hu;obtain⟨h9,i4⟩:=FK hu;have nd:=MO h9 λx hx=>(i4 x hx).2.1
  have h8:=NO Z hu;rw[fZ] at h8;obtain⟨j9,k7⟩:=h8;obtain⟨N,O,rfl⟩:=T.sl;refine PQ [Pt b,.slice N l.length O] (CU s l = true) (λK1 h1=>?_) (λe F7 he=>?_)
  .refine PQ [Pt b,.slice N l.length O] (CU s l = true) (λK2 h2=>?_) (λe j6 he=>?_)
   .refine Nw [Pt b,.slice N l.length O] l.length (λi=>(l.take i).all (CN s l) = true) rfl (λi K e hi hp hK he=>?_);refine z_V ?_;refine jln (jlt (jif (λhc=>?_) (λhc=>?_)));rotate_left
    .have hc:=z_g hc;rw[dh Z] at hp;exact h2 hp
    have hc:i < l.length:=by have:=z_f hc;omega
    have b1:=dc hc;have b6:CN s l l[i] = false->C8 s l = false:=λhh=>by
     rw[g9];intro g;unfold C8 CU at g;simp only[z_b] at g;have:=eG.1 g.1.1.1.1.1.1.1 _ b1;rw[hh] at this;cases this
    have d3:CN s l l[i] = true->(l.take (i + 1)).all (CN s l) = true:=λhh=>by
     rw[db hc,gx,hp];simpa using hh
    refine Yt T hc (jrp (EZ (l[i]).moved T Z) ?_);cases hf:Av l (l[i]).moved with
    | none=>
     rw[Ht hf];refine Bk [Pt b,.slice N l.length O,I i,I (-1),.bool true] (λW H=>?_) (λe he=>?_)
     .refine Bk [Pt b,.slice N l.length O,I i,I (-1),.bool true,U] (λW H=>?_) (λe he=>?_)
      .exact jlt (jtf H)
      refine z_V ?_;refine Bk [Pt b,.slice N l.length O,I i,I (-1),.bool true,U,U] (λW H=>?_) (λe he=>?_)
      .exact jtf H
      refine z_V ?_;exact jtf H
     refine z_V ?_;exact DJ (a0 a4 (a6 (b6 (Nn b1 hf nd))))
    | some n=>
     obtain⟨k,hk,c6,hn⟩:=FJ hf;subst hn;rw[c6];have hT:=Ny (s:=s) b1 hf nd;cases c1:((l[k]).moved != (l[k]).at_) with
     | true=>
      refine Bk [Pt b,.slice N l.length O,I i,I k,.bool true] (λW H=>?_) (λe he=>?_)
      .refine Bk [Pt b,.slice N l.length O,I i,I k,.bool false,.bool true] (λW H=>?_) (λe he=>?_)
       .refine jlt ?_;rw[show decide ((k:Int) < 0) = false from decide_eq_false Z];refine jff (Yt T hk (VX T hk (jne ?_)));rw[c1];exact H
       refine z_V ?_;refine Bk [Pt b,.slice N l.length O,I i,I k,.bool true,U,U] (λW H=>?_) (λe he=>?_)
       .exact jtf H
       refine z_V ?_;exact jtf H
      refine z_V ?_;exact DJ (a0 a4 (a6 (b6 (by rw[hT,c1];rfl))))
     | false=>
      refine Bk [Pt b,.slice N l.length O,I i,I k,.bool (!((l[k]).sh == (l[i]).sh))] (λW H=>?_) (λe he=>?_)
      .refine Bk [Pt b,.slice N l.length O,I i,I k,.bool false,.bool false] (λW H=>?_) (λe he=>?_)
       .refine jlt ?_;rw[show decide ((k:Int) < 0) = false from decide_eq_false Z];refine jff (Yt T hk (VX T hk (jne ?_)));rw[c1];exact H
       refine z_V ?_;refine Bk [Pt b,.slice N l.length O,I i,I k,.bool false,.agg #[I (l[k]).sh.refs,I (l[k]).sh.nums],.agg #[I (l[i]).sh.refs,I (l[i]).sh.nums]] (λW H=>?_) (λe he=>?_)
       .exact jff (bV T hk (bV T hc H))
       refine z_V ?_;exact jff (@bC (l[k]).sh (l[i]).sh _ _ _ _ _ H)
      refine z_V ?_;cases c2:((l[k]).sh == (l[i]).sh) with
      | false=>exact DJ (a0 a4 (a6 (b6 (by rw[hT,c1,c2];rfl))))
      | true=>
       refine CK ?_;rw[c1,c2] at hT;have g5:k = i↔(l[i]).moved = (l[i]).at_:=by
        have e9:=(BA hf).2;constructor
        .rintro rfl;exact e9.symm
        .intro e;rw[e,Dp nd b1] at hf;have hf:=fN hf;have a1:(l.map AO.at_)[k]? = some (l[k]).at_:=by rw[eU,dY hk];rfl
         have a2:(l.map AO.at_)[i]? = some (l[k]).at_:=by rw[eU,dY hc,<- hf];rfl
         exact (List.getElem?_inj (by simpa using hk) nd).1 (a1.trans a2.symm)
       by_cases c3:k = i
       .have e6:((k:Int) != (i:Int)) = false:=by rw[c3];simp
        have i9:CN s l l[i] = true:=by rw[hT,beq_iff_eq.2 (g5.1 c3)];rfl
        refine Bk [Pt b,.slice N l.length O,I i,.bool false] (λW H=>?_) (λe he=>?_)
        .refine Bk [Pt b,.slice N l.length O,I i,I k,.bool false,U,U,U] (λW H=>?_) (λe he=>?_)
         .refine jne ?_;rw[e6];exact jft H
         refine z_V ?_;refine jft ?_;refine Bk [Pt b,.slice N l.length O,I i,.bool false,U,U,U,U,U,U] (λW H=>?_) (λe he=>?_)
         .exact jft H
         refine z_V ?_;refine Ak (jft jev) (jgu ?_);refine Bk [Pt b,.slice N l.length O,I i,.bool false,U,U,U,U] (λW H=>?_) (λe he=>?_)
         .exact jgu H
         refine z_V ?_;refine Bk [Pt b,.slice N l.length O,I i,.bool false,U,U,U,U] (λW H=>?_) (λe he=>?_)
         .exact jft H
         refine z_V ?_;exact Ak (jgu jev) H
        refine z_V ?_;exact CK (jad (hK hc (d3 i9)))
       .have e6:((k:Int) != (i:Int)) = true:=by simp;omega
        have j3:((l[i]).moved == (l[i]).at_) = false:=beq_eq_false_iff_ne.2 λe=>c3 (g5.2 e)
        rw[j3] at hT;obtain⟨r1,e1,g8,f1⟩:=Hr hs b1 Z;obtain⟨r2,e2,f4,f2⟩:=Hr hs (dc hk) Z;refine Bk [Pt b,.slice N l.length O,I i,.bool (!CN s l l[i])] (λW H=>?_) (λe he=>?_)
        .refine Bk [Pt b,.slice N l.length O,I i,I k,.bool true,.pointer (some ⟨b,0 + 1,none⟩),S0 tb s.AA.length tc,I (l[i]).at_] (λW H=>?_) (λe he=>?_)
         .refine jne ?_;rw[e6];exact jtt (jfo (jl (v:=S0 tb s.AA.length tc) rfl (VX T hc H)))
         refine z_V ?_;refine jtt (jp (Cf _ Z) ?_);rw[e1];cases c4:((s.AA[r1]).kind == 4) with
         | false=>
          refine Bk [Pt b,.slice N l.length O,I i,.bool true,.pointer (some ⟨b,0 + 1,none⟩),S0 tb s.AA.length tc,.bool true,U,U,U] (λW H=>?_) (λe he=>?_)
          .refine jtt (jrk h.z g8 (jne ?_));rw[show ((s.AA[r1]).kind != 4) = true by unfold bne;rw[c4];rfl];exact jtf H
          refine z_V ?_;refine Ak (jtt (jl (v:=S0 tb s.AA.length tc) rfl jev)) (jtf ?_);refine Bk [Pt b,.slice N l.length O,I i,.bool true,.bool true,U,U,U] (λW H=>?_) (λe he=>?_)
          .exact jtf H
          refine z_V ?_;refine Bk [Pt b,.slice N l.length O,I i,.bool true,.bool true,U,U,.bool true] (λW H=>?_) (λe he=>?_)
          .exact jtt H
          refine z_V ?_;refine Ak (jtf jev) ?_;rw[hT,f1,c4,Bool.and_false] at H;exact H
         | true=>
          refine Bk [Pt b,.slice N l.length O,I i,.bool true,.pointer (some ⟨b,0 + 1,none⟩),S0 tb s.AA.length tc,.bool false,.pointer (some ⟨b,0 + 1,none⟩),S0 tb s.AA.length tc,I (l[k]).at_] (λW H=>?_) (λe he=>?_)
          .refine jtt (jrk h.z g8 (jne ?_));rw[show ((s.AA[r1]).kind != 4) = false by unfold bne;rw[c4];rfl];exact jff (jfo (jl (v:=S0 tb s.AA.length tc) rfl (VX T hk H)))
          refine z_V ?_;refine Ak (jtt (jl (v:=S0 tb s.AA.length tc) rfl jev)) (jff (jp (Cf _ Z) ?_));rw[e2];refine Bk [Pt b,.slice N l.length O,I i,.bool true,.bool false,.pointer (some ⟨b,0 + 1,none⟩),S0 tb s.AA.length tc,.bool ((s.AA[r2]).kind == 4)] (λW H=>?_) (λe he=>?_)
          .exact jff (jrk h.z f4 (jeq H))
          refine z_V ?_;refine Bk [Pt b,.slice N l.length O,I i,.bool true,.bool false,.pointer (some ⟨b,0 + 1,none⟩),S0 tb s.AA.length tc,.bool ((s.AA[r2]).kind == 4)] (λW H=>?_) (λe he=>?_)
          .exact jtt H
          refine z_V ?_;refine Ak (jff (jl (v:=S0 tb s.AA.length tc) rfl jev)) ?_;rw[hT,f1,c4,f2] at H;cases c5:((s.AA[r2]).kind == 4)<;>(rw[c5] at H;exact H)
        refine z_V ?_;refine jif (λg=>?_) (λg=>?_)
        .exact a0 a4 (a6 (b6 (by simpa using g)))
        .exact jad (hK hc (d3 (by simpa using g)))
   .refine z_V ?_;exact h1 j6
  refine z_V ?_;have S:=Ts (a8.trans hs) F7;have e5:Au l (Cq s) [] = none->(Bw s).isSome = false:=λhn=>Vy (a8.trans hs) hn
  rw[show ((b,C 50 (cl (.agg (eSt s (.slice wa s.AC.length wc) (S0 tb s.AA.length tc) (.slice ma s.AQ.length mc) thv ov pv).toArray))) :: ([] ++ F):Chs) = (b,C 50 (eSt s (.slice wa s.AC.length wc) (S0 tb s.AA.length tc) (.slice ma s.AQ.length mc) thv ov pv)) :: ([] ++ F) from rfl];generalize e7:eSt s (.slice wa s.AC.length wc) (S0 tb s.AA.length tc) (.slice ma s.AQ.length mc) thv ov pv = cs;have c8:cs[8]? = some thv:=by rw[<- e7];rfl
  have d2:cs[10]? = some pv:=by rw[<- e7];rfl
  have c1:cs[1]? = some (S0 tb s.AA.length tc):=by rw[<- e7];rfl
  have rl:=h.b.rl;clear he ho;refine Ab (λvs R' D'=>R' = R1/\∃ac v A,Au l (s.AB.flatMap (·.AD)) [] = some ac/\s.AB.all Ft = true/\SO ac v A/\D' = A ++ ((b,C 50 cs) :: ([] ++ F))/\vs = [Pt b,.slice N l.length O,v]) (λK1 h1=>?_) ?_
  .refine jcI h1 λK2 h2=>?_
   refine jlp (λm vs R' D'=>R' = R1/\∃(i:Nat) (ac:List Int) (v:Value) (A:Chs),i<=s.AB.length/\m = s.AB.length - i/\Au l ((s.AB.take i).flatMap (·.AD)) [] = some ac/\(s.AB.take i).all Ft = true/\SO ac v A/\D' = A ++ ((b,C 50 cs) :: ([] ++ F))/\vs = [Pt b,.slice N l.length O,v,I i]) (n:=s.AB.length) ⟨rfl,0,[],_,[],Z,rfl,rfl,rfl,.inl ⟨rfl,rfl,rfl⟩,rfl,rfl⟩ ?_;rintro m e R2 D2 K ⟨hR,i,ac,v,A,hi,c0,a9,c9,so,hD,he⟩ hK;subst hR;refine z_W ?_;clear hD;refine jl (v:=thv) c8 (Bl h.c.th.sl (jlt (jif (λhc=>?_) (λhc=>?_))));rotate_left
   .have hc:=z_g hc;rw[dh Z] at a9 c9;exact h2 _ _ _ ⟨rfl,ac,v,A,a9,c9,so,rfl,rfl⟩
   have hc:i < s.AB.length:=by have:=z_f hc;omega
   have b5:=rl _ (dc hc);have b8:=FQ a9;have j0:=Dd (s.AB.take i) (λt ht=>rl t (ec ht));have f8:9 * (s.AB.take i).length<=27:=by rw[dp];omega
   rw[fP] at b8;refine Ab (λvs R' D'=>R' = R2/\∃ac v A,Au l ((s.AB.take (i + 1)).flatMap (·.AD)) [] = some ac/\(s.AB.take (i + 1)).all Ft = true/\SO ac v A/\D' = A ++ ((b,C 50 cs) :: ([] ++ F))/\vs = [Pt b,.slice N l.length O,v,I i]) (λK3 h3=>?_) ?_;rotate_left
   .rintro e R3 D3 ⟨hR,ac,v,A,g1,g2,so,hD,he⟩;subst hR;refine z_W ?_;clear hD;exact jad (hK (s.AB.length - (i + 1)) _ _ _ Z ⟨rfl,i + 1,ac,v,A,Z,rfl,g1,g2,so,rfl,rfl⟩)
   refine jcI h3 λK4 h4=>?_
   refine jl (v:=thv) c8 (jtr h.c.th hc λb2 o2 ty i8 rv a7 e4 f3 b9=>?_);refine Da (l:=[rv,I (s.AB[i]).next,.bool (s.AB[i]).busy,I (s.AB[i]).Aq]) e4 f3 b9 (ja λb3=>?_);obtain⟨ra,rc,rfl⟩:=a7.sl;refine jS ([.slice ra (s.AB[i]).AD.length rc,I (s.AB[i]).next,.bool (s.AB[i]).busy,I (s.AB[i]).Aq]) ?_;refine jor [Pt b,.slice N l.length O,v,I i,Pt b3] ((decide (((s.AB[i]).AD.length:Int) > 8)) || (decide ((s.AB[i]).Aq < 0))) (λW H=>?_) (λe c u ho he=>?_)
   .refine jl (v:=.slice ra (s.AB[i]).AD.length rc) rfl (jln (jgr (jgO H λh1 hN=>jl (v:=I (s.AB[i]).Aq) rfl (jlt hN))))
   refine z_V ?_;refine jor [Pt b,.slice N l.length O,v,I i,Pt b3] ((decide (((s.AB[i]).AD.length:Int) > 8) || decide ((s.AB[i]).Aq < 0)) || (decide ((s.AB[i]).Aq > 2))) (λW H=>?_) (λe c u ho he=>?_)
   .rw[ho];refine jgO H λh1 hN=>jl (v:=I (s.AB[i]).Aq) rfl (jgr hN)
   refine z_V ?_;rw[ho];have h6:(decide (((s.AB[i]).AD.length:Int) > 8) || decide ((s.AB[i]).Aq < 0) || decide ((s.AB[i]).Aq > 2)) = !Ft s.AB[i]:=by
    unfold Ft;rw[fL];simp only[eN,eL,gj,z_d,decide_eq_false_iff_not];omega
   rw[h6];refine jif (λg=>?_) (λg=>?_)
   .refine a0 a4 (a6 ?_);rw[g9];intro hh;unfold C8 at hh;simp only[z_b] at hh;have:=eG.1 hh.1.2 _ (dc hc);rw[this] at g;cases g
   have h7:(s.AB.take (i + 1)).all Ft = true:=by
    rw[db hc,gx,c9];simpa using g
   have f6:(s.AB.take (i + 1)).flatMap (·.AD) = (s.AB.take i).flatMap (·.AD) ++ (s.AB[i]).AD:=by
    rw[db hc,List.flatMap_append];simp
   have f5:∃e3,Cq s = (s.AB.take i).flatMap (·.AD) ++ ((s.AB[i]).AD ++ e3):=by
    refine⟨(s.AB.drop (i + 1)).flatMap (·.AD) ++ s.AI,?_⟩;unfold Cq
    conv=>lhs;rw[<- gM (i + 1) s.AB]
    rw[List.flatMap_append,f6];simp
   obtain⟨e3,f5⟩:=f5;refine Al A (G:=((b3,C 117 [.slice ra (s.AB[i]).AD.length rc,I (s.AB[i]).next,.bool (s.AB[i]).busy,I (s.AB[i]).Aq]) :: (b,C 50 cs) :: ([] ++ F))) ?_;refine Ab (λvs R' D'=>R' = R2/\∃Q v A,Au l (s.AB[i]).AD ac = some Q/\SO Q v A/\D' = A ++ ((b,C 50 cs) :: ([] ++ F))/\vs = [Pt b,.slice N l.length O,v,I i]) (λK5 h5=>?_) ?_;rotate_left
   .rintro e R3 D3 ⟨hR,Q,v2,A2,g1,b0,hD,he⟩;subst hR;refine z_W ?_;clear hD;refine h4 _ _ _ ⟨rfl,Q,v2,A2,?_,h7,b0,rfl,rfl⟩;rw[f6,Ct,a9];exact g1
   refine jlp (λm vs R' D'=>R' = R2/\∃(j:Nat) (Q:List Int) (v:Value) (A:Chs),j<=(s.AB[i]).AD.length/\m = (s.AB[i]).AD.length - j/\Au l ((s.AB[i]).AD.take j) ac = some Q/\SO Q v A/\D' = A ++ ((b3,C 117 [.slice ra (s.AB[i]).AD.length rc,I (s.AB[i]).next,.bool (s.AB[i]).busy,I (s.AB[i]).Aq]) :: (b,C 50 cs) :: ([] ++ F))/\vs = [Pt b,.slice N l.length O,v,I i,Pt b3,I j]) (n:=(s.AB[i]).AD.length) ⟨rfl,0,ac,v,A,Z,rfl,rfl,so,rfl,rfl⟩ ?_;clear so ho he c0 hK;rintro m e R3 D3 K ⟨hR,j,Q,v2,A2,hj,c0,a3,b0,hD,he⟩ hK;subst hR;refine z_W ?_;clear hD;refine jl (v:=.slice ra (s.AB[i]).AD.length rc) rfl (jln (jlt (jif (λa5=>?_) (λa5=>?_))));rotate_left
   .have a5:=z_g a5;rw[dh Z] at a3;refine Al A2 (G:=((b,C 50 cs) :: ([] ++ F))) ?_;exact h5 _ _ _ ⟨rfl,Q,v2,A2,a3,b0,rfl,rfl⟩
   have a5:j < (s.AB[i]).AD.length:=by have:=z_f a5;omega
   have b7:=FQ a3;rw[dp] at b7;have c7:Au l ((s.AB[i]).AD.take (j + 1)) ac = (now l (s.AB[i]).AD[j]).bind λy=>some (Bq Q y):=by
    rw[db a5,Ct,a3];rfl
   refine jan [Pt b,.slice N l.length O,v2,I i,Pt b3,I j] (((s.AB[i]).AD[j] != 0) && decide (PZ l (s.AB[i]).AD[j] < 0)) (λW H=>?_) (λe c u ho he=>?_)
   .refine jl (v:=.slice ra (s.AB[i]).AD.length rc) rfl (C5 a7 Z Z ?_);simp only[da];refine jne (jgA H λg hN=>?_);refine jl (v:=.slice ra (s.AB[i]).AD.length rc) rfl (C5 a7 Z Z ?_);simp only[da];exact jrp (EZ _ T Z) (jlt hN)
   refine z_V ?_;rw[ho];refine jif (λg=>?_) (λg=>?_)
   .refine a0 a4 (e5 ?_);simp only[z_b,bne_iff_ne,z_d] at g;have f0:now l (s.AB[i]).AD[j] = none:=by
     unfold now;rw[if_neg g.1];cases hf:Av l (s.AB[i]).AD[j] with
     | none=>rfl
     | some t=>obtain⟨q,_,e,_⟩:=FJ hf;omega
    rw[f5,Ct,a9,z_o,Ct]
    conv=>lhs;rw[<- gM (j + 1) (s.AB[i]).AD,Ct,c7,f0]
    rfl
   obtain⟨x,hx⟩:∃x,now l (s.AB[i]).AD[j] = some x:=by
    unfold now;by_cases g0:(s.AB[i]).AD[j] = 0
    .exact⟨0,by rw[if_pos g0]⟩
    .rw[if_neg g0];cases hf:Av l (s.AB[i]).AD[j] with
     | none=>rw[Ht hf] at g;simp[g0] at g
     | some t=>exact⟨_,rfl⟩
   refine jl (v:=.slice ra (s.AB[i]).AD.length rc) rfl (C5 a7 Z Z ?_);simp only[da];refine jrp (Ho T Z hx) ?_;refine jc (A:=A2) (LR x b0 Z) ?_;rintro v3 R4 A3 _ ⟨hR,d1⟩;subst hR;refine jad ?_;refine hK ((s.AB[i]).AD.length - (j + 1)) _ _ _ Z ⟨rfl,j + 1,_,v3,A3,Z,rfl,?_,d1,rfl,rfl⟩;rw[c7,hx];rfl
  rintro e R2 D2 ⟨hR,ac,v,A,a9,c9,so,hD,he⟩;subst hR;refine z_W ?_;clear hD;have b8:=FQ a9;have j0:=Dd s.AB rl;have f8:9 * s.AB.length<=27:=Z
  rw[fP] at b8;obtain⟨pa,pc,rfl⟩:=h.c.p.sl;refine jl (v:=.slice pa s.AI.length pc) d2 (jln (jgr (jif (λg=>?_) (λg=>?_))))
  .refine a0 a4 (a6 ?_);rw[g9];intro hh;unfold C8 at hh;simp only[z_b,z_d] at hh;have:=z_f g;omega
  have l2:s.AI.length<=8:=by have:=z_g g;omega
  refine Ab (λvs R' D'=>R' = R2/\∃out v A,Au l (Cq s) [] = some out/\s.AI.all (E8 s l) = true/\SO out v A/\D' = A ++ ((b,C 50 cs) :: ([] ++ F))/\vs = [.slice N l.length O,v]) (λK1 h1=>?_) ?_
  .refine jcI h1 λK2 h2=>?_
   refine jlp (λm vs R' D'=>R' = R2/\∃(i:Nat) (v:Value) (A:Chs),i<=s.AI.length/\m = s.AI.length - i/\(s.AI.take i).all (E8 s l) = true/\SO ((s.AI.take i).foldl Bq ac) v A/\D' = A ++ ((b,C 50 cs) :: ([] ++ F))/\vs = [Pt b,.slice N l.length O,v,I i]) (n:=s.AI.length) ⟨rfl,0,v,A,Z,rfl,rfl,so,rfl,rfl⟩ ?_;clear so;rintro m e R3 D3 K ⟨hR,i,v,A,hi,c0,b4,so,hD,he⟩ hK;subst hR;refine z_W ?_;clear hD;refine jl (v:=.slice pa s.AI.length pc) d2 (jln (jlt (jif (λhc=>?_) (λhc=>?_))));rotate_left
   .have hc:=z_g hc;rw[dh Z] at b4 so;refine h2 _ _ _ ⟨rfl,_,v,A,?_,b4,so,rfl,rfl⟩;unfold Cq;rw[Ct,a9];exact LX b4
   have hc:i < s.AI.length:=by have:=z_f hc;omega
   have b6:E8 s l s.AI[i] = false->C8 s l = false:=λhh=>by
    rw[g9];intro g;unfold C8 at g;simp only[z_b] at g;have:=eG.1 g.2 _ (dc hc);rw[hh] at this;cases this
   have j5:((s.AI.take i).foldl Bq ac).length < 1000000:=by
    have:=FQ (LX (j:=ac) b4);rw[dp] at this;omega
   refine jl (v:=.slice pa s.AI.length pc) d2 (C5 h.c.p Z Z ?_);simp only[da];refine jrp (EZ _ T Z) ?_;cases hf:Av l s.AI[i] with
   | none=>
    rw[Ht hf];refine Bk [Pt b,.slice N l.length O,v,I i,.bool true] (λW H=>?_) (λe he=>?_)
    .refine Bk [Pt b,.slice N l.length O,v,I i,I (-1),.bool true,U] (λW H=>?_) (λe he=>?_)
     .exact jlt (jtf H)
     refine z_V ?_;refine Bk [Pt b,.slice N l.length O,v,I i,.bool true,U,U,U] (λW H=>?_) (λe he=>?_)
     .exact jtf H
     refine z_V ?_;exact jtf (Ak jev H)
    refine z_V ?_;exact DJ (a0 a4 (a6 (b6 (by unfold E8;rw[hf]))))
   | some n=>
    obtain⟨k,hk,c6,hn⟩:=FJ hf;subst hn;rw[c6];obtain⟨j2,e9⟩:=BA hf;have g7:E8 s l s.AI[i] = (!((l[k]).moved != (l[k]).at_) && !Do s (l[k]).at_):=by
     unfold E8;rw[hf];dsimp only;rw[e9];unfold bne;cases (l[k]).moved == s.AI[i]<;>rfl
    obtain⟨r2,e2,f4,f2⟩:=Hr hs j2 Z;refine Bk [Pt b,.slice N l.length O,v,I i,.bool (!E8 s l s.AI[i])] (λW H=>?_) (λe he=>?_)
    .refine Bk [Pt b,.slice N l.length O,v,I i,I k,.bool false,.bool ((l[k]).moved != (l[k]).at_)] (λW H=>?_) (λe he=>?_)
     .refine jlt ?_;rw[show decide ((k:Int) < 0) = false from decide_eq_false Z];exact jff (Yt T hk (VX T hk (jne H)))
     refine z_V ?_;cases c4:((l[k]).moved != (l[k]).at_) with
     | true=>
      refine Bk [Pt b,.slice N l.length O,v,I i,.bool true,U,U,U] (λW H=>?_) (λe he=>?_)
      .exact jtf H
      refine z_V ?_;rw[g7,c4] at H;exact jtf (Ak jev H)
     | false=>
      refine Bk [Pt b,.slice N l.length O,v,I i,.bool false,.pointer (some ⟨b,0 + 1,none⟩),S0 tb s.AA.length tc,I (l[k]).at_] (λW H=>?_) (λe he=>?_)
      .exact jff (jfo (jl (v:=S0 tb s.AA.length tc) (by rw[eH];exact c1) (VX T hk H)))
      refine z_V ?_;refine jff (jp (Cf _ Z) ?_);rw[e2];refine jrk h.z f4 (jeq ?_);rw[g7,c4,f2] at H;refine Ak (jl (v:=S0 tb s.AA.length tc) (by rw[eH];exact c1) jev) ?_;cases c5:((s.AA[r2]).kind == 4)<;>(rw[c5] at H;exact H)
    refine z_V ?_;refine jif (λg=>?_) (λg=>?_)
    .exact a0 a4 (a6 (b6 (by simpa using g)))
    have j4:E8 s l s.AI[i] = true:=by simpa using g
    refine jl (v:=.slice pa s.AI.length pc) d2 (C5 h.c.p Z Z ?_);simp only[da];refine jc (A:=A) (LR s.AI[i] so j5) ?_;rintro v3 R4 A3 _ ⟨hR,d1⟩;subst hR;refine jad ?_;refine hK (s.AI.length - (i + 1)) _ _ _ Z ⟨rfl,i + 1,v3,A3,Z,rfl,?_,?_,rfl,rfl⟩
    .rw[db hc,gx,b4];simpa using j4
    .rw[db hc,gy];exact d1
  rintro e R3 D3 ⟨hR,out,v,A,d4,b4,so,hD,he⟩;subst hR;refine z_W ?_;clear hD;have M0:E6 l out:=E6.nil.all S d4;have e8:C8 s l = true:=by
   unfold C8;simp only[z_b,z_d];exact⟨⟨⟨⟨⟨⟨⟨F7,Z⟩,Z⟩,Z⟩,Z⟩,Z⟩,c9⟩,b4⟩
  have g4:Bw s = (BJ l (l.length + 2) 0 out).map λm=>(l,m):=by
   unfold Bw;rw[a8,hs];dsimp only;rw[if_pos e8,DY b4,d4];rfl
  refine jlp (λm vs R' D'=>R' = R3/\∃(i:Nat) (ac:List Int) (v:Value) (A:Chs),i<=ac.length/\m = l.length + 2 - i/\BJ l (l.length + 2 - i) i ac = BJ l (l.length + 2) 0 out/\E6 l ac/\SO ac v A/\D' = A ++ ((b,C 50 cs) :: ([] ++ F))/\vs = [.slice N l.length O,v,I i]) (n:=l.length + 2) ⟨rfl,0,out,v,A,Z,Z,rfl,M0,so,rfl,rfl⟩ ?_;clear so a9 b8;rintro m e R4 D4 K ⟨hR,i,ac,v,A,hi,c0,b5,M,so,hD,he⟩ hK;subst hR;refine z_W ?_;clear hD;have k3:=M.len;obtain⟨va,vc,j8⟩:=so.sln;refine Bl ⟨va,vc,j8⟩ (jlt (jif (λhc=>?_) (λhc=>?_)));rotate_left
  .have hc:=z_g hc;obtain⟨q,hq⟩:∃q,l.length + 2 - i = q + 1:=⟨l.length + 1 - i,Z⟩;rw[hq,CL Z] at b5;refine a0 a4 ?_;rw[g4,<- b5];rfl
  have hc:i < ac.length:=by have:=z_f hc;omega
  obtain⟨t,ht⟩:=M.th _ (dc hc);obtain⟨j7,k2⟩:=BA ht;obtain⟨q,hq⟩:∃q,l.length + 2 - i = q + 1:=⟨l.length + 1 - i,Z⟩;rw[hq,C9 hc ht] at b5;have l3:=j9 t j7;refine Ab (λvs R' D'=>R' = R4/\∃Q v A,Au l t.refs ac = some Q/\SO Q v A/\D' = A ++ ((b,C 50 cs) :: ([] ++ F))/\vs = [.slice N l.length O,v,I i]) (λK3 h3=>?_) ?_;rotate_left
  .rintro e R5 D5 ⟨hR,Q,v2,A2,hn,b0,hD,he⟩;subst hR;refine z_W ?_;clear hD;rw[hn,z_o] at b5;have M2:=M.all S hn;have:=M2.len;have k4:=EE hn;exact jad (hK q _ _ _ Z ⟨rfl,i + 1,Q,v2,A2,Z,Z,by rw[<- b5];congr 1;omega,M2,b0,rfl,rfl⟩)
  refine jcI h3 λK4 h4=>?_
  refine Vc so hc (jrp (EZ _ T Z) ?_);obtain⟨k,hk,c6,hn⟩:=FJ ht;rw[c6];refine jtg T hk λb2 o2 ty i8 rv nv a7 g6 e4 f3 b9=>?_
  rw[hn] at a7 g6 b9;obtain⟨ra,rc,rfl⟩:=a7.sl;obtain⟨na,nc,rfl⟩:=g6.sl;refine Da (l:=eTh t (.slice ra t.refs.length rc) (.slice na t.nums.length nc)) e4 f3 b9 (ja λb3=>?_);refine jS (eTh t (.slice ra t.refs.length rc) (.slice na t.nums.length nc)) ?_;refine Al A (G:=((b3,C 70 (eTh t (.slice ra t.refs.length rc) (.slice na t.nums.length nc))) :: (b,C 50 cs) :: ([] ++ F))) ?_;refine jcI h4 λK5 h5=>?_
  refine jlp (λm vs R' D'=>R' = R4/\∃(j:Nat) (Q:List Int) (v:Value) (A:Chs),j<=t.refs.length/\m = t.refs.length - j/\Au l (t.refs.take j) ac = some Q/\SO Q v A/\D' = A ++ ((b3,C 70 (eTh t (.slice ra t.refs.length rc) (.slice na t.nums.length nc))) :: (b,C 50 cs) :: ([] ++ F))/\vs = [.slice N l.length O,v,I i,Pt b3,I j]) (n:=t.refs.length) ⟨rfl,0,ac,v,A,Z,rfl,rfl,so,rfl,rfl⟩ ?_;clear so c0 hK he;rintro m e R5 D5 K ⟨hR,j,Q,v2,A2,hj,c0,a3,b0,hD,he⟩ hK;subst hR;refine z_W ?_;clear hD;refine jl (v:=.slice ra t.refs.length rc) rfl (jln (jlt (jif (λa5=>?_) (λa5=>?_))));rotate_left
  .have a5:=z_g a5;rw[dh Z] at a3;refine Al A2 (G:=((b,C 50 cs) :: ([] ++ F))) ?_;exact h5 _ _ _ ⟨rfl,Q,v2,A2,a3,b0,rfl,rfl⟩
  have a5:j < t.refs.length:=by have:=z_f a5;omega
  have b7:=FQ a3;rw[dp] at b7;have c7:Au l (t.refs.take (j + 1)) ac = (now l t.refs[j]).bind λy=>some (Bq Q y):=by
   rw[db a5,Ct,a3];rfl
  refine jan [.slice N l.length O,v2,I i,Pt b3,I j] ((t.refs[j] != 0) && decide (PZ l t.refs[j] < 0)) (λW H=>?_) (λe c u ho he=>?_)
  .refine jl (v:=.slice ra t.refs.length rc) rfl (C5 a7 Z Z ?_);simp only[da];refine jne (jgA H λg hN=>?_);refine jl (v:=.slice ra t.refs.length rc) rfl (C5 a7 Z Z ?_);simp only[da];exact jrp (EZ _ T Z) (jlt hN)
  refine z_V ?_;rw[ho];refine jif (λg=>?_) (λg=>?_)
  .refine a0 a4 ?_;simp only[z_b,bne_iff_ne,z_d] at g;have f0:now l t.refs[j] = none:=by
    unfold now;rw[if_neg g.1];cases hf:Av l t.refs[j] with
    | none=>rfl
    | some t=>obtain⟨q,_,e,_⟩:=FJ hf;omega
   have:Au l t.refs ac = none:=by
    conv=>lhs;rw[<- gM (j + 1) t.refs,Ct,c7,f0]
    rfl
   rw[this] at b5;rw[g4,<- b5];rfl
  obtain⟨x,hx⟩:∃x,now l t.refs[j] = some x:=by
   unfold now;by_cases g0:t.refs[j] = 0
   .exact⟨0,by rw[if_pos g0]⟩
   .rw[if_neg g0];cases hf:Av l t.refs[j] with
    | none=>rw[Ht hf] at g;simp[g0] at g
    | some t=>exact⟨_,rfl⟩
  refine jl (v:=.slice ra t.refs.length rc) rfl (C5 a7 Z Z ?_);simp only[da];refine jrp (Ho T Z hx) ?_;refine jc (A:=A2) (LR x b0 Z) ?_;rintro v3 R6 A3 _ ⟨hR,d1⟩;subst hR;refine jad ?_;refine hK (t.refs.length - (j + 1)) _ _ _ Z ⟨rfl,j + 1,_,v3,A3,Z,rfl,?_,d1,rfl,rfl⟩;rw[c7,hx];rfl
end st
end Go.Lf
end
section
namespace Go.Lf
open Go Sm
def mkB (n:Nat) (xs:List Int):List Bool:=(List.range n).map λ(i:Nat)=>decide ((i:Int)∈xs)
theorem On (n:Nat) (xs:List Int):(mkB n xs).length = n:=by simp[mkB]
theorem Yw (n:Nat):mkB n [] = List.replicate n false:=by
 apply fq<;>simp[mkB]
theorem ZC {n k:Nat} {xs:List Int} (h:k < n):(mkB n xs).set k true = mkB n (xs ++ [(k:Int)]):=by
 apply List.ext_getElem?;intro i;rw[gO];unfold mkB;simp only[df,List.length_range,eU,List.getElem?_range',eI,dz];by_cases e:k = i
 .subst e;rw[if_pos rfl,if_pos h,gT h];simp
 .rw[if_neg e];by_cases j:i < n
  .rw[gT j];have:¬ ((i:Int) = k):=Z
   simp[this]
  .rw[fG (by simpa using j)];rfl
section st
variable {R:RM} {s:Sm.Aj} {wv tv mv thv ov pv:Value}
set_option maxRecDepth 4000 in
theorem KP (h:SF R s wv tv mv thv ov pv):Ro Kv [.agg (eSt s wv tv mv thv ov pv).toArray] (.bool (Bw s).isSome) R []:=by
 refine Re λF=>?_
 refine z_1 ?_;refine ja λb=>jla (by exact z_n 13) rfl ?_
 refine jc (Ge h) ?_;rintro x G _ y ⟨rfl,j⟩;cases A:Bw s with
 | none=>
  rw[A] at j;obtain rfl:x = _:=j;exact jxr (λw=>bJ w _ _) (Ao y ⟨rfl,rfl⟩)
 | some q=>
  obtain⟨l,D⟩:=q;rw[A] at j;obtain⟨hb,mb,v,rfl,_⟩:=j;exact jxr (λw=>cg w _ _ hb) (Ao y ⟨rfl,rfl⟩)
def QLv (r:Option (List AO × List Int)) (v:Value) (A:Chs):Prop:=match r with
 | none=>v = .tuple #[SN,.bool false]/\A = []
 | some (_,met)=>∃sv,SO (AN met) sv A/\v = .tuple #[sv,.bool true]
theorem Hw {l:List AO} (h:SF R s wv tv mv thv ov pv) (hl:Ei s = some l):l.length<=192/\TB l:=by
 have j:=hl;unfold Ei at j;split at j;rotate_left
 .cases j
 unfold BK at j;have x:=NO (by have:=h.b.wl;have:=h.b.t1;omega) j;have:=h.b.t1;rw[fZ] at x;exact⟨Z,x.1⟩
set_option maxRecDepth 4000 in
theorem Gq (h:SF R s wv tv mv thv ov pv):Fn P Jf [.agg (eSt s wv tv mv thv ov pv).toArray] R [] (λv W A=>QLv (Bw s) v A):=by
 refine PO λF=>?_
 refine z_1 ?_;refine ja λb=>jla (by exact z_n 13) rfl ?_
 refine jc (Ge h) ?_;rintro x R1 _ H ⟨rfl,j⟩;cases G:Bw s with
 | none=>
  rw[G] at j;obtain rfl:x = _:=j;exact jxr (λw=>U0 w _ _) (DJ (Ao H ⟨rfl,rfl⟩))
 | some q=>
  obtain⟨l,N⟩:=q;rw[G] at j;obtain⟨hb,mb,v,rfl,K⟩:=j;have D:=D0 G;have:=D.M.len;have:=(Hw h D.ths).1;refine jxr (λw=>UK w _ _ hb) (CK (jc (MG K D.M.nd Z) ?_));rintro Q R2 T _ ⟨y,O⟩;subst y;exact Ao H ⟨Q,O,rfl⟩
theorem dA {D:Chs} {b n k:Nat} {xs:List Int} {m:M} {D' : Chs} (j:k < n) [a:At D b (C Az ((mkB n xs).map Value.bool))] [u:Up D b (C Az ((mkB n xs).map Value.bool)) (C Az ((mkB n (xs ++ [(k:Int)])).map Value.bool)) D']
  (H:J R D' m):J R D (IA 1 (S0 b n n) (I (k:Int)) λp=>ST 1 p (.bool true) m):=by
 refine CC j (js (cs':=(mkB n (xs ++ [(k:Int)])).map Value.bool) rfl rfl (by rw[df,On];show 0 + k * 1 + 1<=n;omega) ?_ H);rw[fY,eH];show lay _ k [.bool true] = _;rw[Gi (by rw[df,On];exact j),<- List.map_set,ZC j]
theorem UE {l:List AO} {j:List Int} (h:SF R s wv tv mv thv ov pv) (y:HpF s l j):∀a∈j,∃k:Nat,a = k/\k < s.AC.length:=by
 intro a D;obtain⟨t,G⟩:=y.M.th a D;obtain⟨A,H⟩:=BA G;have x:=y.ths;unfold Ei at x;split at x;rotate_left
 .cases x
 obtain⟨r,e,K,_⟩:=Hr x A h.b.t1;have:=y.S.at16 t A;have wl:=h.b.wl;unfold AM at e;rw[if_neg Z] at e;exact⟨a.toNat,Z,Z⟩
theorem Mx {j:List Int} (h:j.Nodup):∀x,x∈AN j↔x∈j:=(B8 h).2
end st
section rules
variable {R:RM} {D:Chs} {k:Value->M}
theorem dW {A:List Nat} {B:(List Value->M)->Env->M} {x:List Value} (n:Nat) (q:Nat->List Value->Prop) (h0:q 0 x)
  (H:∀(i:Nat) K e,i<=n->q i (A.map e)->(∀j,i < n->q (i + 1) j->J R D (K j))->J R D (B K e)):J R D (LP A B x):=by
 refine jlp (λm x N G=>N = R/\G = D/\∃i:Nat,i<=n/\m = n - i/\q i x) (n:=n) ⟨rfl,rfl,0,Z,Z,h0⟩ ?_;rintro m e R1 D1 K ⟨Q,hD,i,T,hm,W⟩ O;subst Q hD;exact H i K e T W (λj h y=>O (n - (i + 1)) _ _ _ Z ⟨rfl,rfl,i + 1,Z,rfl,y⟩)
end rules
def DSF (x:Value) (R:RM):Prop:=∃(s:Sm.Aj) (wv tv mv thv ov pv:Value),x = .agg (eSt s wv tv mv thv ov pv).toArray/\s.BL<=90000/\SF R s wv tv mv thv ov pv
theorem az {R G : RM} {T:Nat} {v:Value} {m c:Int} {x:Value} {A F:Chs} {Q:M} (h:DSt R T v m c x G A) (H:∀y,G.le y->DSF x y->J y F Q):J G (A ++ F) Q:=by
 obtain⟨s,wv,mv,thv,ov,pv,tb,tc,tsp,m',W,hw,hm,O,K,N,D,_,_,rfl,rfl⟩:=h;show J G ((T,rdO v m') :: (tb,C AS (Af eRg s.AA ++ tsp)) :: F) Q;refine BT (BE (b:=tb) λy j hb=>(H y j ⟨s,wv,_,mv,thv,ov,pv,rfl,(by have:=W.fu;omega),⟨hw.le j,Ws hb D,hm.le j,O.le j,K.le j,N.le j⟩,⟨tb,tc,tsp,rfl,hb,D⟩,W.mono2⟩))
theorem DSF.cut {x:Value} {R:RM} (h:DSF x R):∃(s:Sm.Aj) (H:Option Addr) (wc tb tc:Nat) (y:Option Addr) (mc:Nat) (O:Option Addr) (j:Nat) (A:Option Addr) (D:Nat) (G:Option Addr) (pc:Nat),x = .agg (eSt s (.slice H s.AC.length wc) (S0 tb s.AA.length tc) (.slice y s.AQ.length mc) (.slice O s.AB.length j) (.slice A s.old.length D) (.slice G s.AI.length pc)).toArray/\s.BL<=90000/\SF R s (.slice H s.AC.length wc) (S0 tb s.AA.length tc) (.slice y s.AQ.length mc) (.slice O s.AB.length j) (.slice A s.old.length D) (.slice G s.AI.length pc):=by
 obtain⟨s,wv,tv,mv,thv,ov,pv,rfl,K,h⟩:=h;obtain⟨tb,tc,sp,rfl,hb,Q⟩:=h.z;obtain⟨H,wc,rfl⟩:=h.c.w.sl;obtain⟨y,mc,rfl⟩:=h.c.m.sl;obtain⟨N,j,rfl⟩:=h.c.th.sl;obtain⟨A,D,rfl⟩:=h.c.o.sl;obtain⟨G,pc,rfl⟩:=h.c.p.sl;exact⟨s,H,wc,tb,tc,y,mc,N,j,A,D,G,pc,rfl,K,h⟩
theorem aU {x:Value} {R:RM} {F:Chs} {b:Nat} {k:Value->M} (h:DSF x R) (H:J R F (k x)):J R ((b,C 50 (cl z50)) :: F) (ST 13 (Pt b) x (LA 13 (Pt b) k)):=by
 obtain⟨s,O,wc,tb,tc,D,mc,j,y,G,K,N,pc,rfl,A,h⟩:=h.cut;refine js rfl rfl (by exact z_n 13) rfl (jla (l:=eSt s (.slice O s.AC.length wc) (S0 tb s.AA.length tc) (.slice D s.AQ.length mc) (.slice j s.AB.length y) (.slice G s.old.length K) (.slice N s.AI.length pc)) (by exact z_n 13) rfl (BT H))
end Go.Lf
end
section
namespace Sm
open Go.Lf
theorem Lz {a b:List Int} (h:a.Perm b):a.sum = b.sum:=by
 induction h with
 | nil=>rfl
 | cons x _ D=>rw[List.sum_cons,List.sum_cons,D]
 | swap x y l=>simp only[List.sum_cons];omega
 | trans _ _ j A=>exact j.trans A
def szA (l:List AO) (a:Int):Int:=((Av l a).map λt=>AH t.sh).getD 0
def CS (l:List AO) (xs:List Int):Int:=(xs.map (szA l)).sum
def Ds (l:List AO):Int:=(l.map λt=>AH t.sh).sum
theorem Mr {l:List AO} {a:Int} {t:AO} (h:Av l a = some t):szA l a = AH t.sh:=by
 unfold szA;rw[h];rfl
theorem Yq (l:List AO) (a:Int):0<=szA l a/\szA l a<=10:=by
 unfold szA;cases Av l a with
 | none=>exact⟨δ,δ⟩
 | some t=>exact Fg t.sh
theorem OM {l:List AO}:∀j:List Int,0<=CS l j/\CS l j<=10 * j.length
 | []=>⟨by simp[CS],by simp[CS]⟩
 | x :: j=>by
  have A:=Yq l x;have y:=OM (l:=l) j;unfold CS at y ⊢;rw[eX,List.sum_cons,dl];omega
theorem Tf {l:List AO} {xs:List Int} {i:Nat} (h:i < xs.length):CS l (xs.take (i + 1)) = CS l (xs.take i) + szA l xs[i]:=by
 unfold CS;rw[db h,eS,List.sum_append];simp
theorem M7:∀{l:List AO} {xs:List Int},(l.map AO.at_).Nodup->xs.Nodup->(∀a∈xs,∃t,Av l a = some t)->CS l xs<=Ds l
 | [],xs,_,_,h=>by
  cases xs with
  | nil=>exact eQ _
  | cons x xs=>obtain⟨t,T⟩:=h x (.head _);cases T
 | t :: l,xs,hn,hx,h=>by
  rw[eX,fQ] at hn;have R:=Fg t.sh;have G:∀j:List Int,t.at_ ∉ j->CS (t :: l) j = CS l j:=λj H=>by
   unfold CS;congr 1;apply fD;intro a y;unfold szA Av;rw[gJ];simpa using λe:t.at_ = a=>H (e▸y)
  have sub:∀j:List Int,t.at_ ∉ j->(∀a∈j,a∈xs)->∀a∈j,∃t,Av l a = some t:=λj H Q a y=>by
   obtain⟨W,A⟩:=h a (Q a y);unfold Av at A;rw[gJ (by simpa using λe:t.at_ = a=>H (e▸y))] at A;exact⟨W,A⟩
  unfold Ds;rw[eX,List.sum_cons];by_cases c:t.at_∈xs
  .have p:=List.perm_cons_erase c;have e:CS (t :: l) xs = szA (t :: l) t.at_ + CS (t :: l) (xs.erase t.at_):=by
    unfold CS;rw[Lz (p.map _),eX,List.sum_cons]
   have D:t.at_ ∉ xs.erase t.at_:=λO=>((hx.mem_erase_iff).1 O).1 rfl
   have K:=M7 (l:=l) (xs:=xs.erase t.at_) hn.2 (hx.erase _) (sub _ D λa y=>List.mem_of_mem_erase y);have N:szA (t :: l) t.at_ = AH t.sh:=Mr (by unfold Av;rw[gc V]);rw[e,G _ D,N];unfold Ds at K;omega
  .have K:=M7 (l:=l) (xs:=xs) hn.2 hx (sub _ c λa y=>y);rw[G _ c];unfold Ds at K;omega
def Df:Nat->List Rg->Int
 | _,[]=>0
 | r,x :: t=>x.top - AK r + Df (r + 1) t
theorem RN {w:List Int}:∀{n:Nat} {a top:Int} {l:List AO},a<=top->Am w n a top = some l->Ds l = top - a
 | 0,a,top,l,ha,h=>by
  unfold Am at h;split at h
  .cases h
  .cases h;unfold Ds;simp;omega
 | n + 1,a,top,l,ha,h=>by
  unfold Am at h;split at h;rotate_left
  .cases h;unfold Ds;simp;omega
  dsimp only at h;split at h;rotate_left
  .cases h
  rename_i A x;simp only[z_b,z_d] at x;cases j:Am w n (a + AH (Ap w a).1.sh) top with
  | none=>rw[j] at h;cases h
  | some D=>
   rw[j] at h;cases h;have y:=RN x.2 j;unfold Ds at y ⊢;rw[eX,List.sum_cons,y];omega
theorem UM {w:List Int}:∀{t:List Rg} {r:Nat} {l:List AO},BU w r t = some l->Ds l = Df r t
 | [],r,l,h=>by cases h;rfl
 | x :: t,r,l,h=>by
  unfold BU at h;cases j:BP w r x.top with
  | none=>rw[j] at h;cases h
  | some a=>
   rw[j] at h;dsimp only at h;cases y:BU w (r + 1) t with
   | none=>rw[y] at h;cases h
   | some b=>
    rw[y] at h;cases h;have A:Ds a = x.top - AK r:=by
     unfold BP at j;split at j
     .rename_i c;simp only[z_b,z_d] at c;exact RN c.1.2 j
     .cases j
    have D:=UM y;unfold Ds at A D ⊢;unfold Df;rw[eS,List.sum_append,A,D]
theorem MX:∀{a b:List Rg} {r:Nat},Df r (a ++ b) = Df r a + Df (r + a.length) b
 | [],b,r=>by simp[Df]
 | x :: a,b,r=>by
  show x.top - AK r + Df (r + 1) (a ++ b) = x.top - AK r + Df (r + 1) a + Df (r + (a.length + 1)) b;rw[MX,show r + 1 + a.length = r + (a.length + 1) from Z];omega
end Sm
namespace Go.Lf
open Go Sm
section st
variable {R:RM} {s:Sm.Aj} {wv tv mv thv ov pv:Value}
theorem Za {l:List AO} {x:List Int} (y:HpF s l x):BK s = some l:=by
 have j:=y.ths;unfold Ei at j;split at j
 .exact j
 .cases j
theorem Jg {l:List AO} {j:List Int} (y:HpF s l j) {a:Int} (H:a∈j):∃t,Av l a = some t/\Ap s.AC a = (t,true):=by
 obtain⟨t,A⟩:=y.M.th a H;obtain⟨D,G⟩:=BA A;have x:=Za y;unfold BK at x;have:=((FK x).2 t D).2.2.1;rw[G] at this;exact⟨t,A,this⟩
theorem QH {l:List AO} {j:List Int} (h:j.Nodup):CS l (AN j) = CS l j:=by
 have p:=List.mergeSort_perm j (λx y=>decide (x<=y));have e:KG j = AN j:=Tz h;unfold CS;rw[<- e];exact Lz (p.map _)
theorem SC {r:Nat}:∀(t:List Rg),(∀x∈t,-100 * ((10:Nat):Int)<=x.top/\x.top<=100 * ((10:Nat):Int))->-1300 * (t.length:Int)<=Df r t/\Df r t<=1300 * t.length:=by
 intro t;induction t generalizing r with
 | nil=>intro _;exact⟨by simp[Df],by simp[Df]⟩
 | cons x t A=>
  intro h;have D:=h x (.head _);have G:=A (r:=r + 1) λy j=>h y (eD _ j)
  have hb:0<=AK r/\AK r<=176:=by unfold AK;split<;>omega
  unfold Df;rw[dl];omega
theorem Xb {D:Chs} {v:Value} {l:List Int} {i:Int} {B:Value->Value->M} (h:Aw R v l) (h0:0<=i) (N:i < l.length)
  (H:∀p,(∀{D' : Chs} {k:Value->M},(∀(T : RM) (G : Chs),J R D' (k (I (l[i.toNat]'(Z)))))->J R D' (L1 p k))->J R D (B p (I (l[i.toNat]'(Z))))):J R D (IA 1 v (I i) λp=>L1 p λx=>B p x):=by
 rcases h with ⟨_,y,_⟩ | ⟨b,o,K,t,A,rfl,y,W,O,h5⟩
 .omega
 .have j:A[o + i.toNat * 1]? = some (I (l[i.toNat]'(Z))):=by
   have e:((A.drop o).take (l.length * 1))[i.toNat]? = (l.map I)[i.toNat]?:=by rw[O]
   rw[hU Z,fJ,eU,dY (l:=l) (i:=i.toNat) Z] at e;rw[fY];exact e
  refine jia h0 N (jlr y j (H _ λ{D'} {k} Q=>jlr y j (Q R D')))
set_option maxHeartbeats 1000000 in
theorem OQ (h:SF R s wv tv mv thv ov pv) {l:List AO} {j:List Int} (hh:Bw s = some (l,j)):Ro Km [.agg (eSt s wv tv mv thv ov pv).toArray] (.tuple #[I (CS l j),I (Ds l)]) R []:=by
 refine RG λF=>?_
 refine z_1 ?_;refine ja λb=>jla (l:=eSt s wv tv mv thv ov pv) (by exact z_n 13) rfl ?_
 refine jc (A:=[]) (Gq h) ?_;intro x R1 A1 a1 hq;rw[hh] at hq;obtain⟨sv,so,rfl⟩:=hq;have hf:=D0 hh;have b5:=hf.M.len;obtain⟨b4,b9⟩:=Hw h hf.ths;have t0:=h.b.t0;have t1:=h.b.t1;have wl:=h.b.wl;have tp:=h.b.tp;have W:∀a:Int,inR (s.AC.getD (a.toNat + 1) 0):=λa=>by
  rw[dZ];cases hx:s.AC[a.toNat + 1]? with
  | none=>exact⟨δ,δ⟩
  | some x=>exact h.b.wr x (List.mem_of_getElem? hx)
 obtain⟨a8,a6⟩:=B8 hf.M.nd;have b6:(AN j).length = j.length:=by
  have:=DU j [];simpa [AN] using this
 have hsp:CS l (AN j) = CS l j:=QH hf.M.nd;refine jex rfl (jex rfl (E0 so λR2 a2 hi=>?_));obtain⟨va,vc,rfl⟩:=hi.sl;have h:=h.le (a1.trans a2);obtain⟨tb,tc,sp,rfl,O,b7⟩:=h.z;obtain⟨wa,wc,rfl⟩:=h.c.w.sl;rw[show (cl (.agg (eSt s (.slice wa s.AC.length wc) (S0 tb s.AA.length tc) mv thv ov pv).toArray)) = eSt s (.slice wa s.AC.length wc) (S0 tb s.AA.length tc) mv thv ov pv from rfl];refine Ab (λvs T Q=>R2.le T/\Q = (b,C 50 (eSt s (.slice wa s.AC.length wc) (S0 tb s.AA.length tc) mv thv ov pv)) :: F/\vs = [Pt b,I (CS l j)]) (λK1 h1=>?_) ?_
 .refine jcI h1 λK2 h2=>?_
  refine jlp (λm vs T Q=>R2.le T/\∃i:Nat,i<=(AN j).length/\m = (AN j).length - i/\Q = (b,C 50 (eSt s (.slice wa s.AC.length wc) (S0 tb s.AA.length tc) mv thv ov pv)) :: F/\vs = [Pt b,.slice va (AN j).length vc,I (CS l ((AN j).take i)),I i]) (n:=(AN j).length) ⟨RM.le.refl _,0,Z,rfl,rfl,rfl⟩ ?_;rintro m e R3 D3 K ⟨y,i,b0,a5,hD,he⟩ hK;refine z_W ?_;refine jln (jlt (jif (λhc=>?_) (λhc=>?_)));rotate_left
  .have hc:=z_g hc;rw[dh Z,hsp];exact h2 _ _ _ ⟨y,rfl,rfl⟩
  have hc:i < (AN j).length:=by have:=z_f hc;omega
  obtain⟨t,ht,a3⟩:=Jg hf ((a6 _).1 (dc hc));have sr:=OM (l:=l) ((AN j).take i);have se:=Mr ht;have tr:=Fg t.sh;rw[dp] at sr;have a4:=hi.le y;have h3:=h.le y;refine Ab (λvs T Q=>R2.le T/\∃b3 rv nv,Q = (b3,C 70 (eTh t rv nv)) :: (b,C 50 (eSt s (.slice wa s.AC.length wc) (S0 tb s.AA.length tc) mv thv ov pv)) :: F/\vs = [Pt b,.slice va (AN j).length vc,I (CS l ((AN j).take i)),I i,Pt b3]) (λK3 a0=>?_) ?_;rotate_left
  .rintro e R4 D4 ⟨D,b3,rv,nv,hD,he⟩;refine z_W ?_;refine jfo (jla (t:=70) (cs:=eTh t rv nv) (l:=[I t.sh.refs,I t.sh.nums]) (by exact (by decide:4<=6)) rfl (jp (G3 t.sh) (jad (jad (BT ?_)))));refine hK ((AN j).length - (i + 1)) _ _ _ Z ⟨D,i + 1,Z,rfl,rfl,?_⟩;rw[Tf hc,se];rfl
  refine jl (v:=.slice wa s.AC.length wc) rfl ?_;refine Xb a4 Z Z λp hp=>?_
  simp only[da] at hp ⊢;refine Eg ?_ (Dj ?_)
  .refine jc (A:=[]) (Ex (AN j)[i] h3.c.w Z (W _)) ?_;rintro _ R4 _ D ⟨rfl,x,⟨rv,nv,hx,N,H⟩,rfl⟩;subst hx;rw[a3] at N H ⊢;obtain⟨ra,rc,rfl⟩:=N.sl;obtain⟨na,nc,rfl⟩:=H.sl;refine jex rfl (jex rfl (ja λb3=>?_));refine jS (eTh t (.slice ra t.refs.length rc) (.slice na t.nums.length nc)) ?_;exact a0 _ _ _ ⟨y.trans D,b3,_,_,rfl,rfl⟩
  .refine ja λb3=>Ak (jl (v:=.slice wa s.AC.length wc) rfl jev) (Ak (hp λT Q=>jev) ?_)
   refine jc (A:=[]) (Ex (AN j)[i] h3.c.w Z (W _)) ?_;rintro _ R4 _ D ⟨rfl,x,⟨rv,nv,hx,N,H⟩,rfl⟩;subst hx;rw[a3] at N H ⊢;obtain⟨ra,rc,rfl⟩:=N.sl;obtain⟨na,nc,rfl⟩:=H.sl;refine jex rfl (jex rfl ?_);refine jS (eTh t (.slice ra t.refs.length rc) (.slice na t.nums.length nc)) ?_;exact a0 _ _ _ ⟨y.trans D,b3,_,_,rfl,rfl⟩
 rintro e R3 D3 ⟨y,hD,he⟩;refine z_W ?_;have O:=y _ _ O;refine Bk [I (CS l j),I (Ds l)] (λK1 h1=>?_) (λe he=>?_)
 .refine Bk [I (CS l j),I (Ds l)] (λK2 h2=>?_) (λe he=>?_)
  .refine jlp (λm vs T Q=>T = R3/\Q = (b,C 50 (eSt s (.slice wa s.AC.length wc) (S0 tb s.AA.length tc) mv thv ov pv)) :: F/\∃i:Nat,1<=i/\i<=s.AA.length/\m = s.AA.length - i/\vs = [Pt b,I (CS l j),I (Df 1 (s.AA.tail.take (i - 1))),I i]) (n:=s.AA.length - 1) ⟨rfl,rfl,1,Z,Z,Z,rfl⟩ ?_;rintro m e R4 D4 K ⟨D,hD,i,b1,b2,a5,he⟩ hK;subst D;refine z_W ?_;refine jl (v:=S0 tb s.AA.length tc) rfl (jln (jlt (jif (λhc=>?_) (λhc=>?_))));rotate_left
   .have hc:=z_g hc;rw[dh (by rw[fZ];omega),<- UM (Za hf)];exact h2
   have hc:i < s.AA.length:=by have:=z_f hc;omega
   have a7:=SC (r:=1) (s.AA.tail.take (i - 1)) (λx hx=>tp x (List.mem_of_mem_tail (ec hx)));rw[dp,fZ] at a7;have b8:=tp _ (dc hc);have a9:0<=AK i/\AK i<=176:=by unfold AK;split<;>omega
   have G:(Af eRg s.AA ++ sp)[0 + i * 5 + 2]? = some (I (s.AA[i]).top):=by rw[eH];exact CF (f:=2) hc rfl
   refine jl (v:=S0 tb s.AA.length tc) rfl (CC hc (jfo (jlr (v:=I (s.AA[i]).top) O G ?_)));refine jad (jp (CP i) (jsu ?_));refine Ak (jl (v:=S0 tb s.AA.length tc) rfl jev) (Ak (jlr (v:=I (s.AA[i]).top) O G jev) (jad ?_));refine hK (s.AA.length - (i + 1)) _ _ _ Z ⟨rfl,rfl,i + 1,Z,Z,rfl,?_⟩;have e1:i + 1 - 1 = (i - 1) + 1:=Z
   have e2:i - 1 < s.AA.tail.length:=by rw[fZ];omega
   rw[e1,db e2,MX];have e3:s.AA.tail[i - 1] = s.AA[i]:=by rw[List.getElem_tail];congr 1;omega
   have e4:1 + (s.AA.tail.take (i - 1)).length = i:=by rw[dp,fZ];omega
   rw[e3,e4];have:Df i [s.AA[i]] = (s.AA[i]).top - AK i:=by simp[Df]
   rw[this];congr 4;omega
  .refine z_V ?_;exact h1
 refine z_V ?_;exact Ao (A:=[]) (a1.trans (a2.trans y)) ⟨rfl,rfl⟩
end st
end Go.Lf
end
section
namespace Go.Lf
open Go Sm
theorem cm {x:Value} {R:RM} {F:Chs} {k:Value->M} (h:DSF x R) (H:∀(b:Nat) (s:Sm.Aj) (wv tv mv thv ov pv:Value),x = .agg (eSt s wv tv mv thv ov pv).toArray->s.BL<=90000->SF R s wv tv mv thv ov pv->J R ((b,C 50 (eSt s wv tv mv thv ov pv)) :: F) (k (Pt b))) :
  J R F (AL 50 z50 λp=>ST 13 p x (k p)):=by
 obtain⟨s,Q,wc,tb,tc,G,mc,y,A,K,N,O,pc,rfl,j,D⟩:=h.cut;refine ja λb=>?_
 refine jS (eSt s (.slice Q s.AC.length wc) (S0 tb s.AA.length tc) (.slice G s.AQ.length mc) (.slice y s.AB.length A) (.slice K s.old.length N) (.slice O s.AI.length pc)) ?_;exact H b s _ _ _ _ _ _ rfl j D
theorem aD {R:RM} {v:Value} (hc:Cod R v):∃n:Nat,∃a c,v = .slice a n c:=by
 obtain⟨n,j⟩:=hc;exact⟨n,j.sl⟩
section rules
variable {R:RM} {D:Chs} {k:Value->M}
theorem dL {x y:Int} {kd:IntKind} (h:0<=y) (H:J R D (k (.int kd (x.fdiv (2 ^ min y.toNat kd.bits))))):J R D (BO .shr (.int kd x) (.int kd y) k):=by
 unfold BO;simp only[if_true];exact λj A=>⟨h,H j A⟩
theorem bS (x:Int) (w:World):(Go.convert 3 179 (I x):Sem Value).run P w = .ok (.int .u64 (IntKind.u64.wrap x)) w:=by kernel_rfl
theorem bZ (x:Int) (w:World):(Go.convert 179 3 (.int .u64 x):Sem Value).run P w = .ok (I (IntKind.i64.wrap x)) w:=by kernel_rfl
theorem Xh {n:Int} (h0:0<=n) (j:n < 9223372036854775808):IntKind.u64.wrap n = n:=by
 unfold IntKind.wrap;simp only[IntKind.bits,IntKind.signed];simp;omega
end rules
theorem aX (x:Int):Pu L6 [I x] (.bool false):=by
 intro R;refine Qb λF=>?_
 refine z_1 ?_;refine jne (Ao (A:=[]) (RM.le.refl R) ?_);simp
theorem aJ (x:Int):Pu HH [I x] (.bool false):=by
 intro R;refine MN λF=>?_
 refine z_1 ?_;refine jne (Ao (A:=[]) (RM.le.refl R) ?_);simp
theorem aM (x y:Int):Pu Mu [I x,I y] (.bool (decide (x < y))):=by
 intro R;refine SY λF=>?_
 refine z_2 ?_;refine jan [I x,I y] false (λG j=>?_) (λe c u D he=>?_)
 .exact jp (aX x) (jft (j _ _ _ Bu rfl))
 refine z_V ?_;refine jor [] (decide (x < y)) (λG j=>?_) (λe c u D he=>?_)
 .rw[D];exact jff (jlt (j _ _ _ Bn rfl))
 refine z_V ?_;rw[D];exact Ao (A:=[]) (RM.le.refl R) rfl
def lbI (l:List Int) (x:Int):Nat:=(l.filter λy=>decide (y < x)).length
theorem X8 {l:List Int} {x:Int} {i:Nat} (N:i<=l.length) (H:∀k (h:k < l.length),k < i->l[k] < x) (K:∀k (h:k < l.length),i<=k->x<=l[k]):lbI l x = i:=by
 unfold lbI
 conv=>lhs;rw[<- gM i l]
 rw[List.filter_append,de];have D:(l.take i).filter (λy=>decide (y < x)) = l.take i:=by
  rw[List.filter_eq_self];intro y A;obtain⟨k,j,rfl⟩:=eJ A;rw[dp] at j;rw[gP];exact decide_eq_true (H k Z Z)
 have G:(l.drop i).filter (λy=>decide (y < x)) = []:=by
  rw[List.filter_eq_nil_iff];intro y A;obtain⟨k,j,rfl⟩:=eJ A;rw[fA] at j;rw[gG];have:=K (i + k) Z Z;simpa using this
 rw[D,G,dp];simp;omega
theorem KF {l:List Int} {x:Int} (D:l.Pairwise (· < ·)) (h:x∈l):(lbI l x:Int) = Ba l x:=by
 unfold Ba;rw[if_pos h];have j:l.idxOf x < l.length:=List.idxOf_lt_length_iff.2 h;have H:l[l.idxOf x] = x:=V
 rw[gS] at D;congr 1;refine X8 Z (λk A y=>?_) (λk A G=>?_)
 .have:=D k _ A j y;omega
 .by_cases c:k = l.idxOf x
  .subst c;omega
  .have:=D _ k j A Z;omega
set_option maxRecDepth 4000 in
theorem MD {R:RM} {v:Value} {l:List Int} (x:Int) (h:Aw R v l) (hl:l.length < 1000000) (hs:l.Pairwise (· < ·)):Ro Eh [v,I x] (.tuple #[I (lbI l x),.bool (decide (x∈l))]) R []:=by
 refine H7 λF=>?_
 refine z_2 ?_;obtain⟨va,vc,rfl⟩:=h.sl;refine jln ?_;have a7:=gS.1 hs;refine Bk [.slice va l.length vc,I x,I l.length,I (lbI l x)] (λK1 Q=>?_) (λe he=>?_)
 .refine Bk [.slice va l.length vc,I x,I l.length,I (lbI l x)] (λK2 h2=>?_) (λe he=>?_)
  .refine jlp (λm vs N H=>N = R/\H = [] ++ F/\∃i j:Nat,i<=j/\j<=l.length/\m = j - i/\(∀k (h:k < l.length),k < i->l[k] < x)/\(∀k (h:k < l.length),j<=k->x<=l[k])/\vs = [.slice va l.length vc,I x,I l.length,I i,I j]) (n:=l.length) ⟨rfl,rfl,0,l.length,Z,Z,Z,λk _ h=>Z,λk h h'=>Z,rfl⟩ ?_;rintro m e R1 D1 K ⟨T,hD,i,j,a9,hj,hm,a0,W,he⟩ hK;subst T;refine z_W ?_;refine jlt (jif (λhc=>?_) (λhc=>?_));rotate_left
   .have hc:=z_g hc;have:i = j:=Z
    subst this;rw[X8 hj a0 W] at h2;exact h2
   have hc:i < j:=by have:=z_f hc;omega
   refine Ab (λvs N H=>N = R1/\H = [] ++ F/\∃G D : Nat,G<=D/\D<=l.length/\D - G < m/\(∀k (h:k < l.length),k < G->l[k] < x)/\(∀k (h:k < l.length),D<=k->x<=l[k])/\vs = [.slice va l.length vc,I x,I l.length,I G,I D]) (λK3 h3=>?_) ?_
   .refine jad (@jxr _ _ _ _ (.int .u64 ((i:Int) + j)) (λw=>by rw[bS,Xh Z Z]) (dL δ ?_));have e1:((i:Int) + j).fdiv (2 ^ min (1:Int).toNat IntKind.u64.bits) = (((i + j) / 2:Nat):Int):=by
     show ((i:Int) + j).fdiv 2 = _;rw[Int.fdiv_eq_ediv_of_nonneg _ δ];omega
    rw[e1];refine @jxr _ _ _ _ (I (((i + j) / 2:Nat):Int)) (λw=>by rw[bZ,Fb ⟨Z,Z⟩]) ?_;have A:(i + j) / 2 < l.length:=Z
    refine C5 h Z Z ?_;simp only[da];refine jp (aM _ x) (jif (λg=>?_) (λg=>?_))
    .have g:=z_f g;refine jad (h3 _ _ _ ⟨rfl,rfl,(i + j) / 2 + 1,j,Z,hj,Z,λk hk y=>?_,W,rfl⟩);by_cases c:k = (i + j) / 2
     .subst c;exact g
     .have:=a7 k _ hk A Z;omega
    .have g:=z_g g;refine h3 _ _ _ ⟨rfl,rfl,i,(i + j) / 2,Z,Z,Z,a0,λk hk b1=>?_,rfl⟩;by_cases c:k = (i + j) / 2
     .subst c;omega
     .have:=a7 _ k A hk Z;omega
   rintro e R2 D2 ⟨T,hD,G,D,a1,a2,a3,a4,a5,he⟩;subst T;refine z_W ?_;exact hK (D - G) _ _ _ Z ⟨rfl,rfl,G,D,a1,a2,rfl,a4,a5,rfl⟩
  .refine z_V ?_;exact Q
 refine z_V ?_;have b0:lbI l x<=l.length:=gu _ _;have a8:∀(y:lbI l x < l.length),(l[lbI l x] == x) = decide (x∈l):=by
  intro y;by_cases c:x∈l
  .have hp:=KF hs c;unfold Ba at hp;rw[if_pos c] at hp;have:lbI l x = l.idxOf x:=Z
   simp only[this];simp[c]
  .rw[decide_eq_false c,beq_eq_false_iff_ne];intro e;exact c (e▸dc y)
 have a6:¬ lbI l x < l.length->x ∉ l:=λy c=>by
  have hp:=KF hs c;unfold Ba at hp;rw[if_pos c] at hp;have:=List.idxOf_lt_length_iff.2 c;omega
 refine Ab (λvs N H=>N = R/\H = [] ++ F/\∃c u,vs = [I (lbI l x),c,u]/\GW c u (decide (x∈l))) (λK1 Q=>?_) ?_
 .refine jlt (Dl (λg=>?_) (λg=>?_))
  .have y:lbI l x < l.length:=by have:=z_f g;omega
   rw[g];refine C5 h Z Z ?_;simp only[da];refine jeq ?_;rw[a8 y];refine F6 (λO=>?_) (λO=>?_)
   .refine C5 h Z Z ?_;simp only[da];rw[O];exact jp (aJ _) (jft (Q _ _ _ ⟨rfl,rfl,_,_,rfl,by rw[O];exact Bm⟩))
   .rw[O];exact Q _ _ _ ⟨rfl,rfl,_,_,rfl,by rw[O];exact Bm⟩
  .have y:¬ lbI l x < l.length:=by have:=z_g g;omega
   rw[g];exact Q _ _ _ ⟨rfl,rfl,_,_,rfl,by rw[decide_eq_false (a6 y)];exact Bu⟩
 rintro e R2 D2 ⟨T,hD,c,u,he,ho⟩;subst T;refine z_W ?_;rw[ho];exact B9 rfl
end Go.Lf
end
section
namespace Sm
open Go.Lf
theorem Xs {had:List Int} {a x:Int}:x∈had->x∈Bq had a:=λh=>by
 unfold Bq;split
 .exact h
 .exact eT _ h
theorem Ut {had:List Int} {a:Int}:a = 0\/a∈Bq had a:=by
 unfold Bq;split
 .rename_i h;rcases h with h | h
  .exact .inl h
  .exact .inr h
 .exact .inr V
theorem Fv {l:List AO}:∀{xs acc r:List Int},Au l xs acc = some r->∀x∈acc,x∈r
 | [],acc,r,h,x,hx=>by cases h;exact hx
 | a :: xs,acc,r,h,x,hx=>by
  rw[Bo] at h;cases j:now l a with
  | none=>rw[j] at h;cases h
  | some y=>rw[j] at h;exact Fv (xs:=xs) h x (Xs hx)
theorem GA {l:List AO}:∀{xs acc r:List Int},Au l xs acc = some r->∀a∈xs,∃x,now l a = some x/\(x = 0\/x∈r)
 | [],acc,r,h,a,j=>by cases j
 | b :: xs,acc,r,h,a,j=>by
  rw[Bo] at h;cases A:now l b with
  | none=>rw[A] at h;cases h
  | some y=>
   rw[A] at h;have h:Au l xs (Bq acc y) = some r:=h;rcases du.1 j with rfl | j
   .refine⟨y,A,?_⟩;rcases Ut (had:=acc) (a:=y) with e | e
    .exact .inl e
    .exact .inr (Fv h _ e)
   .exact GA (xs:=xs) h a j
theorem Kw {l:List AO}:∀{n i:Nat} {out r:List Int},BJ l n i out = some r->(∀j (h:j < out.length),j < i->∀t,Av l out[j] = some t->∀a∈t.refs,∃x,now l a = some x/\(x = 0\/x∈r))->
  (∀x∈out,x∈r)/\∀b∈r,∀t,Av l b = some t->∀a∈t.refs,∃x,now l a = some x/\(x = 0\/x∈r)
 | 0,i,out,r,h,_=>by cases h
 | n + 1,i,out,r,h,hj=>by
  by_cases c:i < out.length
  .cases H:Av l out[i] with
   | none=>
    unfold BJ at h;rw[dY c] at h;dsimp only at h;rw[H] at h;cases h
   | some t=>
    rw[C9 c H] at h;cases A:Au l t.refs out with
    | none=>rw[A] at h;cases h
    | some o=>
     rw[A,z_o] at h;have O:∀{R D r:List Int},Au l R D = some r->∃e,r = D ++ e:=by
      intro R;induction R with
      | nil=>intro D r h;cases h;exact⟨[],V⟩
      | cons a R W=>
       intro D r h;rw[Bo] at h;cases A:now l a with
       | none=>rw[A] at h;cases h
       | some y=>
        rw[A] at h;obtain⟨e,he⟩:=W h;unfold Bq at he;split at he
        .exact⟨e,he⟩
        .exact⟨[y] ++ e,by rw[he,dm]⟩
     obtain⟨e,he⟩:=O A;have mono:∀{n i:Nat} {out r:List Int},BJ l n i out = some r->∀x∈out,x∈r:=by
      intro n;induction n with
      | zero=>intro i out r h;cases h
      | succ n W=>
       intro i out r h x K;by_cases c:i < out.length
       .cases H:Av l out[i] with
        | none=>
         unfold BJ at h;rw[dY c] at h;dsimp only at h;rw[H] at h;cases h
        | some t=>
         rw[C9 c H] at h;cases A:Au l t.refs out with
         | none=>rw[A] at h;cases h
         | some o=>rw[A] at h;exact W h x (Fv A x K)
       .rw[CL Z] at h;cases h;exact K
     have hm:=mono h;have:=Kw h λj a1 a0 t' G a Q=>?_
     .exact⟨λx K=>this.1 x (Fv A x K),this.2⟩
     .have N:j < out.length:=Z
      have e1:o[j] = out[j]:=by subst he;rw[gK N]
      rw[e1] at G;by_cases cj:j = i
      .subst cj;rw[H] at G;cases G;obtain⟨x,h1,h2⟩:=GA A a Q;exact⟨x,h1,h2.elim .inl λh=>.inr (hm x h)⟩
      .exact hj j N Z t' G a Q
  .rw[CL Z] at h;cases h;refine⟨λx K=>K,λb hb t H a Q=>?_⟩;obtain⟨j,T,rfl⟩:=eJ hb;exact hj j T Z t H a Q
theorem HpF.closed {s:Aj} {l:List AO} {y:List Int} (H:HpF s l y):(∀a∈Cq s,∃x,now l a = some x/\(x = 0\/x∈y))/\∀b∈y,∀t,Av l b = some t->∀a∈t.refs,∃x,now l a = some x/\(x = 0\/x∈y):=by
 have D:=H.head;unfold C8 at D;simp only[z_b] at D;have A:=H.re;rw[DY D.2] at A;cases G:Au l (Cq s) [] with
 | none=>rw[G] at A;cases A
 | some out=>
  rw[G,z_o] at A;obtain⟨O,Q⟩:=Kw A λj h T=>absurd T Z
  refine⟨λa R=>?_,Q⟩;obtain⟨x,K,N⟩:=GA G a R;exact⟨x,K,N.elim .inl λh=>.inr (O x h)⟩
end Sm
end
section
namespace Go.Lf
open Go Sm
def nmA (l:List AO) (AJ:List Int) (a:Int):Int:=if a = 0 then -1 else Ba AJ ((now l a).getD 0)
section st
variable {R:RM} {s:Sm.Aj} {wv tv mv thv ov pv:Value} {l:List AO} {met:List Int}
theorem Uf {hb mb:Nat} {v:Value} {a x:Int} (y:HpV R s wv tv mv thv ov pv l met hb mb v) (j:now l a = some x):Ro Gs [Pt hb,I a] (I x) R []:=by
 refine JL λF=>?_
 refine z_2 ?_;obtain⟨o,A,D,G,H⟩:=y;unfold now at j;refine jeq (jif (λh=>?_) (λh=>?_))
 .rw[if_pos (by simpa using h)] at j;cases j;exact B9 rfl
 have h:a≠0:=by simpa using h
 rw[if_neg h] at j;refine jnc (jfo (jlr A rfl (@QM _ _ _ mb o l a false (Li.fz D) G (λe=>?_) (λt v e y=>?_))))
 .rw[e] at j;cases j
 .rw[e] at j;obtain⟨rv,nv,rfl,_,_⟩:=y;cases j;exact jfd rfl (B9 rfl)
set_option maxRecDepth 4000 in
theorem JG {hb mb H N:Nat} {v W xv:Value} {AJ xs:List Int} (hv:HpV R s wv tv mv thv ov pv l met hb mb v) (a7:Aw R W AJ) (a6:AJ.length < 1000000) (a0:AJ.Pairwise (· < ·)) (hm:∀x,x∈AJ↔x∈met) (b5:Aw R xv xs) (b3:xs.length < 1000000)
  (hc:∀a∈xs,∃x,now l a = some x/\(x = 0\/x∈met)) (a8:∀t∈l,t.moved≠0) :
  Fn P CD [xv,Pt H,Pt N] R [(H,C 30 [W]),(N,C 98 [Pt hb])]
   (λv R' A=>R' = R/\∃A2,SO (xs.map (nmA l AJ)) v A2/\A = (H,C 30 [W]) :: (N,C 98 [Pt hb]) :: A2):=by
 refine Jo λF=>?_
 refine z_3 ?_;refine jc (Dt b5 b3) ?_;rintro Q R1 A1 _ ⟨hR,D,_⟩;subst hR;obtain⟨ca,cc,a4⟩:=D.sln;refine Ab (λvs R' D'=>R' = R1/\∃A,SO (xs.map (nmA l AJ)) Q A/\D' = (H,C 30 [W]) :: (N,C 98 [Pt hb]) :: (A ++ F)/\vs = [Q]) (λK1 h1=>?_) ?_
 .refine Bl ⟨ca,cc,a4⟩ (Ab (λvs R' D'=>R' = R1/\∃A,SO (xs.map (nmA l AJ)) Q A/\D' = (H,C 30 [W]) :: (N,C 98 [Pt hb]) :: (A ++ F)/\vs = [Q]) (λK2 h2=>?_) ?_);rotate_left
  .rintro e R2 D2 ⟨hR,A,D,hD,he⟩;subst hR;refine z_W ?_;clear hD;exact h1 _ _ _ ⟨rfl,A,D,rfl,rfl⟩
  refine Al [(H,C 30 [W]),(N,C 98 [Pt hb])] (G:=A1 ++ ([] ++ F)) (jlp (λm vs R' D'=>R' = R1/\∃(i:Nat) (A:Chs),i<=xs.length/\m = xs.length - i/\SO ((xs.take i).map (nmA l AJ) ++ xs.drop i) Q A/\D' = (H,C 30 [W]) :: (N,C 98 [Pt hb]) :: (A ++ F)/\vs = [Pt H,Pt N,Q,Q,I xs.length,I i]) ⟨rfl,0,A1,Z,rfl,by simpa using D,rfl,rfl⟩ ?_);clear D;rintro m e R2 D2 K ⟨hR,i,A,hi,b7,D,hD,he⟩ hK;subst hR;refine z_W ?_;clear hD;refine jlt (jif (λj=>?_) (λj=>?_));rotate_left
  .have j:=z_g j;rw[dh Z,dv Z,eh] at D;exact h2 _ _ _ ⟨rfl,A,D,rfl,rfl⟩
  have j:i < xs.length:=by have:=z_f j;omega
  have a2:=dc j;obtain⟨x,hx,b4⟩:=hc _ a2;have hlen:((xs.take i).map (nmA l AJ) ++ xs.drop i).length = xs.length:=by simp;omega
  have a5:((xs.take i).map (nmA l AJ) ++ xs.drop i)[i]'(Z) = xs[i]:=by
   rw[fh (by simp;omega)];simp only[df,dp,gG];congr 1;omega
  have a9:∀y,((xs.take i).map (nmA l AJ) ++ xs.drop i).set i y = (xs.take i).map (nmA l AJ) ++ y :: xs.drop (i + 1):=λy=>by
   rw[fd _ _ (by simp;omega),dq j];simp only[df,dp];rw[show i - min i xs.length = 0 from Z];rfl
  have T:∀(y:Int) (A3:Chs),y = nmA l AJ xs[i]->SO ((xs.take i).map (nmA l AJ) ++ y :: xs.drop (i + 1)) Q A3->SO ((xs.take (i + 1)).map (nmA l AJ) ++ xs.drop (i + 1)) Q A3:=λy A3 hy D=>by
   rw[db j,eS,dm];subst hy;exact D
  refine Ab (λvs R' D'=>R' = R2/\∃A,SO ((xs.take (i + 1)).map (nmA l AJ) ++ xs.drop (i + 1)) Q A/\D' = (H,C 30 [W]) :: (N,C 98 [Pt hb]) :: (A ++ F)/\vs = [Pt H,Pt N,Q,Q,I xs.length,I i]) (λK3 h3=>?_) ?_;rotate_left
  .rintro e R3 D3 ⟨hR,A3,O,hD,he⟩;subst hR;refine z_W ?_;clear hD;exact jad (hK (xs.length - (i + 1)) _ _ _ Z ⟨rfl,i + 1,A3,Z,rfl,O,rfl,rfl⟩)
  refine jcI h3 λK4 h4=>?_
  refine Vc D Z ?_;rw[a5];refine jl rfl (jl rfl (jrp (Uf hv hx) (Ak (jl rfl jev) (jrp (MD x a7 a6 a0) (jex rfl (jex rfl (Al A (G:=(H,C 30 [W]) :: (N,C 98 [Pt hb]) :: F) (Xl D Z λA2 a1=>?_))))))));rw[a9] at a1;refine jeq (jif (λg=>?_) (λg=>?_))
  .have g:xs[i] = 0:=by simpa using g
   have b6:((xs.take i).map (nmA l AJ) ++ (lbI AJ x:Int) :: xs.drop (i + 1)).length = xs.length:=by simp;omega
   refine Xl a1 Z λA3 O=>?_
   rw[fd _ _ (by simp;omega)] at O;simp only[df,dp] at O;rw[show i - min i xs.length = 0 from Z] at O;refine Al [(H,C 30 [W]),(N,C 98 [Pt hb])] (G:=A3 ++ F) (h4 _ _ _ ⟨rfl,A3,T (-1) A3 (by unfold nmA;rw[if_pos g]) O,rfl,rfl⟩)
  .have g:xs[i]≠0:=by simpa using g
   have b0:x≠0:=λe=>by
    subst e;unfold now at hx;rw[if_neg g] at hx;obtain⟨t,ht,e⟩:=fy.1 hx;exact a8 t (BA ht).1 e
   have a3:x∈AJ:=(hm x).2 (b4.resolve_left b0);refine Al [(H,C 30 [W]),(N,C 98 [Pt hb])] (G:=A2 ++ F) (h4 _ _ _ ⟨rfl,A2,T _ A2 (by unfold nmA;rw[if_neg g,hx];exact KF a0 a3) a1,rfl,rfl⟩)
 rintro e R2 D2 ⟨hR,A,D,hD,he⟩;subst hR;refine z_W ?_;clear hD;exact Ao (RM.le.refl _) ⟨rfl,A,D,rfl⟩
end st
end Go.Lf
end
section
namespace Sm
structure PG where
 nodes:List (List Int × List Int)
 AD:List (List Int)
 pinned:List Int
end Sm
namespace Go.Lf
open Go Sm
section rules
variable {R:RM} {D:Chs}
theorem jci {ι:Type} {G:List Nat} {B:(List Value->M)->M} {K:Env->M} (W:ι->List Value) (E:ι->Chs) (p:RM->ι->Prop)
  (H:∀x : List Value->M,(∀j i,p j i->J j (E i) (x (W i)))->J R D (B x)) (N:∀e j i,p j i->G.map e = W i->J j (E i) (K e)):J R D (CUT G B K):=
 Ab (λT j A=>∃i,p j i/\A = E i/\T = W i) (λx h=>H x λ_ i y=>h _ _ _ ⟨i,y,rfl,rfl⟩) λe j A ⟨i,y,O,Q⟩=>by
  rw[O];exact N e j i y Q
theorem jiI {ι:Type} {x:List Nat} {B:(List Value->M)->M} {A:List Value->M} {K:ι->List Value} {E:ι->Chs} {p:RM->ι->Prop} (G:∀j i,p j i->J j (E i) (A (K i)))
  (H:∀y : List Value->M,(∀j i,p j i->J j (E i) (y (K i)))->J R D (B y)):J R D (CUT x B (λe=>A (x.map e))):=jci K E p H λe j i h he=>by rw[he];exact G j i h
theorem jli {ι:Type} {N:List Nat} {B:(List Value->M)->Env->M} {A:List Value} (n:ι->Nat) (a0:ι->List Value) (E:ι->Chs) (p:RM->ι->Prop) (i:ι) (h0:p R i) (hv:A = a0 i) (hD:D = E i)
  (H:∀K e y i,p y i->N.map e = a0 i->(∀j x,n x < n i->p j x->J j (E x) (K (a0 x)))->J y (E i) (B K e)):J R D (LP N B A):=by
 subst hv;refine jlp (λm A y O=>∃i,p y i/\O = E i/\A = a0 i/\m = n i) (n:=n i) ⟨i,h0,hD,rfl,rfl⟩ ?_;rintro m e Q D1 K ⟨i,hp,T,W,h4⟩ hK;rw[T];exact H K e Q i hp W λj x hn G=>hK (n x) _ _ _ Z ⟨x,G,rfl,rfl,rfl⟩
end rules
def NdC (R:RM) (row:List Value) (n:List Int × List Int):Prop:=∃rv nv,row = [rv,nv]/\Aw R rv n.1/\Aw R nv n.2
theorem NdC.le {R j : RM} {row:List Value} {n:List Int × List Int} (h:R.le j) (H:NdC R row n):NdC j row n:=by
 obtain⟨a,b,x,y,A⟩:=H;exact⟨a,b,x,y.le h,A.le h⟩
theorem NdC.len {R:RM} {row:List Value} {n:List Int × List Int} (H:NdC R row n):row.length = 2:=by obtain⟨a,b,rfl,_⟩:=H;rfl
def RwC (R:RM) (row:List Value) (l:List Int):Prop:=∃v,row = [v]/\Aw R v l
theorem RwC.le {R j : RM} {row:List Value} {l:List Int} (h:R.le j) (H:RwC R row l):RwC j row l:=by
 obtain⟨a,x,y⟩:=H;exact⟨a,x,y.le h⟩
theorem RwC.len {R:RM} {row:List Value} {l:List Int} (H:RwC R row l):row.length = 1:=by obtain⟨a,rfl,_⟩:=H;rfl
def GrF (R:RM) (v:Value) (g:PG):Prop:=∃r1 r2 nv rv pv,v = .agg #[nv,rv,pv]/\Rw (NdC R) r1 g.nodes/\Fz R nv 2 r1.length r1.flatten/\Rw (RwC R) r2 g.AD/\Fz R rv 1 r2.length r2.flatten/\Aw R pv g.pinned
theorem GrF.le {R j : RM} {v:Value} {g:PG} (h:R.le j) (H:GrF R v g):GrF j v g:=by
 obtain⟨r1,N,nv,rv,pv,x,y,A,D,G,K⟩:=H;exact⟨r1,N,nv,rv,pv,x,y.mono λ_ _=>NdC.le h,A.le h,D.mono λ_ _=>RwC.le h,G.le h,K.le h⟩
def ndP (l:List AO) (AJ:List Int) (a:Int):List Int × List Int:=match Av l a with
 | some t=>(t.refs.map (nmA l AJ),t.nums)
 | none=>([],[])
def GO (s:Sm.Aj) (l:List AO) (AJ:List Int):PG:=⟨AJ.map (ndP l AJ),s.AB.map λt=>t.AD.map (nmA l AJ),s.AI.map (nmA l AJ)⟩
def Zx (r:Option (List AO × List Int)) (s:Sm.Aj) (v:Value) (R:RM):Prop:=match r with
 | none=>v = .tuple #[.agg #[SN,SN,SN],.bool false]
 | some (l,met)=>∃gv,GrF R gv (GO s l (AN met))/\v = .tuple #[gv,.bool true]
section st
variable {R:RM} {s:Sm.Aj} {wv tv mv thv ov pv:Value} {l:List AO} {met:List Int}
theorem HpV.le {R j : RM} {hb mb:Nat} {v:Value} (h:R.le j) (H:HpV R s wv tv mv thv ov pv l met hb mb v):HpV j s wv tv mv thv ov pv l met hb mb v:=by
 obtain⟨o,x,y,A,D⟩:=H;exact⟨o,h _ _ x,h _ _ y,A.le h,D.le h⟩
theorem Wv {D:Chs} {k:Value->M} {hb mb:Nat} {v:Value} {a:Int} {t:AO} (j:HpV R s wv tv mv thv ov pv l met hb mb v) (O:Av l a = some t) (H:∀A G x y,Aw R (.slice A t.refs.length G) t.refs->Aw R (.slice x t.nums.length y) t.nums->J R D (k (.agg (eTh t (.slice A t.refs.length G) (.slice x t.nums.length y)).toArray))):J R D (X P (Instr.lookup 101 (.map (some mb)) (I a) false) k):=by
 obtain⟨o,W,Q,T,h4⟩:=j;refine @QM _ _ _ mb o l a false (Li.fz Q) T (λe=>?_) (λt' v e j=>?_)
 .rw[O] at e;cases e
 .rw[O] at e;cases e;obtain⟨rv,nv,rfl,K,N⟩:=j;obtain⟨A,G,rfl⟩:=K.sl;obtain⟨x,y,rfl⟩:=N.sl;exact H _ _ _ _ K N
theorem TU {j:List Int} (h:j.Nodup):(AN j).Pairwise (· < ·):=(B8 h).1
theorem SO.frz {l:List Int} {v:Value} {A:Chs} (j:SO l v A):∃a c,v = .slice a l.length c:=by
 obtain⟨a,c,h⟩:=j.sln;exact⟨a,c,h⟩
set_option maxHeartbeats 2000000 in
set_option maxRecDepth 8000 in
theorem HZ (h:SF R s wv tv mv thv ov pv):Fn P Hg [.agg (eSt s wv tv mv thv ov pv).toArray] R [] (λv T A=>A = []/\Zx (Bw s) s v T):=by
 refine MY λF=>?_
 refine z_1 ?_;refine ja λsb=>BE (b:=sb) λR0 c5 b1=>ja λQ=>Da b1 (by exact z_n 13) rfl ?_
 have h:=h.le c5;refine jc (A:=[]) (Ge h) ?_;rintro x R1 _ b0 ⟨rfl,hq⟩;have h:=h.le b0;have b1:=b0 _ _ b1;have b0:=c5.trans b0;clear c5;cases hh:Bw s with
 | none=>
  rw[hh] at hq;obtain rfl:x = _:=hq;refine ja λj=>jS [.pointer none] (jl (v:=.pointer none) rfl (jxr (λw=>U0 w _ _) (DJ ?_)))
  refine jbd (cs:=[SN,SN,SN]) rfl rfl (jS [SN,SN,SN] (jla (l:=[SN,SN,SN]) (dg rfl) rfl ?_));exact Ao (A:=[]) b0 ⟨rfl,rfl⟩
 | some q=>
  obtain⟨l,met⟩:=q;rw[hh] at hq;obtain⟨hb,mb,v,rfl,hv⟩:=hq;have hf:=D0 hh;have h8:=hf.M.len;have h4:=(Hw h hf.ths).1;obtain⟨d3,f6⟩:=hf.closed;have b6:=hf.S.nz;have a6:=TU hf.M.nd;have a2:∀x,x∈AN met↔x∈met:=λx=>(B8 hf.M.nd).2 x
  have i9:(AN met).length = met.length:=by have:=DU met [];simpa [AN] using this
  refine ja λj=>jS [Pt hb] (jl (v:=Pt hb) rfl (jxr (λw=>UK w _ _ hb) (CK (jl (v:=Pt hb) rfl ?_))))
  refine jc (A:=[]) (MG hv hf.M.nd Z) ?_;rintro sv R2 A2 _ ⟨f4,so⟩;subst f4;refine E0 so λR3 b3 hi=>?_
  have h:=h.le b3;have hv:=hv.le b3;have b1:=b3 _ _ b1;have b3:=b0.trans b3;clear b0;obtain⟨sa,sc,rfl⟩:=hi.sl;refine ja λlb=>jS [.slice sa (AN met).length sc] (ja λD=>?_)
  generalize f8:Value.slice sa (AN met).length sc = N at hi ⊢;have g3:∀(T : RM),R3.le T->∃o,T hb = some (C 103 (eHp s wv tv mv thv ov pv mb v))/\T mb = some o/\MpT T o l/\Aw T v met:=λT f3=>hv.le f3
  refine jci (λ_:Value × Chs × List (List Value)=>[Pt sb,Pt Q,.func (.func CD) #[] #[Pt lb,Pt j],Pt D])
   (λi=>(D,C 40 [i.1,SN,SN]) :: (lb,C 30 [N]) :: (j,C 98 [Pt hb]) :: (i.2.1 ++ ((Q,C 40 (cl z40)) :: ([] ++ F))))
   (λT i=>R3.le T/\Rw (NdC T) i.2.2 ((AN met).map (ndP l (AN met)))/\SW 60 2 i.2.2 i.1 i.2.1) (λK1 h1=>?_) ?_
  .refine jl (v:=N) rfl (Bl ⟨sa,sc,f8.symm⟩ ?_);refine jiI h1 λK2 h2=>?_
   refine jli (λi:Nat × Value × Chs × List (List Value)=>(AN met).length - i.1)
    (λi=>[Pt sb,Pt Q,Pt j,.func (.func CD) #[] #[Pt lb,Pt j],Pt D,N,I (AN met).length,I i.1])
    (λi=>(D,C 40 [i.2.1,SN,SN]) :: (lb,C 30 [N]) :: (j,C 98 [Pt hb]) :: (i.2.2.1 ++ ((Q,C 40 (cl z40)) :: ([] ++ F))))
    (λT i=>R3.le T/\i.1<=(AN met).length/\Rw (NdC T) i.2.2.2 (((AN met).take i.1).map (ndP l (AN met)))/\SW 60 2 i.2.2.2 i.2.1 i.2.2.1)
    (0,SN,[],[]) ⟨RM.le.refl _,V,Rw.nil,.inl ⟨rfl,rfl,rfl⟩⟩ rfl rfl ?_
   rintro K e R4 ⟨k,nv,A1,rows⟩ ⟨a5,c7,O,so⟩ he hK;dsimp only at c7 O so he hK ⊢;refine z_V ?_;have b9:=hi.le a5;have a9:=hv.le a5;obtain⟨o,g1,-,-,-⟩:=g3 R4 a5;refine jlt (jif (λc=>?_) (λc=>?_));rotate_left
   .have c:=z_g c;rw[dh Z] at O;exact h2 R4 (nv,A1,rows) ⟨a5,O,so⟩
   have c:k < (AN met).length:=by have:=z_f c;omega
   refine jci (λ_:Value × Chs × List (List Value)=>[Pt sb,Pt Q,Pt j,.func (.func CD) #[] #[Pt lb,Pt j],Pt D,N,I (AN met).length,I k])
    (λi=>(D,C 40 [i.1,SN,SN]) :: (lb,C 30 [N]) :: (j,C 98 [Pt hb]) :: (i.2.1 ++ ((Q,C 40 (cl z40)) :: ([] ++ F))))
    (λT i=>R3.le T/\Rw (NdC T) i.2.2 (((AN met).take (k + 1)).map (ndP l (AN met)))/\SW 60 2 i.2.2 i.1 i.2.1) (λK7 h7=>?_) ?_
   rotate_left
   .rintro e T i ⟨p1,p2,p3⟩ he;refine z_V ?_;exact jad (hK T (k + 1,i) (by dsimp only;omega) ⟨p1,c,p2,p3⟩)
   refine jiI h7 λK9 h9=>?_
   clear h7 hK h2 h1;have d2:(AN met)[k]∈met:=(a2 _).1 (dc c);obtain⟨t,ht⟩:=hf.M.th _ d2;have j0:=(Hw h hf.ths).2 t (BA ht).1;have c4:∀(xv cv:Value) (A6 A7:Chs),SO (t.refs.map (nmA l (AN met))) xv A6->SO t.nums cv A7->
     J R4 ((D,C 40 [nv,SN,SN]) :: (lb,C 30 [N]) :: (j,C 98 [Pt hb]) :: (A7 ++ (A6 ++ (A1 ++ ((Q,C 40 (cl z40)) :: ([] ++ F))))))
      (BD (cl z60) [(0,1,xv),(1,1,cv)] λg6=>AND (L1 (Pt D) λx=>EV x nv)<|BS 60 1 (ZR 1 z60) [(0,2,g6)] λg7=>AND (L1 (Pt D) λx=>EV x nv)<|AP 60 2 48 (cl z60) nv g7 λg8=>FO 0 (Pt D) λh3=>ST 1 h3 g8<|K9 [Pt sb,Pt Q,Pt j,.func (.func CD) #[] #[Pt lb,Pt j],Pt D,N,I (AN met).length,I k]):=by
    intro xv cv A6 A7 a1 b2;refine Al A7 (G:=(D,C 40 [nv,SN,SN]) :: (lb,C 30 [N]) :: (j,C 98 [Pt hb]) :: (A6 ++ (A1 ++ ((Q,C 40 (cl z40)) :: ([] ++ F))))) (E0 b2 λR5 y e2=>Al A6 (G:=(D,C 40 [nv,SN,SN]) :: (lb,C 30 [N]) :: (j,C 98 [Pt hb]) :: (A1 ++ ((Q,C 40 (cl z40)) :: ([] ++ F)))) (E0 a1 λR6 a3 e1=>?_));obtain⟨xa,xc,rfl⟩:=e1.sl;obtain⟨ca,cc,rfl⟩:=e2.sl;refine jbd (cs:=[.slice xa (t.refs.map (nmA l (AN met))).length xc,.slice ca t.nums.length cc]) rfl rfl (Ak (jl (v:=nv) rfl jev) (jbs (cs:=[.slice xa (t.refs.map (nmA l (AN met))).length xc,.slice ca t.nums.length cc]) rfl rfl λbb=>Ak (jl (v:=nv) rfl jev) ?_));have c8:=O.1;rw[df,dp] at c8;refine Qk [[.slice xa (t.refs.map (nmA l (AN met))).length xc,.slice ca t.nums.length cc]] so rfl (O.all λ_ _=>NdC.len) (by intro r hr;rw[dz.1 hr];rfl) rfl rfl rfl δ (by simp only[dl,fP];omega) λv' A' b7=>?_
    obtain⟨va,vc,c9⟩:=b7.sl;subst c9;refine jfo (jS ([.slice va (rows ++ [[Value.slice xa (t.refs.map (nmA l (AN met))).length xc,.slice ca t.nums.length cc]]).length vc,SN,SN]) ?_);refine Al [(D,C 40 [.slice va (rows ++ [[Value.slice xa (t.refs.map (nmA l (AN met))).length xc,.slice ca t.nums.length cc]]).length vc,SN,SN]),(lb,C 30 [N]),(j,C 98 [Pt hb])] (G:=A' ++ ((Q,C 40 (cl z40)) :: ([] ++ F))) ?_;refine h9 R6 (_,A',rows ++ [[Value.slice xa (t.refs.map (nmA l (AN met))).length xc,.slice ca t.nums.length cc]]) ⟨a5.trans (y.trans a3),?_,b7⟩;rw[db c,eS];refine (O.mono λ_ _=>NdC.le (y.trans a3)).app (Rw.one ⟨_,_,rfl,?_,?_⟩)
    .unfold ndP;rw[ht];exact e1
    .unfold ndP;rw[ht];exact e2.le a3
   have c6:=f6 _ d2 t ht;refine C5 b9 Z Z ?_;simp only[da];refine jfo (jl (v:=nv) rfl (jl (v:=Pt hb) rfl (jnc (jfo (jlr (v:=.map (some mb)) g1 rfl (jl (v:=Pt hb) rfl (jnc (jfo (jlr (v:=.map (some mb)) g1 rfl ?_)))))))));refine Eg ?_ (Dj ?_)
   .refine Wv a9 ht λra rc na nc hr hn=>jfd (v:=.slice ra t.refs.length rc) rfl (Ak (jl (v:=nv) rfl jev) (Ak (jl (v:=Pt hb) rfl jev) (Ak (jlr (v:=.map (some mb)) g1 rfl jev) (Eg ?_ (Dj ?_)))))
    .refine H8 (by kernel_rfl) ?_;refine jc (A:=[(lb,C 30 [N]),(j,C 98 [Pt hb])]) (JG a9 b9 Z a6 a2 hr Z c6 b6) ?_;rintro xv R5 A5 _ ⟨y,A6,a1,hA⟩;subst y hA;refine Ak (jl (v:=nv) rfl jev) (Ak (jl (v:=Pt hb) rfl jev) (Ak (jlr (v:=.map (some mb)) g1 rfl jev) ?_));refine Wv a9 ht λra rc na nc hr hn=>jfd (v:=.slice na t.nums.length nc) rfl (Ak (jl (v:=nv) rfl jev) ?_)
     refine jc (A:=[]) (Dt hn Z) ?_;rintro cv R7 A7 _ ⟨H,b2,_⟩;subst H;refine Al [(D,C 40 [nv,SN,SN]),(lb,C 30 [N]),(j,C 98 [Pt hb])] (G:=A7 ++ (A6 ++ (A1 ++ ((Q,C 40 (cl z40)) :: ([] ++ F))))) ?_;exact c4 xv cv A6 A7 a1 b2
    .refine Wv a9 ht λf1 f2 e9 f0 e6 e5=>jfd (v:=.slice e9 t.nums.length f0) rfl (Ak (jl (v:=nv) rfl jev) ?_)
     refine H8 (by kernel_rfl) ?_;refine jc (A:=[(lb,C 30 [N]),(j,C 98 [Pt hb])]) (JG a9 b9 Z a6 a2 hr Z c6 b6) ?_;rintro xv R5 A5 _ ⟨y,A6,a1,hA⟩;subst y hA;refine Ak (jl (v:=nv) rfl jev) ?_;refine jc (A:=[]) (Dt e5 Z) ?_;rintro cv R7 A7 _ ⟨H,b2,_⟩;subst H;refine Al [(D,C 40 [nv,SN,SN]),(lb,C 30 [N]),(j,C 98 [Pt hb])] (G:=A7 ++ (A6 ++ (A1 ++ ((Q,C 40 (cl z40)) :: ([] ++ F))))) ?_;exact c4 xv cv A6 A7 a1 b2
   .refine Wv a9 ht λra rc na nc hr hn=>jfd (v:=.slice na t.nums.length nc) rfl (Ak (jl (v:=nv) rfl jev) (Ak (jl (v:=Pt hb) rfl jev) (Ak (jlr (v:=.map (some mb)) g1 rfl jev) ?_)))
    refine Wv a9 ht λf1 f2 e9 f0 e6 e5=>jfd (v:=.slice f1 t.refs.length f2) rfl (Ak (jl (v:=nv) rfl jev) ?_)
    refine H8 (by kernel_rfl) ?_;refine jc (A:=[(lb,C 30 [N]),(j,C 98 [Pt hb])]) (JG a9 b9 Z a6 a2 e6 Z c6 b6) ?_;rintro xv R5 A5 _ ⟨y,A6,a1,hA⟩;subst y hA;refine Ak (jl (v:=nv) rfl jev) ?_;refine jc (A:=[]) (Dt hn Z) ?_;rintro cv R7 A7 _ ⟨H,b2,_⟩;subst H;refine Al [(D,C 40 [nv,SN,SN]),(lb,C 30 [N]),(j,C 98 [Pt hb])] (G:=A7 ++ (A6 ++ (A1 ++ ((Q,C 40 (cl z40)) :: ([] ++ F))))) ?_;exact c4 xv cv A6 A7 a1 b2
  rintro e R4 ⟨nv,A1,W⟩ ⟨a5,a7,c0⟩ he;dsimp only at a7 c0 ⊢;refine z_V ?_;obtain⟨na,nc,g2⟩:=c0.sl;refine Al A1 (G:=(D,C 40 [nv,SN,SN]) :: (lb,C 30 [N]) :: (j,C 98 [Pt hb]) :: (Q,C 40 (cl z40)) :: ([] ++ F)) ?_;refine jfw c0 (a7.all λ_ _=>NdC.len) λR5 y hfz=>?_
  have a7:=a7.mono λ_ _=>NdC.le y
  have y:=a5.trans y;clear a5 c0;refine jci (λ_:Value × Chs × List (List Value)=>[Pt sb,Pt Q,.func (.func CD) #[] #[Pt lb,Pt j],Pt D])
   (λi=>(D,C 40 [nv,i.1,SN]) :: (lb,C 30 [N]) :: (j,C 98 [Pt hb]) :: (i.2.1 ++ ((Q,C 40 (cl z40)) :: ([] ++ F))))
   (λT i=>R5.le T/\Rw (RwC T) i.2.2 (s.AB.map λt=>t.AD.map (nmA l (AN met)))/\SW 30 1 i.2.2 i.1 i.2.1) (λK1 h1=>?_) ?_
  .have h5:=h.le y;obtain⟨ta,tc,g5⟩:=h5.c.th.sl;refine jfo (jlr (v:=thv) (y _ _ b1) rfl (Bl ⟨ta,tc,g5⟩ ?_));refine jiI h1 λK2 h2=>?_
   refine jli (λi:Nat × Value × Chs × List (List Value)=>s.AB.length - i.1)
    (λi=>[Pt sb,Pt Q,.func (.func CD) #[] #[Pt lb,Pt j],Pt D,thv,I s.AB.length,I i.1])
    (λi=>(D,C 40 [nv,i.2.1,SN]) :: (lb,C 30 [N]) :: (j,C 98 [Pt hb]) :: (i.2.2.1 ++ ((Q,C 40 (cl z40)) :: ([] ++ F))))
    (λT i=>R5.le T/\i.1<=s.AB.length/\Rw (RwC T) i.2.2.2 ((s.AB.take i.1).map λt=>t.AD.map (nmA l (AN met)))/\SW 30 1 i.2.2.2 i.2.1 i.2.2.1)
    (0,SN,[],[]) ⟨RM.le.refl _,V,Rw.nil,.inl ⟨rfl,rfl,rfl⟩⟩ rfl rfl ?_
   rintro K e R6 ⟨k,rv,A2,rows⟩ ⟨a3,c7,O,so⟩ he hK;dsimp only at c7 O so he hK ⊢;refine z_V ?_;have b4:=y.trans a3;have h6:=h.le b4;refine jlt (jif (λc=>?_) (λc=>?_));rotate_left
   .have c:=z_g c;rw[dh Z] at O;exact h2 R6 (rv,A2,rows) ⟨a3,O,so⟩
   have c:k < s.AB.length:=by have:=z_f c;omega
   have j1:=h.b.rl _ (dc c);have i4:=h.b.n1;refine jtr h6.c.th c λb o ty cs j2 e8 f5 ho e7=>Da f5 ho e7 (ja λjb=>?_)
   obtain⟨ra,rc,rfl⟩:=e8.sl;refine jS ([.slice ra (s.AB[k]).AD.length rc,I (s.AB[k]).next,.bool (s.AB[k]).busy,I (s.AB[k]).Aq]) ?_;refine jfo (jl (v:=rv) rfl (jfo (jl (v:=.slice ra (s.AB[k]).AD.length rc) rfl ?_)));refine H8 (by kernel_rfl) ?_;refine jc (A:=[(lb,C 30 [N]),(j,C 98 [Pt hb])]) (JG (hv.le b4) (hi.le b4) Z a6 a2 e8 Z (λa ha=>d3 a (eT _ (gW.2 ⟨_,dc c,ha⟩))) b6) ?_;rintro xv R7 A5 _ ⟨H,A6,a1,hA⟩;subst H hA;refine Al [(jb,C 117 [.slice ra (s.AB[k]).AD.length rc,I (s.AB[k]).next,.bool (s.AB[k]).busy,I (s.AB[k]).Aq]),(D,C 40 [nv,rv,SN]),(lb,C 30 [N]),(j,C 98 [Pt hb])] (G:=A6 ++ (A2 ++ ((Q,C 40 (cl z40)) :: ([] ++ F)))) (BT (BC (D':=(D,C 40 [nv,rv,SN]) :: (lb,C 30 [N]) :: (j,C 98 [Pt hb]) :: (A6 ++ (A2 ++ ((Q,C 40 (cl z40)) :: ([] ++ F))))) (f9 _) ?_));refine Al A6 (G:=(D,C 40 [nv,rv,SN]) :: (lb,C 30 [N]) :: (j,C 98 [Pt hb]) :: (A2 ++ ((Q,C 40 (cl z40)) :: ([] ++ F)))) ?_;refine E0 a1 λR8 b8 e3=>?_
   obtain⟨xa,xc,rfl⟩:=e3.sl;refine Ak (jl (v:=rv) rfl jev) (jbs (cs:=[.slice xa ((s.AB[k]).AD.map (nmA l (AN met))).length xc]) rfl rfl λbb=>Ak (jl (v:=rv) rfl jev) ?_);have c8:=O.1;rw[df,dp] at c8;refine Qk [[.slice xa ((s.AB[k]).AD.map (nmA l (AN met))).length xc]] so rfl (O.all λ_ _=>RwC.len) (by intro r hr;rw[dz.1 hr];rfl) rfl rfl rfl δ (by simp only[dl,fP];omega) λv' A' b7=>?_
   obtain⟨va,vc,c9⟩:=b7.sl;subst c9;refine jfo (jS ([nv,.slice va (rows ++ [[Value.slice xa ((s.AB[k]).AD.map (nmA l (AN met))).length xc]]).length vc,SN]) (jad ?_));refine Al [(D,C 40 [nv,.slice va (rows ++ [[Value.slice xa ((s.AB[k]).AD.map (nmA l (AN met))).length xc]]).length vc,SN]),(lb,C 30 [N]),(j,C 98 [Pt hb])] (G:=A' ++ ((Q,C 40 (cl z40)) :: ([] ++ F))) ?_;refine hK R8 (k + 1,_,A',rows ++ [[Value.slice xa ((s.AB[k]).AD.map (nmA l (AN met))).length xc]]) (by dsimp only;omega) ⟨a3.trans b8,c,?_,b7⟩;rw[db c,eS];exact (O.mono λ_ _=>RwC.le b8).app (Rw.one ⟨_,rfl,e3⟩)
  rintro e R6 ⟨rv,A2,a0⟩ ⟨a3,a8,d1⟩ he;dsimp only at a8 d1 ⊢;refine z_V ?_;obtain⟨ra,rc,g4⟩:=d1.sl;refine Al A2 (G:=(D,C 40 [nv,rv,SN]) :: (lb,C 30 [N]) :: (j,C 98 [Pt hb]) :: (Q,C 40 (cl z40)) :: ([] ++ F)) ?_;refine jfw d1 (a8.all λ_ _=>RwC.len) λR7 H d4=>?_
  have a8:=a8.mono λ_ _=>RwC.le H
  have H:=a3.trans H;have a4:=y.trans H;have h7:=h.le a4;have i8:=h.b.pl;obtain⟨pa,pc,rfl⟩:=h7.c.p.sl;refine jfo (jlr (v:=.slice pa s.AI.length pc) (a4 _ _ b1) rfl ?_);refine H8 (by kernel_rfl) ?_;refine jc (A:=[(lb,C 30 [N]),(j,C 98 [Pt hb])]) (JG (hv.le a4) (hi.le a4) Z a6 a2 h7.c.p Z (λa ha=>d3 a (eu _ ha)) b6) ?_;rintro xv R8 A5 _ ⟨b8,A6,a1,hA⟩;subst b8 hA;refine Al [(D,C 40 [nv,rv,SN]),(Q,C 40 (cl z40)),(lb,C 30 [N]),(j,C 98 [Pt hb])] (G:=A6 ++ ([] ++ F)) ?_;refine Al A6 (G:=[(D,C 40 [nv,rv,SN]),(Q,C 40 (cl z40)),(lb,C 30 [N]),(j,C 98 [Pt hb])] ++ ([] ++ F)) ?_;refine E0 a1 λR9 b5 e4=>?_
  obtain⟨xa,xc,rfl⟩:=e4.sl;subst g2 g4;refine jfo (jS [.slice na W.length nc,.slice ra a0.length rc,.slice xa (s.AI.map (nmA l (AN met))).length xc] ?_);refine jla (l:=[.slice na W.length nc,.slice ra a0.length rc,.slice xa (s.AI.map (nmA l (AN met))).length xc]) (dg rfl) rfl ?_;refine jS [.slice na W.length nc,.slice ra a0.length rc,.slice xa (s.AI.map (nmA l (AN met))).length xc] ?_;refine jla (l:=[.slice na W.length nc,.slice ra a0.length rc,.slice xa (s.AI.map (nmA l (AN met))).length xc]) (dg rfl) rfl ?_;refine Ao (A:=[]) (b3.trans (a4.trans b5)) ⟨rfl,_,⟨W,a0,_,_,_,rfl,a7.mono λ_ _=>NdC.le (H.trans b5),hfz.le (H.trans b5),a8.mono λ_ _=>RwC.le b5,d4.le b5,e4⟩,rfl⟩
end st
end Go.Lf
end
section
namespace Sm
open Go.Lf
theorem HW {l:List AO} {q:Int->Prop} (D:∀x y,now l x = some y->y = 0\/q y):∀{xs acc r:List Int},(∀a∈acc,q a)->Au l xs acc = some r->∀a∈r,q a
 | [],acc,r,h0,h=>by cases h;exact h0
 | b :: xs,acc,r,h0,h=>by
  rw[Bo] at h;cases A:now l b with
  | none=>rw[A] at h;cases h
  | some y=>
   rw[A] at h;refine HW D (λa j=>?_) h;unfold Bq at j;split at j
   .exact h0 a j
   .rename_i c;rcases eI.1 j with j | j
    .exact h0 a j
    .rw[dz.1 j];exact (D _ _ A).resolve_left λe=>c (.inl e)
theorem OS {l:List AO} {q:Int->Prop} (A:∀x y,now l x = some y->y = 0\/q y):∀{n i:Nat} {out r:List Int},(∀a∈out,q a)->BJ l n i out = some r->∀a∈r,q a
 | 0,i,out,r,h0,h=>by cases h
 | n + 1,i,out,r,h0,h=>by
  by_cases c:i < out.length
  .cases D:Av l out[i] with
   | none=>
    unfold BJ at h;rw[dY c] at h;dsimp only at h;rw[D] at h;cases h
   | some t=>
    rw[C9 c D] at h;cases j:Au l t.refs out with
    | none=>rw[j] at h;cases h
    | some o=>rw[j] at h;exact OS A (HW A h0 j) h
  .rw[CL Z] at h;cases h;exact h0
theorem HpF.nw {s:Aj} {l:List AO} {D:List Int} (H:HpF s l D):∀a∈D,∀t,Av l a = some t->t.moved = a:=by
 have G:=H.head;unfold C8 at G;simp only[z_b] at G;have F7:=G.1.1.1.1.1.1.1;unfold CU at F7;rw[eG] at F7;have Q:∀x y,now l x = some y->y = 0\/∀t,Av l y = some t->t.moved = y:=λx y h=>by
  unfold now at h;split at h
  .cases h;exact .inl rfl
  .obtain⟨t,R,rfl⟩:=fy.1 h;refine .inr λn j=>?_
   obtain⟨O,_⟩:=BA R;have:=F7 t O;unfold CN at this;rw[j] at this;simp only[eN,z_b,beq_iff_eq] at this;have K:=(BA j).2;rcases this with e | e
   .have N:=Dp H.S.nd O;rw[<- e,j] at N;cases N;rfl
   .rw[e.1.1.2,K]
 have A:=H.re;rw[DY G.2] at A;cases j:Au l (Cq s) [] with
 | none=>rw[j] at A;cases A
 | some out=>
  rw[j,z_o] at A;exact OS Q (HW Q (λa h=>by cases h) j) A
theorem HpF.tp {s:Aj} {l:List AO} {x:List Int} (A:HpF s l x):∀t∈l,∃k:Nat,∃h:k < s.AA.length,AM t.at_ = k/\t.at_ + AH t.sh<=(s.AA[k]).top:=by
 intro t G;have j:=A.ths;unfold Ei at j;split at j;rotate_left
 .cases j
 unfold BK at j;obtain⟨H,K,N,k,D,O,y,Q⟩:=(FK j).2 t G;rw[fZ] at D;refine⟨k + 1,Z,?_,?_⟩
 .unfold AM;rw[if_neg Z];omega
 .rw[List.getElem_tail] at y;exact y
end Sm
namespace Go.Lf
open Go Sm
end Go.Lf
end
section
namespace Sm
open Go.Lf
theorem Lm {w:List Int}:∀{n:Nat} {a top:Int} {l:List AO},Am w n a top = some l->a<=top->(a = top\/∃y∈l,y.at_ = a)/\∀x∈l,x.at_ + AH x.sh = top\/∃y∈l,y.at_ = x.at_ + AH x.sh
 | 0,a,top,l,h,hle=>by
  unfold Am at h;split at h
  .cases h
  .cases h;exact⟨.inl Z,λt A=>by cases A⟩
 | n + 1,a,top,l,h,hle=>by
  unfold Am at h;split at h;rotate_left
  .cases h;exact⟨.inl Z,λt A=>by cases A⟩
  dsimp only at h;split at h;rotate_left
  .cases h
  rename_i D j;simp only[z_b,z_d] at j;have H:(Ap w a).1.at_ = a:=by
   have:=j.1;unfold Ap at this ⊢;split at this
   .rename_i c1;rw[if_pos c1];dsimp only at this ⊢;split at this
    .rename_i c2;rw[if_pos c2]
    .cases this
   .cases this
  cases A:Am w n (a + AH (Ap w a).1.sh) top with
  | none=>rw[A] at h;cases h
  | some K=>
   rw[A] at h;cases h;obtain⟨i1,i2⟩:=Lm A j.2;refine⟨.inr ⟨_,gV,H⟩,λx G=>?_⟩;rcases du.1 G with rfl | G
   .rw[H];exact i1.imp id λ⟨y,D,j⟩=>⟨y,eD _ D,j⟩
   .exact (i2 x G).imp id λ⟨y,D,j⟩=>⟨y,eD _ D,j⟩
theorem OD {w:List Int}:∀{t:List Rg} {r:Nat} {l:List AO},BU w r t = some l->(∀x∈l,(∃k:Nat,∃h:k < t.length,x.at_ / 16 = r + k/\x.at_ + AH x.sh = (t[k]).top)\/∃y∈l,y.at_ = x.at_ + AH x.sh)/\∀(k:Nat) (h:k < t.length),(t[k]).top = 16 * (r + k)\/∃y∈l,y.at_ = 16 * (r + k)
 | [],r,l,h=>by cases h;exact⟨λt T=>(by cases T),λk h=>absurd h V⟩
 | x :: t,r,l,h=>by
  unfold BU at h;cases j:BP w r x.top with
  | none=>rw[j] at h;cases h
  | some a=>
   rw[j] at h;dsimp only at h;cases H:BU w (r + 1) t with
   | none=>rw[H] at h;cases h
   | some b=>
    rw[H] at h;cases h;obtain⟨W,j2⟩:=OD H;have R:=Pq j;unfold BP at j;split at j;rotate_left
    .cases j
    rename_i c;simp only[z_b,z_d] at c;obtain⟨⟨⟨⟨c1,c2⟩,c3⟩,K⟩,O⟩:=c;have:(r:Int) < 12:=by
     unfold BM at c1;simp only[z_b,z_d] at c1;omega
    have hb:=Br Z this;rw[hb] at j K O;obtain⟨i1,i2⟩:=Lm j K;refine⟨λy D=>?_,λk N=>?_⟩
    .rcases eI.1 D with D | D
     .rcases i2 y D with e | ⟨z,A,G⟩
      .have:=R.2 y D;exact .inl ⟨0,V,Z,by simpa using e⟩
      .exact .inr ⟨z,eT _ A,G⟩
     .rcases W y D with ⟨k,N,e1,Q⟩ | ⟨z,A,G⟩
      .exact .inl ⟨k + 1,by simp;omega,Z,by simpa using Q⟩
      .exact .inr ⟨z,eu _ A,G⟩
    .cases k with
     | zero=>
      rcases i1 with e | ⟨z,A,G⟩
      .exact .inl (by simp only[List.getElem_cons_zero];omega)
      .exact .inr ⟨z,eT _ A,Z⟩
     | succ k=>
      rcases j2 k (by simpa using N) with e | ⟨z,A,G⟩
      .exact .inl (by simp only[gq];omega)
      .exact .inr ⟨z,eu _ A,Z⟩
theorem L3 {w:List Int} {x:AO} (h:Ap w x.at_ = (x,true)):AH x.sh = sz w x.at_/\(AT (wv w (x.at_ + 1))).2 = true/\x = thg w x.at_:=by
 have h0:16<=x.at_:=by
  unfold Ap at h;split at h
  .rename_i c;exact (FH c).1
  .cases h
 have e:wv w (x.at_ + 1) = w.getD (x.at_.toNat + 1) 0:=by
  unfold wv gv;rw[show (x.at_ + 1).toNat = x.at_.toNat + 1 from Z]
 unfold Ap at h;split at h;rotate_left
 .cases h
 dsimp only at h;split at h;rotate_left
 .cases h
 rename_i c1 c2;rw[z_b] at c2;have j:=congrArg Prod.fst h;dsimp only at j;have y:x.sh = shp w x.at_:=by rw[<- j];unfold shp;rw[e]
 refine⟨by unfold sz;rw[y],by rw[e];exact c2.1,?_⟩;rw[<- j];unfold thg shp;simp only[e];rfl
def bgs (l:List AO) (a:Int):Prop:=∃t∈l,t.at_ = a
theorem EU {s:Aj} {l:List AO} (h:Ei s = some l):Geo s.AC s.AA (bgs l)/\Thn s.AC (bgs l) l/\BK s = some l:=by
 unfold Ei at h;split at h;rotate_left
 .cases h
 rename_i R;unfold EO at R;simp only[z_b,beq_iff_eq] at R;obtain⟨⟨⟨f1,f2⟩,f3⟩,f4⟩:=R;have T:=Bj.1 f2;have a0:=h;unfold BK at h;obtain⟨N,G⟩:=FK h;obtain⟨c1,c2⟩:=OD h;have n0:=T.n0;unfold BM at f1;simp only[z_b,z_d,beq_iff_eq] at f1;have H:∀(k:Nat) (D:k < s.AA.tail.length),rv s.AA (1 + (k:Int)) = s.AA.tail[k]:=λk D=>by
  have:=JS D;rw[this];congr 1
 have hnd:=MO N λx A=>(G x A).2.1
 refine⟨⟨Z,T,?_,?_,?_,?_⟩,⟨λx A=>⟨⟨x,A,rfl⟩,(L3 (G x A).2.2.1).2.2⟩,?_⟩,a0⟩
 .rintro a ⟨x,A,rfl⟩;obtain⟨g1,g2,g3,k,D,O,Q,g6⟩:=G x A;obtain⟨K,e2,_⟩:=L3 g3;refine⟨Z,?_,e2⟩;rw[<- K,O,show ((1:Nat):Int) + k = 1 + (k:Int) from rfl,H k D];exact Q
 .rintro a ⟨x,A,rfl⟩;obtain⟨K,_,_⟩:=L3 (G x A).2.2.1;rw[<- K];rcases c1 x A with ⟨k,D,O,Q⟩ | ⟨y,y1,y2⟩
  .left;rw[O,show ((1:Nat):Int) + k = 1 + (k:Int) from rfl,H k D];exact Q
  .exact .inr ⟨y,y1,y2⟩
 .intro r r0 r1;obtain⟨k,rfl⟩:∃k:Nat,r = 1 + (k:Int):=⟨(r - 1).toNat,Z⟩;have D:k < s.AA.tail.length:=by rw[fZ];omega
  rw[H k D];rcases c2 k D with e | ⟨y,y1,y2⟩
  .exact .inl Z
  .exact .inr ⟨y,y1,Z⟩
 .rintro a b ⟨x,A,rfl⟩ ⟨y,hy,rfl⟩ a3;obtain⟨K,_,_⟩:=L3 (G x A).2.2.1;rw[<- K];obtain⟨i,hi,rfl⟩:=eJ A;obtain⟨j,W,rfl⟩:=eJ hy;rw[gS] at N;by_cases c:i < j
  .exact N i j hi W c
  .by_cases c' : i = j
   .subst c';omega
   .have:=N j i W hi Z;have:=(G _ (dc W)).2.1;omega
 .rintro a ⟨x,A,rfl⟩;rw[<- (L3 (G x A).2.2.1).2.2];exact A
end Sm
end
section
namespace Go.Lf
open Go Sm
def EY:Nat->List Th->Int
 | _,[]=>-1
 | i,t :: r=>if t.busy = true then i else EY (i + 1) r
theorem Nj {i:Nat} {t:Th} {r:List Th}:EY i (t :: r) = if t.busy = true then (i:Int) else EY (i + 1) r:=rfl
theorem JC:∀(l:List Th) (i:Nat),decide (EY i l>=0) = l.any (·.busy)
 | [],i=>by simp[EY]
 | t :: r,i=>by
  unfold EY;cases h:t.busy with
  | true=>simp[h]
  | false=>simp only[List.any_cons,h,fH];exact JC r (i + 1)
section
variable {R:RM} {D:Chs}
theorem XN {x:Value} {n t:Int} {b:Bool} (A:flat x = true) (j:cl x = [x]):Ro Eu [.agg #[x,I n,.bool b,I t]] (.bool b) R D:=by
 refine Rf λF=>?_
 refine z_1 ?_;exact ja λy=>jfo (jl rfl (BT (B9 rfl)))
theorem Vn {v:Value} {l:List Th} (h:Ths R v l) (hl:l.length < 1000000):Ro Ea [v,.func (.func Eu) #[] #[]] (I (EY 0 l)) R D:=by
 refine Gf λF=>?_
 refine z_2 ?_;obtain⟨a,c,O⟩:=h.sl;refine Bl ⟨a,c,O⟩ (jli (λi:Nat=>l.length - i) (λi=>[v,.func (.func Eu) #[] #[],I l.length,I i]) (λ_=>D ++ F) (λy i=>y = R/\i<=l.length/\EY 0 l = EY i (l.drop i)) 0 ⟨rfl,Z,by rw[fk]⟩ rfl rfl ?_);rintro K e y i ⟨H,T,j⟩ he G;subst H;refine z_V ?_;refine jlt (jif (λc=>?_) (λc=>?_));rotate_left
 .have c:=z_g c;refine B9 ?_;rw[j,dv Z];rfl
 have c:i < l.length:=by have:=z_f c;omega
 refine jtr h c λb o ty Q rv A hb N x=>Da hb N x ?_
 obtain⟨W,rc,rfl⟩:=A.sl;refine H8 (by kernel_rfl) (jro (XN rfl rfl) ?_);rw[dq c,Nj] at j;refine jif (λg=>?_) (λg=>?_)
 .rw[if_pos g] at j;exact B9 (by rw[j])
 .rw[if_neg (by rw[g];decide)] at j;exact jad (G y (i + 1) Z ⟨rfl,Z,j⟩)
theorem Uv {v:Value} {l:List Th} (h:Ths R v l) (hl:l.length < 1000000):Ro E9 [v,.func (.func Eu) #[] #[]] (.bool (l.any (·.busy))) R D:=by
 refine Fk λF=>?_
 refine z_2 ?_;refine jro (Vn h hl) (jge ?_);rw[JC];exact B9 rfl
end
def EM (s:Sm.Aj):Option (List AO × List Int):=if s.AB.any (·.busy) then none else Bw s
section st
variable {R:RM} {s:Sm.Aj} {wv tv mv thv ov pv:Value}
def Oq (r:Option (List AO × List Int)) (s:Sm.Aj) (wv tv mv thv ov pv:Value) (x:Value) (R:RM):Prop:=match r with
 | none=>x = .pointer none
 | some (l,met)=>∃hb mb v,x = Pt hb/\HpV R s wv tv mv thv ov pv l met hb mb v
set_option maxRecDepth 4000 in
theorem Va (h:SF R s wv tv mv thv ov pv):Fn P OX [.agg (eSt s wv tv mv thv ov pv).toArray] R [] (λr N A=>A = []/\Oq (EM s) s wv tv mv thv ov pv r N):=by
 refine Vb λF=>?_
 refine z_1 ?_;refine ja λsb=>BE λR0 O G=>Da G (by exact z_n 13) rfl ?_
 have h:=h.le O;refine jc (Ge h) ?_;rintro x R1 _ D ⟨rfl,K⟩;have h:=h.le D;have G:=D _ _ G;have D:=O.trans D;have fu:=h.b.fu;have n1:=h.b.n1;have W:∀(t:Bool),(t = true->EM s = none)->(t = false->Oq (EM s) s wv tv mv thv ov pv x R1)->J R1 ([] ++ F) (IF (.bool t) (Fj R F (λr N A=>A = []/\Oq (EM s) s wv tv mv thv ov pv r N) (.pointer none)) (Fj R F (λr N A=>A = []/\Oq (EM s) s wv tv mv thv ov pv r N) x)):=λt g1 g2=>by
  refine jif (λg=>Ao D ⟨rfl,?_⟩) (λg=>Ao D ⟨rfl,g2 g⟩);rw[g1 g];rfl
 obtain⟨H,Q,hx⟩:∃H:Bool,(H = (Bw s).isNone)/\∀(y z:Operand) (w:World),(do eqGuard .eql 98 y z x (.pointer none);binOp .eql 98 x (.pointer none):Sem Value).run P w = .ok (.bool H) w:=by
  cases T:Bw s with
  | none=>
   rw[T] at K;obtain rfl:x = _:=K;exact⟨true,rfl,λy z w=>U0 w y z⟩
  | some q=>
   obtain⟨l,met⟩:=q;rw[T] at K;obtain⟨hb,mb,v,rfl,hv⟩:=K;exact⟨false,rfl,λy z w=>UK w y z hb⟩
 refine jor [Pt sb,x] H (λK' j=>?_) (λe c u ho he=>?_)
 .refine jxr (hx _ _) (F6 (λg=>?_) (λg=>?_))
  .rw[g];exact jfo (jlr G rfl (jlt (j _ _ _ Bn (by rw[g];exact decide_eq_false Z))))
  .rw[g];exact j _ _ _ DQ g.symm
 refine z_V ?_;refine jor [Pt sb,x] H (λK' j=>?_) (λe c u a0 he=>?_)
 .rw[ho];refine F6 (λg=>?_) (λg=>?_)
  .rw[g];exact jfo (jlr G rfl (jgr (j _ _ _ Bn (by rw[g];exact decide_eq_false Z))))
  .rw[g];exact j _ _ _ DQ g.symm
 refine z_V ?_;refine jor [x] (H || s.AB.any (·.busy)) (λK' j=>?_) (λe c u a1 he=>?_)
 .rw[a0];refine F6 (λg=>?_) (λg=>?_)
  .rw[g];exact jfo (jlr G rfl (jro (Uv h.c.th Z) (j _ _ _ Bn (by rw[g,fH]))))
  .rw[g];exact j _ _ _ DQ (by rw[g,gB])
 refine z_V ?_;rw[a1];refine W _ (λg=>?_) (λg=>?_)
 .unfold EM;rw[eN] at g;rcases g with g | g
  .rw[Q] at g;split
   .rfl
   .exact Option.isNone_iff_eq_none.1 g
  .rw[if_pos g]
 .rw[eF] at g;unfold EM;rw[if_neg (by rw[g.2];decide)];cases T:Bw s with
  | none=>rw[Q,T] at g;exact absurd g.1 δ
  | some q=>
   obtain⟨l,met⟩:=q;rw[T] at K;exact K
theorem VA {hb mb:Nat} {v:Value} {l:List AO} {Q:List Int} (h:SF R s wv tv mv thv ov pv) (hv:HpV R s wv tv mv thv ov pv l Q hb mb v):Fn P Hb [Pt hb] R [] (λr j A=>j = R/\∃b o,r = .map (some b)/\MpI o (λr=>Ah s.AI r = true)/\A = [(b,o)]):=by
 refine MV λF=>?_
 refine z_1 ?_;obtain⟨o,W,h2,h3,h4⟩:=hv;have pl:=h.b.pl;have T:=h.b.pv;refine au λb o0 H=>(jci (λ_:Obj=>[.map (some b)]) (λo=>(b,o) :: ([] ++ F)) (λj o=>j = R/\MpI o (λr=>Ah s.AI r = true)) (λK1 k1=>?_) ?_)
 .obtain⟨pa,pc,O⟩:=h.c.p.sl;refine jnc (jfo (jfo (jlr W rfl (Bl ⟨pa,pc,O⟩ (jci (λ_:Obj=>[.map (some b)]) (λo=>(b,o) :: ([] ++ F)) (λj o=>j = R/\MpI o (λr=>Ah s.AI r = true)) (λK2 k2=>?_) ?_)))));rotate_left
  .rintro e j o hp he;refine z_V ?_;exact k1 j o hp
  refine jli (λi:Nat × Obj=>s.AI.length - i.1) (λi=>[.map (some b),pv,I s.AI.length,I i.1]) (λi=>(b,i.2) :: ([] ++ F)) (λj i=>j = R/\i.1<=s.AI.length/\MpI i.2 (λr=>Ah (s.AI.take i.1) r = true)) (0,o0) ⟨rfl,V,by simpa [Ah] using H⟩ rfl rfl ?_;rintro K e j ⟨i,o⟩ ⟨D,hi,x⟩ he hK;subst D;dsimp only at hi x he;refine z_V ?_;refine jlt (jif (λc=>?_) (λc=>?_));rotate_left
  .have c:=z_g c;rw[dh Z] at x;exact k2 j o ⟨rfl,x⟩
  have c:i < s.AI.length:=by have:=z_f c;omega
  have N:=T _ (dc c);refine C5 h.c.p Z Z ?_;simp only[da];refine jp (FG N.1 Z) (@jmu _ _ _ _ _ _ _ _ _ x λo' G=>(jad (hK j (i + 1,o') (by dsimp only;omega) ⟨rfl,c,?_⟩)));have e:(λr=>Ah (s.AI.take (i + 1)) r = true) = λy=>Ah (s.AI.take i) y = true\/y = AM s.AI[i]:=by
   funext r;rw[db c];unfold Ah;simp only[List.any_append,List.any_cons,List.any_nil,Bool.or_false,eN,beq_iff_eq];exact propext ⟨λh=>h.imp id Eq.symm,λh=>h.imp id Eq.symm⟩
  dsimp only;rw[e];exact G
 rintro e j o ⟨D,x⟩ he;subst D;refine z_V ?_;exact Ao (RM.le.refl _) ⟨rfl,b,o,rfl,x,rfl⟩
end st
end Go.Lf
end
section
namespace Sm
open Go.Lf
def nxt (AI tops:List Int) (n:Int):Nat->Nat->Nat
 | 0,r=>r
 | f + 1,r=>if r < tops.length/\(Ah AI r = true\/AK r + 16 < tops.getD r 0 + n) then nxt AI tops n f (r + 1) else r
def Bh (l:List AO) (a:Int):Int:=match Av l a with | some t=>AH t.sh | none=>2
def Db (AI:List Int) (l:List AO):List Int->List Int->Nat->Option (List Int × List Int)
 | [],tops,_=>some ([],tops)
 | a :: rest,tops,r=>if Ah AI (AM a) = true then (Db AI l rest tops r).map λq=>(a :: q.1,q.2) else
  if nxt AI tops (Bh l a) (tops.length + 1) r = tops.length then none else
  (Db AI l rest (tops.set (nxt AI tops (Bh l a) (tops.length + 1) r) (tops.getD (nxt AI tops (Bh l a) (tops.length + 1) r) 0 + Bh l a)) (nxt AI tops (Bh l a) (tops.length + 1) r)).map λq=>(tops.getD (nxt AI tops (Bh l a) (tops.length + 1) r) 0 :: q.1,q.2)
def Rel (tops:List Int) (t:List Rg):Prop:=tops.length = t.length/\∀q:Nat,1<=q->q < t.length->tops.getD q 0 = (rv t q).top
theorem Ty {AI tops:List Int} {t:List Rg} {size:Int} (hl:t.length<=12) (h:Rel tops t):∀(n:Nat) (r j : Int),Fe AI t size n r = some j->1<=r->j < t.length->∀f:Nat,j - r < f->nxt AI tops size f r.toNat = j.toNat/\r<=j
 | 0,r,j,e,_,_,f,_=>by cases e
 | n + 1,r,j,e,h1,h2,f,hf=>by
  unfold Fe at e;have D:Fe AI t size n (r + 1) = some j->(Ah AI r = true\/AK r + 16 < (rv t r).top + size)->nxt AI tops size f r.toNat = j.toNat/\r<=j:=λH hc=>by
   have N:=(Ty hl h n (r + 1) _ H Z h2 (j - r).toNat.succ Z).2;cases f with
   | zero=>omega
   | succ f=>
    obtain⟨K,R⟩:=Ty hl h n (r + 1) _ H Z h2 f Z;refine⟨?_,Z⟩;unfold nxt;rw[if_pos]
    .rw[<- K];congr 1;omega
    .refine⟨by rw[h.1];omega,?_⟩;rw[show ((r.toNat:Nat):Int) = r from Z,h.2 r.toNat Z Z,show ((r.toNat:Nat):Int) = r from Z];exact hc
  by_cases G:Ah AI r = true
  .rw[if_pos G] at e;exact D e (.inl G)
  .rw[if_neg G] at e;obtain⟨x,O,e⟩:=AF e;obtain⟨p,y,e⟩:=AF e;obtain⟨T,W,Q⟩:=G4 Dm O;have A:x = rv t r:=Q.symm;have y:p = x.top + size:=by unfold Cg at y;split at y<;>cases y;rfl
   by_cases c:AK r + 16 < p
   .rw[if_pos c] at e;exact D e (.inr (by rw[<- A,<- y];exact c))
   .rw[if_neg c] at e;cases e;refine⟨?_,eQ _⟩;cases f with
    | zero=>omega
    | succ f=>
     unfold nxt;rw[if_neg];rintro⟨_,c2⟩;rw[show ((r.toNat:Nat):Int) = r from Z,h.2 r.toNat Z Z,show ((r.toNat:Nat):Int) = r from Z] at c2;rcases c2 with c2 | c2
     .exact G c2
     .rw[<- A,<- y] at c2;exact c c2
def LH (AI:List Int) (r:Int) (top:Int):Rg:=if AK r < top\/Ah AI r = true then ⟨3,-1,top,top,0⟩ else Dn r
theorem Ie {AI:List Int} {l:List AO}:∀(la:List Int) (t N : List Rg) (r:Int) (Q out j:List Int),slide AI l la t r Q = some (N,out)->t.length<=12->1<=r->Rel j t->(∀q:Int,1<=q->q < t.length->rv t q = LH AI q (rv t q).top/\AK q<=(rv t q).top)->(∀a∈la,∀x,Av l a = some x->0 < AH x.sh)->
  ∃D y,out = Q ++ D/\Db AI l la j r.toNat = some (D,y)/\Rel y N/\N.length = t.length/\(∀q:Int,1<=q->q < t.length->rv N q = LH AI q (rv N q).top/\AK q<=(rv N q).top)/\D.length = la.length
 | [],t,N,r,Q,out,j,h,hl,h1,hr,hf,_=>by
  cases h;exact⟨[],j,V,rfl,hr,rfl,hf,rfl⟩
 | a :: la,t,N,r,Q,out,j,h,hl,h1,hr,hf,hs=>by
  unfold slide at h;obtain⟨x,hx,h⟩:=AF h;have a2:Bh l a = AH x.sh:=by unfold Bh;rw[hx]
  have W:=λb hb=>hs b (eD _ hb)
  by_cases hh:Ah AI (AM a) = true
  .rw[if_pos hh] at h;obtain⟨D,y,g1,g2,g3,g4,g5,g6⟩:=Ie la t N r (Q ++ [a]) out j h hl h1 hr hf W;refine⟨a :: D,y,by rw[g1];simp,?_,g3,g4,g5,by simp[g6]⟩;unfold Db;rw[if_pos hh,g2];rfl
  .rw[if_neg hh] at h;obtain⟨A,a1,h⟩:=AF h;obtain⟨row,T,h⟩:=AF h;obtain⟨top,H,h⟩:=AF h;obtain⟨x0,x1,x2⟩:=G4 Dm T;have K:row = rv t A:=x2.symm;have ht:top = row.top + AH x.sh:=by unfold Cg at H;split at H<;>cases H;rfl
   obtain⟨n1,n2⟩:=Ty hl hr _ _ _ a1 h1 x1 (j.length + 1) (by rw[hr.1];omega);have h0:=hs a V x hx;have et:∀q:Int,0<=q->rv (AU t A { row with kind:=3,top:=top,BH:=top }) q = if q = A then { row with kind:=3,top:=top,BH:=top } else rv t q:=λq q0=>DV Z x1 q0
   have G:=hf A Z x1;have a0:rv t A = { rv t A with AX:=-1,AJ:=0 }:=by
    rw[G.1];unfold LH;split<;>rfl
   have R:Rel (j.set A.toNat (j.getD A.toNat 0 + AH x.sh)) (AU t A { row with kind:=3,top:=top,BH:=top }):=by
    refine⟨by rw[fB,hr.1];simp[AU],λq q1 O=>?_⟩;have O:q < t.length:=by simpa [AU] using O
    rw[et q Z,dZ,gO];by_cases c:A.toNat = q
    .rw[if_pos c,if_pos (by rw[hr.1];omega),if_pos Z];show j.getD A.toNat 0 + AH x.sh = top;rw[hr.2 _ Z Z,show ((A.toNat:Nat):Int) = A from Z,ht,K]
    .rw[if_neg c,if_neg Z,<- dZ];exact hr.2 q q1 O
   obtain⟨D,y,g1,g2,g3,g4,g5,g6⟩:=Ie la _ N A (Q ++ [row.top]) out _ h (by simpa [AU] using hl) Z R (λq q1 O=>by
     have O:q < t.length:=by simpa [AU] using O
     rw[et q Z]
     by_cases c:q = A
     .subst c
      simp only[if_true]
      have e1:=G.2
      have e2:AK q < top:=by rw[ht,K];omega
      refine⟨?_,Z⟩
      unfold LH
      rw[if_pos (.inl e2)]
      rw[a0] at K
      rw[K]
     .rw[if_neg c];exact hf q q1 O) W
   refine⟨row.top :: D,y,by rw[g1];simp,?_,g3,by rw[g4];simp[AU],λq q1 O=>g5 q q1 (by simpa [AU] using O),by simp[g6]⟩;unfold Db;rw[if_neg hh,a2,n1,if_neg (by rw[hr.1];omega),g2];show some (j.getD A.toNat 0 :: D,y) = _;rw[hr.2 _ Z Z,show ((A.toNat:Nat):Int) = A from Z,<- K]
def CE:List Int->Int->List Int->List Int
 | w,_,[]=>w
 | w,a,v :: c=>CE (AU w a v) (a + 1) c
theorem EB:∀{c w:List Int} {a:Int},(CE w a c).length = w.length
 | [],_,_=>rfl
 | v :: c,w,a=>by unfold CE;rw[EB];simp[AU]
theorem HF:∀{c w:List Int} {a x:Int},0<=a->a + c.length<=w.length->0<=x->wv (CE w a c) x = if a<=x/\x < a + c.length then c.getD (x - a).toNat 0 else wv w x
 | [],w,a,x,h0,h1,hx=>by unfold CE;rw[if_neg V]
 | v :: c,w,a,x,h0,h1,hx=>by
  unfold CE;simp only[dl] at h1;rw[HF Z (by simp[AU];omega) hx,Cn Z Z hx];simp only[dl];by_cases c1:a + 1<=x/\x < a + 1 + c.length
  .rw[if_pos c1,if_pos Z,show (x - a).toNat = (x - (a + 1)).toNat + 1 from Z];rfl
  .rw[if_neg c1];by_cases c2:x = a
   .subst c2;rw[if_pos rfl,if_pos Z,Int.sub_self];rfl
   .rw[if_neg c2,if_neg Z]
theorem TE:∀{j w:List Int} {a:Int},0<=a->a + j.length<=w.length->wrs w a j = some (CE w a j)
 | [],w,a,_,_=>rfl
 | v :: j,w,a,h0,h1=>by
  simp only[dl] at h1;unfold wrs CE;rw[Gu h0 Z];exact TE Z (by simp[AU];omega)
theorem Hl:∀{c d w:List Int} {a:Int},CE w a (c ++ d) = CE (CE w a c) (a + c.length) d
 | [],d,w,a=>by simp[CE]
 | v :: c,d,w,a=>by
  show CE (AU w a v) (a + 1) (c ++ d) = CE (CE (AU w a v) (a + 1) c) (a + ((v :: c).length:Nat)) d;rw[Hl,show a + 1 + (c.length:Int) = a + ((v :: c).length:Nat) from by simp only[dl];omega]
theorem Y1 {j y:List Int} (hl:j.length = y.length) (h:∀x,0<=x->wv j x = wv y x):j = y:=by
 apply fq hl;intro i A D;have:=h i Z;unfold wv gv at this;simp only[da,dZ,dY A,dY D,eR] at this;exact this
theorem OR {w:List Int} {a:Int} (h0:0<=a) (j:a < w.length):AU w a (wv w a) = w:=
 Y1 (by simp[AU]) λx y=>by
  rw[Cn h0 j y];by_cases c:x = a
  .rw[if_pos c,c]
  .rw[if_neg c]
def plc (l:List AO) (AJ to:List Int) (v:Int):Int:=match now l v with
 | some u=>if u∈AJ then to.getD (AJ.idxOf u) 0 else 0
 | none=>0
theorem Qq {l:List AO} {AJ to:List Int} (hlen:to.length = AJ.length):∀(j w:List Int) (a:Int),(∀v∈j,∃u,now l v = some u)->0<=a->a + j.length<=w.length->(∀x,a<=x->x < a + j.length->wv w x = 0)->
  Fp l AJ to w a j = some (CE w a (j.map (plc l AJ to)))
 | [],w,a,_,_,_,_=>rfl
 | v :: r,w,a,hv,h0,h1,hz=>by
  simp only[dl] at h1 hz;obtain⟨u,A⟩:=hv v V;unfold Fp;rw[A,eX];simp only[di,z_o];unfold CE;have e:(if 0<=Ba AJ u then (idx to (Ba AJ u)).bind λx=>wr w a x else some w) = some (AU w a (plc l AJ to v)):=by
   unfold plc;rw[A];dsimp only;by_cases c:u∈AJ
   .have H:=(DC (l:=AJ) (n:=u)).1 c;have D:Ba AJ u = (AJ.idxOf u:Nat):=by unfold Ba;rw[if_pos c]
    rw[if_pos H.1,if_pos c,D];have G:AJ.idxOf u < to.length:=by rw[hlen];exact fC c
    unfold idx;rw[if_pos Z];simp only[da,dY G,z_o,dZ,eR];exact Gu h0 Z
   .rw[(DC (l:=AJ) (n:=u)).2 c,if_neg δ,if_neg c];have:=OR (w:=w) h0 Z;rw[hz a (eQ _) Z] at this;rw[this]
  rw[e];simp only[z_o];exact Qq hlen r _ (a + 1) (λv y=>hv v (eD _ y)) Z (by simp[AU];omega) λx K N=>by
   rw[Cn h0 Z Z,if_neg Z];exact hz x Z Z
def Bp (w:List Int) (bl:List (Int × List Int)):List Int:=bl.foldl (λw b=>CE w b.1 b.2) w
theorem CB:∀{j:List (Int × List Int)} {w:List Int},(Bp w j).length = w.length
 | [],_=>rfl
 | b :: j,w=>by
  show (Bp (CE w b.1 b.2) j).length = _;rw[CB,EB]
def inB (b:Int × List Int) (x:Int):Prop:=b.1<=x/\x < b.1 + b.2.length
theorem ED:∀{j:List (Int × List Int)} {w:List Int} {x:Int},(∀b∈j,0<=b.1/\b.1 + b.2.length<=w.length)->0<=x->(∀b∈j,¬ inB b x)->wv (Bp w j) x = wv w x
 | [],_,_,_,_,_=>rfl
 | b :: j,w,x,h,hx,hn=>by
  show wv (Bp (CE w b.1 b.2) j) x = _;rw[ED (λc hc=>by rw[EB];exact h c (eD _ hc)) hx λc hc=>hn c (eD _ hc)];have hb:=h b V;rw[HF hb.1 hb.2 hx];exact if_neg (hn b V)
theorem Ek:∀{j:List (Int × List Int)} {w:List Int} {x:Int} {b:Int × List Int},(∀b∈j,0<=b.1/\b.1 + b.2.length<=w.length)->j.Pairwise (λb c=>∀x,¬ (inB b x/\inB c x))->b∈j->inB b x->wv (Bp w j) x = b.2.getD (x - b.1).toNat 0
 | [],_,_,_,_,_,hb,_=>by cases hb
 | c :: j,w,x,b,h,hp,hb,hx=>by
  rw[fj] at hp;show wv (Bp (CE w c.1 c.2) j) x = _;have A : ∀d∈j,0<=d.1/\d.1 + d.2.length<=(CE w c.1 c.2).length:=λd hd=>by rw[EB];exact h d (eD _ hd)
  have hc:=h c V;rcases du.1 hb with rfl | hb
  .have D:0<=x:=by have:=hx.1;omega
   rw[ED A D λd hd y=>hp.1 d hd x ⟨hx,y⟩,HF hc.1 hc.2 D];exact if_pos hx
  .exact Ek A hp.2 hb hx
def DI (l:List AO) (AJ to:List Int) (a d:Int):Int × List Int:=(d,match Av l a with
 | some t=>d :: AZ t.sh :: (t.refs.map (plc l AJ to) ++ t.nums)
 | none=>[])
theorem Ps {l:List AO} {AJ to:List Int} (hlen:to.length = AJ.length):∀(la ld w:List Int),la.length = ld.length->
  (∀p∈la.zip ld,∃t,Av l p.1 = some t/\(∀v∈t.refs,∃u,now l v = some u)/\0<=p.2/\p.2 + (2 + t.refs.length + t.nums.length:Nat)<=w.length/\∀x,p.2 + 2<=x->x < p.2 + 2 + t.refs.length->wv w x = 0)->
  ((la.zip ld).map λp=>DI l AJ to p.1 p.2).Pairwise (λb c=>∀x,¬ (inB b x/\inB c x))->
  Fr l AJ to la ld w = some (Bp w ((la.zip ld).map λp=>DI l AJ to p.1 p.2))
 | [],[],w,_,_,_=>rfl
 | [],_ :: _,w,h,_,_=>by simp at h
 | _ :: _,[],w,h,_,_=>by simp at h
 | a :: la,d :: ld,w,h,hp,hd=>by
  rw[gR] at hp hd ⊢;rw[eX,fj] at hd;obtain⟨t,G,hr,d0,R,Q⟩:=hp (a,d) V;dsimp only at G d0 R Q;have N:DI l AJ to a d = (d,d :: AZ t.sh :: (t.refs.map (plc l AJ to) ++ t.nums)):=by unfold DI;rw[G]
  have j:∀x:Int,0<=x->wv (AU (AU w d d) (d + 1) (AZ t.sh)) x = if x = d + 1 then AZ t.sh else if x = d then d else wv w x:=λx O=>by
   rw[Cn Z (by simp[AU];omega) O];split
   .rfl
   .rw[Cn Z Z O]
  have e:(do
    let w <- wr w d d
    let w <- wr w (d + 1) (AZ t.sh)
    let w <- Fp l AJ to w (d + 2) t.refs
    wrs w (d + 2 + t.refs.length) t.nums) = some (CE w d (d :: AZ t.sh :: (t.refs.map (plc l AJ to) ++ t.nums))):=by
   rw[Gu d0 Z];simp only[di,z_o];rw[Gu Z (by simp[AU];omega)];simp only[z_o];rw[Qq hlen t.refs _ (d + 2) hr Z (by simp[AU];omega) λx A D=>by
    rw[j x Z,if_neg Z,if_neg Z];exact Q x A D]
   simp only[z_o];rw[TE Z (by rw[EB];simp[AU];omega)];have T:CE w d (d :: AZ t.sh :: (t.refs.map (plc l AJ to) ++ t.nums)) = CE (CE (AU (AU w d d) (d + 1) (AZ t.sh)) (d + 1 + 1) (t.refs.map (plc l AJ to))) (d + 1 + 1 + ((t.refs.map (plc l AJ to)).length:Nat)) t.nums:=Hl;rw[T,df,show d + 1 + 1 = d + 2 from Z]
  unfold Fr;rw[G];simp only[di,z_o] at e ⊢;have:=Ps hlen la ld (CE w d (d :: AZ t.sh :: (t.refs.map (plc l AJ to) ++ t.nums))) (by simpa using h) (λp y=>by
   obtain⟨t2,A,D,W,h4,h5⟩:=hp p (eD _ y)
   refine⟨t2,A,D,W,by rw[EB];exact h4,λx H K=>?_⟩
   rw[HF d0 (by simp;omega) Z,if_neg]
   .exact h5 x H K
   .intro hc
    refine hd.1 _ (fU y) x ⟨by rw[N];exact hc,?_⟩
    unfold DI inB
    rw[A]
    dsimp only
    refine⟨Z,?_⟩
    simp only[dl,de,df];omega) hd.2
  rw[eX];show _ = some (Bp (CE w (DI l AJ to a d).1 (DI l AJ to a d).2) _);rw[N,<- this];revert e;cases wr w d d with
  | none=>intro e;cases e
  | some w1=>
   simp only[z_o];cases wr w1 (d + 1) (AZ t.sh) with
   | none=>intro e;cases e
   | some w2=>
    simp only[z_o];cases Fp l AJ to w2 (d + 2) t.refs with
    | none=>intro e;cases e
    | some w3=>
     simp only[z_o];intro e;rw[e];rfl
theorem O8:∀{n:Nat} {w:List Int} {a:Int},0<=a->a + n<=w.length->(∀x,a<=x->x < a + n->wv w x = 0)->CE w a (List.replicate n 0) = w
 | 0,w,a,_,_,_=>rfl
 | n + 1,w,a,h0,h1,hz=>by
  have e:=OR (w:=w) h0 Z;rw[hz a (eQ _) Z] at e;show CE (AU w a 0) (a + 1) (List.replicate n 0) = w;rw[e];exact O8 Z Z λx j y=>hz x Z Z
def Dw (x:AO):Int × List Int:=(x.at_,x.at_ :: AZ x.sh :: (List.replicate x.refs.length 0 ++ x.nums))
theorem IY {s:Aj}:∀(l:List AO) (w:List Int) (t:List Rg) (D : List Int) (H : List Rg),stay s l w t = some (D,H)->
  (∀x∈l,Ah s.AI (AM x.at_) = true->0<=x.at_/\x.at_ + (2 + x.refs.length + x.nums.length:Nat)<=w.length/\∀y,x.at_ + 2<=y->y < x.at_ + 2 + x.refs.length->wv w y = 0)->
  ((l.filter λx=>Ah s.AI (AM x.at_)).map Dw).Pairwise (λb c=>∀x,¬ (inB b x/\inB c x))->
  D = Bp w ((l.filter λx=>Ah s.AI (AM x.at_)).map Dw)
 | [],w,t,D,H,h,_,_=>by cases h;rfl
 | x :: l,w,t,D,H,h,hp,hd=>by
  unfold stay at h;dsimp only at h;by_cases j:Ah s.AI (AM x.at_) = true
  .rw[if_pos j] at h;rw[List.filter_cons_of_pos (by simpa using j),eX,fj] at hd;obtain⟨K,a1,Q⟩:=hp x V j;rw[Gu K Z] at h;simp only[di,z_o] at h;rw[Gu Z (by simp[AU];omega)] at h;simp only[z_o] at h;rw[TE Z (by simp[AU];omega)] at h;simp only[z_o] at h;obtain⟨row,_,h⟩:=AF h;obtain⟨_,_,h⟩:=AF h;have e:CE (AU (AU w x.at_ x.at_) (x.at_ + 1) (AZ x.sh)) (x.at_ + 2 + x.refs.length) x.nums = CE w x.at_ (x.at_ :: AZ x.sh :: (List.replicate x.refs.length 0 ++ x.nums)):=by
    have e9:CE w x.at_ (x.at_ :: AZ x.sh :: (List.replicate x.refs.length 0 ++ x.nums)) = CE (CE (AU (AU w x.at_ x.at_) (x.at_ + 1) (AZ x.sh)) (x.at_ + 1 + 1) (List.replicate x.refs.length 0)) (x.at_ + 1 + 1 + ((List.replicate x.refs.length (0:Int)).length:Nat)) x.nums:=Hl;rw[e9,dw,show x.at_ + 1 + 1 = x.at_ + 2 from Z,O8 Z (by simp[AU];omega)];intro y N O;rw[Cn Z (by simp[AU];omega) Z,if_neg Z,Cn K Z Z,if_neg Z];exact Q y N O
   rw[e] at h;rw[List.filter_cons_of_pos (by simpa using j),eX];exact IY l _ _ _ _ h (λy G A=>by
    obtain⟨R,T,W⟩:=hp y (eD _ G) A
    refine⟨R,by show _<=((CE w x.at_ _).length:Int);rw[EB];exact T,λz N O=>?_⟩
    show wv (CE w x.at_ (x.at_ :: AZ x.sh :: (List.replicate x.refs.length 0 ++ x.nums))) z = 0
    rw[HF K (by simp;omega) Z,if_neg]
    .exact W z N O
    .intro hc
     refine hd.1 _ (fU (fI.2 ⟨G,by simpa using A⟩)) z ⟨hc,?_⟩
     unfold Dw inB
     dsimp only
     refine⟨Z,?_⟩
     simp only[dl,de,dw];omega) hd.2
  .rw[if_neg j] at h;rw[List.filter_cons_of_neg (by simpa using j)] at hd ⊢;exact IY l w t D H h (λy G=>hp y (eD _ G)) hd
theorem Jb {AI:List Int} {t:List Rg} {size:Int} (hl:t.length<=12):∀(n:Nat) (r j : Int),Fe AI t size n r = some j->1<=r->r<=j/\Ah AI j = false/\j < t.length/\(rv t j).top + size<=16 * j + 16
 | 0,r,j,e,_=>by cases e
 | n + 1,r,j,e,h1=>by
  unfold Fe at e;by_cases D:Ah AI r = true
  .rw[if_pos D] at e;obtain⟨H,A⟩:=Jb hl n (r + 1) j e Z;exact⟨Z,A⟩
  .rw[if_neg D] at e;obtain⟨x,K,e⟩:=AF e;obtain⟨p,y,e⟩:=AF e;obtain⟨Q,N,O⟩:=G4 Dm K;have G:x = rv t r:=O.symm;have y:p = x.top + size:=by unfold Cg at y;split at y<;>cases y;rfl
   by_cases c:AK r + 16 < p
   .rw[if_pos c] at e;obtain⟨H,A⟩:=Jb hl n (r + 1) j e Z;exact⟨Z,A⟩
   .rw[if_neg c] at e;cases e;rw[Br Z Z] at c;exact⟨eQ _,by simpa using D,N,by rw[<- G];omega⟩
theorem Lp {AI:List Int} {l:List AO}:∀(la:List Int) (t t' : List Rg) (r:Int) (Q out:List Int),slide AI l la t r Q = some (t',out)->t.length<=12->1<=r->(∀q:Int,1<=q->q < t.length->16 * q<=(rv t q).top)->(∀a∈la,0<=a/\∀x,Av l a = some x->0 < AH x.sh)->la.Nodup->
  ∃j,out = Q ++ j/\j.length = la.length/\j.Nodup/\∀p∈la.zip j,(Ah AI (AM p.1) = true/\p.2 = p.1)\/(Ah AI (AM p.1) = false/\Ah AI (p.2 / 16) = false/\1<=p.2 / 16/\p.2 / 16 < t.length/\(rv t (p.2 / 16)).top<=p.2)
 | [],t,t',r,Q,out,h,_,_,_,_,_=>by
  cases h;exact⟨[],V,rfl,List.nodup_nil,λp y=>by simp at y⟩
 | a :: la,t,t',r,Q,out,h,hl,h1,ht,hs,nd=>by
  rw[fQ] at nd;unfold slide at h;obtain⟨x,hx,h⟩:=AF h;have H:=λb hb=>hs b (eD _ hb)
  obtain⟨a2,a4⟩:=hs a V;by_cases O:Ah AI (AM a) = true
  .rw[if_pos O] at h;obtain⟨j,g1,T,g3,W⟩:=Lp la t t' r (Q ++ [a]) out h hl h1 ht H nd.2;refine⟨a :: j,by rw[g1];simp,by simp[T],fQ.2 ⟨λhm=>?_,g3⟩,λp y=>?_⟩
   .obtain⟨b,hb⟩:=Gg T.symm hm;rcases W _ hb with ⟨_,e⟩ | ⟨_,e,_⟩
    .dsimp only at e;exact nd.1 (e▸(fR hb).1)
    .dsimp only at e;rw[Bc a2] at O;rw[O] at e;cases e
   .rw[gR] at y;rcases du.1 y with rfl | y
    .exact .inl ⟨O,rfl⟩
    .exact W p y
  .rw[if_neg O] at h;obtain⟨G,a3,h⟩:=AF h;obtain⟨row,a1,h⟩:=AF h;obtain⟨top,A,h⟩:=AF h;obtain⟨x0,x1,x2⟩:=G4 Dm a1;have D:row = rv t G:=x2.symm;have a5:top = row.top + AH x.sh:=by unfold Cg at A;split at A<;>cases A;rfl
   obtain⟨n1,n2,n3,n4⟩:=Jb hl _ _ _ a3 h1;have h0:=a4 x hx;have hb:=ht G Z x1;have et:∀q:Int,0<=q->rv (AU t G { row with kind:=3,top:=top,BH:=top }) q = if q = G then { row with kind:=3,top:=top,BH:=top } else rv t q:=λq q0=>DV Z x1 q0
   obtain⟨j,g1,T,g3,W⟩:=Lp la _ t' G (Q ++ [row.top]) out h (by simpa [AU] using hl) Z (λq q1 q2=>by
    rw[et q Z]
    by_cases c:q = G
    .subst c
     rw[if_pos rfl]
     show 16 * q<=top
     rw[a5,D];omega
    .rw[if_neg c];exact ht q q1 (by simpa [AU] using q2)) H nd.2
   have N:row.top / 16 = G:=by rw[D];omega
   refine⟨row.top :: j,by rw[g1];simp,by simp[T],fQ.2 ⟨λhm=>?_,g3⟩,λp y=>?_⟩
   .obtain⟨b,a0⟩:=Gg T.symm hm;rcases W _ a0 with ⟨R,e2⟩ | ⟨_,_,_,_,e⟩
    .dsimp only at R e2;have a6:=(H b (fR a0).1).1;rw[<- e2,Bc Z,N,n2] at R;cases R
    .dsimp only at e;rw[N,et G Z,if_pos rfl] at e;have e:top<=row.top:=e;omega
   .rw[gR] at y;rcases du.1 y with rfl | y
    .exact .inr ⟨by simpa using O,by dsimp only;rw[N];exact n2,by dsimp only;rw[N];omega,by dsimp only;rw[N];exact n3,by dsimp only;rw[N,D];exact eQ _⟩
    .rcases W p y with e | ⟨R,e2,e3,e4,K⟩
     .exact .inl e
     .refine .inr ⟨R,e2,e3,by simpa [AU] using e4,?_⟩;rw[et _ Z] at K;by_cases c:p.2 / 16 = G
      .rw[if_pos c] at K;have K:top<=p.2:=K;rw[c,<- D];omega
      .rw[if_neg c] at K;exact K
theorem VT {AI:List Int} {l:List AO} {W:List Int} {T0:List Rg} {B0:Int->Prop} (T:Thn W B0 l) (G0:Geo W T0 B0):∀(la:List Int) (t H:List Rg) (r:Int) (K out:List Int) (f:Int->Shp) (B:Int->Prop),
  slide AI l la t r K = some (H,out)->(∀a∈la,B0 a)->Ij f t B->1<=r->(∀q:Int,1<=q->q < t.length->(rv t q).AX = -1)->(∀a∈la,Ah AI (a / 16) = true->B a/\f a = shp W a)->
  ∃x D A,out = K ++ x/\x.length = la.length/\Ij D H A/\H.length = t.length/\(∀b,B b->A b/\D b = f b)/\(∀b,A b->B b\/(b∈x/\Ah AI (b / 16) = false))/\
   (∀p∈la.zip x,A p.2/\D p.2 = shp W p.1/\(Ah AI (p.1 / 16) = true->p.2 = p.1)):=by
 intro la;induction la with
 | nil=>
  intro t H r K out f B h _ G _ _ _;cases h;exact⟨[],f,B,V,rfl,G,rfl,λb h=>⟨h,rfl⟩,λb h=>.inl h,λp h=>(by simp at h)⟩
 | cons a la ih=>
  intro t H r K out f B h hB G r0 ho h4;have N:=hB a V;obtain⟨g1,g2,g3,g4,g5,g6,g7,g8⟩:=G0.inn N;have n1:=G.ok.n1;unfold slide at h;rw[T.find N] at h;simp only[di,z_o] at h;have es:AH (thg W a).sh = sz W a:=rfl;rw[es,Bc Z] at h;cases Q:Ah AI (a / 16) with
  | true=>
   rw[if_pos Q] at h;obtain⟨hb,hf⟩:=h4 a V Q;obtain⟨x,D,A,e,k1,k2,k3,k5,k6,k7⟩:=ih t H r (K ++ [a]) out f B h (λb hb=>hB b (by simp[hb])) G r0 ho (λb hb=>h4 b (by simp[hb]));refine⟨a :: x,D,A,by rw[e];simp,by simp[k1],k2,k3,k5,λb hb=>?_,λp y=>?_⟩
   .rcases k6 b hb with h | h
    .exact .inl h
    .exact .inr ⟨by simp[h.1],h.2⟩
   .rw[gR] at y;rcases du.1 y with y | y
    .subst y;exact⟨(k5 a hb).1,by rw[(k5 a hb).2,hf],λ_=>rfl⟩
    .exact k7 p y
  | false=>
   rw[if_neg (by rw[Q];decide)] at h;obtain⟨j,e1,h⟩:=AF h;obtain⟨p1,p3,p2,p4⟩:=Jb n1 _ _ _ e1 r0;have R:=G.ok.row j Z Z;have t0:=R.t0;rw[Cz Z Z] at h;simp only[z_o] at h;rw[BV Z Z] at h;simp only[z_o] at h;have O:AH (shp W a) = sz W a:=rfl;obtain⟨G2,nd,ed⟩:=G.add (r:=j) (sh:=shp W a) Z Z rfl (ho j Z Z) (Gm W a) (by rw[O];exact p4);rw[O] at G2;have et:∀q,0<=q->rv (AU t j { rv t j with kind:=3,top:=(rv t j).top + sz W a,BH:=(rv t j).top + sz W a }) q = if q = j then { rv t j with kind:=3,top:=(rv t j).top + sz W a,BH:=(rv t j).top + sz W a } else rv t q:=λq q0=>DV Z Z q0
   obtain⟨x,D,A,e,k1,k2,k3,k5,k6,k7⟩:=ih _ H j (K ++ [(rv t j).top]) out _ _ h (λb hb=>hB b (by simp[hb])) G2 Z (λq q0 q1=>by
     rw[et q Z];split
     .exact ho j Z Z
     .exact ho q q0 (by simpa using q1)) (λb hb a0=>by
     obtain⟨c1,c2⟩:=h4 b (by simp[hb]) a0
     refine⟨.inl c1,?_⟩
     have:b≠(rv t j).top:=λc=>nd (c▸c1)
     simp only[if_neg this];exact c2)
   refine⟨(rv t j).top :: x,D,A,by rw[e];simp,by simp[k1],k2,by rw[k3];simp,λb hb=>?_,λb hb=>?_,λp y=>?_⟩
   .obtain⟨c1,c2⟩:=k5 b (.inl hb);refine⟨c1,?_⟩;have:b≠(rv t j).top:=λc=>nd (c▸hb)
    rw[c2];simp only[if_neg this]
   .rcases k6 b hb with (h | h) | h
    .exact .inl h
    .exact .inr ⟨by simp[h],by rw[h,ed];exact p3⟩
    .exact .inr ⟨by simp[h.1],h.2⟩
   .rw[gR] at y;rcases du.1 y with y | y
    .subst y;obtain⟨c1,c2⟩:=k5 (rv t j).top (.inr rfl);refine⟨c1,by rw[c2];simp,λh=>by rw[Q] at h;cases h⟩
    .exact k7 p y
def CI (s:Aj):List Int:=(List.range s.AA.length).map λ(r:Nat)=>if Ah s.AI r = true then (rv s.AA r).top else AK r
structure DP (s s' : Aj) (l:List AO) (AJ to tops:List Int):Prop where
 ld:Db s.AI l AJ (CI s) 1 = some (to,tops)
 wd:s'.AC = Bp (Bp (List.replicate s.AC.length 0) ((l.filter λx=>Ah s.AI (AM x.at_)).map Dw)) ((AJ.zip to).map λp=>DI l AJ to p.1 p.2)
 tl:Rel tops s'.AA
 tn:s'.AA.length = s.AA.length
 e0:rv s'.AA 0 = Dm
 rw_:∀q:Int,1<=q->q < s.AA.length->rv s'.AA q = LH s.AI q (rv s'.AA q).top
 th:DZ l AJ to s.AB = some s'.AB
 eq:s' = ⟨s'.AC,s'.AA,List.replicate s.AC.length false,0,false,false,s.As,0,s'.AB,[],s.AI,s.BF,s.BL + 1⟩
 hlen:to.length = AJ.length
 hd:((AJ.zip to).map λp=>DI l AJ to p.1 p.2).Pairwise (λb c=>∀x,¬ (inB b x/\inB c x))
 dd:((l.filter λx=>Ah s.AI (AM x.at_)).map Dw).Pairwise (λb c=>∀x,¬ (inB b x/\inB c x))
 rg:∀p∈AJ.zip to,(Ah s.AI (p.1 / 16) = true/\p.2 = p.1)\/(Ah s.AI (p.1 / 16) = false/\Ah s.AI (p.2 / 16) = false)
 rn:∀p∈AJ.zip to,16<=p.2/\∀t,Av l p.1 = some t->p.2 + (2 + t.refs.length + t.nums.length:Nat)<=s.AC.length/\p.2 + (2 + t.refs.length + t.nums.length:Nat)<=16 * (p.2 / 16) + 16
 gs:∃f B',Ij f s'.AA B'/\(∀b,(bgs l b/\Ah s.AI (b / 16) = true)->B' b/\f b = shp s.AC b)/\(∀b,B' b->(bgs l b/\Ah s.AI (b / 16) = true)\/(b∈to/\Ah s.AI (b / 16) = false))/\∀p∈AJ.zip to,B' p.2/\f p.2 = shp s.AC p.1/\(Ah s.AI (p.1 / 16) = true->p.2 = p.1)
structure Od (met AJ:List Int):Prop where
 nd:AJ.Nodup
 m:∀a,a∈AJ↔a∈met
theorem Jm {j:List Int} (h:j.Nodup):Od j (AN j):=⟨(B8 h).1.imp λh e=>Z,(B8 h).2⟩
theorem E4 {w:List Int} {t:List Rg} {B:Int->Prop} (G:Geo w t B) {a:Int} (h:B a):((thg w a).refs.length:Int) = (shp w a).refs/\((thg w a).nums.length:Int) = (shp w a).nums/\((2 + (thg w a).refs.length + (thg w a).nums.length:Nat):Int) = sz w a:=by
 have i:=G.inn h;have o:=Er (Gm w a);have y:AH (shp w a) = sz w a:=rfl;have j:((thg w a).refs.length:Int) = (shp w a).refs:=Hv Z Z Z;have x:((thg w a).nums.length:Int) = (shp w a).nums:=Hv Z Z Z;exact⟨j,x,Z⟩
def XJ (AJ:List Int) (s:Aj):Option Aj:=do
 let l:=(BK s).getD []
 let (AC,AA) <- stay s l (List.replicate s.AC.length 0) (AY s.AA.length)
 let (AA,to) <- slide s.AI l AJ AA 1 []
 let AC <- Fr l AJ to AJ to AC
 let ths <- DZ l AJ to s.AB
 let BL <- Cg s.BL 1
 some ⟨AC,AA,List.replicate AC.length false,0,false,false,s.As,0,ths,[],s.AI,s.BF,BL⟩
theorem Xk {s:Aj} {l:List AO} {a7 AJ:List Int} (hf:HpF s l a7) (O:Od a7 AJ) (hs:∀w1 t1,stay s l (List.replicate s.AC.length 0) (AY s.AA.length) = some (w1,t1)->t1.length = s.AA.length->Ij (shp s.AC) t1 (λb=>bgs l b/\Ah s.AI (b / 16) = true)->(∀r:Int,1<=r->r < s.AA.length->(rv t1 r = ⟨3,-1,(rv s.AA r).top,(rv s.AA r).top,0⟩/\Ah s.AI r = true)\/(rv t1 r = ⟨1,-1,16 * r,16 * r,0⟩/\Ah s.AI r = false))->∃t2 to,slide s.AI l AJ t1 1 [] = some (t2,to)) (a6:-900000<=s.BL/\s.BL<=900000):∃s' to a0,XJ AJ s = some s'/\DP s s' l AJ to a0:=by
 obtain⟨G,T,b6⟩:=EU hf.ths;have To:=G.ok;have n0:=To.n0;have n1:=To.n1;have len:=G.len;have a1:∀a,bgs l a->16<=a:=λa h=>(G.at_ a h).1
 have sm:=O.m;have j:∀a∈AJ,bgs l a:=λa h=>by
  obtain⟨t,ht⟩:=hf.M.th a ((sm a).1 h);obtain⟨H,A⟩:=BA ht;exact⟨t,H,A⟩
 have a4:∀p∈s.AI,bgs l p:=λp D=>by
  have hh:=hf.head;unfold C8 at hh;simp only[z_b] at hh;have:=eG.1 hh.2 p D;unfold E8 at this;cases ht:Av l p with
  | none=>rw[ht] at this;cases this
  | some t=>obtain⟨H,A⟩:=BA ht;exact⟨t,H,A⟩
 have a5:∀r:Int,Ah s.AI r = true->∃x,bgs l x/\x / 16 = r:=λr h=>by
  unfold Ah at h;rw[List.any_eq_true] at h;obtain⟨p,D,e⟩:=h;have b2:=a1 p (a4 p D);exact⟨p,a4 p D,by rw[<- Bc Z];simpa using e⟩
 obtain⟨b3,b4⟩:=hf.closed;obtain⟨c7,b9,c0⟩:=G7 (n:=s.AA.length) Z Z;obtain⟨w1,t1,e3,l1,b1,s1,s2,s3,s4⟩:=OP (s:=s) (B0:=bgs l) G l (List.replicate s.AC.length 0) (AY s.AA.length) T.all V Z;have z0:∀x,wv (List.replicate s.AC.length 0) x = 0:=λx=>by
  unfold wv gv;rw[dZ,List.getElem?_replicate];split<;>rfl
 have N:∀r:Int,1<=r->r < s.AA.length->(rv t1 r = ⟨3,-1,(rv s.AA r).top,(rv s.AA r).top,0⟩/\Ah s.AI r = true)\/(rv t1 r = ⟨1,-1,16 * r,16 * r,0⟩/\Ah s.AI r = false):=λr r0 r1=>by
  rw[s4 r Z];cases hh:Ah s.AI r with
  | true=>
   obtain⟨x,⟨t,H,A⟩,h3⟩:=a5 r hh;exact .inl ⟨by rw[if_pos ⟨rfl,t,H,by rw[A];exact h3⟩],rfl⟩
  | false=>
   exact .inr ⟨by rw[if_neg (λh=>by cases h.1),c0 r r0 r1,(DL r0 Z).2],rfl⟩
 have To1:TOk t1:=by
  refine⟨Z,Z,?_,λr r0 r1=>?_,λr q r0 r1 W Q ho _=>?_⟩
  .rw[s4 0 Z,if_neg,b9];rintro⟨_,x,hx,h⟩;have:=a1 _ (T.all x hx).1;omega
  .have R:=To.row r r0 Z;rcases N r r0 Z with ⟨h,_⟩ | ⟨h,_⟩
   .rw[h];exact⟨V,V,R.t0,R.t1,R.t0,eQ _,eQ 0,by show 0<=(rv s.AA r).top - 16 * r;have:=R.t0;omega,λh=>by simp at h,V,V,V⟩
   .rw[h];exact⟨V,V,eQ _,by show 16 * r<=16 * r + 16;omega,eQ _,eQ _,eQ 0,by show 0<=16 * r - 16 * r;omega,λ_=>rfl,V,V,V⟩
  .rcases N r r0 Z with ⟨h,_⟩ | ⟨h,_⟩<;>rw[h] at ho<;>simp at ho
 have a3:∀b,(bgs l b/\Ah s.AI (b / 16) = true)->(rv t1 (b / 16)).top = (rv s.AA (b / 16)).top:=λb hb=>by
  have i:=G.inn hb.1;rcases N (b / 16) i.2.1 i.2.2.1 with ⟨h,_⟩ | ⟨_,h⟩
  .rw[h]
  .rw[hb.2] at h;cases h
 have G1:Ij (shp s.AC) t1 (λb=>bgs l b/\Ah s.AI (b / 16) = true):=by
  refine⟨To1,λa K=>?_,λa K=>?_,λr r0 r1=>?_,λa b K hb h=>G.dj a b K.1 hb.1 h⟩
  .rw[a3 a K];obtain⟨H,A,_⟩:=G.at_ a K.1;exact⟨H,A,Gm s.AC a⟩
  .rw[a3 a K];have i:=G.inn K.1;have es:AH (shp s.AC a) = sz s.AC a:=rfl;rw[es];by_cases h0:a + sz s.AC a = (rv s.AA (a / 16)).top
   .exact .inl h0
   .right;rcases G.nx a K.1 with h | h
    .exact absurd h h0
    .exact⟨h,by rw[show (a + sz s.AC a) / 16 = a / 16 from Z];exact K.2⟩
  .rcases N r r0 Z with ⟨h,A⟩ | ⟨h,_⟩
   .rw[h];rcases G.bs r r0 Z with h3 | h3
    .exact .inl h3
    .exact .inr ⟨h3,by rw[show 16 * r / 16 = r from Z];exact A⟩
   .rw[h];exact .inl rfl
 have b0:∀q:Int,1<=q->q < s.AA.length->16 * q<=(rv t1 q).top:=λq W Q=>(To1.row q W Z).t0
 obtain⟨t2,to,e4⟩:=hs w1 t1 e3 Z G1 N;obtain⟨a2,f,B',k0,k1,G2,k3,k5,k6,k7⟩:=VT (AI:=s.AI) T G AJ t1 t2 1 [] to (shp s.AC) _ e4 j G1 (eQ 1)
  (λq W Q=>by rcases N q W Z with ⟨h,_⟩ | ⟨h,_⟩<;>rw[h])
  (λa K hq=>⟨⟨j a K,hq⟩,rfl⟩)
 simp only[zl] at k0;subst k0;have b8:t2.length = s.AA.length:=by rw[k3,b1]
 have a9:∀a∈AJ,∀x,Av l a = some x->0 < AH x.sh:=λa K x hx=>by
  rw[T.find (j a K)] at hx;cases hx;have:=(G.inn (j a K)).2.2.2.2.2.2.1;show 0 < sz s.AC a;omega
 have a8:Rel (CI s) t1:=by
  refine⟨by unfold CI;simp[b1],λq W Q=>?_⟩;unfold CI;rw[dZ,eU,gT Z];show (if Ah s.AI q = true then (rv s.AA q).top else AK q) = _;rcases N q Z Z with ⟨h,A⟩ | ⟨h,A⟩
  .rw[if_pos A,h]
  .rw[if_neg (by rw[A];decide),h,Br Z Z]
 obtain⟨a2,a0,g1,g2,g3,g4,g5,g6⟩:=Ie (AI:=s.AI) AJ t1 t2 1 [] to (CI s) e4 Z (eQ 1) a8 (λq W Q=>by
   have Q:q < s.AA.length:=Z
   refine⟨?_,by rw[Br Z Z];exact b0 q W Q⟩
   unfold LH
   rcases N q W Q with ⟨h,A⟩ | ⟨h,A⟩
   .rw[if_pos (.inr A),h]
   .rw[if_neg,h,(DL W Z).2]
    rintro (c | c)
    .rw[h,Br Z Z] at c;simp at c
    .rw[A] at c;cases c) a9
 have g1:to = a2:=by simpa using g1
 subst g1;obtain⟨a2,d1,d2,d3,d4⟩:=Lp (AI:=s.AI) AJ t1 t2 1 [] to e4 Z (eQ 1) (λq W Q=>b0 q W Z) (λa K=>⟨by have:=a1 a (j a K);omega,a9 a K⟩) O.nd;have d1:to = a2:=by simpa using d1
 subst d1;have rg:∀p∈AJ.zip to,(Ah s.AI (p.1 / 16) = true/\p.2 = p.1)\/(Ah s.AI (p.1 / 16) = false/\Ah s.AI (p.2 / 16) = false):=λp D=>by
  have b2:=a1 _ (j p.1 (fR D).1);rw[<- Bc (a:=p.1) Z];rcases d4 p D with ⟨H,A⟩ | ⟨H,A,_⟩
  .exact .inl ⟨H,A⟩
  .exact .inr ⟨H,A⟩
 have pz:∀p∈AJ.zip to,B' p.2/\AH (f p.2) = sz s.AC p.1/\Av l p.1 = some (thg s.AC p.1)/\bgs l p.1:=λp D=>by
  obtain⟨Q,q2,_⟩:=k7 p D;have hb:=j p.1 (fR D).1;exact⟨Q,by rw[q2];rfl,T.find hb,hb⟩
 have bl:∀p∈AJ.zip to,∀x,inB (DI l AJ to p.1 p.2) x↔p.2<=x/\x < p.2 + sz s.AC p.1:=λp D x=>by
  obtain⟨_,_,h3,h4⟩:=pz p D;have:=(E4 G h4).2.2;unfold inB DI;rw[h3];simp only[dl,de,df];constructor
  .rintro⟨a,b⟩;exact⟨a,Z⟩
  .rintro⟨a,b⟩;exact⟨a,Z⟩
 have hd:((AJ.zip to).map λp=>DI l AJ to p.1 p.2).Pairwise (λb c=>∀x,¬ (inB b x/\inB c x)):=by
  rw[hC];have hnd:(AJ.zip to).Pairwise (λp q=>p.2≠q.2):=by
   have:((AJ.zip to).map Prod.snd).Nodup:=by rw[List.map_snd_zip Z];exact d3
   rw[List.Nodup,hC] at this;exact this
  refine hnd.imp_of_mem λ{p q} D hq b5 x hx=>?_
  rw[bl p D,bl q hq] at hx;obtain⟨p1,p2,_⟩:=pz p D;obtain⟨Q,q2,_⟩:=pz q hq;rcases Int.lt_or_gt_of_ne b5 with c | c
  .have:=G2.dj _ _ p1 Q c;omega
  .have:=G2.dj _ _ Q p1 c;omega
 have dd:((l.filter λx=>Ah s.AI (AM x.at_)).map Dw).Pairwise (λb c=>∀x,¬ (inB b x/\inB c x)):=by
  rw[hC];refine (hf.asc.filter _).imp_of_mem λ{x y} hx hy c4 z hz=>?_
  obtain⟨x1,x2⟩:=T.all x (fI.1 hx).1;obtain⟨y1,y2⟩:=T.all y (fI.1 hy).1;have H:=(E4 G x1).2.2;rw[<- x2] at H;have es:AH x.sh = sz s.AC x.at_:=by
   have:=congrArg (λt=>AH t.sh) x2;exact this
  unfold inB Dw at hz;simp only[dl,de,dw] at hz;omega
 have b7:=IY (s:=s) l _ _ _ _ e3 (λx hx _=>by
  obtain⟨x1,x2⟩:=T.all x hx
  have i:=G.inn x1
  have H:=(E4 G x1).2.2
  rw[<- x2] at H
  exact⟨Z,by rw[dw];omega,λy _ _=>z0 y⟩) dd
 have e5:=Ps (l:=l) (AJ:=AJ) (to:=to) k1 AJ to w1 k1.symm (λp D=>by
  obtain⟨H,A,h3,h4⟩:=pz p D
  have i2:=G2.inn H
  have h5:=E4 G h4
  refine⟨_,h3,λv hv=>?_,Z,by rw[l1];omega,λx c5 c6=>?_⟩
  .obtain⟨u,hu,_⟩:=b4 p.1 ((sm _).1 (fR D).1) _ h3 v hv
   exact⟨u,hu⟩
  .rcases rg p D with ⟨g1,g2⟩ | ⟨g1,g2⟩
   .rw[show x = p.1 + 2 + (x - p.1 - 2) from Z,s2 p.1 _ h4 Z Z]
    exact z0 _
   .rw[s3 x Z (by rw[show x / 16 = p.2 / 16 from Z];exact g2)]
    exact z0 _) hd
 obtain⟨ths,e6,l6,m6⟩:=L2 (l:=l) (AJ:=AJ) (to:=to) k1 s.AB (λt ht a K=>by
  obtain⟨u,hu,_⟩:=b3 a (eT _ (gW.2 ⟨t,ht,K⟩))
  exact⟨u,hu⟩)
 have a6:Cg s.BL 1 = some (s.BL + 1):=BV Z Z;have l2:(Bp w1 ((AJ.zip to).map λp=>DI l AJ to p.1 p.2)).length = s.AC.length:=by rw[CB];exact l1
 refine⟨⟨Bp w1 ((AJ.zip to).map λp=>DI l AJ to p.1 p.2),t2,List.replicate s.AC.length false,0,false,false,s.As,0,ths,[],s.AI,s.BF,s.BL + 1⟩,to,a0,?_,g2,by show Bp w1 _ = _;rw[<- b7],g3,b8,?_,λq W Q=>(g5 q W Z).1,e6,rfl,k1,hd,dd,rg,λp D=>?_,f,B',G2,k5,k6,k7⟩
 .unfold XJ;rw[b6];simp only[eR,di];rw[e3];simp only[z_o];rw[e4];simp only[z_o];rw[e5];simp only[z_o];rw[e6];simp only[z_o];rw[a6];simp only[z_o];rw[l2]
 .exact G2.ok.e
 .obtain⟨H,A,h3,h4⟩:=pz p D;have i2:=G2.inn H;refine⟨Z,λt ht=>?_⟩;rw[h3] at ht;cases ht;have h5:=(E4 G h4).2.2;exact⟨Z,Z⟩
theorem LQ {s:Aj} {l:List AO} {y:List Int} (H:HpF s l y) (a0:-900000<=s.BL/\s.BL<=900000):∃R Q x,FF s = some R/\DP s R l (AN y) Q x:=by
 obtain⟨G,T,a1⟩:=EU H.ths;have n0:=G.ok.n0;have n1:=G.ok.n1;obtain⟨sp,sm⟩:=B8 H.M.nd;have j:∀a∈AN y,bgs l a:=λa h=>by
  obtain⟨t,ht⟩:=H.M.th a ((sm a).1 h);obtain⟨N,W⟩:=BA ht;exact⟨t,N,W⟩
 obtain⟨R,Q,x,N,W⟩:=Xk H (Jm H.M.nd) (λw1 t1 e3 a2 G1 D=>by
  have O:∀q:Int,1<=q->q < s.AA.length->Ah s.AI q = false->(rv t1 q).top = 16 * q:=λq K q1 A=>by
   rcases D q K q1 with ⟨_,h⟩ | ⟨h,_⟩
   .rw[A] at h;cases h
   .rw[h]
  obtain⟨t2,Q,f,B',e4,_⟩:=M1 (AI:=s.AI) T G (AN y) t1 1 [] (shp s.AC) _ j sp G1 Z (eQ 1)
   (λq K q1=>by rcases D q K Z with ⟨h,_⟩ | ⟨h,_⟩<;>rw[h])
   (λq K=>by
    by_cases c1:q < s.AA.length
    .by_cases c2:1<=q
     .rcases D q c2 c1 with ⟨h,_⟩ | ⟨h,_⟩<;>rw[h]<;>simp
     .rw[show q = 0 from Z,G1.ok.e];simp[Dm]
    .rw[Dg K Z];simp[Dm])
   (λq K q1 A=>O q Z Z A)
   (λa ha A=>by
    have i:=G.inn (j a ha)
    refine⟨i.2.1,λN=>?_⟩
    rw[O 1 Z Z (by rw[N];exact A)];omega)
   (λa ha A=>⟨⟨j a ha,A⟩,rfl⟩)
  exact⟨t2,Q,e4⟩) a0
 refine⟨R,Q,x,?_,W⟩;rw[<- N];unfold FF XJ;rw[a1];simp only[eR];rw[H.re];rfl
end Sm
end
