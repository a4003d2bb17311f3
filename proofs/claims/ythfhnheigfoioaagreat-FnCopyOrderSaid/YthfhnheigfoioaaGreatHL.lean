/- A part of the proof of the given row. Conditions: none. -/
import Derived.Test.YthfhnheigfoioaaGreatHK
set_option linter.unusedVariables false
set_option linter.unusedSimpArgs false
set_option maxRecDepth 100000
section
namespace Sm
open Go.Lf
theorem VJ {w xs:List Int} {a n:Int} (h0:0<=a) (A:(xs.length:Int) = n) (hb:a + n<=w.length) (h:∀j:Nat,j < xs.length->wv w (a + j) = xs.getD j 0):seg w a n = xs:=by
 unfold seg;apply eN
 .rw[cV,dN];omega
 .intro j y x;have:=h j x;unfold wv gv at this;rw[show (a + (j:Int)).toNat = a.toNat + j from Z,cH,cH,cF Z,cF x] at this;rw[eh,eH];exact this
theorem ZL {α:Type} {d:α} {xs ys:List α} {i:Nat} (h:i < xs.length):(xs ++ ys).getD i d = xs.getD i d:=by
 rw[cH,cH,de h]
theorem Zz {α:Type} {d:α} {xs ys:List α} {i:Nat} (h:xs.length<=i):(xs ++ ys).getD i d = ys.getD (i - xs.length) d:=by
 rw[cH,cH,eO h]
theorem GJ {s j : Ah} {l:List AQ} {AJ to tops:List Int} (x:DX s j l AJ to tops):j.AC.length = s.AC.length:=by
 rw[x.wd,CC,CC,cW]
theorem Oi {s H : Ah} {l:List AQ} {W AJ to tops:List Int} (hf:HpF s l W) (O:Od W AJ) (N:DX s H l AJ to tops) {p:Int × Int} (hp:p∈AJ.zip to) :
  ∃t,B7 l p.1 = some t/\As s.AC p.1 = (t,true)/\As H.AC p.2 = (⟨p.2,p.2,t.sh,t.refs.map (plc l AJ to),t.nums⟩,true):=by
 have a5:=(O.m _).1 (dq hp).1;obtain⟨t,ht,D⟩:=Kf hf a5;obtain⟨a6,A⟩:=BE ht;obtain⟨G,T,-⟩:=ER hf.ths;have Q:bgs l p.1:=⟨t,a6,A⟩;have i:=G.inn Q;have hl:=GJ N;obtain⟨r1,r2⟩:=N.rn p hp;obtain⟨r2,r3⟩:=r2 t ht;obtain⟨e1,e2,e3⟩:=KY (by rw[A];exact D);rw[A] at e1 e2 e3;obtain⟨n1,n2,n3⟩:=EB G Q;rw[<- e3] at n1 n2 n3;have a0:t.sh = shp s.AC p.1:=congrArg AQ.sh e3;have K:=GX s.AC p.1;rw[<- a0] at K n1 n2;obtain⟨sh,a1,a2,a3⟩:=Z8 (by rw[D]);have ⟨z1,z2⟩:=Em K;have a4:∀b∈(AJ.zip to).map λp=>DJ l AJ to p.1 p.2,0<=b.1/\b.1 + b.2.length<=s.AC.length:=λb hb=>by
  obtain⟨q,hq,rfl⟩:=cq.1 hb;obtain⟨h1,h2⟩:=N.rn q hq;obtain⟨t',R,_⟩:=Kf hf ((O.m _).1 (dq hq).1);have h3:=(h2 t' R).1;unfold DJ;rw[R];simp only[cS,cJ,cM];omega
 have x:∀k:Nat,k < 2 + t.refs.length + t.nums.length->wv H.AC (p.2 + k) = (p.2 :: AY t.sh :: (t.refs.map (plc l AJ to) ++ t.nums)).getD k 0:=λk hk=>by
  have hb:DJ l AJ to p.1 p.2 = (p.2,p.2 :: AY t.sh :: (t.refs.map (plc l AJ to) ++ t.nums)):=by unfold DJ;rw[ht]
  have hm:DJ l AJ to p.1 p.2∈(AJ.zip to).map λp=>DJ l AJ to p.1 p.2:=cq.2 ⟨p,hp,rfl⟩
  rw[hb] at hm;rw[N.wd,Eh (λb hb=>by rw[CC,cW];exact a4 b hb) N.hd hm (by unfold inB;simp only[cS,cJ,cM];omega)];simp only;rw[show (p.2 + (k:Int) - p.2).toNat = k from Z]
 have c0:=x 0 Z;have c1:=x 1 Z;simp only[Int.natCast_zero,Int.add_zero,List.getD_cons_zero] at c0;simp only[fY,List.getD_cons_zero] at c1;have w0:H.AC.getD p.2.toNat 0 = p.2:=c0;have w1:H.AC.getD (p.2.toNat + 1) 0 = AY t.sh:=by
  rw[<- c1];unfold wv gv;rw[show (p.2 + ((1:Nat):Int)).toNat = p.2.toNat + 1 from Z]
 have wok:BL H.AC.length = true:=by
  rw[hl];unfold fits at a2;simp only[z_b] at a2;exact a2.1.1.1.1.1
 have a7:AG t.sh = 2 + t.refs.length + t.nums.length:=by
  rw[e1,<- n3];omega
 have y:fits H.AC.length p.2 (AG t.sh) = true:=by
  unfold fits AN;rw[wok,if_neg Z,if_neg Z];simp only[dR,z_b,z_d,beq_iff_eq];omega
 refine⟨t,ht,D,?_⟩;rw[aO (W3 y Z) (by rw[w1,EW K]) y,w0,VJ (xs:=t.refs.map (plc l AJ to)) Z (by rw[cM];exact n1) Z (λj hj=>?_),VJ Z n2 Z (λj hj=>?_)]
 .rw[show p.2 + 2 + t.sh.refs + (j:Int) = p.2 + ((2 + t.refs.length + j:Nat):Int) from Z,x _ Z,show 2 + t.refs.length + j = (t.refs.length + j) + 1 + 1 from Z,fY,fY,Zz (by rw[cM];omega),cM,show t.refs.length + j - t.refs.length = j from Z]
 .rw[cM] at hj;rw[show p.2 + 2 + (j:Int) = p.2 + ((2 + j:Nat):Int) from Z,x _ Z,show 2 + j = j + 1 + 1 from Z,fY,fY,ZL (by rw[cM];exact hj)]
theorem HpF.pin {s:Ah} {l:List AQ} {j:List Int} (G:HpF s l j) {a:Int} (h:a∈s.AI):a∈j:=by
 obtain⟨x,D,y⟩:=G.closed.1 a (dM _ h);have H:=G.head;unfold C8 at H;simp only[z_b] at H;have:=ck.1 H.2 a h;unfold Dt at this;cases A:B7 l a with
 | none=>rw[A] at this;cases this
 | some t=>
  rw[A] at this;obtain⟨N,Q⟩:=BE A;have K:=G.S.at16 t N;unfold now at D;rw[if_neg Z,A] at D;simp only[eS,cX] at D;have O:t.moved = a:=(by simpa using this:t.moved = a/\_).1;rcases y with y | y
  .omega
  .rwa [<- D,O] at y
end Sm
end
section
namespace Go.Lf
open Go Sm
theorem jbz {R:RM} {D:Chs} {v:Value} {l:List Bool} {i:Nat} {k:Value->M} (h:Bls R v l) (A:i < l.length) (H:J R D (k (.bool l[i]))):J R D (IA 1 v (I (i:Int)) λx=>L1 x k):=by
 rcases h with ⟨_,j,_⟩ | ⟨b,o,y,t,K,rfl,j,N,G,O⟩
 .omega
 .refine jia Z Z (jlr j ?_ H);rw[cG,dx];have e:=congrArg (·[i]?) G;simp only[dw,dY] at e;rw[if_pos Z] at e;rw[e,dH,cF A];rfl
structure StZ (s:Sm.Ah):Prop where
 w:s.AC.length < 1000000
 t:s.AA.length < 1000000
 m:s.AM.length < 1000000
 o:s.old.length < 1000000
 p:s.AI.length < 1000000
 n:s.AB.length < 1000000
 r:∀t∈s.AB,t.AD.length < 1000000
section
variable {R:RM} {D:Chs} {s:Sm.Ah} {wv tv mv thv ov pv wv' tv' mv' thv' ov' pv' : Value}
set_option maxHeartbeats 1000000 in
set_option maxRecDepth 8000 in
theorem Uo (h:StC R s wv tv mv thv ov pv) (N : StC R s wv' tv' mv' thv' ov' pv') (z:StZ s) :
  Ro KC [.agg (eSt s wv tv mv thv ov pv).toArray,.agg (eSt s wv' tv' mv' thv' ov' pv').toArray] (.bool true) R D:=by
 refine QZ λF=>?_
 refine z_2 ?_;obtain⟨zw,zt,zm,zo,zp,zn,zr⟩:=z;refine ja λA=>ja λG=>(jor [Pt A,Pt G] false (λH j=>?_) (λe c u O he=>?_))
 .refine jfo (jl rfl (jfo (jl rfl (jro (G4 h.w N.w zw zw) ?_))));rw[beq_self_eq_true];refine jff (jfo (jl rfl (Bo h.t.sl (jfo (jl rfl (Bo N.t.sl (jne ?_)))))));rw[bne_self_eq_false];exact j _ _ _ CH rfl
 refine z_V ?_;refine jor [Pt A,Pt G] false (λH j=>?_) (λe c u T he=>?_)
 .rw[O];refine jff (jfo (jl rfl (Bo h.m.sl (jfo (jl rfl (Bo N.m.sl (jne ?_)))))));rw[bne_self_eq_false];exact j _ _ _ CH rfl
 refine z_V ?_;refine jor [Pt A,Pt G] false (λH j=>?_) (λe c u W he=>?_)
 .rw[T];refine jff (jfo (jl rfl (jfo (jl rfl (jne ?_)))));rw[bne_self_eq_false];exact j _ _ _ CH rfl
 refine z_V ?_;refine jor [Pt A,Pt G] false (λH j=>?_) (λe c u a2 he=>?_)
 .rw[W];refine jff (jfo (jl rfl (jfo (jl rfl (@jxb _ _ _ _ _ _ _ ?_)))));rw[bne_self_eq_false];exact j _ _ _ CH rfl
 refine z_V ?_;refine jor [Pt A,Pt G] false (λH j=>?_) (λe c u a3 he=>?_)
 .rw[a2];refine jff (jfo (jl rfl (jfo (jl rfl (@jxb _ _ _ _ _ _ _ ?_)))));rw[bne_self_eq_false];exact j _ _ _ CH rfl
 refine z_V ?_;refine jor [Pt A,Pt G] false (λH j=>?_) (λe c u a4 he=>?_)
 .rw[a3];refine jff (jfo (jl rfl (jfo (jl rfl (@jxb _ _ _ _ _ _ _ ?_)))));rw[bne_self_eq_false];exact j _ _ _ CH rfl
 refine z_V ?_;refine jor [Pt A,Pt G] false (λH j=>?_) (λe c u a5 he=>?_)
 .rw[a4];refine jff (jfo (jl rfl (jfo (jl rfl (jne ?_)))));rw[bne_self_eq_false];exact j _ _ _ CH rfl
 refine z_V ?_;refine jor [Pt A,Pt G] false (λH j=>?_) (λe c u a6 he=>?_)
 .rw[a5];refine jff (jfo (jl rfl (jfo (jl rfl (jne ?_)))));rw[bne_self_eq_false];exact j _ _ _ CH rfl
 refine z_V ?_;refine jor [Pt A,Pt G] false (λH j=>?_) (λe c u a7 he=>?_)
 .rw[a6];refine jff (jfo (jl rfl (jfo (jl rfl (jne ?_)))));rw[bne_self_eq_false];exact j _ _ _ CH rfl
 refine z_V ?_;refine jor [Pt A,Pt G] false (λH j=>?_) (λe c u a8 he=>?_)
 .rw[a7];refine jff (jfo (jl rfl (jfo (jl rfl (jro (G4 h.o N.o zo zo) ?_)))));rw[beq_self_eq_true];exact j _ _ _ CH rfl
 refine z_V ?_;refine jor [Pt A,Pt G] false (λH j=>?_) (λe c u a9 he=>?_)
 .rw[a8];refine jff (jfo (jl rfl (jfo (jl rfl (jro (G4 h.p N.p zp zp) ?_)))));rw[beq_self_eq_true];exact j _ _ _ CH rfl
 refine z_V ?_;refine jor [Pt A,Pt G] false (λH j=>?_) (λe c u b0 he=>?_)
 .rw[a9];refine jff (jfo (jl rfl (Bo h.th.sl (jfo (jl rfl (Bo N.th.sl (jne ?_)))))));rw[bne_self_eq_false];exact j _ _ _ CH rfl
 refine z_V ?_;rw[b0];refine CW (Bz [Pt A,Pt G] (λK1 h1=>?_) (λe he=>?_))
 .refine Bz [Pt A,Pt G] (λK2 h2=>?_) (λe he=>?_);rotate_left
  .refine z_V ?_;exact h1
  refine Qg [Pt A,Pt G] s.AA.length (λ_=>True) trivial λi K e hi _ hK he=>?_
  refine z_V ?_;refine jfo (jl rfl (Bo h.t.sl (jlt (jif (λc=>?_) (λc=>h2)))));have c:i < s.AA.length:=by have:=z_f c;omega
  refine jfo (jl rfl (jrg h.t c λx o ty cs hb O y=>Do hb O y (jfo (jl rfl (jrg N.t c λx o ty cs hb O y=>Do hb O y (@Zh _ _ _ _ _ _ _ ?_))))));rw[beq_self_eq_true];exact CW (jad (hK c trivial))
 refine z_V ?_;refine Bz [Pt A,Pt G] (λK1 h1=>?_) (λe he=>?_)
 .refine Bz [Pt A,Pt G] (λK2 h2=>?_) (λe he=>?_);rotate_left
  .refine z_V ?_;exact h1
  refine Qg [Pt A,Pt G] s.AM.length (λ_=>True) trivial λi K e hi _ hK he=>?_
  refine z_V ?_;refine jfo (jl rfl (Bo h.m.sl (jlt (jif (λc=>?_) (λc=>h2)))));have c:i < s.AM.length:=by have:=z_f c;omega
  refine jfo (jl rfl (jbz h.m c (jfo (jl rfl (jbz N.m c (@jxb _ _ _ _ _ _ _ ?_))))));rw[bne_self_eq_false];exact CW (jad (hK c trivial))
 refine z_V ?_;refine Qg [Pt A,Pt G] s.AB.length (λ_=>True) trivial λi K e hi _ hK he=>?_
 refine z_V ?_;refine jfo (jl rfl (Bo h.th.sl (jlt (jif (λc=>?_) (λc=>Bf (Bf (BN rfl)))))));have c:i < s.AB.length:=by have:=z_f c;omega
 have zr:=zr _ (cK c);refine jfo (jl rfl (jtr h.th c λx o ty cs rv a0 hb O y=>Do hb O y ?_));obtain⟨ra,rc,rfl⟩:=a0.sl;refine ja λb3=>js rfl rfl (cN rfl) rfl (jfo (jl rfl (jtr N.th c λx o ty cs rv Q hb O y=>Do hb O y ?_)))
 obtain⟨b5,b6,rfl⟩:=Q.sl;refine ja λb4=>js rfl rfl (cN rfl) rfl (jor [Pt A,Pt G,I i,Pt b3,Pt b4] false (λH j=>?_) (λe c2 u a1 he=>?_))
 .refine jfo (jl rfl (jfo (jl rfl (jro (G4 a0 Q zr zr) ?_))));rw[beq_self_eq_true];refine jff (jfo (jl rfl (jfo (jl rfl (jne ?_)))));rw[bne_self_eq_false];exact j _ _ _ CH rfl
 refine z_V ?_;refine jor [Pt A,Pt G,I i,Pt b3,Pt b4] false (λH j=>?_) (λe c2 u T he=>?_)
 .rw[a1];refine jff (jfo (jl rfl (jfo (jl rfl (@jxb _ _ _ _ _ _ _ ?_)))));rw[bne_self_eq_false];exact j _ _ _ CH rfl
 refine z_V ?_;refine jor [Pt A,Pt G,I i] false (λH j=>?_) (λe c2 u W he=>?_)
 .rw[T];refine jff (jfo (jl rfl (jfo (jl rfl (jne ?_)))));rw[bne_self_eq_false];exact j _ _ _ CH rfl
 refine z_V ?_;rw[W];exact CW (jad (Bf (Bf (hK c trivial))))
end
section st
variable {R:RM} {s:Sm.Ah} {wv tv mv thv ov pv:Value}
end st
def st0:Sm.Ah:=⟨[],[],[],0,false,false,false,0,[],[],[],0,0⟩
theorem Ze {R:RM} {s x : Sm.Ah} {wv H mv y G pv:Value} {l:List AQ} {AJ to tops:List Int} (h:SF R s wv H mv y G pv) (j:DX s x l AJ to tops):StZ x:=by
 have wl:=h.b.wl;have t1:=h.b.t1;have n1:=h.b.n1;have pl:=h.b.pl;have e:=j.eq;have K:=GJ j;have th:x.AB = s.AB.map (Cq l AJ to):=EM j.hlen j.th;refine⟨Z,by have:=j.tn;omega,by rw[e];simp;omega,by rw[e];simp,by rw[e];show s.AI.length < _;omega,by rw[th];simp;omega,λt A=>?_⟩;rw[th] at A;obtain⟨u,D,rfl⟩:=cq.1 A;have:=h.b.rl u D;unfold Cq;simp only[cM];omega
theorem QFd.u {r:Option Sm.Ah} {v:Value} {R:RM} (h:QFd r v R):∃G j y x A D,StC R (r.getD st0) G j y x A D/\(r.isSome = true->RgZ R j (r.getD st0).AA)/\v = .tuple #[.agg (eSt (r.getD st0) G j y x A D).toArray,.bool r.isSome]:=by
 cases r with
 | none=>
  obtain rfl:v = _:=h;exact⟨SN,SN,SN,SN,SN,SN,⟨.inl ⟨rfl,rfl,rfl⟩,.inl ⟨rfl,rfl,rfl⟩,.inl ⟨rfl,rfl,rfl⟩,⟨[],Rw.nil,.inl ⟨rfl,rfl,rfl⟩⟩,.inl ⟨rfl,rfl,rfl⟩,.inl ⟨rfl,rfl,rfl⟩⟩,(λh=>by cases h),rfl⟩
 | some s=>
  obtain⟨wv,tv,mv,thv,ov,pv,h,H,rfl⟩:=h;exact⟨wv,tv,mv,thv,ov,pv,h,λ_=>H,rfl⟩
theorem jsS {R:RM} {D:Chs} {b:Nat} {s:Sm.Ah} {wv y mv j x pv:Value} {m:M} (h:StC R s wv y mv j x pv) (H:J R ((b,C 50 (eSt s wv y mv j x pv)) :: D) m):J R ((b,C 50 (cl z50)) :: D) (ST 13 (Pt b) (.agg (eSt s wv y mv j x pv).toArray) m):=by
 obtain⟨T,wc,rfl⟩:=h.w.sl;obtain⟨Q,tc,rfl⟩:=h.t.sl;obtain⟨G,mc,rfl⟩:=h.m.sl;obtain⟨A,hc,rfl⟩:=h.th.sl;obtain⟨K,N,rfl⟩:=h.o.sl;obtain⟨O,pc,rfl⟩:=h.p.sl;exact js rfl rfl (by exact z_n 13) rfl H
section
variable {R:RM} {D:Chs} {w:List Int} {wv:Value} {t:AQ} {a:Int} {k:Value->Value->M}
end
theorem full_rn {s s' : Sm.Ah} {l:List AQ} {Q AJ to tops:List Int} (hf:HpF s l Q) (O:Od Q AJ) (K:DX s s' l AJ to tops) (hw:∀x∈s.AC,Rn x) (hl:s.AC.length<=192):∀x∈s'.AC,Rn x:=by
 have hc:∀(N:List (Int × List Int)) (w:List Int),(∀x∈w,Rn x)->(∀b∈N,∀x∈b.2,Rn x)->∀x∈Bp w N,Rn x:=by
  intro N;induction N with
  | nil=>intro w h _ x j;exact h x j
  | cons b N ih=>
   intro w h hb;refine ih _ ?_ λb' W=>hb b' (ce _ W)
   have hs:∀(c w:List Int) (a:Int),(∀x∈w,Rn x)->(∀x∈c,Rn x)->∀x∈CE w a c,Rn x:=by
    intro c;induction c with
    | nil=>intro w a h _ x j;exact h x j
    | cons v c a2=>
     intro w a h hv;refine a2 _ _ (λx j=>?_) λx j=>hv x (ce _ j)
     unfold AT at j;rcases dy j with j | rfl
     .exact h x j
     .exact hv _ V
   exact hs _ _ _ h (hb b V)
 have H:∀(a n:Int) (x:Int),x∈seg s.AC a n->Rn x:=λa n x j=>hw x (eG (dJ j))
 have nums:∀t∈l,∀x∈t.nums,Rn x:=λt D x j=>by
  obtain⟨G,T,-⟩:=ER hf.ths;have R:=(T.all t D).2;rw[R] at j;exact H _ _ x j
 have z:Rn 0:=⟨δ,δ⟩;have A:∀x:Int,0<=x->x<=1000000->Rn x:=λx h0 R=>⟨Z,Z⟩
 obtain⟨G,T,-⟩:=ER hf.ths;rw[K.wd];refine hc _ _ (hc _ _ (λx j=>by rw[(dQ.1 j).2];exact z) λb hb x j=>?_) λb hb x j=>?_
 .obtain⟨t,D,rfl⟩:=cq.1 hb;have D:=(dV.1 D).1;have i:=G.inn (T.all t D).1;unfold Dm at j;simp only[cU,cm,dQ] at j;rcases j with rfl | rfl | ⟨_,rfl⟩ | j
  .exact A _ Z Z
  .exact Rn.shape
  .exact z
  .exact nums t D x j
 .obtain⟨p,hp,rfl⟩:=cq.1 hb;obtain⟨R,h2⟩:=K.rn p hp;unfold DJ at j;cases D:B7 l p.1 with
  | none=>rw[D] at j;cases j
  | some t=>
   rw[D] at j;have h3:=(h2 t D).1;simp only[cU,cm,cq] at j;rcases j with rfl | rfl | ⟨y,_,rfl⟩ | j
   .exact A _ Z Z
   .exact Rn.shape
   .unfold plc;split
    .split
     .rename_i u _ hu;have hi:AJ.idxOf u < to.length:=by rw[K.hlen];exact dP hu
      rw[cH,cF hi,dI];have a0:AJ.idxOf u < (AJ.zip to).length:=by rw[fJ,K.hlen] at *;omega
      have hz:=cK a0;rw[fN] at hz;obtain⟨g1,g2⟩:=K.rn _ hz;obtain⟨t',a1,_⟩:=Kf hf ((O.m _).1 (dq hz).1);have:=(g2 t' a1).1;dsimp only at this g1;exact A _ Z Z
     .exact z
    .exact z
   .exact nums t (BE D).1 x j
end Go.Lf
end
section
namespace Sm
open Go.Lf
section
variable {s s' : Ah} {l:List AQ} {met AJ to tops:List Int}
theorem Xx (W:HpF s l met) (O:Od met AJ) (H:DX s s' l AJ to tops) {t:AQ} (A:t∈l) (hh:Aj s.AI (AN t.at_) = true) (hd:t.at_ ∉ to):wv s'.AC t.at_ = t.at_/\wv s'.AC (t.at_ + 1) = AY t.sh:=by
 obtain⟨G,T,-⟩:=ER W.ths;obtain⟨f,B',G2,k5,k6,k7⟩:=H.gs;obtain⟨D,x2⟩:=T.all t A;have i:=G.inn D;have K:=(EB G D).2.2;rw[<- x2] at K;have N:B' t.at_:=(k5 t.at_ ⟨⟨t,A,rfl⟩,by rw[<- Be Z];exact hh⟩).1;have a2:AG (f t.at_) = sz s.AC t.at_:=by rw[(k5 t.at_ ⟨⟨t,A,rfl⟩,by rw[<- Be Z];exact hh⟩).2];rfl
 have Q:∀t∈l,0<=(Dm t).1/\(Dm t).1 + (Dm t).2.length<=s.AC.length:=λt A=>by
  obtain⟨D,x2⟩:=T.all t A;have i:=G.inn D;have K:=(EB G D).2.2;rw[<- x2] at K;rw[Ij];show 0<=t.at_/\t.at_ + _<=_;omega
 have R:∀b∈(AJ.zip to).map λp=>DJ l AJ to p.1 p.2,0<=b.1/\b.1 + b.2.length<=s.AC.length:=λb hb=>by
  obtain⟨q,hq,rfl⟩:=cq.1 hb;obtain⟨K,N⟩:=H.rn q hq;obtain⟨t',j,_⟩:=Kf W ((O.m _).1 (dq hq).1);have h3:=(N t' j).1;unfold DJ;rw[j];simp only[cS,cJ,cM];omega
 have out:∀x,t.at_<=x->x < t.at_ + sz s.AC t.at_->∀b∈(AJ.zip to).map λp=>DJ l AJ to p.1 p.2,¬ inB b x:=λx g0 g1 b hb hx=>by
  obtain⟨p,hp,rfl⟩:=cq.1 hb;obtain⟨q1,q2,_⟩:=k7 p hp;have a1:=(O.m _).1 (dq hp).1;obtain⟨t',j,a3⟩:=Kf W a1;obtain⟨m1,m2⟩:=BE j;obtain⟨y1,y2⟩:=T.all t' m1;have h3:=(EB G y1).2.2;rw[<- y2,m2] at h3;have hz:AG (f p.2) = sz s.AC p.1:=by rw[q2];rfl
  unfold inB DJ at hx;rw[j] at hx;simp only[cS,cJ,cM] at hx;have a0:p.2≠t.at_:=λe=>hd (e▸(dq hp).2)
  rcases Int.lt_or_gt_of_ne a0 with c | c
  .have:=G2.dj _ _ q1 N c;omega
  .have:=G2.dj _ _ N q1 c;omega
 have y:∀k:Nat,k < 2->wv s'.AC (t.at_ + k) = (Dm t).2.getD k 0:=λk hk=>by
  have hm:Dm t∈(l.filter λx=>Aj s.AI (AN x.at_)).map Dm:=cq.2 ⟨t,dV.2 ⟨A,hh⟩,rfl⟩;rw[H.wd,EC (λb hb=>by rw[CC,cW];exact R b hb) Z (out _ Z Z),Eh (λb hb=>by
   rw[cW]
   obtain⟨u,hu,rfl⟩:=cq.1 hb
   exact Q u (dV.1 hu).1) H.dd hm (by
   unfold inB
   rw[Ij]
   show t.at_<=_/\_ < t.at_ + _
   omega)]
  rw[show (t.at_ + (k:Int) - (Dm t).1).toNat = k from by show (t.at_ + (k:Int) - t.at_).toNat = k;omega]
 have c0:=y 0 Z;have c1:=y 1 Z;exact⟨by simpa [Dm] using c0,by simpa [Dm] using c1⟩
def bgF (s:Ah) (l:List AQ) (to:List Int) (b:Int):Prop:=b∈to\/(bgs l b/\Aj s.AI (b / 16) = true)
theorem UC (Q:HpF s l met) (O:Od met AJ) (D:DX s s' l AJ to tops):∃f:Int->Shp,IN f s'.AA (bgF s l to)/\∀b,bgF s l to b->wv s'.AC b = b/\AS (wv s'.AC (b + 1)) = (f b,true):=by
 obtain⟨G,T,-⟩:=ER Q.ths;obtain⟨f,B',G2,k5,k6,k7⟩:=D.gs;have A:∀b∈to,∃a,(a,b)∈AJ.zip to:=λb hb=>Hb D.hlen.symm hb
 have eB:∀b,B' b↔bgF s l to b:=λb=>⟨λh=>(k6 b h).elim .inr λh=>.inl h.1,λh=>h.elim (λh=>by
  obtain⟨a,H⟩:=A b h
  exact (k7 _ H).1) λh=>(k5 b h).1⟩
 have N:B' = bgF s l to:=funext λb=>propext (eB b)
 rw[<- N];refine⟨f,G2,λb hb=>?_⟩;have i2:=G2.inn hb;by_cases j:b∈to
 .obtain⟨a,H⟩:=A b j;obtain⟨t,h1,h2,h3⟩:=Oi Q O D H;dsimp only at h1 h2 h3;obtain⟨q1,q2,_⟩:=k7 _ H;dsimp only at q2;obtain⟨e1,e2,y⟩:=KY (x:=⟨b,b,t.sh,t.refs.map (plc l AJ to),t.nums⟩) h3;have e4:=congrArg AQ.moved y;have e5:=congrArg AQ.sh y;dsimp only[thg] at e4 e5;obtain⟨m1,m2⟩:=BE h1;have e6:=(KY (x:=t) (by rw[m2];exact h2)).2.2;have K:=congrArg AQ.sh e6;dsimp only[thg] at K;rw[m2] at K;refine⟨e4.symm,Prod.ext ?_ e2⟩;show (AS (wv s'.AC (b + 1))).1 = f b;rw[q2,<- K];exact e5.symm
 .rcases k6 b hb with ⟨⟨t,W,rfl⟩,hh⟩ | ⟨h,_⟩
  .have R : Aj s.AI (AN t.at_) = true:=by rw[Be Z];exact hh
   obtain⟨d1,d2⟩:=Xx Q O D W R j;have k:=(k5 t.at_ ⟨⟨t,W,rfl⟩,hh⟩).2;have y:=congrArg AQ.sh (T.all t W).2;dsimp only[thg] at y;rw[d2,k,<- y];refine⟨d1,EW ?_⟩;rw[y];exact GX s.AC t.at_
  .exact absurd h j
theorem LZ (H:HpF s l met) (O:Od met AJ) (y:DX s s' l AJ to tops):Geo s'.AC s'.AA (bgF s l to)/\∀b,bgF s l to b->wv s'.AC b = b:=by
 obtain⟨G,T,-⟩:=ER H.ths;obtain⟨f,x,D⟩:=UC H O y;have A:∀b,bgF s l to b->sz s'.AC b = AG (f b):=λb hb=>by
  unfold sz shp;rw[(D b hb).2]
 refine⟨⟨?_,x.ok,λa j=>?_,λa j=>?_,x.bs,λa b j hb h=>?_⟩,λb hb=>(D b hb).1⟩
 .rw[GJ y,y.tn];exact G.len
 .obtain⟨K,N,_⟩:=x.at_ a j;rw[A a j];exact⟨K,N,by rw[(D a j).2]⟩
 .rw[A a j];exact x.nx a j
 .rw[A a j];exact x.dj a b j hb h
end
section
variable {s s' : Ah} {l l' : List AQ} {met to tops:List Int}
def mvT (AJ to:List Int) (a:Int):Int:=to.getD (AJ.idxOf a) 0
theorem Nt {AJ to:List Int} (hl:to.length = AJ.length) {a:Int} (h:a∈AJ):(a,mvT AJ to a)∈AJ.zip to:=by
 have x:=dP h;have j : AJ.idxOf a < to.length:=Z
 have y:AJ.idxOf a < (AJ.zip to).length:=by rw[fJ];omega
 have:=cK y;rw[fN,fQ x] at this;unfold mvT;rw[cH,cF j];exact this
theorem OR {l:List AQ} {AJ to:List Int} (h0:0 ∉ AJ) {x u:Int} (h:now l x = some u) (j:u = 0\/u∈AJ):plc l AJ to x = if u = 0 then 0 else mvT AJ to u:=by
 unfold plc;rw[h];dsimp only;rcases j with rfl | j
 .rw[if_neg h0,if_pos rfl]
 .rw[if_pos j,if_neg (λe:u = 0=>h0 (by rw[e] at j;exact j))];rfl
structure JX (l l' : List AQ) (AJ to:List Int):Prop where
 z:0 ∉ AJ
 zt:0 ∉ to
 len:to.length = AJ.length
 inj:∀a∈AJ,∀b∈AJ,mvT AJ to a = mvT AJ to b->a = b
 th:∀a∈AJ,∃t,B7 l a = some t/\B7 l' (mvT AJ to a) = some ⟨mvT AJ to a,mvT AJ to a,t.sh,t.refs.map (plc l AJ to),t.nums⟩
variable {AJ:List Int}
theorem GR (hl:to.length = AJ.length) {a:Int} (h:a∈AJ):mvT AJ to a∈to:=(dq (Nt hl h)).2
theorem JX.now (Q:JX l l' AJ to) {u:Int} (y:u = 0\/u∈AJ):Sm.now l' (if u = 0 then 0 else mvT AJ to u) = some (if u = 0 then 0 else mvT AJ to u):=by
 by_cases c:u = 0
 .rw[if_pos c];rfl
 .rw[if_neg c];have j:=y.resolve_left c;obtain⟨t,_,x⟩:=Q.th u j;unfold Sm.now;rw[if_neg (λe:mvT AJ to u = 0=>Q.zt (by have:=GR Q.len j;rw[e] at this;exact this)),x];rfl
theorem JX.put (Q:JX l l' AJ to) {acc:List Int} (j:∀a∈acc,a∈AJ) {u:Int} (D:u = 0\/u∈AJ):Bu (acc.map (mvT AJ to)) (if u = 0 then 0 else mvT AJ to u) = (Bu acc u).map (mvT AJ to)/\∀a∈Bu acc u,a∈AJ:=by
 by_cases c:u = 0
 .rw[if_pos c,c];unfold Bu;rw[if_pos (.inl rfl),if_pos (.inl rfl)];exact⟨rfl,j⟩
 .rw[if_neg c];have A:=D.resolve_left c;have h0:mvT AJ to u≠0:=λe=>Q.zt (by have:=GR Q.len A;rw[e] at this;exact this)
  by_cases d:u∈acc
  .have x:Bu acc u = acc:=by unfold Bu;rw[if_pos (.inr d)]
   have y:Bu (acc.map (mvT AJ to)) (mvT AJ to u) = acc.map (mvT AJ to):=by unfold Bu;rw[if_pos (.inr (dm d))]
   rw[x,y];exact⟨rfl,j⟩
  .have x:Bu acc u = acc ++ [u]:=by unfold Bu;rw[if_neg (λe=>e.elim c d)]
   have y:Bu (acc.map (mvT AJ to)) (mvT AJ to u) = acc.map (mvT AJ to) ++ [mvT AJ to u]:=by
    unfold Bu;rw[if_neg];rintro (e | e)
    .exact h0 e
    .obtain⟨b,hb,e⟩:=cq.1 e;have:=Q.inj b (j b hb) u A e;exact d (by rw[<- this];exact hb)
   rw[x,y];refine⟨by rw[dE];rfl,λa h=>?_⟩;rcases cm.1 h with h | h
   .exact j a h
   .rw[cZ.1 h];exact A
theorem JX.all (Q:JX l l' AJ to):∀{xs acc r:List Int},(∀a∈acc,a∈AJ)->(∀x∈xs,∃u,Sm.now l x = some u/\(u = 0\/u∈AJ))->Aq l xs acc = some r->Aq l' (xs.map (plc l AJ to)) (acc.map (mvT AJ to)) = some (r.map (mvT AJ to))/\∀a∈r,a∈AJ
 | [],acc,r,ha,_,h=>by cases h;exact⟨rfl,ha⟩
 | x :: xs,acc,r,ha,hx,h=>by
  obtain⟨u,A,j⟩:=hx x V;rw[Bn,A,z_o] at h;obtain⟨p1,p2⟩:=Q.put ha j;rw[dO,Bn,OR Q.z A j,Q.now j,z_o,p1];exact Q.all (xs:=xs) p2 (λy D=>hx y (ce _ D)) h
theorem JX.loop (Q:JX l l' AJ to) (hc:∀b∈AJ,∀t,B7 l b = some t->∀a∈t.refs,∃u,Sm.now l a = some u/\(u = 0\/u∈AJ)):∀{n D i:Nat} {out r x : List Int},(∀a∈out,a∈AJ)->BH l n i out = some r->BH l' D i (out.map (mvT AJ to)) = some x->x = r.map (mvT AJ to)
 | 0,_,_,_,_,_,_,h,_=>by cases h
 | _ + 1,0,_,_,_,_,_,_,h=>by cases h
 | n + 1,D + 1,i,out,r,x,ha,h,h'=>by
  by_cases c:i < out.length
  .have A:=ha _ (cK c);obtain⟨t,y,G⟩:=Q.th _ A;rw[C9 c y] at h;rw[C9 (by rw[cM];exact c) (by rw[eF];exact G)] at h';cases j:Aq l t.refs out with
   | none=>rw[j] at h;cases h
   | some o=>
    obtain⟨p1,p2⟩:=Q.all ha (hc _ A t y) j;rw[j,z_o] at h;dsimp only at h';rw[p1,z_o] at h';exact Q.loop hc p2 h h'
  .rw[CJ Z] at h;rw[CJ (by rw[cM];omega)] at h';cases h;cases h';rfl
end
section
variable {s s' : Ah} {l l' : List AQ} {met AJ to tops:List Int}
theorem Nu (j:HpF s l met) (O:Od met AJ):0 ∉ AJ:=λh=>by
 obtain⟨t,y⟩:=j.M.th 0 ((O.m 0).1 h);obtain⟨x,A⟩:=BE y;have:=j.S.at16 t x;omega
theorem bL (j:DX s s' l AJ to tops) {b:Int} (h:b∈to):16<=b:=by
 obtain⟨a,x⟩:=Hb j.hlen.symm h;exact (j.rn _ x).1
theorem Uj (D:HpF s l met) (O:Od met AJ) (x:DX s s' l AJ to tops) (W : Thn s'.AC (bgF s l to) l'):JX l l' AJ to:=by
 obtain⟨T,a0⟩:=LZ D O x;refine⟨Nu D O,λh=>?_,x.hlen,λa K b hb e=>?_,λa K=>?_⟩
 .have:=bL x h;omega
 .have y:=dP K;have A:=dP hb;have H:=x.hd;rw[f7] at H;have hl:=x.hlen;have G:∀i j (y:i < AJ.length) (A:j < AJ.length),to.getD i 0 = to.getD j 0->i < j->False:=λi j y A e Q=>by
   have g:=H i j (by rw[cM,fJ];omega) (by rw[cM,fJ];omega) Q;rw[eF,eF,fN,fN] at g;dsimp only at g;obtain⟨ti,h2,_⟩:=Kf D ((O.m _).1 (cK y));obtain⟨tj,N,_⟩:=Kf D ((O.m _).1 (cK A));rw[cH,cH,cF Z,cF Z,dI,dI] at e;refine g (to[i]'(Z)) ⟨?_,?_⟩
   .unfold inB DJ;rw[h2];simp only[cS];omega
   .unfold inB DJ;rw[N,e];simp only[cS];omega
  unfold mvT at e;rcases Nat.lt_trichotomy (AJ.idxOf a) (AJ.idxOf b) with c | c | c
  .exact (G _ _ y A e c).elim
  .have g1:=fQ y;have g2:=fQ A;rw[<- g1,<- g2];exact getElem_congr_idx c
  .exact (G _ _ A y e.symm c).elim
 .have hz:=Nt x.hlen K;obtain⟨t,H,_,N⟩:=Oi D O x hz;refine⟨t,H,?_⟩;have hb:bgF s l to (mvT AJ to a):=.inl (GR x.hlen K);have R:=T.thing hb;rw[N] at R;rw[W.find hb];exact congrArg some (congrArg Prod.fst R).symm
theorem Nz (j:HpF s l met) (O:Od met AJ) (D:DX s s' l AJ to tops) {a:Int} (h:a∈s.AI):mvT AJ to a = a/\plc l AJ to a = a:=by
 have y:=j.pin h;have G:=(O.m a).2 y;have Q:=Nt D.hlen G;obtain⟨t,A,_⟩:=Kf j y;obtain⟨R,T⟩:=BE A;have K:=j.S.at16 t R;have e:mvT AJ to a = a:=by
  rcases D.rg _ Q with ⟨_,H⟩ | ⟨x,_⟩
  .exact H
  .dsimp only at x;have:Aj s.AI (a / 16) = true:=by
    unfold Aj;rw[List.any_eq_true];exact⟨a,h,by rw[Be Z];simp⟩
   rw[this] at x;cases x
 have N:now l a = some a:=by
  unfold now;rw[if_neg Z,A];rw[eS,j.nw a y t A]
 refine⟨e,?_⟩;rw[OR (Nu j O) N (.inr G),if_neg Z,e]
theorem Vy (A:HpF s l met) (O:Od met AJ) (y:DX s s' l AJ to tops) {x u:Int} (h:now l x = some u) (D:u = 0\/u∈met) (h0:plc l AJ to x≠0):plc l AJ to x∈to:=by
 have j : u = 0\/u∈AJ:=D.imp id (O.m u).2;rw[OR (Nu A O) h j] at h0 ⊢;by_cases c:u = 0
 .rw[if_pos c] at h0;exact absurd rfl h0
 .rw[if_neg c];exact GR y.hlen (j.resolve_left c)
theorem Ug (H:HpF s l met) (O:Od met AJ) (A:DX s s' l AJ to tops):∃l',CU s' = some (l',met.map (mvT AJ to))/\Thn s'.AC (bgF s l to) l'/\JX l l' AJ to:=by
 obtain⟨G',R⟩:=LZ H O A;obtain⟨l',e1,T'⟩:=NO G';have Q:=Uj H O A T';obtain⟨a4,a5⟩:=H.closed;have hlen:=G'.len;have n0:=G'.ok.n0;have K:s'.AB = s.AB.map (Cq l AJ to):=EM A.hlen A.th;have G:s'.AI = s.AI:=by rw[A.eq]
 have D:∀u,u∈AJ↔u∈met:=O.m;have b0:EN s' = true:=by
  unfold EN;have hm:s'.AM.length = s'.AC.length:=by rw[A.eq];simp[GJ A]
  rw[G'.wok,Bi.2 G'.ok,hm];simp;omega
 have b7:Eo s' = some l':=by unfold Eo;rw[if_pos b0];exact e1
 have a1:∀a,Dg s' a = false:=λa=>by
  unfold Dg;by_cases c:0<=AN a/\AN a < s'.AA.length
  .have:(rv s'.AA (AN a)).kind≠4:=by
    by_cases c0:AN a = 0
    .rw[c0,A.e0];decide
    .rw[A.rw_ (AN a) Z (by rw[<- A.tn];exact c.2)];unfold II;split
     .show (3:Int)≠4;decide
     .show (1:Int)≠4;decide
   simp[this]
  .simp only[not_and] at c;by_cases c0:0<=AN a
   .have:=c c0;simp[this]
   .simp[c0]
 have a0:s'.AI.all (Dt s' l') = true:=by
  rw[ck,G];intro a y;have hz:=GR A.hlen ((D a).2 (H.pin y));rw[(Nz H O A y).1] at hz;unfold Dt;rw[T'.find (.inl hz),a1];have:=R a (.inl hz);simp[thg,this]
 have hh:=H.head;unfold C8 at hh;simp only[z_b,z_d] at hh;obtain⟨⟨⟨⟨⟨⟨⟨_,_⟩,_⟩,g4⟩,g5⟩,g6⟩,g7⟩,_⟩:=hh;have b3:C8 s' l' = true:=by
  unfold C8;rw[a0];have ph:s'.Ae = 0:=by rw[A.eq]
  have a9:CP s' l' = true:=by
   unfold CP;rw[ck];intro t ht;obtain⟨b1,b2⟩:=T'.all t ht;unfold CL;have:t.moved = t.at_:=by rw[b2];exact R _ b1
   simp[this]
  have Bq:s'.AB.all Fk = true:=by
   rw[K,List.all_map,ck];intro t ht;have:=ck.1 g7 t ht;unfold Fk at this ⊢;simp only[z_b,z_d] at this;simp only[Function.comp,Cq,cM,z_b,z_d];obtain⟨⟨i1,i2⟩,i3⟩:=this;by_cases c:t.Am = 1
   .simp[c,i1]
   .simp[c,i1,i2,i3]
  rw[a9,Bq,ph,G];simp only[K,cM,z_b,z_d,Bool.and_true,dR];exact⟨⟨⟨⟨δ,δ⟩,g4⟩,g5⟩,g6⟩
 have b5:∀a,a∈to->∃t,∃b∈met,B7 l b = some t/\thg s'.AC a = ⟨a,a,t.sh,t.refs.map (plc l AJ to),t.nums⟩:=λa y=>by
  obtain⟨b,hb⟩:=Hb A.hlen.symm y;obtain⟨t,h1,_,h3⟩:=Oi H O A hb;have h4:=G'.thing (.inl y:bgF s l to a);rw[h3] at h4;exact⟨t,b,(D b).1 (dq hb).1,h1,(congrArg Prod.fst h4).symm⟩
 obtain⟨out,o1,_⟩:=Lw (L:=(·∈to)) T' (λa y=>.inl y) (λa y=>(G'.inn y).1) (λa y=>by
   have:=R a (.inl y)
   rw[this]
   exact⟨y,this⟩) (λa j y j0 j1 T=>by
   obtain⟨t,b,hb,h1,h2⟩:=b5 a y
   have i:=G'.inn (.inl y:bgF s l to a)
   have h3:=congrArg AQ.refs h2
   dsimp only[thg] at h3
   have ok:=Em (GX s'.AC a)
   have es:AG (shp s'.AC a) = sz s'.AC a:=rfl
   have hm:=Y6 (w:=s'.AC) (a:=a + 2) (n:=(shp s'.AC a).refs) Z j0 j1 Z
   rw[h3] at hm
   obtain⟨x,hx,e⟩:=cq.1 hm
   obtain⟨u,hu,a2⟩:=a5 b hb t h1 x hx
   rw[<- e] at T ⊢
   exact Vy H O A hu a2 T) (λt ht a y T=>by
   rw[K] at ht
   obtain⟨t0,b6,rfl⟩:=cq.1 ht
   obtain⟨x,hx,rfl⟩:=cq.1 (show a∈t0.AD.map (plc l AJ to) from y)
   obtain⟨u,hu,a2⟩:=a4 x (dC _ (eu.2 ⟨t0,b6,hx⟩))
   exact Vy H O A hu a2 T) (λa y=>by
   rw[G] at y
   have hz:=GR A.hlen ((D a).2 (H.pin y))
   rw[(Nz H O A y).1] at hz
   exact⟨hz,R a (.inl hz)⟩)
 have W:Cs s' = (Cs s).map (plc l AJ to):=by
  unfold Cs;rw[K,G,dE,List.flatMap_map,List.map_flatMap];congr 1
  conv=>lhs;rw[<- List.map_id s.AI]
  exact dZ λa y=>((Nz H O A y).2).symm
 have N:=H.re;have b4:s.AI.all (Dt s l) = true:=by
  have hh:=H.head;unfold C8 at hh;simp only[z_b] at hh;exact hh.2
 rw[DV b4] at N;have a3:=o1;rw[DV a0,W] at a3;have a6:∀x∈Cs s,∃u,now l x = some u/\(u = 0\/u∈AJ):=λx hx=>by
  obtain⟨u,hu,h2⟩:=a4 x hx;exact⟨u,hu,h2.imp id (D u).2⟩
 have a7:∀b∈AJ,∀t,B7 l b = some t->∀a∈t.refs,∃u,now l a = some u/\(u = 0\/u∈AJ):=λb hb t ht a y=>by
  obtain⟨u,hu,h2⟩:=a5 b ((D b).1 hb) t ht a y;exact⟨u,hu,h2.imp id (D u).2⟩
 have a8:out = met.map (mvT AJ to):=by
  cases hn:Aq l (Cs s) [] with
  | none=>rw[hn] at N;cases N
  | some o=>
   rw[hn,z_o] at N;obtain⟨p1,p2⟩:=Q.all (acc:=[]) (λa y=>by cases y) a6 hn;rw[List.map_nil] at p1;rw[p1,z_o] at a3;exact Q.loop a7 p2 N a3
 refine⟨l',?_,T',Q⟩;unfold CU;rw[b7];dsimp only;rw[if_pos b3,o1,a8];rfl
end
end Sm
end
section
namespace Sm
def DO (n:Nat) (low:Int) (l:List Int):Bool:=!l.any λx=>decide (x < low) || decide (x>=n)
def My (n:Nat) (x:List Int × List Int):Bool:=decide (x.1.length<=4) && decide (x.2.length<=4) && DO n (-1) x.1
def gOk (g:PG):Bool:=decide (g.nodes.length<=200) && decide (1<=g.AD.length) && decide (g.AD.length<=3) && decide (g.pinned.length<=8) && DO g.nodes.length 0 g.pinned && (g.nodes.all (My g.nodes.length)) && g.AD.all λr=>decide (r.length<=8) && DO g.nodes.length (-1) r
def HB (p:Int->Bool):Nat->List Int->Int
 | _,[]=>-1
 | i,x :: r=>if p x = true then i else HB p (i + 1) r
theorem KO {p:Int->Bool} {i:Nat} {x:Int} {r:List Int}:HB p i (x :: r) = if p x = true then (i:Int) else HB p (i + 1) r:=rfl
theorem MB {p:Int->Bool}:∀(l:List Int) (i:Nat),decide (HB p i l>=0) = l.any p
 | [],i=>by simp[HB]
 | x :: l,i=>by
  rw[KO];cases h:p x with
  | true=>simp[h]
  | false=>simp only[List.any_cons,h,dU];exact MB l (i + 1)
structure GZ (g:PG):Prop where
 n:g.nodes.length < 1000000
 r:g.AD.length < 1000000
 p:g.pinned.length < 1000000
 nr:∀x∈g.nodes,x.1.length < 1000000/\x.2.length < 1000000
 rr:∀x∈g.AD,x.length < 1000000
end Sm
namespace Go.Lf
open Go Sm
section
variable {R:RM} {D:Chs} {k:Value->M}
theorem jnd {v:Value} {rows:List (List Value)} {l:List (List Int × List Int)} {i:Nat} (y:Rw (NdC R) rows l) (N:Fz R v 2 rows.length rows.flatten) (G:i < l.length)
  (H:∀b o A j rv nv,B8 R rv (l[i]).1->B8 R nv (l[i]).2->R b = some (C A j)->o + 2<=j.length->(j.drop o).take 2 = [rv,nv]->J R D (k (.pointer (some ⟨b,o,none⟩)))):J R D (IA 2 v (I (i:Int)) k):=by
 have x : i < rows.length:=by rw[y.1];exact G
 obtain⟨b,o,K,A,j,rfl,hb,hl,hc⟩:=Ja N (y.all λ_ _=>NdC.len) x;obtain⟨rv,nv,e,r1,O⟩:=y.2 i x G;refine jia Z Z ?_;rw[cG];exact H b (o + i * 2) A j rv nv r1 O hb hl (by rw[hc,e])
theorem jrw {v:Value} {rows:List (List Value)} {l:List (List Int)} {i:Nat} (A:Rw (RwC R) rows l) (O:Fz R v 1 rows.length rows.flatten) (G:i < l.length)
  (H:∀rv,B8 R rv l[i]->J R D (k rv)):J R D (IA 1 v (I (i:Int)) λx=>L1 x k):=by
 have j : i < rows.length:=by rw[A.1];exact G
 obtain⟨b,o,K,Q,N,rfl,hb,hl,hc⟩:=Ja O (A.all λ_ _=>RwC.len) j;obtain⟨rv,e,r1⟩:=A.2 i j G;refine jia Z Z ?_;rw[cG];have y:(N.drop (o + i * 1)).take 1 = [rv]:=by rw[hc,e]
 exact jlr hb (Bc y (f:=0) rfl) (H rv r1)
theorem WT {x j:Int} {G H N y:Nat} {a:Option Addr} {rv pv:Value} (K:R G = some (C 40 [.slice a N y,rv,pv])) (O:R H = some (C 3 [I j])):Ro Fo [I x,Pt H,Pt G] (.bool (decide (x < j) || decide (x>=N))) R D:=by
 refine J3 λF=>?_
 refine z_3 ?_;refine jor [] (decide (x < j) || decide (x>=N)) (λT A=>?_) (λe c u Q he=>?_)
 .refine jlr (v:=I j) O rfl (jlt (F0 (λg=>?_) (λg=>?_)))
  .rw[g];exact jfo (jlr (v:=.slice a N y) K rfl (jln (jge (A _ _ _ CH (by rw[g,dU])))))
  .rw[g];exact A _ _ _ DL (by rw[g,eL])
 refine z_V ?_;rw[Q];exact BN rfl
theorem Vg {v y:Value} {l:List Int} {p:Int->Bool} (h:B8 R v l) (hl:l.length < 1000000) (N:∀(x:Int) (A : Chs) (G : Value->M),J R A (G (.bool (p x)))->J R A (CV P y [I x] G)):Ro ES [v,y] (I (HB p 0 l)) R D:=by
 refine GW λF=>?_
 refine z_2 ?_;refine Bo h.sl ?_;refine Qg [v,y,I l.length] l.length (λi=>HB p 0 l = HB p i (l.drop i)) (by rw[di]) λi K e O j H he=>?_
 refine z_V ?_;refine jlt (jif (λc=>?_) (λc=>?_));rotate_left
 .have c:=z_g c;refine BN ?_;rw[j,cT Z];rfl
 have c:i < l.length:=by have:=z_f c;omega
 refine Bl h Z Z (N _ _ _ ?_);simp only[cG];rw[cQ c,KO] at j;refine jif (λg=>?_) (λg=>?_)
 .rw[if_pos g] at j;exact BN (by rw[j])
 .rw[if_neg (by rw[g];decide)] at j;exact jad (H c j)
theorem Yx {v y:Value} {l:List Int} {p:Int->Bool} (h:B8 R v l) (hl:l.length < 1000000) (G:∀(x:Int) (j : Chs) (A : Value->M),J R j (A (.bool (p x)))->J R j (CV P y [I x] A)):Ro Ds [v,y] (.bool (l.any p)) R D:=by
 refine Fe λF=>?_
 refine z_2 ?_;refine jro (Vg h hl G) (jge ?_);rw[MB];exact BN rfl
theorem OK {a:Option Addr} {N G:Nat} {rv pv lv:Value} {l:List Int} {j:Int} (fr:flat rv = true) (fp:flat pv = true) (h:B8 R lv l) (hl:l.length < 1000000):Ro Gk [.agg #[.slice a N G,rv,pv],lv,I j] (.bool (DO N j l)) R D:=by
 refine Ki λF=>?_
 refine z_3 ?_;refine ja λW=>ja λb2=>BB (b:=W) λR1 K O=>BB (b:=b2) λT y Q=>?_
 have O:T W = some (C 40 [.slice a N G,rv,pv]):=y _ _ O;have Q:T b2 = some (C 3 [I j]):=Q;refine jro (Yx (p:=λx=>decide (x < j) || decide (x>=N)) (h.le (K.trans y)) hl λx D' k' H=>Hg (by kernel_rfl) (jro (WT O Q) H)) ?_;exact Ao (A:=D) (K.trans y) ⟨rfl,rfl⟩
end
section
variable {R:RM} {v:Value} {g:PG}
set_option maxHeartbeats 1000000 in
set_option maxRecDepth 8000 in
theorem QX (h:GrF R v g) (z:GZ g):Ro K0 [v] (.bool (gOk g)) R []:=by
 obtain⟨r1,r2,nv,rv,pv,rfl,h1,h2,h3,h4,h5⟩:=h;obtain⟨zn,zr,zp,b3,b4⟩:=z;obtain⟨Q,T,rfl⟩:=h2.sl;obtain⟨W,rc,rfl⟩:=h4.sl;obtain⟨pa,pc,rfl⟩:=h5.sl;have e1:=h1.1;have e2:=h3.1;refine Py λF=>?_
 refine z_1 ?_;refine ja λb=>BB (b:=b) λR0 D hb=>?_
 have hb:R0 b = some (C 40 [.slice Q r1.length T,.slice W r2.length rc,.slice pa g.pinned.length pc]):=hb;have h1:=h1.mono λ_ _=>NdC.le D
 have h2:=h2.le D;have h3:=h3.mono λ_ _=>RwC.le D
 have h4:=h4.le D;have h5:=h5.le D;rw[e1,e2] at hb;have h2:Fz R0 (.slice Q g.nodes.length T) 2 r1.length r1.flatten:=by rw[<- e1];exact h2
 have h4:Fz R0 (.slice W g.AD.length rc) 1 r2.length r2.flatten:=by rw[<- e2];exact h4
 obtain⟨N,a1⟩:∃N,N = decide ((g.nodes.length:Int) > 200):=⟨_,rfl⟩;obtain⟨O,a2⟩:∃O,O = decide ((g.AD.length:Int) < 1):=⟨_,rfl⟩;obtain⟨A3,a3⟩:∃A3,A3 = decide ((g.AD.length:Int) > 3):=⟨_,rfl⟩;obtain⟨A4,a4⟩:∃A4,A4 = decide ((g.pinned.length:Int) > 8):=⟨_,rfl⟩;have b1:gOk g = (!(N || O || A3 || A4 || !DO g.nodes.length 0 g.pinned) && (g.nodes.all (My g.nodes.length)) && g.AD.all λr=>decide (r.length<=8) && DO g.nodes.length (-1) r):=by
  unfold gOk;have q1:decide (g.nodes.length<=200) = !N:=by rw[a1,<- decide_not];exact decide_eq_decide.2 Z
  have q2:decide (1<=g.AD.length) = !O:=by rw[a2,<- decide_not];exact decide_eq_decide.2 Z
  have q3:decide (g.AD.length<=3) = !A3:=by rw[a3,<- decide_not];exact decide_eq_decide.2 Z
  have q4:decide (g.pinned.length<=8) = !A4:=by rw[a4,<- decide_not];exact decide_eq_decide.2 Z
  rw[q1,q2,q3,q4];cases N<;>cases O<;>cases A3<;>cases A4<;>cases DO g.nodes.length 0 g.pinned<;>rfl
 rw[b1];refine jor [Pt b] (N || O) (λK' j=>?_) (λe c u ho he=>?_)
 .refine jfo (jlr (v:=.slice Q g.nodes.length T) hb rfl (jln (jgr ?_)));rw[<- a1];refine F0 (λq=>?_) (λq=>?_)
  .rw[q];refine jfo (jlr (v:=.slice W g.AD.length rc) hb rfl (jln (jlt ?_)));rw[<- a2];exact j _ _ _ CH (by rw[q,dU])
  .rw[q];exact j _ _ _ DL (by rw[q,eL])
 refine z_V ?_;refine jor [Pt b] (N || O || A3) (λK' j=>?_) (λe c u a0 he=>?_)
 .rw[ho];refine F0 (λq=>?_) (λq=>?_)
  .rw[q];refine jfo (jlr (v:=.slice W g.AD.length rc) hb rfl (jln (jgr ?_)));rw[<- a3];exact j _ _ _ CH (by rw[q,dU])
  .rw[q];exact j _ _ _ DL (by rw[q,eL])
 refine z_V ?_;refine jor [Pt b] (N || O || A3 || A4) (λK' j=>?_) (λe c u a8 he=>?_)
 .rw[a0];refine F0 (λq=>?_) (λq=>?_)
  .rw[q];refine jfo (jlr (v:=.slice pa g.pinned.length pc) hb rfl (jln (jgr ?_)));rw[<- a4];exact j _ _ _ CH (by rw[q,dU])
  .rw[q];exact j _ _ _ DL (by rw[q,eL])
 refine z_V ?_;refine jor [Pt b] (N || O || A3 || A4 || !DO g.nodes.length 0 g.pinned) (λK' j=>?_) (λe c u a9 he=>?_)
 .rw[a8];refine F0 (λq=>?_) (λq=>?_)
  .rw[q];refine Do (l:=[.slice Q g.nodes.length T,.slice W g.AD.length rc,.slice pa g.pinned.length pc]) hb (by exact z_n 3) rfl (jfo (jlr (v:=.slice pa g.pinned.length pc) hb rfl ?_));exact jro (OK rfl rfl h5 zp) (j _ _ _ CH (by rw[q,dU]))
  .rw[q];exact j _ _ _ DL (by rw[q,eL])
 refine z_V ?_;rw[a9];generalize (N || O || A3 || A4 || !DO g.nodes.length 0 g.pinned) = B;refine jif (λq=>?_) (λq=>?_)
 .rw[q];exact Ao (A:=[]) D ⟨rfl,rfl⟩
 rw[q];refine OZ [Pt b] (g.nodes.all (My g.nodes.length) = true) (λK1 k1=>?_) (λe hp he=>?_)
 .refine jfo (jlr (v:=.slice Q g.nodes.length T) hb rfl (jln ?_));refine OZ [Pt b] (g.nodes.all (My g.nodes.length) = true) (λK2 k2=>?_) (λe hp he=>?_);rotate_left
  .refine z_V ?_;exact k1 hp
  refine Qg [Pt b,.slice Q g.nodes.length T,I g.nodes.length] g.nodes.length (λi=>(g.nodes.take i).all (My g.nodes.length) = true) rfl λi K e hi y hK he=>?_
  refine z_V ?_;refine jlt (jif (λc=>?_) (λc=>?_));rotate_left
  .have c:=z_g c;rw[cO Z] at y;exact k2 y
  have c:i < g.nodes.length:=by have:=z_f c;omega
  obtain⟨b5,b6⟩:=b3 _ (cK c);have a7:My g.nodes.length g.nodes[i] = false->g.nodes.all (My g.nodes.length) = false:=λh=>by
   rw[List.all_eq_false];exact⟨_,cK c,by rw[h];decide⟩
  refine jnd h1 h2 c λx o ty cs xv yv hx hy b0 ho a6=>Do b0 ho a6 ?_
  obtain⟨xa,xc,rfl⟩:=hx.sl;obtain⟨ya,yc,rfl⟩:=hy.sl;refine ja λb2=>jS ([.slice xa g.nodes[i].1.length xc,.slice ya g.nodes[i].2.length yc]) ?_
  obtain⟨G,H⟩:∃G,G = decide ((g.nodes[i].1.length:Int) > 4):=⟨_,rfl⟩;obtain⟨B2,a5⟩:∃B2,B2 = decide ((g.nodes[i].2.length:Int) > 4):=⟨_,rfl⟩;have kn:My g.nodes.length g.nodes[i] = !(G || B2 || !DO g.nodes.length (-1) g.nodes[i].1):=by
   unfold My;have q1:decide (g.nodes[i].1.length<=4) = !G:=by rw[H,<- decide_not];exact decide_eq_decide.2 Z
   have q2:decide (g.nodes[i].2.length<=4) = !B2:=by rw[a5,<- decide_not];exact decide_eq_decide.2 Z
   rw[q1,q2];cases G<;>cases B2<;>cases DO g.nodes.length (-1) g.nodes[i].1<;>rfl
  refine jor [Pt b,Pt b2,.slice Q g.nodes.length T,I g.nodes.length,I i] (G || B2) (λK' j=>?_) (λe c4 u ho he=>?_)
  .refine jfo (jl (v:=.slice xa g.nodes[i].1.length xc) rfl (jln (jgr ?_)));rw[<- H];refine F0 (λq=>?_) (λq=>?_)
   .rw[q];refine jfo (jl (v:=.slice ya g.nodes[i].2.length yc) rfl (jln (jgr ?_)));rw[<- a5];exact j _ _ _ CH (by rw[q,dU])
   .rw[q];exact j _ _ _ DL (by rw[q,eL])
  refine z_V ?_;refine jor [Pt b,.slice Q g.nodes.length T,I g.nodes.length,I i] (G || B2 || !DO g.nodes.length (-1) g.nodes[i].1) (λK' j=>?_) (λe c3 u a0 he=>?_)
  .rw[ho];refine F0 (λq=>?_) (λq=>?_)
   .rw[q];refine Do (l:=[.slice Q g.nodes.length T,.slice W g.AD.length rc,.slice pa g.pinned.length pc]) hb (by exact z_n 3) rfl (jfo (jl (v:=.slice xa g.nodes[i].1.length xc) rfl ?_));exact jro (OK rfl rfl hx b5) (j _ _ _ CH (by rw[q,dU]))
   .rw[q];exact j _ _ _ DL (by rw[q,eL])
  refine z_V ?_;rw[a0];refine jif (λq=>?_) (λq=>?_)
  .rw[q] at kn;rw[a7 kn];exact Ao (A:=[]) D ⟨rfl,rfl⟩
  .rw[q] at kn;refine jad (Bf (hK c ?_));rw[cI c,fS,y];simp only[List.all_cons,List.all_nil,Bool.and_true,dR];exact kn
 refine z_V ?_;rw[hp];refine jfo (jlr (v:=.slice W g.AD.length rc) hb rfl (jln ?_));refine Qg [Pt b,.slice W g.AD.length rc,I g.AD.length] g.AD.length (λi=>((g.AD.take i).all λr=>decide (r.length<=8) && DO g.nodes.length (-1) r) = true) rfl λi K e hi y hK he=>?_
 refine z_V ?_;refine jlt (jif (λc=>?_) (λc=>?_));rotate_left
 .have c:=z_g c;rw[cO Z] at y;rw[y];exact Ao (A:=[]) D ⟨rfl,rfl⟩
 have c:i < g.AD.length:=by have:=z_f c;omega
 have zx:=b4 _ (cK c);refine jrw h3 h4 c λxv hx=>?_
 obtain⟨xa,xc,rfl⟩:=hx.sl;obtain⟨G,H⟩:∃G,G = decide ((g.AD[i].length:Int) > 8):=⟨_,rfl⟩;have kn:(decide (g.AD[i].length<=8) && DO g.nodes.length (-1) g.AD[i]) = !(G || !DO g.nodes.length (-1) g.AD[i]):=by
  have q1:decide (g.AD[i].length<=8) = !G:=by rw[H,<- decide_not];exact decide_eq_decide.2 Z
  rw[q1];cases G<;>cases DO g.nodes.length (-1) g.AD[i]<;>rfl
 refine jor [Pt b,.slice W g.AD.length rc,I g.AD.length,I i] (G || !DO g.nodes.length (-1) g.AD[i]) (λK' j=>?_) (λe c3 u ho he=>?_)
 .refine jln (jgr ?_);rw[<- H];refine F0 (λq=>?_) (λq=>?_)
  .rw[q];refine Do (l:=[.slice Q g.nodes.length T,.slice W g.AD.length rc,.slice pa g.pinned.length pc]) hb (by exact z_n 3) rfl ?_;exact jro (OK rfl rfl hx zx) (j _ _ _ CH (by rw[q,dU]))
  .rw[q];exact j _ _ _ DL (by rw[q,eL])
 refine z_V ?_;rw[ho];refine jif (λq=>?_) (λq=>?_)
 .rw[q] at kn;have:(g.AD.all λr=>decide (r.length<=8) && DO g.nodes.length (-1) r) = false:=by
   rw[List.all_eq_false];exact⟨_,cK c,by rw[kn];decide⟩
  rw[this];exact Ao (A:=[]) D ⟨rfl,rfl⟩
 .rw[q] at kn;refine jad (hK c ?_);rw[cI c,fS,y];simp only[List.all_cons,List.all_nil,Bool.and_true,dR];exact kn
end
end Go.Lf
end
section
namespace Sm
def EF (acc:List Int) (n:Int):List Int:=if 0<=n/\n ∉ acc then acc ++ [n] else acc
def CI (acc l:List Int):List Int:=l.foldl EF acc
def FU (g:PG) (n:Int):List Int:=(g.nodes.getD n.toNat ([],[])).1
def Gz (g:PG):Nat->Nat->List Int->List Int
 | 0,_,out=>out
 | f + 1,k,out=>match out[k]? with
  | none=>out
  | some n=>Gz g f (k + 1) (CI out (FU g n))
def XK (g:PG):List Int:=CI (g.AD.foldl CI []) g.pinned
def Jg (g:PG):List Int:=Gz g (g.nodes.length + 1) 0 (XK g)
structure MOk (N:Nat) (acc:List Int):Prop where
 nd:acc.Nodup
 rg:∀x∈acc,0<=x/\x < N
theorem MOk.len {N:Nat} {acc:List Int} (h:MOk N acc):acc.length<=N:=by
 have:acc.length<=((List.range N).map λ(i:Nat)=>(i:Int)).length:=Ek h.nd λx j=>by
  obtain⟨y,A⟩:=h.rg x j;exact cq.2 ⟨x.toNat,du.2 Z,Z⟩
 simpa using this
theorem MOk.step {N:Nat} {acc:List Int} (h:MOk N acc) {n:Int} (A:n < N):MOk N (EF acc n):=by
 unfold EF;split
 .rename_i c;refine⟨?_,λx j=>?_⟩
  .rw[List.nodup_append];exact⟨h.nd,V,λa y b hb e=>c.2 (by rw[cZ.1 hb] at e;rw[<- e];exact y)⟩
  .rcases cm.1 j with j | j
   .exact h.rg x j
   .rw[cZ.1 j];exact⟨c.1,A⟩
 .exact h
theorem MOk.meet {N:Nat}:∀{l acc:List Int},MOk N acc->(∀x∈l,x < N)->MOk N (CI acc l)
 | [],acc,h,_=>h
 | n :: l,acc,h,hl=>MOk.meet (acc:=EF acc n) (h.step (hl n V)) λx j=>hl x (ce _ j)
theorem SC {acc l:List Int} {i:Nat} (h:i < l.length):CI acc (l.take (i + 1)) = EF (CI acc (l.take i)) l[i]:=by
 unfold CI;rw[cI h,fU];rfl
theorem RP {n:Nat} {j:Int} {l:List Int}:DO n j l = true↔∀x∈l,j<=x/\x < n:=by
 unfold DO;rw[cz,List.any_eq_false];simp only[d7,z_d,not_or,Int.not_lt];exact⟨λh x y=>by have:=h x y;omega,λh x y=>by have:=h x y;omega⟩
structure GOk (g:PG):Prop where
 n:g.nodes.length<=200
 r0:1<=g.AD.length
 r1:g.AD.length<=3
 p:g.pinned.length<=8
 pr:∀x∈g.pinned,0<=x/\x < g.nodes.length
 nd:∀x∈g.nodes,x.1.length<=4/\x.2.length<=4/\∀y∈x.1,-1<=y/\y < g.nodes.length
 rr:∀x∈g.AD,x.length<=8/\∀y∈x,-1<=y/\y < g.nodes.length
theorem Xe {g:PG}:gOk g = true↔GOk g:=by
 unfold gOk My;simp only[z_b,z_d,ck,RP];constructor
 .rintro⟨⟨⟨⟨⟨⟨A,D⟩,G⟩,H⟩,K⟩,j⟩,N⟩;exact⟨A,D,G,H,K,λx y=>⟨(j x y).1.1,(j x y).1.2,(j x y).2⟩,N⟩
 .rintro⟨A,D,G,H,K,j,N⟩;exact⟨⟨⟨⟨⟨⟨A,D⟩,G⟩,H⟩,K⟩,λx y=>⟨⟨(j x y).1,(j x y).2.1⟩,(j x y).2.2⟩⟩,N⟩
theorem Wh {g:PG} (h:GOk g) (n:Int):(∀y∈FU g n,-1<=y/\y < g.nodes.length)/\(FU g n).length<=4:=by
 unfold FU;rw[cH];cases j:g.nodes[n.toNat]? with
 | none=>exact⟨λy A=>by simp at A,V⟩
 | some x=>exact⟨(h.nd x (List.mem_of_getElem? j)).2.2,(h.nd x (List.mem_of_getElem? j)).1⟩
theorem Ih {g:PG} (h:GOk g):∀{rs:List (List Int)} {acc:List Int},(∀x∈rs,x∈g.AD)->MOk g.nodes.length acc->MOk g.nodes.length (rs.foldl CI acc)
 | [],acc,_,m=>m
 | r :: rs,acc,hr,m=>Ih h (rs:=rs) (acc:=CI acc r) (λx j=>hr x (ce _ j)) (m.meet λx j=>((h.rr r (hr r V)).2 x j).2)
theorem MOk.nil {N:Nat}:MOk N []:=⟨List.nodup_nil,λx j=>by cases j⟩
theorem Tb {g:PG} (h:GOk g):MOk g.nodes.length (XK g):=(Ih h (λ_ j=>j) MOk.nil).meet λx j=>(h.pr x j).2
theorem QD {g:PG} (h:GOk g):∀{f k:Nat} {out:List Int},MOk g.nodes.length out->MOk g.nodes.length (Gz g f k out)
 | 0,_,_,m=>m
 | f + 1,k,out,m=>by
  unfold Gz;split
  .exact m
  .exact QD h (m.meet λx j=>((Wh h _).1 x j).2)
theorem Xz {g:PG} (h:GOk g):MOk g.nodes.length (Jg g):=QD h (Tb h)
theorem LK {g:PG} {f k:Nat} {out:List Int} (h:k < out.length):Gz g (f + 1) k out = Gz g f (k + 1) (CI out (FU g out[k])):=by
 conv=>lhs;unfold Gz
 rw[cF h]
theorem No {g:PG} {f k:Nat} {out:List Int} (h:out.length<=k):Gz g f k out = out:=by
 cases f with
 | zero=>rfl
 | succ f=>unfold Gz;rw[dT h]
end Sm
namespace Go.Lf
open Go Sm
section
variable {R:RM}
def MtD (N sb ob mb:Nat) (acc:List Int) (ov:Value) (A:Chs):Chs:=(sb,C 47 [S0 mb N N]) :: (ob,C 30 [ov]) :: (mb,C Ax ((mkB N acc).map Value.bool)) :: A
set_option maxHeartbeats 1000000 in
set_option maxRecDepth 8000 in
theorem RB {N H D mb:Nat} {lv O:Value} {l acc:List Int} {A0:Chs} (h:B8 R lv l) (hl:l.length < 1000000) (hx:∀x∈l,x < N) (hN:N<=200) (m:MOk N acc) (W:SO acc O A0) :
  Fn P F3 [lv,Pt H,Pt D] R (MtD N H D mb acc O A0) (λv T A=>v = .tuple #[]/\T = R/\∃ov' A',SO (CI acc l) ov' A'/\A = MtD N H D mb (CI acc l) ov' A'):=by
 refine Ku λF=>?_
 refine z_3 ?_;refine Bo h.sl ?_;refine jli (λi:Nat × Value × Chs=>l.length - i.1) (λi=>[Pt H,Pt D,lv,I l.length,I i.1]) (λi=>MtD N H D mb (CI acc (l.take i.1)) i.2.1 (i.2.2 ++ F))
  (λT i=>T = R/\i.1<=l.length/\SO (CI acc (l.take i.1)) i.2.1 i.2.2) (0,O,A0) ⟨rfl,V,by simpa [CI] using W⟩ rfl (by simp[CI,MtD]) ?_
 rintro K e T ⟨i,O,A⟩ ⟨hR,hi,W⟩ he hK;subst hR;dsimp only at hi W he ⊢;refine z_V ?_;refine jlt (jif (λc=>?_) (λc=>?_));rotate_left
 .have c:=z_g c;rw[cO Z] at W ⊢;unfold MtD;refine Ao (A:=MtD N H D mb (CI acc l) O A) (RM.le.refl _) ⟨rfl,rfl,O,A,W,rfl⟩ (s:=⟨?_⟩) (G:=F);exact dK _
 have c:i < l.length:=by have:=z_f c;omega
 have a8:=hx _ (cK c);have mi:MOk N (CI acc (l.take i)):=m.meet λx a7=>hx x (dJ a7)
 have a4:=mi.len;have y:=SC (acc:=acc) c;obtain⟨j,a6⟩:∃j,j = CI acc (l.take i):=⟨_,rfl⟩;rw[<- a6] at W mi a4 y ⊢;refine jci (λ_:Value × Chs=>[Pt H,Pt D,lv,I l.length,I i]) (λq=>MtD N H D mb (EF j l[i]) q.1 (q.2 ++ F)) (λR1 q=>R1 = T/\SO (EF j l[i]) q.1 q.2) (λK1 k1=>?_) ?_;rotate_left
 .rintro e R1 ⟨a2,A1⟩ ⟨a1,a3⟩ he;subst a1;refine z_V ?_;refine jad ?_;have:=hK R1 (i + 1,a2,A1) (by dsimp only;omega) ⟨rfl,c,by dsimp only;rw[y];exact a3⟩;dsimp only at this;rw[y] at this;exact this
 refine jci (λ_:Value × Chs=>[Pt H,Pt D,lv,I l.length,I i]) (λq=>MtD N H D mb (EF j l[i]) q.1 (q.2 ++ F)) (λR1 q=>R1 = T/\SO (EF j l[i]) q.1 q.2) (λK2 k2=>?_) ?_;rotate_left
 .rintro e R1 ⟨a2,A1⟩ ⟨a1,a3⟩ he;subst a1;refine z_V ?_;exact k1 R1 (a2,A1) ⟨rfl,a3⟩
 refine Bl h Z Z ?_;simp only[cG];unfold MtD at k2 ⊢;refine jan [Pt H,Pt D,I l[i],lv,I l.length,I i] (decide (0<=l[i]) && !decide (l[i]∈j)) (λK' a0=>?_) (λe c1 u ho he=>?_)
 .refine jge (Dv (λq=>?_) (λq=>?_))
  .rw[q];have q0:0<=l[i]:=by simpa using q
   obtain⟨k,hk⟩:∃k:Nat,l[i] = k:=⟨l[i].toNat,Z⟩;refine jl (v:=S0 mb N N) rfl ?_;rw[hk];have Q:k < N:=Z
   refine C0 Q (jl (v:=.bool (decide ((k:Int)∈j))) ?_ ?_)
   .rw[dx,cg,dH,cF (by rw[O5];exact Q)];simp[mkB]
   .rw[hk] at a0;exact a0 _ _ _ Bx V
  .rw[q];exact a0 _ _ _ CB (by
    have:¬ (0<=l[i]):=by simpa using q
    rw[decide_eq_false this];rfl)
 refine z_V ?_;rw[ho];refine jif (λq=>?_) (λq=>?_)
 .have q:0<=l[i]/\l[i] ∉ j:=by simpa using q
  have es:EF j l[i] = j ++ [l[i]]:=by unfold EF;rw[if_pos q]
  rw[es] at k2;obtain⟨k,hk⟩:∃k:Nat,l[i] = k:=⟨l[i].toNat,Z⟩;have Q:k < N:=Z
  refine jl (v:=S0 mb N N) rfl ?_;rw[hk] at k2 ⊢;refine bR Q ?_;refine jl (v:=O) rfl (jbs (cs:=[I k]) rfl rfl λbb=>?_);refine Gr (A:=A) (E:=(H,C 47 [S0 mb N N]) :: (D,C 30 [O]) :: (mb,C Ax ((mkB N (j ++ [(k:Int)])).map Value.bool)) :: F) (s:=⟨?_⟩) W Z λv' A' a5=>?_
  .refine List.Perm.trans ?_ (db);exact ((db (l₁:=A) (l₂:=F)).cons _).cons _ |>.cons _
  obtain⟨va,vc,rfl⟩:=a5.sln;refine Az (D':=(D,C 30 [O]) :: (A' ++ ((H,C 47 [S0 mb N N]) :: (mb,C Ax ((mkB N (j ++ [(k:Int)])).map Value.bool)) :: F))) ?_ ?_
  .exact ((dh _ _ _).append_left A').trans d9
  refine jS ([.slice va (j ++ [(k:Int)]).length vc]) ?_;refine Az ?_ (k2 T (_,A') ⟨rfl,a5⟩);dsimp only;refine List.Perm.trans ?_ (dh _ _ _);refine eE _ ?_;exact d9.trans ((d9).cons _)
 .have q:¬ (0<=l[i]/\l[i] ∉ j):=by simpa using q
  have es:EF j l[i] = j:=by unfold EF;rw[if_neg q]
  rw[es] at k2;exact k2 T (O,A) ⟨rfl,W⟩
end
end Go.Lf
end
section
namespace Go.Lf
open Go Sm
instance MtD.sp (N sb ob mb:Nat) (acc:List Int) (ov:Value) (A F:Chs):Sp (MtD N sb ob mb acc ov (A ++ F)) (MtD N sb ob mb acc ov A) F:=⟨dK _⟩
section
variable {R:RM} {v:Value} {g:PG}
set_option maxHeartbeats 1000000 in
set_option maxRecDepth 8000 in
theorem YR (h:GrF R v g) (ok:GOk g):Fn P Ht [v] R [] (λv T A=>SO (Jg g) v A):=by
 obtain⟨r1,r2,nv,rv,pv,rfl,h1,h2,h3,h4,h5⟩:=h;obtain⟨na,nc,rfl⟩:=h2.sl;obtain⟨ra,rc,rfl⟩:=h4.sl;obtain⟨pa,pc,rfl⟩:=h5.sl;have e1:=h1.1;have e2:=h3.1;have n2:=ok.n;have zr:=ok.r1;have zp:=ok.p;refine Mx λF=>?_
 refine z_1 ?_;refine ja λb=>BB (b:=b) λR0 G hb=>ja λH=>?_
 have hb:R0 b = some (C 40 [.slice na r1.length nc,.slice ra r2.length rc,.slice pa g.pinned.length pc]):=hb;have h1:=h1.mono λ_ _=>NdC.le G
 have h2:=h2.le G;have h3:=h3.mono λ_ _=>RwC.le G
 have h4:=h4.le G;have h5:=h5.le G;rw[e1,e2] at hb;have h2:Fz R0 (.slice na g.nodes.length nc) 2 r1.length r1.flatten:=by rw[<- e1];exact h2
 have h4:Fz R0 (.slice ra g.AD.length rc) 1 r2.length r2.flatten:=by rw[<- e2];exact h4
 refine jfo (jlr (v:=.slice na g.nodes.length nc) hb rfl (jln ?_));refine jms Z Z Z λmb=>ja λW=>?_
 have e0:(List.replicate (g.nodes.length:Int).toNat (cl z4)).flatten = (mkB g.nodes.length []).map Value.bool:=by
  rw[Y5,cG];show (List.replicate g.nodes.length [Value.bool false]).flatten = _;simp
 rw[e0,cG];refine jS [S0 mb g.nodes.length g.nodes.length] ?_;obtain⟨N,Q⟩:∃N,N = g.nodes.length:=⟨_,rfl⟩;rw[<- Q] at n2 hb h2 ⊢;obtain⟨FN,y⟩:∃FN:Value,FN = .func (.func F3) #[] #[Pt W,Pt H]:=⟨_,rfl⟩;refine jci (λ_:Value × Chs=>[Pt b,Pt H,FN]) (λq=>MtD N W H mb (g.AD.foldl CI []) q.1 (q.2 ++ F)) (λR1 q=>R1 = R0/\SO (g.AD.foldl CI []) q.1 q.2) (λK1 k1=>?_) ?_
 .refine jfo (jlr (v:=.slice ra g.AD.length rc) hb rfl (jln ?_));refine jiI k1 λK2 k2=>?_
  refine Az (D':=MtD N W H mb [] (SN) ([] ++ F)) ?_ ?_
  .unfold MtD;exact (dh _ _ _).cons _
  refine jli (λi:Nat × Value × Chs=>g.AD.length - i.1) (λi=>[Pt b,Pt H,FN,.slice ra g.AD.length rc,I g.AD.length,I i.1]) (λi=>MtD N W H mb ((g.AD.take i.1).foldl CI []) i.2.1 (i.2.2 ++ F))
   (λT i=>T = R0/\i.1<=g.AD.length/\SO ((g.AD.take i.1).foldl CI []) i.2.1 i.2.2) (0,SN,[]) ⟨rfl,V,.inl ⟨rfl,rfl,rfl⟩⟩ (by rw[y];rfl) rfl ?_
  rintro K e T ⟨i,ov,A⟩ ⟨hR,hi,j⟩ he hK;subst hR;dsimp only at hi j he ⊢;refine z_V ?_;refine jlt (jif (λc=>?_) (λc=>?_));rotate_left
  .have c:=z_g c;rw[cO Z] at j ⊢;exact k2 T (ov,A) ⟨rfl,j⟩
  have c:i < g.AD.length:=by have:=z_f c;omega
  have hr:=ok.rr _ (cK c);have m:=Ih ok (rs:=g.AD.take i) (acc:=[]) (λx D=>dJ D) MOk.nil;have et:(g.AD.take (i + 1)).foldl CI [] = CI ((g.AD.take i).foldl CI []) g.AD[i]:=by
   rw[cI c,fU];rfl
  refine jrw h3 h4 c λxv D=>?_
  rw[y];refine Hg (by kernel_rfl) ?_;refine jc (RB (mb:=mb) D Z (λx D=>by rw[Q];exact (hr.2 x D).2) n2 (by rw[Q];exact m) j) ?_;rintro _ R2 A2 _ ⟨rfl,a0,ov',A',a2,rfl⟩;subst a0;refine jad ?_;have:=hK R2 (i + 1,ov',A') (by dsimp only;omega) ⟨rfl,c,by dsimp only;rw[et];exact a2⟩;dsimp only at this;rw[et,y] at this;exact this
 rintro e R1 ⟨ov,A⟩ ⟨hR,j⟩ he;subst hR;dsimp only at j ⊢;refine z_V ?_;have m:=Ih ok (rs:=g.AD) (acc:=[]) (λx D=>D) MOk.nil;refine jfo (jlr (v:=.slice pa g.pinned.length pc) hb rfl ?_);rw[y];refine Hg (by kernel_rfl) ?_;refine jc (RB (mb:=mb) h5 Z (λx D=>by rw[Q];exact (ok.pr x D).2) n2 (by rw[Q];exact m) j) ?_;rintro _ R2 A2 _ ⟨rfl,a0,ov',A',a2,rfl⟩;subst a0;rw[<- y];have m0:=Tb ok;refine jci (λ_:Value × Chs=>[Pt H]) (λq=>MtD N W H mb (Jg g) q.1 (q.2 ++ F)) (λR1 q=>R1 = R2/\SO (Jg g) q.1 q.2) (λK1 k1=>?_) ?_;rotate_left
 .rintro e R1 ⟨ov,A⟩ ⟨hR,j⟩ he;subst hR;dsimp only at j ⊢;refine z_V ?_;unfold MtD;exact jl (v:=ov) rfl (Bf (Bf (Bf (Ao (A:=A) G j))))
 refine jiI k1 λK2 k2=>?_
 refine jli (λi:Nat × List Int × Value × Chs=>N + 1 - i.1) (λi=>[Pt b,Pt H,FN,I i.1]) (λi=>MtD N W H mb i.2.1 i.2.2.1 (i.2.2.2 ++ F))
  (λT i=>T = R2/\i.1<=i.2.1.length/\MOk N i.2.1/\SO i.2.1 i.2.2.1 i.2.2.2/\Gz g (N + 1 - i.1) i.1 i.2.1 = Jg g) (0,XK g,ov',A') ⟨rfl,V,by rw[Q];exact m0,a2,by rw[Q];rfl⟩ rfl rfl ?_
 rintro K e T ⟨i,acc,ov,A⟩ ⟨hR,hi,m,j,O⟩ he hK;subst hR;dsimp only at hi j he m O ⊢;refine z_V ?_;have b0:=m.len;obtain⟨oa,oc,rfl⟩:=j.sln;unfold MtD;refine jl (v:=.slice oa acc.length oc) rfl (jln (jlt (jif (λc=>?_) (λc=>?_))));rotate_left
 .have c:=z_g c;rw[No Z] at O;rw[<- O] at k2;exact k2 T (_,A) ⟨rfl,j⟩
 have c:i < acc.length:=by have:=z_f c;omega
 obtain⟨q,hq⟩:∃q,N + 1 - i = q + 1:=⟨N - i,Z⟩;rw[hq,LK c] at O;obtain⟨x0,x1⟩:=m.rg _ (cK c);obtain⟨k,hk⟩:∃k:Nat,acc[i] = k:=⟨acc[i].toNat,Z⟩;have a1:k < g.nodes.length:=Z
 refine jfo (jlr (v:=.slice na N nc) hb rfl (jl (v:=.slice oa acc.length oc) rfl ?_));refine Un (A:=A) (E:=(W,C 47 [S0 mb N N]) :: (H,C 30 [.slice oa acc.length oc]) :: (mb,C Ax ((mkB N acc).map Value.bool)) :: F) j (s:=⟨by
   refine List.Perm.trans ?_ db
   exact (db (l₁:=A) (l₂:=F)).cons _ |>.cons _ |>.cons _⟩) c ?_
 rw[hk];refine jnd h1 h2 a1 λxb o ty cs xv yv D hy a7 ho a3=>jfo (jlr a7 (Bc a3 (f:=0) rfl) ?_)
 have a6:FU g acc[i] = g.nodes[k].1:=by
  unfold FU;rw[hk,cG,cH,cF a1];rfl
 have hnd:=ok.nd _ (cK a1);rw[y];refine Hg (by kernel_rfl) ?_;show J _ (MtD N W H mb acc (.slice oa acc.length oc) (A ++ F)) _;refine jc (RB (mb:=mb) D Z (λx D=>by rw[Q];exact (hnd.2.2 x D).2) n2 m j) ?_;rintro _ R3 A3 _ ⟨rfl,a4,a8,A3,a9,rfl⟩;subst a4;refine jad ?_;have a5:i + 1<=(CI acc g.nodes[k].1).length:=by
  have:∀(l acc:List Int),acc.length<=(CI acc l).length:=by
   intro l;induction l with
   | nil=>intro acc;exact z_n _
   | cons x l ih=>
    intro acc;refine fT ?_ (ih (EF acc x));unfold EF;split
    .simp
    .exact z_n _
  exact fT c (this _ _)
 have:=hK R3 (i + 1,CI acc g.nodes[k].1,a8,A3) (by dsimp only;omega) ⟨rfl,a5,m.meet λx D=>by rw[Q];exact (hnd.2.2 x D).2,a9,by
  dsimp only
  rw[<- a6,show N + 1 - (i + 1) = q from Z];exact O⟩
 dsimp only at this;rw[y] at this;exact this
end
end Go.Lf
end
section
namespace Sm
def Ga (n:Nat):List Int:=(List.range n).map λ(i:Nat)=>(i:Int)
theorem QB {n:Nat}:(Ga n).length = n:=by simp[Ga]
def nmG (order:List Int) (x:Int):Int:=if 0<=x then (if x∈order then (Ga order.length).getD (order.idxOf x) 0 else 0) else x
def G5 (g:PG):PG:=⟨(Jg g).map λn=>((FU g n).map (nmG (Jg g)),(g.nodes.getD n.toNat ([],[])).2),g.AD.map λr=>r.map (nmG (Jg g)),g.pinned.map (nmG (Jg g))⟩
theorem Y1 {f:Int->Int} {xs:List Int} {i:Nat} (h:i<=xs.length):((xs.take i).map f ++ xs.drop i).length = xs.length:=by simp;omega
theorem YO {f:Int->Int} {xs:List Int} {i:Nat} (h:i < xs.length) (j:i < ((xs.take i).map f ++ xs.drop i).length):((xs.take i).map f ++ xs.drop i)[i] = xs[i]:=by
 rw[df (by simp;omega),eH];congr 1;simp;omega
theorem YQ {f:Int->Int} {xs:List Int} {i:Nat} (h:i < xs.length):((xs.take i).map f ++ xs.drop i).set i (f xs[i]) = (xs.take (i + 1)).map f ++ xs.drop (i + 1):=by
 rw[dl _ _ (by simp;omega),cQ h,cI h,dE,cR];congr 1;rw[show i - (List.map f (List.take i xs)).length = 0 from by simp;omega];rfl
end Sm
namespace Go.Lf
open Go Sm
section
variable {R:RM}
set_option maxHeartbeats 1000000 in
set_option maxRecDepth 8000 in
theorem YD {lv:Value} {l j:List Int} {mb:Nat} {o:Obj} (h:B8 R lv l) (hl:l.length < 1000000) (ho:R mb = some o) (hm:Mg o (prs j (Ga j.length))) :
  Fn P JW [lv,.map (some mb)] R [] (λv x A=>x = R/\SO (l.map (nmG j)) v A):=by
 refine Tw λF=>?_
 refine z_2 ?_;refine jc (A:=[]) (Dk h hl) ?_;rintro cv R1 A1 _ ⟨N,Q,-⟩;subst N;refine jci (λ_:Chs=>[cv]) (λA=>A ++ F) (λx A=>x = R1/\SO (l.map (nmG j)) cv A) (λK1 k1=>?_) ?_;rotate_left
 .rintro e x A ⟨N,D⟩ he;subst N;refine z_V ?_;exact Ao (A:=A) (RM.le.refl _) ⟨rfl,D⟩
 obtain⟨G,H,rfl⟩:=Q.sln;refine jln ?_;refine jiI k1 λK2 k2=>?_
 refine jli (λi:Nat × Chs=>l.length - i.1) (λi=>[.map (some mb),.slice G l.length H,.slice G l.length H,I l.length,I i.1]) (λi=>i.2 ++ F)
  (λx i=>x = R1/\i.1<=l.length/\SO ((l.take i.1).map (nmG j) ++ l.drop i.1) (.slice G l.length H) i.2) (0,A1) ⟨rfl,V,by simpa using Q⟩ rfl rfl ?_
 rintro K e x ⟨i,A⟩ ⟨N,hi,D⟩ he hK;subst N;dsimp only at hi D he ⊢;refine z_V ?_;refine jlt (jif (λc=>?_) (λc=>?_));rotate_left
 .have c:=z_g c;rw[cO Z,cT Z,dD] at D;exact k2 x A ⟨rfl,D⟩
 have c:i < l.length:=by have:=z_f c;omega
 have y:=Y1 (f:=nmG j) hi;have hg:=YO (f:=nmG j) c (by rw[y];exact c);have T:=YQ (f:=nmG j) c;refine jci (λ_:Chs=>[.map (some mb),.slice G l.length H,.slice G l.length H,I l.length,I i]) (λA=>A ++ F) (λW A=>W = x/\SO ((l.take (i + 1)).map (nmG j) ++ l.drop (i + 1)) (.slice G l.length H) A) (λK3 k3=>?_) ?_;rotate_left
 .rintro e W A ⟨a0,a1⟩ he;subst a0;refine z_V ?_;exact jad (hK W (i + 1,A) (by dsimp only;omega) ⟨rfl,c,a1⟩)
 refine jiI k3 λK4 k4=>?_
 refine Un D (by rw[y];exact c) ?_;rw[hg];refine jge (jif (λg=>?_) (λg=>?_))
 .have g:0<=l[i]:=by simpa using g
  refine @Ua _ _ _ 122 3 mb o (prs j (Ga j.length)) l[i] (I 0) false (Li.fz ho) HJ WC hm ?_;rw[OM QB];have en:(if (false:Bool) = true then Value.tuple #[(if l[i]∈j then some (I ((Ga j.length).getD (j.idxOf l[i]) 0)) else none).getD (I 0),.bool (if l[i]∈j then some (I ((Ga j.length).getD (j.idxOf l[i]) 0)) else none).isSome] else (if l[i]∈j then some (I ((Ga j.length).getD (j.idxOf l[i]) 0)) else none).getD (I 0)) = I (nmG j l[i]):=by
   rw[if_neg δ];unfold nmG;rw[if_pos g];split<;>rfl
  rw[en];refine Wq D (by rw[y];exact c) λA' O=>?_
  rw[T] at O;exact k4 x A' ⟨rfl,O⟩
 .have g:¬ 0<=l[i]:=by simpa using g
  have en:nmG j l[i] = l[i]:=by unfold nmG;rw[if_neg g]
  rw[en] at T;have e2:((l.take i).map (nmG j) ++ l.drop i).set i l[i] = (l.take i).map (nmG j) ++ l.drop i:=by
   have:=List.set_getElem_self (show i < ((l.take i).map (nmG j) ++ l.drop i).length by rw[y];exact c);rwa [hg] at this
  rw[e2] at T;rw[T] at D;exact k4 x A ⟨rfl,D⟩
end
end Go.Lf
end
section
namespace Go.Lf
open Go Sm
section
variable {R:RM} {v:Value} {g:PG}
set_option maxHeartbeats 2000000 in
set_option maxRecDepth 8000 in
theorem ND (h:GrF R v g) (z:GZ g) (ok:GOk g):Fn P Hi [v] R [] (λx H A=>A = []/\GrF H x (G5 g)):=by
 have b7:=h;obtain⟨r1,r2,nv,rv,pv,rfl,h1,h2,h3,h4,h5⟩:=h;obtain⟨na,nc,rfl⟩:=h2.sl;obtain⟨ra,rc,rfl⟩:=h4.sl;obtain⟨pa,pc,rfl⟩:=h5.sl;have e1:=h1.1;have e2:=h3.1;have i4:=ok.n;have zr:=ok.r1;have zp:=ok.p;refine Mz λF=>?_
 refine z_1 ?_;refine ja λb=>BB (b:=b) λR0 e6 hb=>ja λN=>?_
 have hb:R0 b = some (C 40 [.slice na r1.length nc,.slice ra r2.length rc,.slice pa g.pinned.length pc]):=hb;have b7:=b7.le e6;refine Do (l:=[.slice na r1.length nc,.slice ra r2.length rc,.slice pa g.pinned.length pc]) hb (by exact z_n 3) rfl (jrp (QX b7 z) ?_);rw[Xe.2 ok];refine CW (Do (l:=[.slice na r1.length nc,.slice ra r2.length rc,.slice pa g.pinned.length pc]) hb (by exact z_n 3) rfl ?_);refine jc (A:=[]) (YR b7 ok) ?_;intro lv R2 A2 e8 so;refine Dw so λR3 e9 hi=>?_
 have b8:=Xz ok;have f4:=b8.len;obtain⟨y,a7⟩:∃y,y = Jg g:=⟨_,rfl⟩;rw[<- a7] at hi b8 f4;obtain⟨la,lc,rfl⟩:=hi.sl;have hb:=(e8.trans e9) _ _ hb;have a1:=e6.trans (e8.trans e9);refine Vj Yo λmb o0 g5=>?_
 refine jci (λ_:Obj=>[Pt b,Pt N,.slice la y.length lc,.map (some mb)]) (λo=>(mb,o) :: (N,C 40 (cl z40)) :: ([] ++ F)) (λH o=>H = R3/\Mg o (prs y (Ga y.length))) (λK1 k1=>?_) ?_
 .refine jln ?_;refine jiI k1 λK2 k2=>?_
  refine jli (λi:Nat × Obj=>y.length - i.1) (λi=>[Pt b,Pt N,.slice la y.length lc,.map (some mb),.slice la y.length lc,I y.length,I i.1]) (λi=>(mb,i.2) :: (N,C 40 (cl z40)) :: ([] ++ F))
   (λH i=>H = R3/\i.1<=y.length/\Mg i.2 (prs (y.take i.1) (Ga i.1))) (0,o0) ⟨rfl,V,by simpa [prs,Ga] using g5⟩ rfl rfl ?_
  rintro K e H ⟨k,o⟩ ⟨hR,hk,hm⟩ he hK;subst hR;dsimp only at hk hm he ⊢;refine z_V ?_;refine jlt (jif (λc=>?_) (λc=>?_));rotate_left
  .have c:=z_g c;rw[cO Z,show k = y.length from Z] at hm;exact k2 H o ⟨rfl,hm⟩
  have c:k < y.length:=by have:=z_f c;omega
  refine Bl hi Z Z ?_;simp only[cG];refine @Xm _ _ _ 122 3 mb o _ (prs (y.take k) (Ga k)) _ _ _ HJ hm λo3 d1=>?_
  have g2:∀p∈prs (y.take k) (Ga k),p.1≠y[k]:=λp hp e=>by
   have h1:=TV hp;rw[e] at h1;obtain⟨j,hj,ej⟩:=d5 h1;rw[cV] at hj;rw[eh] at ej;have:=(List.getElem_inj b8.nd).1 ej;omega
  rw[RO g2] at d1;have et:prs (y.take (k + 1)) (Ga (k + 1)) = prs (y.take k) (Ga k) ++ [(y[k],I k)]:=by
   rw[cI c];have:Ga (k + 1) = Ga k ++ [(k:Int)]:=by unfold Ga;rw[List.range_succ,dE];rfl
   rw[this,Tt (by rw[cV,QB];omega)]
  rw[<- et] at d1;exact jad (hK H (k + 1,o3) (by dsimp only;omega) ⟨rfl,c,d1⟩)
 rintro e H o ⟨hR,hm⟩ he;subst hR;refine z_V ?_;refine BB (b:=mb) λR4 a5 g1=>ja λgb=>?_
 have h1:=h1.mono λ_ _=>NdC.le (a1.trans a5)
 have h2:=h2.le (a1.trans a5);have h3:=h3.mono λ_ _=>RwC.le (a1.trans a5)
 have h4:=h4.le (a1.trans a5);have h5:=h5.le (a1.trans a5);have hi:=hi.le a5;have hb:=a5 _ _ hb;have e7:=a1.trans a5;have h9:∀x,nmG y x = nmG (Jg g) x:=λx=>by rw[a7]
 have b0:∀{H : RM} {xv:Value} {l:List Int},R4.le H->B8 H xv l->l.length < 1000000->Fn P JW [xv,.map (some mb)] H [] (λv f6 A=>f6 = H/\SO (l.map (nmG y)) v A):=λhR hx hl=>YD hx hl (hR _ _ g1) hm
 refine jci (λ_:Value × Chs × List (List Value)=>[Pt b,Pt N,.map (some mb),Pt gb])
  (λi=>(gb,C 40 [i.1,SN,SN]) :: (i.2.1 ++ ((N,C 40 (cl z40)) :: ([] ++ F))))
  (λH i=>R4.le H/\Rw (NdC H) i.2.2 (G5 g).nodes/\SW 60 2 i.2.2 i.1 i.2.1) (λK1 k1=>?_) ?_
 .refine jln ?_;refine jiI k1 λK2 k2=>?_
  refine jli (λi:Nat × Value × Chs × List (List Value)=>y.length - i.1)
   (λi=>[Pt b,Pt N,.map (some mb),Pt gb,.slice la y.length lc,I y.length,I i.1])
   (λi=>(gb,C 40 [i.2.1,SN,SN]) :: (i.2.2.1 ++ ((N,C 40 (cl z40)) :: ([] ++ F))))
   (λH i=>R4.le H/\i.1<=y.length/\Rw (NdC H) i.2.2.2 ((y.take i.1).map λn=>((FU g n).map (nmG y),(g.nodes.getD n.toNat ([],[])).2))/\SW 60 2 i.2.2.2 i.2.1 i.2.2.1)
   (0,SN,[],[]) ⟨RM.le.refl _,V,Rw.nil,.inl ⟨rfl,rfl,rfl⟩⟩ rfl rfl ?_
  rintro K e R5 ⟨k,nv,A1,rows⟩ ⟨W,c9,D,so⟩ he hK;dsimp only at c9 D so he hK ⊢;refine z_V ?_;refine jlt (jif (λc=>?_) (λc=>?_));rotate_left
  .have c:=z_g c;rw[cO Z,a7] at D;exact k2 R5 (nv,A1,rows) ⟨W,D,so⟩
  have c:k < y.length:=by have:=z_f c;omega
  obtain⟨x0,x1⟩:=b8.rg _ (cK c);obtain⟨q,hq⟩:∃q:Nat,y[k] = q:=⟨y[k].toNat,Z⟩;have b3:q < g.nodes.length:=Z
  have hnd:=ok.nd _ (cK b3);have g6:FU g y[k] = g.nodes[q].1:=by
   unfold FU;rw[hq,cG,cH,cF b3];rfl
  have g3:(g.nodes.getD (y[k]).toNat ([],[])).2 = g.nodes[q].2:=by
   rw[hq,cG,cH,cF b3];rfl
  have c8:=W _ _ hb;have e4:=h1.mono λ_ _=>NdC.le W
  have e5:=h2.le W;refine Bl (hi.le W) Z Z ?_;simp only[cG];rw[hq];refine jfo (jl (v:=nv) rfl (jfo (jlr (v:=.slice na r1.length nc) c8 rfl ?_)));refine jnd e4 e5 b3 λxb o ty cs xv yv hx hy g8 ho f3=>jfo (jlr (v:=xv) g8 (Bc f3 (f:=0) rfl) ?_)
  refine jfo (jlr (v:=.slice na r1.length nc) c8 rfl ?_);refine jnd e4 e5 b3 λi8 o2 i7 h8 i9 f5 i6 g9 c7 i5 b4=>jfo (jlr (v:=f5) c7 (Bc b4 (f:=1) rfl) ?_)
  refine jc (A:=[]) (b0 W hx Z) ?_;rintro sv R6 A6 _ ⟨a0,b6⟩;subst a0;refine Al [(gb,C 40 [nv,SN,SN])] (G:=A6 ++ (A1 ++ ((N,C 40 (cl z40)) :: ([] ++ F)))) ?_;refine Ak (jl (v:=nv) rfl jev) (Ak (jlr (v:=.slice na r1.length nc) c8 rfl jev) (Ak (jlr (v:=f5) c7 (Bc b4 (f:=1) rfl) jev) ?_));refine jc (A:=[]) (Dk g9 Z) ?_;rintro cv R7 A7 _ ⟨a2,h6,-⟩;subst a2;refine Az (D':=A7 ++ ((gb,C 40 [nv,SN,SN]) :: (A6 ++ (A1 ++ ((N,C 40 (cl z40)) :: ([] ++ F)))))) (dK _) ?_;refine Al A7 (G:=(gb,C 40 [nv,SN,SN]) :: (A6 ++ (A1 ++ ((N,C 40 (cl z40)) :: ([] ++ F))))) (Dw h6 λR8 O f1=>Al A6 (G:=(gb,C 40 [nv,SN,SN]) :: (A1 ++ ((N,C 40 (cl z40)) :: ([] ++ F)))) (Dw b6 λR9 a6 b2=>?_));obtain⟨xa,xc,rfl⟩:=b2.sl;obtain⟨ca,cc,rfl⟩:=f1.sl;refine jbd (cs:=[.slice xa (g.nodes[q].1.map (nmG y)).length xc,.slice ca g.nodes[q].2.length cc]) rfl rfl (Ak (jl (v:=nv) rfl jev) (jbs (cs:=[.slice xa (g.nodes[q].1.map (nmG y)).length xc,.slice ca g.nodes[q].2.length cc]) rfl rfl λbb=>Ak (jl (v:=nv) rfl jev) ?_));have d2:=D.1;rw[cM,cV] at d2;refine Q4 [[.slice xa (g.nodes[q].1.map (nmG y)).length xc,.slice ca g.nodes[q].2.length cc]] so rfl (D.all λ_ _=>NdC.len) (by intro r hr;rw[cZ.1 hr];rfl) rfl rfl rfl δ (by simp only[cS,dc];omega) λv' A' b5=>?_
  obtain⟨va,vc,d3⟩:=b5.sl;subst d3;refine jfo (jS ([.slice va (rows ++ [[Value.slice xa (g.nodes[q].1.map (nmG y)).length xc,.slice ca g.nodes[q].2.length cc]]).length vc,SN,SN]) (jad ?_));refine Al [(gb,C 40 [.slice va (rows ++ [[Value.slice xa (g.nodes[q].1.map (nmG y)).length xc,.slice ca g.nodes[q].2.length cc]]).length vc,SN,SN])] (G:=A' ++ ((N,C 40 (cl z40)) :: ([] ++ F))) ?_;refine hK R9 (k + 1,_,A',rows ++ [[Value.slice xa (g.nodes[q].1.map (nmG y)).length xc,.slice ca g.nodes[q].2.length cc]]) (by dsimp only;omega) ⟨W.trans (O.trans a6),c,?_,b5⟩;rw[cI c,dE];refine (D.mono λ_ _=>NdC.le (O.trans a6)).app (Rw.one ⟨_,_,rfl,?_,?_⟩)
  .dsimp only;rw[g6];exact b2
  .dsimp only;rw[g3];exact f1.le a6
 rintro e R5 ⟨a3,A1,Q⟩ ⟨W,a8,c6⟩ he;dsimp only at a8 c6 ⊢;refine z_V ?_;obtain⟨b9,c0,g4⟩:=c6.sl;refine Al A1 (G:=(gb,C 40 [a3,SN,SN]) :: (N,C 40 (cl z40)) :: ([] ++ F)) ?_;refine jfw c6 (a8.all λ_ _=>NdC.len) λR6 a0 hfz=>?_
 have a8:=a8.mono λ_ _=>NdC.le a0
 have a0:=W.trans a0;clear W c6;refine jci (λ_:Value × Chs × List (List Value)=>[Pt b,Pt N,.map (some mb),Pt gb])
  (λi=>(gb,C 40 [a3,i.1,SN]) :: (i.2.1 ++ ((N,C 40 (cl z40)) :: ([] ++ F))))
  (λH i=>R6.le H/\Rw (RwC H) i.2.2 (g.AD.map λr=>r.map (nmG y))/\SW 30 1 i.2.2 i.1 i.2.1) (λK1 k1=>?_) ?_
 .refine jfo (jlr (v:=.slice ra r2.length rc) (a0 _ _ hb) rfl (jln ?_));refine jiI k1 λK2 k2=>?_
  refine jli (λi:Nat × Value × Chs × List (List Value)=>g.AD.length - i.1)
   (λi=>[Pt b,Pt N,.map (some mb),Pt gb,.slice ra r2.length rc,I r2.length,I i.1])
   (λi=>(gb,C 40 [a3,i.2.1,SN]) :: (i.2.2.1 ++ ((N,C 40 (cl z40)) :: ([] ++ F))))
   (λH i=>R6.le H/\i.1<=g.AD.length/\Rw (RwC H) i.2.2.2 ((g.AD.take i.1).map λr=>r.map (nmG y))/\SW 30 1 i.2.2.2 i.2.1 i.2.2.1)
   (0,SN,[],[]) ⟨RM.le.refl _,V,Rw.nil,.inl ⟨rfl,rfl,rfl⟩⟩ rfl rfl ?_
  rintro K e R7 ⟨k,rv,A2,rows⟩ ⟨a2,c9,D,so⟩ he hK;dsimp only at c9 D so he hK ⊢;refine z_V ?_;refine jlt (jif (λc=>?_) (λc=>?_));rotate_left
  .have c:=z_g c;rw[cO Z] at D;exact k2 R7 (rv,A2,rows) ⟨a2,D,so⟩
  have c:k < g.AD.length:=by have:=z_f c;omega
  have h7:=(ok.rr _ (cK c)).1;have f8:=h3.mono λ_ _=>RwC.le (a0.trans a2)
  refine jrw f8 (h4.le (a0.trans a2)) c λxv hx=>jfo (jl (v:=rv) rfl ?_)
  refine jc (A:=[]) (b0 (a0.trans a2) hx Z) ?_;rintro sv R8 A6 _ ⟨O,b6⟩;subst O;refine Al A6 (G:=(gb,C 40 [a3,rv,SN]) :: (A2 ++ ((N,C 40 (cl z40)) :: ([] ++ F)))) (Dw b6 λR9 a6 b2=>?_);obtain⟨xa,xc,rfl⟩:=b2.sl;refine Ak (jl (v:=rv) rfl jev) (jbs (cs:=[.slice xa (g.AD[k].map (nmG y)).length xc]) rfl rfl λbb=>Ak (jl (v:=rv) rfl jev) ?_);have d2:=D.1;rw[cM,cV] at d2;refine Q4 [[.slice xa (g.AD[k].map (nmG y)).length xc]] so rfl (D.all λ_ _=>RwC.len) (by intro r hr;rw[cZ.1 hr];rfl) rfl rfl rfl δ (by simp only[cS,dc];omega) λv' A' b5=>?_
  obtain⟨va,vc,d3⟩:=b5.sl;subst d3;refine jfo (jS ([a3,.slice va (rows ++ [[Value.slice xa (g.AD[k].map (nmG y)).length xc]]).length vc,SN]) (jad ?_));refine Al [(gb,C 40 [a3,.slice va (rows ++ [[Value.slice xa (g.AD[k].map (nmG y)).length xc]]).length vc,SN])] (G:=A' ++ ((N,C 40 (cl z40)) :: ([] ++ F))) ?_;refine hK R9 (k + 1,_,A',rows ++ [[Value.slice xa (g.AD[k].map (nmG y)).length xc]]) (by dsimp only;omega) ⟨a2.trans a6,c,?_,b5⟩;rw[cI c,dE];exact (D.mono λ_ _=>RwC.le a6).app (Rw.one ⟨_,rfl,b2⟩)
 rintro e R7 ⟨d4,A2,T⟩ ⟨a2,a9,e3⟩ he;dsimp only at a9 e3 ⊢;refine z_V ?_;obtain⟨c4,c5,g7⟩:=e3.sl;refine Al A2 (G:=(gb,C 40 [a3,d4,SN]) :: (N,C 40 (cl z40)) :: ([] ++ F)) ?_;refine jfw e3 (a9.all λ_ _=>RwC.len) λR8 O f0=>?_
 have a9:=a9.mono λ_ _=>RwC.le O
 have O:=a2.trans O;have b1:=a0.trans O;refine jfo (jlr (v:=.slice pa g.pinned.length pc) (b1 _ _ hb) rfl ?_);refine jc (A:=[]) (b0 b1 (h5.le b1) Z) ?_;rintro sv R9 A6 _ ⟨a6,b6⟩;subst a6;refine Al [(gb,C 40 [a3,d4,SN]),(N,C 40 (cl z40))] (G:=A6 ++ ([] ++ F)) ?_;refine Al A6 (G:=[(gb,C 40 [a3,d4,SN]),(N,C 40 (cl z40))] ++ ([] ++ F)) ?_;refine Dw b6 λR10 a4 f2=>?_
 obtain⟨xa,xc,rfl⟩:=f2.sl;subst g4 g7;refine jfo (jS [.slice b9 Q.length c0,.slice c4 T.length c5,.slice xa (g.pinned.map (nmG y)).length xc] ?_);refine jla (l:=[.slice b9 Q.length c0,.slice c4 T.length c5,.slice xa (g.pinned.map (nmG y)).length xc]) (cN rfl) rfl ?_;refine jS [.slice b9 Q.length c0,.slice c4 T.length c5,.slice xa (g.pinned.map (nmG y)).length xc] ?_;refine jla (l:=[.slice b9 Q.length c0,.slice c4 T.length c5,.slice xa (g.pinned.map (nmG y)).length xc]) (cN rfl) rfl ?_;refine Ao (A:=[]) (e7.trans (b1.trans a4)) ⟨rfl,Q,T,_,_,_,rfl,a8.mono λ_ _=>NdC.le (O.trans a4),hfz.le (O.trans a4),?_,f0.le a4,?_⟩
 .unfold G5;rw[<- a7];exact a9.mono λ_ _=>RwC.le a4
 .unfold G5;rw[<- a7];exact f2
end
end Go.Lf
end
section
namespace Sm
def Yj (g h:PG):Bool:=(g.nodes == h.nodes) && (g.AD == h.AD) && (g.pinned == h.pinned)
end Sm
namespace Go.Lf
open Go Sm
section
variable {R:RM} {D:Chs}
end
end Go.Lf
end
section
namespace Sm
open Go.Lf
theorem JN {f:Int->Int}:∀{xs:List Int} {a:Int},(∀x∈xs,f x = f a->x = a)->(xs.map f).idxOf (f a) = xs.idxOf a
 | [],a,_=>rfl
 | x :: xs,a,h=>by
  rw[dO,List.idxOf_cons,List.idxOf_cons];by_cases c:x = a
  .subst c;simp
  .have j : f x≠f a:=λe=>c (h x V e)
   rw[beq_eq_false_iff_ne.2 c,beq_eq_false_iff_ne.2 j];simp only[cond_false];rw[JN λy A=>h y (ce _ A)]
section
variable {s:Ah} {l:List AQ} {met:List Int}
def cn (l:List AQ) (met:List Int) (x:Int):Int:=match now l x with
 | some u=>if u = 0 then -1 else (met.idxOf u:Int)
 | none=>-1
def U8 (s:Ah) (l:List AQ) (met:List Int):PG:=⟨met.map λa=>match B7 l a with
 | some t=>(t.refs.map (cn l met),t.nums)
 | none=>([],[]),s.AB.map λt=>t.AD.map (cn l met),s.AI.map (cn l met)⟩
def nu (AJ:List Int) (a:Int):Int:=AJ.idxOf a
theorem MU (j:HpF s l met) {x u:Int} (h:now l x = some u) (G:u = 0\/u∈met):nmA l (Ac met) x = if u = 0 then -1 else nu (Ac met) u:=by
 unfold nmA;have y:x = 0↔u = 0:=by
  unfold now at h;constructor
  .intro e;rw[if_pos e] at h;cases h;rfl
  .intro e;by_cases c:x = 0
   .exact c
   .rw[if_neg c] at h;obtain⟨t,D,A⟩:=eR.1 h;exact absurd (A.trans e) (j.S.nz t (BE D).1)
 rw[h,dI];by_cases c:u = 0
 .rw[if_pos c,if_pos (y.2 c)]
 .rw[if_neg c,if_neg λe=>c (y.1 e)];unfold BP nu;rw[if_pos (((Bk j.M.nd).2 u).2 (G.resolve_left c))]
theorem X2 {AJ:List Int} {a b:Int} (y:a∈AJ) (hb:b∈AJ) (e:nu AJ a = nu AJ b):a = b:=by
 unfold nu at e;have j:=fQ (dP y);have x:=fQ (dP hb);rw[<- j,<- x];exact getElem_congr_idx Z
theorem Xs {AJ acc:List Int} (x:∀a∈acc,a∈AJ) {u:Int} (A:u = 0\/u∈AJ):EF (acc.map (nu AJ)) (if u = 0 then -1 else nu AJ u) = (Bu acc u).map (nu AJ)/\∀a∈Bu acc u,a∈AJ:=by
 by_cases c:u = 0
 .rw[if_pos c];have j:Bu acc u = acc:=by unfold Bu;rw[if_pos (.inl c)]
  rw[j];unfold EF;rw[if_neg Z];exact⟨rfl,x⟩
 .rw[if_neg c];have y:=A.resolve_left c;have h0:0<=nu AJ u:=by unfold nu;omega
  by_cases d:u∈acc
  .have j:Bu acc u = acc:=by unfold Bu;rw[if_pos (.inr d)]
   rw[j];unfold EF;rw[if_neg (λh=>h.2 (dm d))];exact⟨rfl,x⟩
  .have j:Bu acc u = acc ++ [u]:=by unfold Bu;rw[if_neg (λe=>e.elim c d)]
   rw[j];unfold EF;rw[if_pos ⟨h0,λe=>by
    obtain⟨b,hb,e⟩:=cq.1 e
    exact d (X2 (x b hb) y e▸hb)⟩]
   refine⟨by rw[dE];rfl,λa h=>?_⟩;rcases cm.1 h with h | h
   .exact x a h
   .rw[cZ.1 h];exact y
theorem OU (j:HpF s l met):∀{xs acc r:List Int},(∀a∈acc,a∈Ac met)->(∀x∈xs,∃u,now l x = some u/\(u = 0\/u∈met))->Aq l xs acc = some r->CI (acc.map (nu (Ac met))) (xs.map (nmA l (Ac met))) = r.map (nu (Ac met))/\∀a∈r,a∈Ac met
 | [],acc,r,ha,_,h=>by cases h;exact⟨rfl,ha⟩
 | x :: xs,acc,r,ha,hx,h=>by
  obtain⟨u,D,A⟩:=hx x V;rw[Bn,D,z_o] at h;obtain⟨p1,p2⟩:=Xs ha (A.imp id ((Bk j.M.nd).2 u).2);have e:CI (acc.map (nu (Ac met))) ((x :: xs).map (nmA l (Ac met))) = CI (EF (acc.map (nu (Ac met))) (nmA l (Ac met) x)) (xs.map (nmA l (Ac met))):=rfl;rw[e,MU j D A,p1];exact OU j (xs:=xs) p2 (λy G=>hx y (ce _ G)) h
theorem TQ (y:HpF s l met) {a:Int} (x:a∈Ac met):(Hf s l (Ac met)).nodes.getD (nu (Ac met) a).toNat ([],[]) = ndP l (Ac met) a:=by
 have j:=dP x;show ((Ac met).map (ndP l (Ac met))).getD (((Ac met).idxOf a:Nat):Int).toNat ([],[]) = _;rw[cG,cH,dH,cF j,eS,dI,fQ j]
theorem TT (G:HpF s l met) (hc:∀b∈met,∀t,B7 l b = some t->∀a∈t.refs,∃u,now l a = some u/\(u = 0\/u∈met)):∀{n f i:Nat} {out r:List Int},(∀a∈out,a∈Ac met)->BH l n i out = some r->r.length<=f + i->Gz (Hf s l (Ac met)) f i (out.map (nu (Ac met))) = r.map (nu (Ac met))
 | 0,_,_,_,_,_,h,_=>by cases h
 | n + 1,f,i,out,r,ha,h,hfi=>by
  by_cases c:i < out.length
  .have Q:=ha _ (cK c);have H:=((Bk G.M.nd).2 _).1 Q;obtain⟨t,O⟩:=G.M.th _ H;rw[C9 c O] at h;cases D:Aq l t.refs out with
   | none=>rw[D] at h;cases h
   | some o=>
    rw[D,z_o] at h;have mono:∀{n i:Nat} {o r:List Int},BH l n i o = some r->o.length<=r.length:=by
     have W:∀{A j r:List Int},Aq l A j = some r->j.length<=r.length:=by
      intro A;induction A with
      | nil=>intro j r h;cases h;exact z_n _
      | cons x A N=>
       intro j r h;rw[Bn] at h;cases K:now l x with
       | none=>rw[K] at h;cases h
       | some y=>
        rw[K] at h;refine fT ?_ (N h);unfold Bu;split
        .exact z_n _
        .simp
     intro n;induction n with
     | zero=>intro i o r h;cases h
     | succ n N=>
      intro i o r h;by_cases c:i < o.length
      .cases R:B7 l o[i] with
       | none=>
        unfold BH at h;rw[cF c] at h;dsimp only at h;rw[R] at h;cases h
       | some t=>
        rw[C9 c R] at h;cases D:Aq l t.refs o with
        | none=>rw[D] at h;cases h
        | some o2=>rw[D] at h;exact fT (W D) (N h)
      .rw[CJ Z] at h;cases h;exact z_n _
    have T:=mono h;have m1:i < o.length:=by
     have:∀{A j r:List Int},Aq l A j = some r->j.length<=r.length:=by
      intro A;induction A with
      | nil=>intro j r h;cases h;exact z_n _
      | cons x A N=>
       intro j r h;rw[Bn] at h;cases K:now l x with
       | none=>rw[K] at h;cases h
       | some y=>
        rw[K] at h;refine fT ?_ (N h);unfold Bu;split
        .exact z_n _
        .simp
     have:=this D;omega
    obtain⟨g,rfl⟩:∃g,f = g + 1:=⟨f - 1,Z⟩;rw[LK (by rw[cM];exact c),eF];have e:FU (Hf s l (Ac met)) (nu (Ac met) out[i]) = t.refs.map (nmA l (Ac met)):=by
     unfold FU;rw[TQ G Q];unfold ndP;rw[O]
    obtain⟨p1,p2⟩:=OU G ha (hc _ H t O) D;rw[e,p1];exact TT G hc p2 h Z
  .rw[CJ Z] at h;cases h;exact No (by rw[cM];omega)
theorem ZU (x:HpF s l met):Jg (Hf s l (Ac met)) = met.map (nu (Ac met)):=by
 obtain⟨D,G⟩:=x.closed;have H:=x.head;unfold C8 at H;simp only[z_b] at H;have j:=x.re;rw[DV H.2] at j;have y:=FK met [];have y:(Ac met).length = met.length:=by simpa [Ac] using y
 cases K:Aq l (Cs s) [] with
 | none=>rw[K] at j;cases j
 | some o=>
  rw[K,z_o] at j;obtain⟨p1,p2⟩:=OU x (acc:=[]) (λa R=>by cases R) D K;have e0:XK (Hf s l (Ac met)) = o.map (nu (Ac met)):=by
   rw[<- p1];unfold XK Cs;show CI ((s.AB.map λt=>t.AD.map (nmA l (Ac met))).foldl CI []) (s.AI.map (nmA l (Ac met))) = _;rw[dE];have Q:∀(N O acc:List Int),CI acc (N ++ O) = CI (CI acc N) O:=λN O acc=>by unfold CI;rw[fU]
   rw[Q];congr 1;have:∀(A:List Th) (acc:List Int),(A.map λt=>t.AD.map (nmA l (Ac met))).foldl CI acc = CI acc ((A.flatMap (·.AD)).map (nmA l (Ac met))):=by
    intro A;induction A with
    | nil=>intro acc;rfl
    | cons t A T=>
     intro acc;rw[dO,fF,T,List.flatMap_cons,dE,Q]
   exact this _ _
  unfold Jg;rw[e0];refine TT x G p2 j ?_;show met.length<=((Ac met).map (ndP l (Ac met))).length + 1 + 0;rw[cM];omega
theorem Sw (D:HpF s l met) {x u:Int} (h:now l x = some u) (G:u = 0\/u∈met):nmG (met.map (nu (Ac met))) (nmA l (Ac met) x) = cn l met x:=by
 rw[MU D h G];unfold cn;rw[h];dsimp only;by_cases c:u = 0
 .rw[if_pos c,if_pos c];rfl
 .rw[if_neg c,if_neg c];have A:=G.resolve_left c;have j:=λy=>((Bk D.M.nd).2 y).2
  unfold nmG;rw[if_pos (by unfold nu;omega),if_pos (dm A),JN λy K e=>X2 (j y K) (j u A) e];have H:=dP A;unfold Ga;rw[cM,cH,dH,fE H];rfl
theorem ME (j:HpF s l met):G5 (Hf s l (Ac met)) = U8 s l met:=by
 obtain⟨A,N⟩:=j.closed;unfold G5 U8;rw[ZU j,fA];congr 1
 .refine dZ λa K=>?_
  have has:=((Bk j.M.nd).2 a).2 K;obtain⟨t,H⟩:=j.M.th a K;show ((FU _ (nu (Ac met) a)).map _,_) = _;unfold FU;rw[TQ j has];unfold ndP;rw[H];dsimp only;rw[fA];congr 1;exact dZ λx G=>by
   obtain⟨u,D,y⟩:=N a K t H x G;exact Sw j D y
 .show (s.AB.map λt=>t.AD.map (nmA l (Ac met))).map _ = _;rw[fA];refine dZ λt H=>?_
  show (t.AD.map _).map _ = _;rw[fA];exact dZ λx G=>by
   obtain⟨u,D,y⟩:=A x (dC _ (eu.2 ⟨t,H,G⟩));exact Sw j D y
 .show (s.AI.map _).map _ = _;rw[fA];exact dZ λx G=>by
   obtain⟨u,D,y⟩:=A x (dM _ G);exact Sw j D y
end
section
variable {s s' : Ah} {l l' : List AQ} {met AJ to tops:List Int}
theorem Nx (H:HpF s l met) (O:Od met AJ) (Q:JX l l' AJ to) {x u:Int} (h:now l x = some u) (D:u = 0\/u∈met):cn l' (met.map (mvT AJ to)) (plc l AJ to x) = cn l met x:=by
 have A:=λy=>(O.m y).2
 have j : u = 0\/u∈AJ:=D.imp id (A u);rw[OR Q.z h j];unfold cn;rw[Q.now j,h];dsimp only;by_cases c:u = 0
 .rw[if_pos c,if_pos rfl,if_pos c]
 .rw[if_neg c,if_neg c,if_neg (λe=>Q.zt (by have:=GR Q.len (j.resolve_left c);rw[e] at this;exact this))];rw[JN λy G e=>Q.inj y (A y G) u (j.resolve_left c) e]
theorem Vn (G:HpF s l met) (O:Od met AJ) (N:DX s s' l AJ to tops) (Q:JX l l' AJ to):U8 s' l' (met.map (mvT AJ to)) = U8 s l met:=by
 obtain⟨D,R⟩:=G.closed;have H:s'.AB = s.AB.map (Cq l AJ to):=EM N.hlen N.th;have j:s'.AI = s.AI:=by rw[N.eq]
 unfold U8;rw[H,j,fA,fA];congr 1
 .refine dZ λa W=>?_
  obtain⟨t,T,h2⟩:=Q.th a ((O.m a).2 W);show (match B7 l' (mvT AJ to a) with | some t=>(t.refs.map _,t.nums) | none=>([],[])) = _;rw[T,h2];dsimp only;rw[fA];congr 1;exact dZ λx y=>by
   obtain⟨u,K,A⟩:=R a W t T x y;exact Nx G O Q K A
 .refine dZ λt ht=>?_
  show ((Cq l AJ to t).AD).map _ = _;unfold Cq;rw[fA];exact dZ λx y=>by
   obtain⟨u,K,A⟩:=D x (dC _ (eu.2 ⟨t,ht,y⟩));exact Nx G O Q K A
 .refine dZ λx y=>?_
  obtain⟨u,K,A⟩:=D x (dM _ y);have:=Nx G O Q K A;rwa [(Nz G O N y).2] at this
theorem UD (x:HpF s l met) (O:Od met AJ) (y:DX s s' l AJ to tops):∃l',CU s' = some (l',met.map (mvT AJ to))/\Thn s'.AC (bgF s l to) l'/\JX l l' AJ to/\HpF s' l' (met.map (mvT AJ to))/\
  Yj (G5 (Hf s l (Ac met))) (G5 (Hf s' l' (Ac (met.map (mvT AJ to))))) = true:=by
 obtain⟨l',A,D,Q⟩:=Ug x O y;have j:=EJ A;refine⟨l',A,D,Q,j,?_⟩;rw[ME x,ME j,Vn x O y Q];unfold Yj;simp
theorem aq (j:HpF s l met) (hr:∀t∈s.AB,t.AD.length<=8):GOk (Hf s l (Ac met)):=by
 obtain⟨R,a1⟩:=j.closed;obtain⟨G,T,-⟩:=ER j.ths;have W:=FK met [];have W:(Ac met).length = met.length:=by simpa [Ac] using W
 have hh:=j.head;unfold C8 at hh;simp only[z_b,z_d] at hh;obtain⟨⟨⟨⟨⟨⟨⟨_,_⟩,_⟩,g4⟩,g5⟩,g6⟩,g7⟩,_⟩:=hh;have nl:(Hf s l (Ac met)).nodes.length = (Ac met).length:=by
  show ((Ac met).map _).length = _;rw[cM]
 have H:∀x u,now l x = some u->(u = 0\/u∈met)->-1<=nmA l (Ac met) x/\nmA l (Ac met) x < (Hf s l (Ac met)).nodes.length:=λx u h D=>by
  rw[MU j h D,nl];by_cases c:u = 0
  .rw[if_pos c];omega
  .rw[if_neg c];have:=dP (((Bk j.M.nd).2 u).2 (D.resolve_left c));unfold nu;omega
 have a2:met.length<=200:=by
  have h1:met.length<=((List.range s.AC.length).map λ(i:Nat)=>(i:Int)).length:=Ek j.M.nd λx K=>by
   obtain⟨t,A⟩:=j.M.th x K;obtain⟨m1,m2⟩:=BE A;have i:=G.inn (T.all t m1).1;rw[m2] at i;exact cq.2 ⟨x.toNat,du.2 Z,Z⟩
  have h2:=G.len;have N:=G.ok.n1;simp at h1;omega
 refine⟨by rw[nl];omega,by show 1<=(s.AB.map _).length;rw[cM];omega,by show (s.AB.map _).length<=3;rw[cM];omega,by show (s.AI.map _).length<=8;rw[cM];omega,λx K=>?_,λx K=>?_,λx K=>?_⟩
 .obtain⟨y,O,rfl⟩:=cq.1 (show x∈s.AI.map (nmA l (Ac met)) from K);obtain⟨u,D,N⟩:=R y (dM _ O);obtain⟨q1,q2⟩:=H y u D N;refine⟨?_,q2⟩;have hm:=j.pin O;obtain⟨t,A⟩:=j.M.th y hm;obtain⟨m1,m2⟩:=BE A;have a3:=j.S.at16 t m1;have hn:now l y = some y:=by
   unfold now;rw[if_neg Z,A,eS,j.nw y hm t A]
  rw[MU j hn (.inr hm),if_neg Z];unfold nu;omega
 .obtain⟨a,ha,rfl⟩:=cq.1 (show x∈(Ac met).map (ndP l (Ac met)) from K);have Q:=((Bk j.M.nd).2 a).1 ha;obtain⟨t,A⟩:=j.M.th a Q;obtain⟨m1,m2⟩:=BE A;obtain⟨x1,x2⟩:=T.all t m1;obtain⟨n1,n2,_⟩:=EB G x1;rw[<- x2] at n1 n2;have a0:=GX s.AC t.at_;unfold BM at a0;simp only[z_b,z_d] at a0;unfold ndP;rw[A];dsimp only;refine⟨by rw[cM];omega,Z,λy O=>?_⟩;obtain⟨w,hw,rfl⟩:=cq.1 O;obtain⟨u,D,N⟩:=a1 a Q t A w hw;exact H w u D N
 .obtain⟨t,A,rfl⟩:=cq.1 (show x∈s.AB.map (λt=>t.AD.map (nmA l (Ac met))) from K);refine⟨by rw[cM];exact hr t A,λy O=>?_⟩;obtain⟨w,hw,rfl⟩:=cq.1 O;obtain⟨u,D,N⟩:=R w (dC _ (eu.2 ⟨t,A,hw⟩));exact H w u D N
end
section
variable {s s' : Ah} {l l' : List AQ} {met AJ to tops:List Int}
theorem Vz (h:StB 10 s) (a0:s.BJ<=90000) (N:HpF s l met) (O:Od met AJ) (j:DX s s' l AJ to tops):StB 10 s':=by
 obtain⟨K,W⟩:=LZ N O j;have wl:=h.wl;have t1:=h.t1;have t0:=h.t0;have n0:=h.n0;have n1:=h.n1;have ml:=h.ml;have fl:=GJ j;have tn:=j.tn;have A:s'.AB = s.AB.map (Cq l AJ to):=EM j.hlen j.th;have y:s'.AI = s.AI:=by rw[j.eq]
 have hold:s'.old = []:=by rw[j.eq]
 have H:s'.AM = List.replicate s.AC.length false:=by rw[j.eq]
 have D:s'.BC = s.BC:=by rw[j.eq]
 have G:s'.BJ = s.BJ + 1:=by rw[j.eq]
 refine⟨Go.Lf.full_rn N O j h.wr Z,Z,Z,Z,λx hx=>?_,by rw[A,cM];exact n0,by rw[A,cM];exact n1,λt Q=>?_,by rw[y];exact h.pl,λa T=>h.pv a (by rw[<- y];exact T),by rw[hold];decide,by rw[H,cW,fl],by rw[D];exact h.cy,by rw[G];have:=h.fu;omega⟩
 .obtain⟨i,hi,rfl⟩:=d5 hx;have e:rv s'.AA i = s'.AA[i]:=by
   unfold rv gv;simp only[cG,cH,cF hi,dI]
  rw[<- e];by_cases c:i = 0
  .subst c;have:=K.ok.e;rw[show ((0:Nat):Int) = 0 from rfl,this];exact⟨δ,δ⟩
  .have R:=K.ok.row i Z Z;have r0:=R.t0;have r1:=R.t1;omega
 .rw[A] at Q;obtain⟨u,hu,rfl⟩:=cq.1 Q;have:=h.rl u hu;unfold Cq;simp only[cM];exact this
end
theorem E6 (r:Int):Aj [] r = false:=rfl
theorem H8 {l:List AQ} {a:Int} {j tops:List Int} {r:Nat}:Ca [] l (a :: j) tops r =
  if nxt [] tops (Bt l a) (tops.length + 1) r = tops.length then none else
  (Ca [] l j (tops.set (nxt [] tops (Bt l a) (tops.length + 1) r) (tops.getD (nxt [] tops (Bt l a) (tops.length + 1) r) 0 + Bt l a)) (nxt [] tops (Bt l a) (tops.length + 1) r)).map λq=>(tops.getD (nxt [] tops (Bt l a) (tops.length + 1) r) 0 :: q.1,q.2):=by
 rw[Lq,if_neg (by rw[E6];decide)]
theorem Ru {tops:List Int} {n:Int}:∀(f r:Nat),r<=nxt [] tops n f r
 | 0,r=>z_n _
 | f + 1,r=>by
  unfold nxt;split
  .exact fT (dS r) (Ru f (r + 1))
  .exact z_n _
theorem NS {l:List AQ}:∀{Q tops to y : List Int} {r:Nat},Ca [] l Q tops r = some (to,y)->(∀a∈Q,0 < Bt l a)->tops.length<=12->r<=tops.length->(∀q:Nat,r < q->q < tops.length->tops.getD q 0 = 16 * q)->(r < tops.length->tops.getD r 0<=16 * r + 16)->
  to.Pairwise (· < ·)/\∀b∈to,tops.getD r 0<=b\/tops.length<=r
 | [],tops,to,y,r,h,_,_,_,_,_=>by cases h;exact⟨List.Pairwise.nil,λb hb=>by cases hb⟩
 | a :: Q,tops,to,y,r,h,hs,hl,hrl,hq,hr=>by
  rw[H8] at h;obtain⟨j,A⟩:∃j,j = nxt [] tops (Bt l a) (tops.length + 1) r:=⟨_,rfl⟩;rw[<- A] at h;have a0:r<=j:=by rw[A];exact Ru _ _
  split at h
  .cases h
  rename_i a2;obtain⟨⟨R,t2⟩,D,e⟩:=eR.1 h;cases e;have a3:=hs a V;by_cases c:j < tops.length
  .have hlen:(tops.set j (tops.getD j 0 + Bt l a)).length = tops.length:=by rw[dG]
   have N:∀q:Nat,(tops.set j (tops.getD j 0 + Bt l a)).getD q 0 = if q = j then tops.getD j 0 + Bt l a else tops.getD q 0:=λq=>by
    rw[cH,eY];by_cases c2:j = q
    .subst c2;rw[if_pos rfl,if_pos c,if_pos rfl];rfl
    .rw[if_neg c2,if_neg (λe=>c2 e.symm),cH]
   have K:tops.getD j 0 + Bt l a<=16 * j + 16:=by
    have H:∀(f q:Nat),tops.length < f + q->nxt [] tops (Bt l a) f q < tops.length->tops.getD (nxt [] tops (Bt l a) f q) 0 + Bt l a<=AK (nxt [] tops (Bt l a) f q) + 16:=by
     intro f;induction f with
     | zero=>intro q T D;exact absurd D (by unfold nxt;omega)
     | succ f O=>
      intro q T D;unfold nxt at D ⊢;split
      .rename_i hc;rw[if_pos hc] at D;exact O (q + 1) Z D
      .rename_i hc;rw[if_neg hc] at D;simp only[E6,d8,false_or,not_and,Int.not_lt] at hc;exact hc D
    have:=H (tops.length + 1) r Z (by rw[<- A];exact c);rw[<- A,Bj Z Z] at this;exact this
   obtain⟨i1,i2⟩:=NS D (λx hx=>hs x (ce _ hx)) (by rw[hlen];exact hl) (by rw[hlen];omega) (λq T G=>by
    rw[N,if_neg Z]
    exact hq q Z (by rw[hlen] at G;exact G)) (λ_=>by rw[N,if_pos rfl];exact K)
   have up:∀b∈R,tops.getD j 0 < b:=λb hb=>by
    rcases i2 b hb with G | G
    .rw[N,if_pos rfl] at G;omega
    .rw[hlen] at G;omega
   have W:tops.getD r 0<=tops.getD j 0\/tops.length<=r:=by
    by_cases c2:r = j
    .rw[c2];exact .inl (dB _)
    .have G:=hq j Z c;have h4:=hr Z;exact .inl Z
   refine⟨eJ.2 ⟨up,i1⟩,λb hb=>?_⟩;rcases cU.1 hb with rfl | hb
   .exact W
   .have:=up b hb;exact W.imp (λh=>Z) id
  .have a1:tops.length < j:=Z
   have H:∀(f q:Nat),q<=tops.length->nxt [] tops (Bt l a) f q<=tops.length:=by
    intro f;induction f with
    | zero=>intro q h;exact h
    | succ f O=>
     intro q h;unfold nxt;split
     .rename_i hc;exact O (q + 1) Z
     .exact h
   have:=H (tops.length + 1) r hrl;rw[<- A] at this;omega
theorem Vk:∀{a b:List Int},a.Pairwise (· < ·)->b.Pairwise (· < ·)->(∀x,x∈a↔x∈b)->a = b
 | [],[],_,_,_=>rfl
 | [],y :: b,_,_,h=>by have:=(h y).2 V;cases this
 | x :: a,[],_,_,h=>by have:=(h x).1 V;cases this
 | x :: a,y :: b,ha,hb,h=>by
  obtain⟨A,G⟩:=eJ.1 ha;obtain⟨D,H⟩:=eJ.1 hb;have e:x = y:=by
   rcases cU.1 ((h x).1 V) with c | c
   .exact c
   .rcases cU.1 ((h y).2 V) with d | d
    .exact d.symm
    .have:=A y d;have:=D x c;omega
  subst e;congr 1;refine Vk G H λz=>⟨λj=>?_,λj=>?_⟩
  .rcases cU.1 ((h z).1 (ce _ j)) with c | c
   .have:=A z j;omega
   .exact c
  .rcases cU.1 ((h z).2 (ce _ j)) with c | c
   .have:=D z j;omega
   .exact c
section
variable {s s' s2:Ah} {l l' : List AQ} {met to tops to2 tops2:List Int}
theorem FH:(Bm s).length = s.AA.length:=by unfold Bm;rw[cM,List.length_range]
theorem Is (j:s.AI = []) {q:Nat} (h:q < s.AA.length):(Bm s).getD q 0 = AK q:=by
 unfold Bm;rw[cH,dH,fE h,eS,dI,j,E6,if_neg δ]
end
section
variable {AI tops:List Int} {n:Int}
theorem PM:∀(f r:Nat),tops.length < f + r->r<=tops.length->r<=nxt AI tops n f r/\nxt AI tops n f r<=tops.length/\(nxt AI tops n f r < tops.length->Aj AI (nxt AI tops n f r) = false/\tops.getD (nxt AI tops n f r) 0 + n<=AK (nxt AI tops n f r) + 16)/\(nxt AI tops n f r≠r->Aj AI r = true\/AK r + 16 < tops.getD r 0 + n)
 | 0,r,h,h2=>Z
 | f + 1,r,h,h2=>by
  unfold nxt;by_cases c:r < tops.length/\(Aj AI r = true\/AK r + 16 < tops.getD r 0 + n)
  .rw[if_pos c];obtain⟨i1,i2,i3,y⟩:=PM f (r + 1) Z Z;exact⟨Z,i2,i3,λ_=>c.2⟩
  .rw[if_neg c];refine⟨z_n _,h2,λj=>?_,λh=>absurd rfl h⟩;have c1:=λe=>c ⟨j,e⟩
   refine⟨?_,?_⟩
   .cases x:Aj AI r with
    | true=>exact absurd (.inl x) c1
    | false=>rfl
   .exact Int.not_lt.1 λe=>c1 (.inr e)
end
end Sm
end
section
namespace Sm
open Go.Lf
def s0 (r t:Nat):Ah:=⟨(CT (List.replicate (r * 16) 0) 16 Bq).1,AT (AV r) 1 ⟨3,-1,24,24,0⟩,List.replicate (r * 16) false,0,false,false,false,0,List.replicate t ⟨[16],0,false,0⟩,[],[],0,0⟩
end Sm
namespace Go.Lf
open Go Sm
end Go.Lf
end
section
namespace Sm
end Sm
namespace Go.Lf
open Go Sm
section
variable {R:RM}
end
end Go.Lf
end
section
namespace Sm
end Sm
namespace Go.Lf
open Go Sm
section
variable {R:RM} {s:Sm.Ah} {wv tv mv thv ov pv:Value}
end
end Go.Lf
end
section
namespace Sm
open Go.Lf
def usd (t:List Rg) (q:Nat):Bool:=((rv t q).kind != 1) && ((rv t q).kind != 0)
section
variable {s s' : Ah} {l:List AQ} {met to tops:List Int}
theorem O6 (y:HpF s l met) {a:Int} (h:a∈met):16<=a/\1<=a / 16/\a / 16 < s.AA.length/\0 < Bt l a/\a + Bt l a<=16 * (a / 16) + 16/\usd s.AA (a / 16).toNat = true/\bgs l a/\Bt l a = sz s.AC a:=by
 obtain⟨G,T,-⟩:=ER y.ths;obtain⟨t,A⟩:=y.M.th a h;obtain⟨D,j⟩:=BE A;obtain⟨N,O⟩:=T.all t D;have i:=G.inn N;have H:Bt l a = sz s.AC a:=by
  unfold Bt;rw[A];dsimp only;have x:=congrArg AQ.sh O;dsimp only[thg] at x;rw[x,j];rfl
 rw[j] at i;have R:=G.ok.row (a / 16) i.2.1 i.2.2.1;refine⟨i.1,i.2.1,i.2.2.1,Z,Z,?_,⟨t,D,j⟩,H⟩;have k1:(rv s.AA (a / 16)).kind≠1:=λe=>by have:=R.fr e;omega
 have k0:=R.k0;unfold usd;rw[show ((a / 16).toNat:Int) = a / 16 by omega];have K:(rv s.AA (a / 16)).kind≠0:=Z
 simp[k1,K]
end
theorem Vu {s N : Ah} {l:List AQ} {y AJ to tops:List Int} (D:HpF s l y) (O:Od y AJ) (H:DX s N l AJ to tops) (A:s.AI = []):to.Pairwise (· < ·):=by
 obtain⟨G,T,-⟩:=ER D.ths;have n0:=G.ok.n0;have n1:=G.ok.n1;have x:=H.ld;rw[A] at x;exact (NS x (λa K=>(O6 D ((O.m a).1 K)).2.2.2.1) (by rw[FH];omega) (by rw[FH];omega) (λq Q j=>by
  rw[FH] at j
  rw[Is A j,Bj Z Z]) (λj=>by
  rw[FH] at j
  rw[Is A j,Bj Z Z]
  omega)).1
theorem Yb {s G : Ah} {l l' : List AQ} {j to tops:List Int} (x:HpF s l j) (y:DX s G l j to tops) (D:s.AI = []):to = j.map (mvT j to)/\Ac (j.map (mvT j to)) = j.map (mvT j to):=by
 have asc:=Vu x ⟨x.M.nd,λ_=>Iff.rfl⟩ y D;have hl:=y.hlen;have hnd:=x.M.nd;have e:to = j.map (mvT j to):=by
  refine eN (by rw[cM];exact hl) λi A H=>?_
  rw[eF];unfold mvT;rw[List.Nodup.idxOf_getElem hnd i Z,cH,cF A,dI]
 refine⟨e,?_⟩;rw[<- e];have nd:to.Nodup:=asc.imp λh e=>Z
 exact Vk (Bk nd).1 asc (Bk nd).2
theorem Sa {s:Ah} {l:List AQ} {j:List Int} (y:HpF s l j) (e:Ac j = j):(G5 (Hf s l (Ac j))).nodes = (Hf s l (Ac j)).nodes:=by
 rw[ME y];obtain⟨O,A⟩:=y.closed;unfold U8 Hf;dsimp only;rw[e];refine dZ λa G=>?_
 unfold ndP;obtain⟨t,H⟩:=y.M.th a G;rw[H];dsimp only;congr 1;refine dZ λx Q=>?_
 obtain⟨u,K,N⟩:=A a G t H x Q;have D:=MU y K N;rw[e] at D;rw[D];unfold cn nu;rw[K]
theorem PT {tops:List Int} {t:List Rg} {size:Int} (hl:t.length<=12) (h:Rel tops t) (hb:∀q:Int,1<=q->q < t.length->0<=(rv t q).top/\(rv t q).top<=1000) (y:0<=size/\size<=16):∀(n f r:Nat),1<=r->nxt [] tops size f r < t.length->t.length - r < n->t.length - r < f->Ez [] t size n r = some ((nxt [] tops size f r:Nat):Int)
 | 0,f,r,_,_,h2,_=>Z
 | n + 1,0,r,_,_,_,h3=>Z
 | n + 1,f + 1,r,h0,h1,h2,h3=>by
  have g:=Ru (tops:=tops) (n:=size) (f + 1) r;have x:r < t.length:=Z
  obtain⟨A,D⟩:=hb r Z Z;unfold Ez;rw[if_neg (by rw[E6];decide),Cm Z Z];simp only[cP,z_o];rw[BQ Z Z];simp only[z_o];by_cases c:AK r + 16 < (rv t r).top + size
  .have e:nxt [] tops size (f + 1) r = nxt [] tops size f (r + 1):=by
    rw[nxt,if_pos ⟨by rw[h.1];exact x,.inr (by rw[h.2 r h0 x];exact c)⟩]
   rw[if_pos c,e];rw[e] at h1;exact PT hl h hb y n f (r + 1) Z h1 Z Z
  .have e:nxt [] tops size (f + 1) r = r:=by
    rw[nxt,if_neg];rintro⟨_,j | j⟩
    .rw[E6] at j;cases j
    .rw[h.2 r h0 x] at j;exact c j
   rw[if_neg c,e]
theorem TX {tops:List Int} {t:List Rg} (h:Rel tops t) {r:Nat} (y:1<=r) (A:r < t.length) (row:Rg) {top:Int} (he:row.top = top):Rel (tops.set r top) (AT t r row):=by
 refine⟨by rw[dG,h.1];simp[AT],λq x j=>?_⟩;have j:q < t.length:=by simpa [AT] using j
 rw[DA Z Z Z,cH,eY];by_cases c:r = q
 .rw[if_pos c,if_pos (by rw[h.1];omega),if_pos Z,he];rfl
 .rw[if_neg c,if_neg Z,<- cH];exact h.2 q x j
theorem L3 {l:List AQ}:∀(H tops:List Int) (r:Nat) (t:List Rg) (to A j : List Int),Ca [] l H tops r = some (A,j)->Rel tops t->t.length<=12->1<=r->r<=t.length->(∀a∈H,∃x,B7 l a = some x/\0<=AG x.sh/\AG x.sh<=16)->(∀q:Int,1<=q->q < t.length->0<=(rv t q).top/\(rv t q).top<=1000)->∃O,slide [] l H t r to = some (O,to ++ A)
 | [],tops,r,t,to,A,j,h,_,_,_,_,_,_=>by cases h;exact⟨t,by rw[dD];rfl⟩
 | a :: H,tops,r,t,to,A,j,h,hr,hl,h1,h2,hx,hb=>by
  obtain⟨x,Q,s0,s1⟩:=hx a V;have N:Bt l a = AG x.sh:=by unfold Bt;rw[Q]
  rw[H8,N] at h;have T:=hr.1;obtain⟨n1,n2,R,-⟩:=PM (AI:=[]) (tops:=tops) (n:=AG x.sh) (tops.length + 1) r Z Z;obtain⟨y,D⟩:∃y,y = nxt [] tops (AG x.sh) (tops.length + 1) r:=⟨_,rfl⟩;rw[<- D] at h n1 n2 R;split at h
  .cases h
  have G:y < t.length:=Z
  obtain⟨-,n4⟩:=R Z;rw[hr.2 y Z G] at h n4;obtain⟨b0,b1⟩:=hb y Z Z;have K:AK y = 16 * y:=Bj Z Z;obtain⟨q,W,e⟩:=eR.1 h;obtain⟨O,ih⟩:=L3 H _ y (AT t y { rv t y with kind:=3,top:=(rv t y).top + AG x.sh,BA:=(rv t y).top + AG x.sh }) (to ++ [(rv t y).top]) q.1 q.2 W (TX hr Z G _ rfl) (by simpa [AT] using hl) Z (by simp[AT];omega) (λb hb=>hx b (ce _ hb)) (λp p1 p2=>by
   have p2:p < t.length:=by simpa [AT] using p2
   rw[DA Z Z Z]
   split
   .dsimp only;omega
   .exact hb p p1 p2)
  refine⟨O,?_⟩;unfold slide;rw[Q];simp only[cP,z_o];rw[if_neg (by rw[E6];decide),PT hl hr hb ⟨s0,s1⟩ (t.length + 2) (tops.length + 1) r h1 (by rw[<- D];omega) Z Z,<- D];simp only[z_o];rw[Cm Z Z];simp only[z_o];rw[BQ Z Z];simp only[z_o];rw[ih];have e:(rv t y).top :: q.1 = A:=congrArg Prod.fst e;rw[<- e];simp
def cdO (s:Ah):Option Ah:=match EA s with
 | none=>none
 | some (l,met)=>if 0 < s.AI.length then none else match Ca [] l met (Bm s) 1 with
  | none=>none
  | some _=>Hv met s
theorem PV {s:Ah} (j:s.AI = []):∀(l:List AQ) (w:List Int) (t:List Rg),stay s l w t = some (w,t)
 | [],w,t=>rfl
 | x :: l,w,t=>by
  unfold stay;dsimp only;rw[j,E6,if_neg δ];exact PV j l w t
theorem P3 {s:Ah} {l:List AQ} {j to tops:List Int} (K:HpF s l j) (y:s.AI = []) (hl:Ca [] l j (Bm s) 1 = some (to,tops)) (N:-900000<=s.BJ/\s.BJ<=900000):∃s',Hv j s = some s'/\DX s s' l j to tops/\Ee l j to j to (List.replicate s.AC.length 0) = some s'.AC:=by
 obtain⟨G,T,O⟩:=ER K.ths;have n0:=G.ok.n0;have n1:=G.ok.n1;obtain⟨a0,a1,R⟩:=E4 (n:=s.AA.length) Z Z;have tl:(AV (s.AA.length:Int)).length = s.AA.length:=Z
 have row:∀q:Int,1<=q->q < s.AA.length->(rv (AV s.AA.length) q).top = 16 * q:=λq D Q=>by rw[R q D Q,(Ct D Z).2]
 obtain⟨t2,H⟩:=L3 j (Bm s) 1 (AV s.AA.length) [] to tops hl ⟨by rw[FH,tl],λq D Q=>by rw[Is y Z,row q Z Z,Bj Z Z]⟩ Z (z_n 1) Z (λa ha=>by
   obtain⟨t,ht⟩:=K.M.th a ha
   obtain⟨z0,z1⟩:=GG t.sh
   exact⟨t,ht,z0,Z⟩) (λq D Q=>by rw[row q D Z];omega)
 have H:slide [] l j (AV s.AA.length) 1 [] = some (t2,to):=H;have A:=PV y l (List.replicate s.AC.length 0) (AV s.AA.length);obtain⟨s',to2,tops2,x,W⟩:=QF K ⟨K.M.nd,λ_=>Iff.rfl⟩ (λw1 t1 h _ _ _=>by
  rw[A] at h
  cases h
  rw[y]
  exact⟨t2,to,H⟩) N
 have e:=W.ld;rw[y,hl] at e;cases e;refine⟨s',x,W,?_⟩;unfold Hv at x;rw[O] at x;simp only[dI,cP] at x;rw[A] at x;simp only[z_o] at x;rw[y,H] at x;simp only[z_o,zl] at x;obtain⟨w2,h4,x⟩:=cE.1 x;obtain⟨ths,-,x⟩:=cE.1 x;obtain⟨fl,-,x⟩:=cE.1 x;cases x;exact h4
structure So (s:Ah) (l:List AQ) (met:List Int) (i r:Nat) (t:List Rg) (tops to:List Int):Prop where
 il:i<=met.length
 r1:1<=r
 rl:r < s.AA.length
 tl:t.length = s.AA.length
 ol:to.length = i
 re:Rel tops t
 e0:rv t 0 = Db
 rw_:∀q:Int,1<=q->q < s.AA.length->rv t q = II [] q (rv t q).top/\16 * q<=(rv t q).top/\(rv t q).top<=16 * q + 16
 fr:∀q:Int,r < q->q < s.AA.length->(rv t q).top = 16 * q
 eq:Ca [] l met (Bm s) 1 = (Ca [] l (met.drop i) tops r).map λq=>(to ++ q.1,q.2)
theorem U6 {s:Ah} {l:List AQ} {y:List Int} (G:s.AI = []) (n0:2<=s.AA.length) (n1:s.AA.length<=12):So s l y 0 1 (AV s.AA.length) (Bm s) []:=by
 obtain⟨H,D,A⟩:=E4 (n:=s.AA.length) Z Z;have row:∀q:Int,1<=q->q < s.AA.length->(rv (AV s.AA.length) q).top = 16 * q:=λq j x=>by rw[A q j x,(Ct j Z).2]
 refine⟨Z,Z,Z,Z,rfl,⟨by rw[FH];omega,λq j x=>?_⟩,D,λq j x=>⟨?_,?_,?_⟩,λq j x=>row q Z x,?_⟩
 .rw[Is G Z,row q Z Z,Bj Z Z]
 .rw[row q j x];unfold II;rw[if_neg,A q j x];rintro (c | c)
  .rw[Bj Z Z] at c;omega
  .rw[E6] at c;cases c
 .rw[row q j x];omega
 .rw[row q j x];omega
 .rw[di];cases Ca [] l y (Bm s) 1<;>simp
theorem UI {tops:List Int} {n:Int} {r f:Nat} (x:r < tops.length) (hl:tops.length<=12) (j:r + 1 < tops.length->tops.getD (r + 1) 0 = 16 * (r + 1:Nat)) (y:n<=16):nxt [] tops n (f + 2) r = if tops.getD r 0 + n > 16 * r + 16 then r + 1 else r:=by
 rw[nxt,Bj (r:=r) Z Z];by_cases c:tops.getD r 0 + n > 16 * r + 16
 .rw[if_pos c,if_pos ⟨x,.inr Z⟩,nxt,if_neg];rintro⟨c1,c2 | c2⟩
  .rw[E6] at c2;cases c2
  .rw[j c1,Bj Z Z] at c2;omega
 .rw[if_neg c,if_neg];rintro⟨_,c2 | c2⟩
  .rw[E6] at c2;cases c2
  .omega
theorem XE {s:Ah} {l:List AQ} {y:List Int} {i r j : Nat} {t:List Rg} {tops to:List Int} {x:AQ} (L:So s l y i r t tops to) (n1:s.AA.length<=12) (hi:i < y.length) (hx:B7 l y[i] = some x) (z0:0 < AG x.sh) (z1:AG x.sh<=16) (A : j = if (rv t r).top + AG x.sh > 16 * r + 16 then r + 1 else r) :
  (j = s.AA.length->Ca [] l y (Bm s) 1 = none)/\(j < s.AA.length->So s l y (i + 1) j (t.set j { rv t j with kind:=3,top:=(rv t j).top + AG x.sh,BA:=(rv t j).top + AG x.sh }) (tops.set j ((rv t j).top + AG x.sh)) (to ++ [(rv t j).top])):=by
 have a2:=L.rl;have h1:=L.r1;have tl:=L.tl;have tp:tops.length = s.AA.length:=by rw[L.re.1,tl]
 have e1:tops.getD r 0 = (rv t r).top:=L.re.2 r h1 Z;have T:nxt [] tops (Bt l y[i]) (tops.length + 1) r = j:=by
  have H:Bt l y[i] = AG x.sh:=by unfold Bt;rw[hx]
  rw[H,show tops.length + 1 = (tops.length - 1) + 2 from Z,UI Z Z (λc=>by rw[L.re.2 (r + 1) Z Z];exact L.fr ((r + 1:Nat):Int) Z Z) z1,A,e1]
 have D:=L.eq;rw[cQ hi,H8,T] at D;have H:Bt l y[i] = AG x.sh:=by unfold Bt;rw[hx]
 constructor
 .intro e;rw[D,if_pos Z];rfl
 intro R;rw[if_neg Z,H,L.re.2 j (by rw[A];split<;>omega) Z] at D;have K : 1<=j:=by rw[A];split<;>omega
 have a1:r<=j:=by rw[A];split<;>omega
 have a0:16 * (j : Int)<=(rv t j).top/\(rv t j).top + AG x.sh<=16 * j + 16:=by
  refine⟨(L.rw_ j Z Z).2.1,?_⟩;by_cases c:(rv t r).top + AG x.sh > 16 * r + 16
  .rw[if_pos c] at A;have:=L.fr j Z Z;omega
  .rw[if_neg c] at A;subst A;omega
 have Q:∀q:Int,0<=q->rv (t.set j { rv t j with kind:=3,top:=(rv t j).top + AG x.sh,BA:=(rv t j).top + AG x.sh }) q = if q = j then { rv t j with kind:=3,top:=(rv t j).top + AG x.sh,BA:=(rv t j).top + AG x.sh } else rv t q:=λq N=>by
  have:=DA (l:=t) (a:=j) (x:=q) (v:={ rv t j with kind:=3,top:=(rv t j).top + AG x.sh,BA:=(rv t j).top + AG x.sh }) Z Z N;simpa [AT] using this
 have G:=TX L.re K Z { rv t j with kind:=3,top:=(rv t j).top + AG x.sh,BA:=(rv t j).top + AG x.sh } rfl;simp only[AT,cG] at G;refine⟨hi,K,R,by rw[dG];exact tl,by rw[cJ,L.ol];rfl,G,by rw[Q 0 Z,if_neg Z];exact L.e0,λq N O=>?_,λq N O=>?_,?_⟩
 .rw[Q q Z];by_cases c:q = j
  .subst c;rw[if_pos rfl];dsimp only;have e2:=(L.rw_ (j : Int) N O).1;refine⟨?_,Z,Z⟩;have W:(rv t j).AX = -1/\(rv t j).AJ = 0:=by
    rw[e2];unfold II;split<;>exact⟨rfl,rfl⟩
   unfold II;rw[if_pos (.inl (by rw[Bj Z Z];omega)),W.1,W.2]
  .rw[if_neg c];exact L.rw_ q N O
 .rw[Q q Z,if_neg Z];exact L.fr q Z O
 .rw[D];cases Ca [] l (y.drop (i + 1)) (tops.set j ((rv t j).top + AG x.sh)) j with
  | none=>rfl
  | some q=>simp
theorem Y0 {s:Ah} {l:List AQ} {j:List Int} {r:Nat} {t:List Rg} {tops to:List Int} (L:So s l j j.length r t tops to):Ca [] l j (Bm s) 1 = some (to,tops):=by
 rw[L.eq,List.drop_length];show some (to ++ [],tops) = _;rw[dD]
theorem XY {s y : Ah} {l:List AQ} {j:List Int} {r:Nat} {t:List Rg} {tops to:List Int} (G:s.AI = []) (L:So s l j j.length r t tops to) (x:DX s y l j to tops):t = y.AA:=by
 have tl:=L.tl;have tn:=x.tn;have rg:∀(u:List Rg) (q:Nat) (h:q < u.length),rv u (q:Int) = u[q]:=λu q h=>by
  show gv Db u q = _;unfold gv;rw[cG,cH,cF h];rfl
 refine eN Z λq A D=>?_
 rw[<- rg t q A,<- rg y.AA q D];by_cases c:q = 0
 .subst c;exact (L.e0).trans x.e0.symm
 .rw[(L.rw_ q Z Z).1,x.rw_ q Z Z,G,<- L.re.2 q Z Z,<- x.tl.2 q Z Z]
end Sm
end
