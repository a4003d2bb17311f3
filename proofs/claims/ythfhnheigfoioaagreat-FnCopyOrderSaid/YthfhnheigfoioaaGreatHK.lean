/- A part of the proof of the given row. Conditions: none. -/
import Derived.Test.YthfhnheigfoioaaGreatHJ
set_option linter.unusedVariables false
set_option linter.unusedSimpArgs false
set_option maxRecDepth 100000
section
namespace Sm
open Go.Lf
theorem LD {w:List Int}:∀{n:Nat} {a top:Int} {l:List AQ},Au w n a top = some l->a<=top->(a = top\/∃y∈l,y.at_ = a)/\∀x∈l,x.at_ + AG x.sh = top\/∃y∈l,y.at_ = x.at_ + AG x.sh
 | 0,a,top,l,h,hle=>by
  unfold Au at h;split at h
  .cases h
  .cases h;exact⟨.inl Z,λt A=>by cases A⟩
 | n + 1,a,top,l,h,hle=>by
  unfold Au at h;split at h;rotate_left
  .cases h;exact⟨.inl Z,λt A=>by cases A⟩
  dsimp only at h;split at h;rotate_left
  .cases h
  rename_i D j;simp only[z_b,z_d] at j;have H:(As w a).1.at_ = a:=by
   have:=j.1;unfold As at this ⊢;split at this
   .rename_i c1;rw[if_pos c1];dsimp only at this ⊢;split at this
    .rename_i c2;rw[if_pos c2]
    .cases this
   .cases this
  cases A:Au w n (a + AG (As w a).1.sh) top with
  | none=>rw[A] at h;cases h
  | some K=>
   rw[A] at h;cases h;obtain⟨i1,i2⟩:=LD A j.2;refine⟨.inr ⟨_,f9,H⟩,λx G=>?_⟩;rcases cU.1 G with rfl | G
   .rw[H];exact i1.imp id λ⟨y,D,j⟩=>⟨y,ce _ D,j⟩
   .exact (i2 x G).imp id λ⟨y,D,j⟩=>⟨y,ce _ D,j⟩
theorem NW {w:List Int}:∀{t:List Rg} {r:Nat} {l:List AQ},Ba w r t = some l->(∀x∈l,(∃k:Nat,∃h:k < t.length,x.at_ / 16 = r + k/\x.at_ + AG x.sh = (t[k]).top)\/∃y∈l,y.at_ = x.at_ + AG x.sh)/\∀(k:Nat) (h:k < t.length),(t[k]).top = 16 * (r + k)\/∃y∈l,y.at_ = 16 * (r + k)
 | [],r,l,h=>by cases h;exact⟨λt T=>(by cases T),λk h=>absurd h V⟩
 | x :: t,r,l,h=>by
  unfold Ba at h;cases j:BU w r x.top with
  | none=>rw[j] at h;cases h
  | some a=>
   rw[j] at h;dsimp only at h;cases H:Ba w (r + 1) t with
   | none=>rw[H] at h;cases h
   | some b=>
    rw[H] at h;cases h;obtain⟨W,j2⟩:=NW H;have R:=P6 j;unfold BU at j;split at j;rotate_left
    .cases j
    rename_i c;simp only[z_b,z_d] at c;obtain⟨⟨⟨⟨c1,c2⟩,c3⟩,K⟩,O⟩:=c;have:(r:Int) < 12:=by
     unfold BL at c1;simp only[z_b,z_d] at c1;omega
    have hb:=Bj Z this;rw[hb] at j K O;obtain⟨i1,i2⟩:=LD j K;refine⟨λy D=>?_,λk N=>?_⟩
    .rcases cm.1 D with D | D
     .rcases i2 y D with e | ⟨z,A,G⟩
      .have:=R.2 y D;exact .inl ⟨0,V,Z,by simpa using e⟩
      .exact .inr ⟨z,dC _ A,G⟩
     .rcases W y D with ⟨k,N,e1,Q⟩ | ⟨z,A,G⟩
      .exact .inl ⟨k + 1,by simp;omega,Z,by simpa using Q⟩
      .exact .inr ⟨z,dM _ A,G⟩
    .cases k with
     | zero=>
      rcases i1 with e | ⟨z,A,G⟩
      .exact .inl (by simp only[List.getElem_cons_zero];omega)
      .exact .inr ⟨z,dC _ A,Z⟩
     | succ k=>
      rcases j2 k (by simpa using N) with e | ⟨z,A,G⟩
      .exact .inl (by simp only[fL];omega)
      .exact .inr ⟨z,dM _ A,Z⟩
theorem KY {w:List Int} {x:AQ} (h:As w x.at_ = (x,true)):AG x.sh = sz w x.at_/\(AS (wv w (x.at_ + 1))).2 = true/\x = thg w x.at_:=by
 have h0:16<=x.at_:=by
  unfold As at h;split at h
  .rename_i c;exact (FA c).1
  .cases h
 have e:wv w (x.at_ + 1) = w.getD (x.at_.toNat + 1) 0:=by
  unfold wv gv;rw[show (x.at_ + 1).toNat = x.at_.toNat + 1 from Z]
 unfold As at h;split at h;rotate_left
 .cases h
 dsimp only at h;split at h;rotate_left
 .cases h
 rename_i c1 c2;rw[z_b] at c2;have j:=congrArg Prod.fst h;dsimp only at j;have y:x.sh = shp w x.at_:=by rw[<- j];unfold shp;rw[e]
 refine⟨by unfold sz;rw[y],by rw[e];exact c2.1,?_⟩;rw[<- j];unfold thg shp;simp only[e];rfl
def bgs (l:List AQ) (a:Int):Prop:=∃t∈l,t.at_ = a
theorem ER {s:Ah} {l:List AQ} (h:Eo s = some l):Geo s.AC s.AA (bgs l)/\Thn s.AC (bgs l) l/\BI s = some l:=by
 unfold Eo at h;split at h;rotate_left
 .cases h
 rename_i R;unfold EN at R;simp only[z_b,beq_iff_eq] at R;obtain⟨⟨⟨f1,f2⟩,f3⟩,f4⟩:=R;have T:=Bi.1 f2;have a0:=h;unfold BI at h;obtain⟨N,G⟩:=FB h;obtain⟨c1,c2⟩:=NW h;have n0:=T.n0;unfold BL at f1;simp only[z_b,z_d,beq_iff_eq] at f1;have H:∀(k:Nat) (D:k < s.AA.tail.length),rv s.AA (1 + (k:Int)) = s.AA.tail[k]:=λk D=>by
  have:=J8 D;rw[this];congr 1
 have hnd:=Lp N λx A=>(G x A).2.1
 refine⟨⟨Z,T,?_,?_,?_,?_⟩,⟨λx A=>⟨⟨x,A,rfl⟩,(KY (G x A).2.2.1).2.2⟩,?_⟩,a0⟩
 .rintro a ⟨x,A,rfl⟩;obtain⟨g1,g2,g3,k,D,O,Q,g6⟩:=G x A;obtain⟨K,e2,_⟩:=KY g3;refine⟨Z,?_,e2⟩;rw[<- K,O,show ((1:Nat):Int) + k = 1 + (k:Int) from rfl,H k D];exact Q
 .rintro a ⟨x,A,rfl⟩;obtain⟨K,_,_⟩:=KY (G x A).2.2.1;rw[<- K];rcases c1 x A with ⟨k,D,O,Q⟩ | ⟨y,y1,y2⟩
  .left;rw[O,show ((1:Nat):Int) + k = 1 + (k:Int) from rfl,H k D];exact Q
  .exact .inr ⟨y,y1,y2⟩
 .intro r r0 r1;obtain⟨k,rfl⟩:∃k:Nat,r = 1 + (k:Int):=⟨(r - 1).toNat,Z⟩;have D:k < s.AA.tail.length:=by rw[eT];omega
  rw[H k D];rcases c2 k D with e | ⟨y,y1,y2⟩
  .exact .inl Z
  .exact .inr ⟨y,y1,Z⟩
 .rintro a b ⟨x,A,rfl⟩ ⟨y,hy,rfl⟩ a3;obtain⟨K,_,_⟩:=KY (G x A).2.2.1;rw[<- K];obtain⟨i,hi,rfl⟩:=d5 A;obtain⟨j,W,rfl⟩:=d5 hy;rw[f7] at N;by_cases c:i < j
  .exact N i j hi W c
  .by_cases c' : i = j
   .subst c';omega
   .have:=N j i W hi Z;have:=(G _ (cK W)).2.1;omega
 .rintro a ⟨x,A,rfl⟩;rw[<- (KY (G x A).2.2.1).2.2];exact A
end Sm
end
section
namespace Go.Lf
open Go Sm
def ET:Nat->List Th->Int
 | _,[]=>-1
 | i,t :: r=>if t.busy = true then i else ET (i + 1) r
theorem N4 {i:Nat} {t:Th} {r:List Th}:ET i (t :: r) = if t.busy = true then (i:Int) else ET (i + 1) r:=rfl
theorem It:∀(l:List Th) (i:Nat),decide (ET i l>=0) = l.any (·.busy)
 | [],i=>by simp[ET]
 | t :: r,i=>by
  unfold ET;cases h:t.busy with
  | true=>simp[h]
  | false=>simp only[List.any_cons,h,dU];exact It r (i + 1)
section
variable {R:RM} {D:Chs}
theorem WU {x:Value} {n t:Int} {b:Bool} (A:flat x = true) (j:cl x = [x]):Ro Es [.agg #[x,I n,.bool b,I t]] (.bool b) R D:=by
 refine Qh λF=>?_
 refine z_1 ?_;exact ja λy=>jfo (jl rfl (Bf (BN rfl)))
theorem Uy {v:Value} {l:List Th} (h:Ths R v l) (hl:l.length < 1000000):Ro EU [v,.func (.func Es) #[] #[]] (I (ET 0 l)) R D:=by
 refine GQ λF=>?_
 refine z_2 ?_;obtain⟨a,c,O⟩:=h.sl;refine Bo ⟨a,c,O⟩ (jli (λi:Nat=>l.length - i) (λi=>[v,.func (.func Es) #[] #[],I l.length,I i]) (λ_=>D ++ F) (λy i=>y = R/\i<=l.length/\ET 0 l = ET i (l.drop i)) 0 ⟨rfl,Z,by rw[di]⟩ rfl rfl ?_);rintro K e y i ⟨H,T,j⟩ he G;subst H;refine z_V ?_;refine jlt (jif (λc=>?_) (λc=>?_));rotate_left
 .have c:=z_g c;refine BN ?_;rw[j,cT Z];rfl
 have c:i < l.length:=by have:=z_f c;omega
 refine jtr h c λb o ty Q rv A hb N x=>Do hb N x ?_
 obtain⟨W,rc,rfl⟩:=A.sl;refine Hg (by kernel_rfl) (jro (WU rfl rfl) ?_);rw[cQ c,N4] at j;refine jif (λg=>?_) (λg=>?_)
 .rw[if_pos g] at j;exact BN (by rw[j])
 .rw[if_neg (by rw[g];decide)] at j;exact jad (G y (i + 1) Z ⟨rfl,Z,j⟩)
theorem U2 {v:Value} {l:List Th} (h:Ths R v l) (hl:l.length < 1000000):Ro Du [v,.func (.func Es) #[] #[]] (.bool (l.any (·.busy))) R D:=by
 refine Fc λF=>?_
 refine z_2 ?_;refine jro (Uy h hl) (jge ?_);rw[It];exact BN rfl
end
def EA (s:Sm.Ah):Option (List AQ × List Int):=if s.AB.any (·.busy) then none else CU s
section st
variable {R:RM} {s:Sm.Ah} {wv tv mv thv ov pv:Value}
def O8 (r:Option (List AQ × List Int)) (s:Sm.Ah) (wv tv mv thv ov pv:Value) (x:Value) (R:RM):Prop:=match r with
 | none=>x = .pointer none
 | some (l,met)=>∃hb mb v,x = Pt hb/\HpV R s wv tv mv thv ov pv l met hb mb v
set_option maxRecDepth 4000 in
theorem Ul (h:SF R s wv tv mv thv ov pv):Fn P Nq [.agg (eSt s wv tv mv thv ov pv).toArray] R [] (λr N A=>A = []/\O8 (EA s) s wv tv mv thv ov pv r N):=by
 refine Um λF=>?_
 refine z_1 ?_;refine ja λsb=>BB λR0 O G=>Do G (by exact z_n 13) rfl ?_
 have h:=h.le O;refine jc (Lr h) ?_;rintro x R1 _ D ⟨rfl,K⟩;have h:=h.le D;have G:=D _ _ G;have D:=O.trans D;have fu:=h.b.fu;have n1:=h.b.n1;have W:∀(t:Bool),(t = true->EA s = none)->(t = false->O8 (EA s) s wv tv mv thv ov pv x R1)->J R1 ([] ++ F) (IF (.bool t) (Fb R F (λr N A=>A = []/\O8 (EA s) s wv tv mv thv ov pv r N) (.pointer none)) (Fb R F (λr N A=>A = []/\O8 (EA s) s wv tv mv thv ov pv r N) x)):=λt g1 g2=>by
  refine jif (λg=>Ao D ⟨rfl,?_⟩) (λg=>Ao D ⟨rfl,g2 g⟩);rw[g1 g];rfl
 obtain⟨H,Q,hx⟩:∃H:Bool,(H = (CU s).isNone)/\∀(y z:Operand) (w:World),(do eqGuard .eql 98 y z x (.pointer none);binOp .eql 98 x (.pointer none):Sem Value).run P w = .ok (.bool H) w:=by
  cases T:CU s with
  | none=>
   rw[T] at K;obtain rfl:x = _:=K;exact⟨true,rfl,λy z w=>VI w y z⟩
  | some q=>
   obtain⟨l,a2⟩:=q;rw[T] at K;obtain⟨hb,mb,v,rfl,hv⟩:=K;exact⟨false,rfl,λy z w=>W8 w y z hb⟩
 refine jor [Pt sb,x] H (λK' j=>?_) (λe c u ho he=>?_)
 .refine jxr (hx _ _) (F0 (λg=>?_) (λg=>?_))
  .rw[g];exact jfo (jlr G rfl (jlt (j _ _ _ CH (by rw[g];exact decide_eq_false Z))))
  .rw[g];exact j _ _ _ DL g.symm
 refine z_V ?_;refine jor [Pt sb,x] H (λK' j=>?_) (λe c u a0 he=>?_)
 .rw[ho];refine F0 (λg=>?_) (λg=>?_)
  .rw[g];exact jfo (jlr G rfl (jgr (j _ _ _ CH (by rw[g];exact decide_eq_false Z))))
  .rw[g];exact j _ _ _ DL g.symm
 refine z_V ?_;refine jor [x] (H || s.AB.any (·.busy)) (λK' j=>?_) (λe c u a1 he=>?_)
 .rw[a0];refine F0 (λg=>?_) (λg=>?_)
  .rw[g];exact jfo (jlr G rfl (jro (U2 h.c.th Z) (j _ _ _ CH (by rw[g,dU]))))
  .rw[g];exact j _ _ _ DL (by rw[g,eL])
 refine z_V ?_;rw[a1];refine W _ (λg=>?_) (λg=>?_)
 .unfold EA;rw[d7] at g;rcases g with g | g
  .rw[Q] at g;split
   .rfl
   .exact Option.isNone_iff_eq_none.1 g
  .rw[if_pos g]
 .rw[ci] at g;unfold EA;rw[if_neg (by rw[g.2];decide)];cases T:CU s with
  | none=>rw[Q,T] at g;exact absurd g.1 δ
  | some q=>
   obtain⟨l,a2⟩:=q;rw[T] at K;exact K
theorem UL {hb mb:Nat} {v:Value} {l:List AQ} {Q:List Int} (h:SF R s wv tv mv thv ov pv) (hv:HpV R s wv tv mv thv ov pv l Q hb mb v):Fn P HM [Pt hb] R [] (λr j A=>j = R/\∃b o,r = .map (some b)/\MpI o (λr=>Aj s.AI r = true)/\A = [(b,o)]):=by
 refine Ly λF=>?_
 refine z_1 ?_;obtain⟨o,W,h2,h3,h4⟩:=hv;have pl:=h.b.pl;have T:=h.b.pv;refine Zn λb o0 H=>(jci (λ_:Obj=>[.map (some b)]) (λo=>(b,o) :: ([] ++ F)) (λj o=>j = R/\MpI o (λr=>Aj s.AI r = true)) (λK1 k1=>?_) ?_)
 .obtain⟨pa,pc,O⟩:=h.c.p.sl;refine jnc (jfo (jfo (jlr W rfl (Bo ⟨pa,pc,O⟩ (jci (λ_:Obj=>[.map (some b)]) (λo=>(b,o) :: ([] ++ F)) (λj o=>j = R/\MpI o (λr=>Aj s.AI r = true)) (λK2 k2=>?_) ?_)))));rotate_left
  .rintro e j o hp he;refine z_V ?_;exact k1 j o hp
  refine jli (λi:Nat × Obj=>s.AI.length - i.1) (λi=>[.map (some b),pv,I s.AI.length,I i.1]) (λi=>(b,i.2) :: ([] ++ F)) (λj i=>j = R/\i.1<=s.AI.length/\MpI i.2 (λr=>Aj (s.AI.take i.1) r = true)) (0,o0) ⟨rfl,V,by simpa [Aj] using H⟩ rfl rfl ?_;rintro K e j ⟨i,o⟩ ⟨D,hi,x⟩ he hK;subst D;dsimp only at hi x he;refine z_V ?_;refine jlt (jif (λc=>?_) (λc=>?_));rotate_left
  .have c:=z_g c;rw[cO Z] at x;exact k2 j o ⟨rfl,x⟩
  have c:i < s.AI.length:=by have:=z_f c;omega
  have N:=T _ (cK c);refine Bl h.c.p Z Z ?_;simp only[cG];refine jp (F9 N.1 Z) (@jmu _ _ _ _ _ _ _ _ _ x λo' G=>(jad (hK j (i + 1,o') (by dsimp only;omega) ⟨rfl,c,?_⟩)));have e:(λr=>Aj (s.AI.take (i + 1)) r = true) = λy=>Aj (s.AI.take i) y = true\/y = AN s.AI[i]:=by
   funext r;rw[cI c];unfold Aj;simp only[List.any_append,List.any_cons,List.any_nil,Bool.or_false,d7,beq_iff_eq];exact propext ⟨λh=>h.imp id Eq.symm,λh=>h.imp id Eq.symm⟩
  dsimp only;rw[e];exact G
 rintro e j o ⟨D,x⟩ he;subst D;refine z_V ?_;exact Ao (RM.le.refl _) ⟨rfl,b,o,rfl,x,rfl⟩
end st
end Go.Lf
end
section
namespace Sm
open Go.Lf
def nxt (AI tops:List Int) (n:Int):Nat->Nat->Nat
 | 0,r=>r
 | f + 1,r=>if r < tops.length/\(Aj AI r = true\/AK r + 16 < tops.getD r 0 + n) then nxt AI tops n f (r + 1) else r
def Bt (l:List AQ) (a:Int):Int:=match B7 l a with | some t=>AG t.sh | none=>2
def Ca (AI:List Int) (l:List AQ):List Int->List Int->Nat->Option (List Int × List Int)
 | [],tops,_=>some ([],tops)
 | a :: rest,tops,r=>if Aj AI (AN a) = true then (Ca AI l rest tops r).map λq=>(a :: q.1,q.2) else
  if nxt AI tops (Bt l a) (tops.length + 1) r = tops.length then none else
  (Ca AI l rest (tops.set (nxt AI tops (Bt l a) (tops.length + 1) r) (tops.getD (nxt AI tops (Bt l a) (tops.length + 1) r) 0 + Bt l a)) (nxt AI tops (Bt l a) (tops.length + 1) r)).map λq=>(tops.getD (nxt AI tops (Bt l a) (tops.length + 1) r) 0 :: q.1,q.2)
def Rel (tops:List Int) (t:List Rg):Prop:=tops.length = t.length/\∀q:Nat,1<=q->q < t.length->tops.getD q 0 = (rv t q).top
theorem TA {AI tops:List Int} {t:List Rg} {size:Int} (hl:t.length<=12) (h:Rel tops t):∀(n:Nat) (r j : Int),Ez AI t size n r = some j->1<=r->j < t.length->∀f:Nat,j - r < f->nxt AI tops size f r.toNat = j.toNat/\r<=j
 | 0,r,j,e,_,_,f,_=>by cases e
 | n + 1,r,j,e,h1,h2,f,hf=>by
  unfold Ez at e;have D:Ez AI t size n (r + 1) = some j->(Aj AI r = true\/AK r + 16 < (rv t r).top + size)->nxt AI tops size f r.toNat = j.toNat/\r<=j:=λH hc=>by
   have N:=(TA hl h n (r + 1) _ H Z h2 (j - r).toNat.succ Z).2;cases f with
   | zero=>omega
   | succ f=>
    obtain⟨K,R⟩:=TA hl h n (r + 1) _ H Z h2 f Z;refine⟨?_,Z⟩;unfold nxt;rw[if_pos]
    .rw[<- K];congr 1;omega
    .refine⟨by rw[h.1];omega,?_⟩;rw[show ((r.toNat:Nat):Int) = r from Z,h.2 r.toNat Z Z,show ((r.toNat:Nat):Int) = r from Z];exact hc
  by_cases G:Aj AI r = true
  .rw[if_pos G] at e;exact D e (.inl G)
  .rw[if_neg G] at e;obtain⟨x,O,e⟩:=AF e;obtain⟨p,y,e⟩:=AF e;obtain⟨T,W,Q⟩:=Fq Db O;have A:x = rv t r:=Q.symm;have y:p = x.top + size:=by unfold Cg at y;split at y<;>cases y;rfl
   by_cases c:AK r + 16 < p
   .rw[if_pos c] at e;exact D e (.inr (by rw[<- A,<- y];exact c))
   .rw[if_neg c] at e;cases e;refine⟨?_,dB _⟩;cases f with
    | zero=>omega
    | succ f=>
     unfold nxt;rw[if_neg];rintro⟨_,c2⟩;rw[show ((r.toNat:Nat):Int) = r from Z,h.2 r.toNat Z Z,show ((r.toNat:Nat):Int) = r from Z] at c2;rcases c2 with c2 | c2
     .exact G c2
     .rw[<- A,<- y] at c2;exact c c2
def II (AI:List Int) (r:Int) (top:Int):Rg:=if AK r < top\/Aj AI r = true then ⟨3,-1,top,top,0⟩ else Dj r
theorem IH {AI:List Int} {l:List AQ}:∀(Q:List Int) (t N : List Rg) (r:Int) (R out j:List Int),slide AI l Q t r R = some (N,out)->t.length<=12->1<=r->Rel j t->(∀q:Int,1<=q->q < t.length->rv t q = II AI q (rv t q).top/\AK q<=(rv t q).top)->(∀a∈Q,∀x,B7 l a = some x->0 < AG x.sh)->
  ∃D y,out = R ++ D/\Ca AI l Q j r.toNat = some (D,y)/\Rel y N/\N.length = t.length/\(∀q:Int,1<=q->q < t.length->rv N q = II AI q (rv N q).top/\AK q<=(rv N q).top)/\D.length = Q.length
 | [],t,N,r,R,out,j,h,hl,h1,hr,hf,_=>by
  cases h;exact⟨[],j,V,rfl,hr,rfl,hf,rfl⟩
 | a :: Q,t,N,r,R,out,j,h,hl,h1,hr,hf,hs=>by
  unfold slide at h;obtain⟨x,hx,h⟩:=AF h;have a3:Bt l a = AG x.sh:=by unfold Bt;rw[hx]
  have a0:=λb hb=>hs b (ce _ hb)
  by_cases hh:Aj AI (AN a) = true
  .rw[if_pos hh] at h;obtain⟨D,y,g1,g2,g3,g4,g5,g6⟩:=IH Q t N r (R ++ [a]) out j h hl h1 hr hf a0;refine⟨a :: D,y,by rw[g1];simp,?_,g3,g4,g5,by simp[g6]⟩;unfold Ca;rw[if_pos hh,g2];rfl
  .rw[if_neg hh] at h;obtain⟨A,a2,h⟩:=AF h;obtain⟨row,W,h⟩:=AF h;obtain⟨top,H,h⟩:=AF h;obtain⟨x0,x1,x2⟩:=Fq Db W;have K:row = rv t A:=x2.symm;have ht:top = row.top + AG x.sh:=by unfold Cg at H;split at H<;>cases H;rfl
   obtain⟨n1,n2⟩:=TA hl hr _ _ _ a2 h1 x1 (j.length + 1) (by rw[hr.1];omega);have h0:=hs a V x hx;have et:∀q:Int,0<=q->rv (AT t A { row with kind:=3,top:=top,BA:=top }) q = if q = A then { row with kind:=3,top:=top,BA:=top } else rv t q:=λq q0=>DA Z x1 q0
   have G:=hf A Z x1;have a1:rv t A = { rv t A with AX:=-1,AJ:=0 }:=by
    rw[G.1];unfold II;split<;>rfl
   have T:Rel (j.set A.toNat (j.getD A.toNat 0 + AG x.sh)) (AT t A { row with kind:=3,top:=top,BA:=top }):=by
    refine⟨by rw[dG,hr.1];simp[AT],λq q1 O=>?_⟩;have O:q < t.length:=by simpa [AT] using O
    rw[et q Z,cH,eY];by_cases c:A.toNat = q
    .rw[if_pos c,if_pos (by rw[hr.1];omega),if_pos Z];show j.getD A.toNat 0 + AG x.sh = top;rw[hr.2 _ Z Z,show ((A.toNat:Nat):Int) = A from Z,ht,K]
    .rw[if_neg c,if_neg Z,<- cH];exact hr.2 q q1 O
   obtain⟨D,y,g1,g2,g3,g4,g5,g6⟩:=IH Q _ N A (R ++ [row.top]) out _ h (by simpa [AT] using hl) Z T (λq q1 O=>by
     have O:q < t.length:=by simpa [AT] using O
     rw[et q Z]
     by_cases c:q = A
     .subst c
      simp only[if_true]
      have e1:=G.2
      have e2:AK q < top:=by rw[ht,K];omega
      refine⟨?_,Z⟩
      unfold II
      rw[if_pos (.inl e2)]
      rw[a1] at K
      rw[K]
     .rw[if_neg c];exact hf q q1 O) a0
   refine⟨row.top :: D,y,by rw[g1];simp,?_,g3,by rw[g4];simp[AT],λq q1 O=>g5 q q1 (by simpa [AT] using O),by simp[g6]⟩;unfold Ca;rw[if_neg hh,a3,n1,if_neg (by rw[hr.1];omega),g2];show some (j.getD A.toNat 0 :: D,y) = _;rw[hr.2 _ Z Z,show ((A.toNat:Nat):Int) = A from Z,<- K]
def CE:List Int->Int->List Int->List Int
 | w,_,[]=>w
 | w,a,v :: c=>CE (AT w a v) (a + 1) c
theorem E7:∀{c w:List Int} {a:Int},(CE w a c).length = w.length
 | [],_,_=>rfl
 | v :: c,w,a=>by unfold CE;rw[E7];simp[AT]
theorem H4:∀{c w:List Int} {a x:Int},0<=a->a + c.length<=w.length->0<=x->wv (CE w a c) x = if a<=x/\x < a + c.length then c.getD (x - a).toNat 0 else wv w x
 | [],w,a,x,h0,h1,hx=>by unfold CE;rw[if_neg V]
 | v :: c,w,a,x,h0,h1,hx=>by
  unfold CE;simp only[cS] at h1;rw[H4 Z (by simp[AT];omega) hx,Co Z Z hx];simp only[cS];by_cases c1:a + 1<=x/\x < a + 1 + c.length
  .rw[if_pos c1,if_pos Z,show (x - a).toNat = (x - (a + 1)).toNat + 1 from Z];rfl
  .rw[if_neg c1];by_cases c2:x = a
   .subst c2;rw[if_pos rfl,if_pos Z,Int.sub_self];rfl
   .rw[if_neg c2,if_neg Z]
theorem SH:∀{j w:List Int} {a:Int},0<=a->a + j.length<=w.length->wrs w a j = some (CE w a j)
 | [],w,a,_,_=>rfl
 | v :: j,w,a,h0,h1=>by
  simp only[cS] at h1;unfold wrs CE;rw[Gg h0 Z];exact SH Z (by simp[AT];omega)
theorem HT:∀{c d w:List Int} {a:Int},CE w a (c ++ d) = CE (CE w a c) (a + c.length) d
 | [],d,w,a=>by simp[CE]
 | v :: c,d,w,a=>by
  show CE (AT w a v) (a + 1) (c ++ d) = CE (CE (AT w a v) (a + 1) c) (a + ((v :: c).length:Nat)) d;rw[HT,show a + 1 + (c.length:Int) = a + ((v :: c).length:Nat) from by simp only[cS];omega]
theorem X5 {j y:List Int} (hl:j.length = y.length) (h:∀x,0<=x->wv j x = wv y x):j = y:=by
 apply eN hl;intro i A D;have:=h i Z;unfold wv gv at this;simp only[cG,cH,cF A,cF D,dI] at this;exact this
theorem Nj {w:List Int} {a:Int} (h0:0<=a) (j:a < w.length):AT w a (wv w a) = w:=
 X5 (by simp[AT]) λx y=>by
  rw[Co h0 j y];by_cases c:x = a
  .rw[if_pos c,c]
  .rw[if_neg c]
def plc (l:List AQ) (AJ to:List Int) (v:Int):Int:=match now l v with
 | some u=>if u∈AJ then to.getD (AJ.idxOf u) 0 else 0
 | none=>0
theorem QA {l:List AQ} {AJ to:List Int} (hlen:to.length = AJ.length):∀(j w:List Int) (a:Int),(∀v∈j,∃u,now l v = some u)->0<=a->a + j.length<=w.length->(∀x,a<=x->x < a + j.length->wv w x = 0)->
  Er l AJ to w a j = some (CE w a (j.map (plc l AJ to)))
 | [],w,a,_,_,_,_=>rfl
 | v :: r,w,a,hv,h0,h1,hz=>by
  simp only[cS] at h1 hz;obtain⟨u,A⟩:=hv v V;unfold Er;rw[A,dO];simp only[cP,z_o];unfold CE;have e:(if 0<=BP AJ u then (idx to (BP AJ u)).bind λx=>wr w a x else some w) = some (AT w a (plc l AJ to v)):=by
   unfold plc;rw[A];dsimp only;by_cases c:u∈AJ
   .have H:=(DF (l:=AJ) (n:=u)).1 c;have D:BP AJ u = (AJ.idxOf u:Nat):=by unfold BP;rw[if_pos c]
    rw[if_pos H.1,if_pos c,D];have G:AJ.idxOf u < to.length:=by rw[hlen];exact dP c
    unfold idx;rw[if_pos Z];simp only[cG,cF G,z_o,cH,dI];exact Gg h0 Z
   .rw[(DF (l:=AJ) (n:=u)).2 c,if_neg δ,if_neg c];have:=Nj (w:=w) h0 Z;rw[hz a (dB _) Z] at this;rw[this]
  rw[e];simp only[z_o];exact QA hlen r _ (a + 1) (λv y=>hv v (ce _ y)) Z (by simp[AT];omega) λx K N=>by
   rw[Co h0 Z Z,if_neg Z];exact hz x Z Z
def Bp (w:List Int) (bl:List (Int × List Int)):List Int:=bl.foldl (λw b=>CE w b.1 b.2) w
theorem CC:∀{j:List (Int × List Int)} {w:List Int},(Bp w j).length = w.length
 | [],_=>rfl
 | b :: j,w=>by
  show (Bp (CE w b.1 b.2) j).length = _;rw[CC,E7]
def inB (b:Int × List Int) (x:Int):Prop:=b.1<=x/\x < b.1 + b.2.length
theorem EC:∀{j:List (Int × List Int)} {w:List Int} {x:Int},(∀b∈j,0<=b.1/\b.1 + b.2.length<=w.length)->0<=x->(∀b∈j,¬ inB b x)->wv (Bp w j) x = wv w x
 | [],_,_,_,_,_=>rfl
 | b :: j,w,x,h,hx,hn=>by
  show wv (Bp (CE w b.1 b.2) j) x = _;rw[EC (λc hc=>by rw[E7];exact h c (ce _ hc)) hx λc hc=>hn c (ce _ hc)];have hb:=h b V;rw[H4 hb.1 hb.2 hx];exact if_neg (hn b V)
theorem Eh:∀{j:List (Int × List Int)} {w:List Int} {x:Int} {b:Int × List Int},(∀b∈j,0<=b.1/\b.1 + b.2.length<=w.length)->j.Pairwise (λb c=>∀x,¬ (inB b x/\inB c x))->b∈j->inB b x->wv (Bp w j) x = b.2.getD (x - b.1).toNat 0
 | [],_,_,_,_,_,hb,_=>by cases hb
 | c :: j,w,x,b,h,hp,hb,hx=>by
  rw[eJ] at hp;show wv (Bp (CE w c.1 c.2) j) x = _;have A : ∀d∈j,0<=d.1/\d.1 + d.2.length<=(CE w c.1 c.2).length:=λd hd=>by rw[E7];exact h d (ce _ hd)
  have hc:=h c V;rcases cU.1 hb with rfl | hb
  .have D:0<=x:=by have:=hx.1;omega
   rw[EC A D λd hd y=>hp.1 d hd x ⟨hx,y⟩,H4 hc.1 hc.2 D];exact if_pos hx
  .exact Eh A hp.2 hb hx
def DJ (l:List AQ) (AJ to:List Int) (a d:Int):Int × List Int:=(d,match B7 l a with
 | some t=>d :: AY t.sh :: (t.refs.map (plc l AJ to) ++ t.nums)
 | none=>[])
theorem P7 {l:List AQ} {AJ to:List Int} (hlen:to.length = AJ.length):∀(j ld w:List Int),j.length = ld.length->
  (∀p∈j.zip ld,∃t,B7 l p.1 = some t/\(∀v∈t.refs,∃u,now l v = some u)/\0<=p.2/\p.2 + (2 + t.refs.length + t.nums.length:Nat)<=w.length/\∀x,p.2 + 2<=x->x < p.2 + 2 + t.refs.length->wv w x = 0)->
  ((j.zip ld).map λp=>DJ l AJ to p.1 p.2).Pairwise (λb c=>∀x,¬ (inB b x/\inB c x))->
  Ee l AJ to j ld w = some (Bp w ((j.zip ld).map λp=>DJ l AJ to p.1 p.2))
 | [],[],w,_,_,_=>rfl
 | [],_ :: _,w,h,_,_=>by simp at h
 | _ :: _,[],w,h,_,_=>by simp at h
 | a :: j,d :: ld,w,h,hp,hd=>by
  rw[ei] at hp hd ⊢;rw[dO,eJ] at hd;obtain⟨t,H,hr,d0,T,R⟩:=hp (a,d) V;dsimp only at H d0 T R;have O:DJ l AJ to a d = (d,d :: AY t.sh :: (t.refs.map (plc l AJ to) ++ t.nums)):=by unfold DJ;rw[H]
  have y:∀x:Int,0<=x->wv (AT (AT w d d) (d + 1) (AY t.sh)) x = if x = d + 1 then AY t.sh else if x = d then d else wv w x:=λx Q=>by
   rw[Co Z (by simp[AT];omega) Q];split
   .rfl
   .rw[Co Z Z Q]
  have e:(do
    let w <- wr w d d
    let w <- wr w (d + 1) (AY t.sh)
    let w <- Er l AJ to w (d + 2) t.refs
    wrs w (d + 2 + t.refs.length) t.nums) = some (CE w d (d :: AY t.sh :: (t.refs.map (plc l AJ to) ++ t.nums))):=by
   rw[Gg d0 Z];simp only[cP,z_o];rw[Gg Z (by simp[AT];omega)];simp only[z_o];rw[QA hlen t.refs _ (d + 2) hr Z (by simp[AT];omega) λx D G=>by
    rw[y x Z,if_neg Z,if_neg Z];exact R x D G]
   simp only[z_o];rw[SH Z (by rw[E7];simp[AT];omega)];have W:CE w d (d :: AY t.sh :: (t.refs.map (plc l AJ to) ++ t.nums)) = CE (CE (AT (AT w d d) (d + 1) (AY t.sh)) (d + 1 + 1) (t.refs.map (plc l AJ to))) (d + 1 + 1 + ((t.refs.map (plc l AJ to)).length:Nat)) t.nums:=HT;rw[W,cM,show d + 1 + 1 = d + 2 from Z]
  unfold Ee;rw[H];simp only[cP,z_o] at e ⊢;have:=P7 hlen j ld (CE w d (d :: AY t.sh :: (t.refs.map (plc l AJ to) ++ t.nums))) (by simpa using h) (λp A=>by
   obtain⟨t2,D,G,h3,h4,h5⟩:=hp p (ce _ A)
   refine⟨t2,D,G,h3,by rw[E7];exact h4,λx K N=>?_⟩
   rw[H4 d0 (by simp;omega) Z,if_neg]
   .exact h5 x K N
   .intro hc
    refine hd.1 _ (dm A) x ⟨by rw[O];exact hc,?_⟩
    unfold DJ inB
    rw[D]
    dsimp only
    refine⟨Z,?_⟩
    simp only[cS,cJ,cM];omega) hd.2
  rw[dO];show _ = some (Bp (CE w (DJ l AJ to a d).1 (DJ l AJ to a d).2) _);rw[O,<- this];revert e;cases wr w d d with
  | none=>intro e;cases e
  | some w1=>
   simp only[z_o];cases wr w1 (d + 1) (AY t.sh) with
   | none=>intro e;cases e
   | some w2=>
    simp only[z_o];cases Er l AJ to w2 (d + 2) t.refs with
    | none=>intro e;cases e
    | some w3=>
     simp only[z_o];intro e;rw[e];rfl
theorem NQ:∀{n:Nat} {w:List Int} {a:Int},0<=a->a + n<=w.length->(∀x,a<=x->x < a + n->wv w x = 0)->CE w a (List.replicate n 0) = w
 | 0,w,a,_,_,_=>rfl
 | n + 1,w,a,h0,h1,hz=>by
  have e:=Nj (w:=w) h0 Z;rw[hz a (dB _) Z] at e;show CE (AT w a 0) (a + 1) (List.replicate n 0) = w;rw[e];exact NQ Z Z λx j y=>hz x Z Z
def Dm (x:AQ):Int × List Int:=(x.at_,x.at_ :: AY x.sh :: (List.replicate x.refs.length 0 ++ x.nums))
theorem IB {s:Ah}:∀(l:List AQ) (w:List Int) (t:List Rg) (D : List Int) (H : List Rg),stay s l w t = some (D,H)->
  (∀x∈l,Aj s.AI (AN x.at_) = true->0<=x.at_/\x.at_ + (2 + x.refs.length + x.nums.length:Nat)<=w.length/\∀y,x.at_ + 2<=y->y < x.at_ + 2 + x.refs.length->wv w y = 0)->
  ((l.filter λx=>Aj s.AI (AN x.at_)).map Dm).Pairwise (λb c=>∀x,¬ (inB b x/\inB c x))->
  D = Bp w ((l.filter λx=>Aj s.AI (AN x.at_)).map Dm)
 | [],w,t,D,H,h,_,_=>by cases h;rfl
 | x :: l,w,t,D,H,h,hp,hd=>by
  unfold stay at h;dsimp only at h;by_cases j:Aj s.AI (AN x.at_) = true
  .rw[if_pos j] at h;rw[List.filter_cons_of_pos (by simpa using j),dO,eJ] at hd;obtain⟨K,a1,Q⟩:=hp x V j;rw[Gg K Z] at h;simp only[cP,z_o] at h;rw[Gg Z (by simp[AT];omega)] at h;simp only[z_o] at h;rw[SH Z (by simp[AT];omega)] at h;simp only[z_o] at h;obtain⟨row,_,h⟩:=AF h;obtain⟨_,_,h⟩:=AF h;have e:CE (AT (AT w x.at_ x.at_) (x.at_ + 1) (AY x.sh)) (x.at_ + 2 + x.refs.length) x.nums = CE w x.at_ (x.at_ :: AY x.sh :: (List.replicate x.refs.length 0 ++ x.nums)):=by
    have e9:CE w x.at_ (x.at_ :: AY x.sh :: (List.replicate x.refs.length 0 ++ x.nums)) = CE (CE (AT (AT w x.at_ x.at_) (x.at_ + 1) (AY x.sh)) (x.at_ + 1 + 1) (List.replicate x.refs.length 0)) (x.at_ + 1 + 1 + ((List.replicate x.refs.length (0:Int)).length:Nat)) x.nums:=HT;rw[e9,cW,show x.at_ + 1 + 1 = x.at_ + 2 from Z,NQ Z (by simp[AT];omega)];intro y N O;rw[Co Z (by simp[AT];omega) Z,if_neg Z,Co K Z Z,if_neg Z];exact Q y N O
   rw[e] at h;rw[List.filter_cons_of_pos (by simpa using j),dO];exact IB l _ _ _ _ h (λy G A=>by
    obtain⟨R,T,W⟩:=hp y (ce _ G) A
    refine⟨R,by show _<=((CE w x.at_ _).length:Int);rw[E7];exact T,λz N O=>?_⟩
    show wv (CE w x.at_ (x.at_ :: AY x.sh :: (List.replicate x.refs.length 0 ++ x.nums))) z = 0
    rw[H4 K (by simp;omega) Z,if_neg]
    .exact W z N O
    .intro hc
     refine hd.1 _ (dm (dV.2 ⟨G,by simpa using A⟩)) z ⟨hc,?_⟩
     unfold Dm inB
     dsimp only
     refine⟨Z,?_⟩
     simp only[cS,cJ,cW];omega) hd.2
  .rw[if_neg j] at h;rw[List.filter_cons_of_neg (by simpa using j)] at hd ⊢;exact IB l w t D H h (λy G=>hp y (ce _ G)) hd
theorem JG {AI:List Int} {t:List Rg} {size:Int} (hl:t.length<=12):∀(n:Nat) (r j : Int),Ez AI t size n r = some j->1<=r->r<=j/\Aj AI j = false/\j < t.length/\(rv t j).top + size<=16 * j + 16
 | 0,r,j,e,_=>by cases e
 | n + 1,r,j,e,h1=>by
  unfold Ez at e;by_cases D:Aj AI r = true
  .rw[if_pos D] at e;obtain⟨H,A⟩:=JG hl n (r + 1) j e Z;exact⟨Z,A⟩
  .rw[if_neg D] at e;obtain⟨x,K,e⟩:=AF e;obtain⟨p,y,e⟩:=AF e;obtain⟨Q,N,O⟩:=Fq Db K;have G:x = rv t r:=O.symm;have y:p = x.top + size:=by unfold Cg at y;split at y<;>cases y;rfl
   by_cases c:AK r + 16 < p
   .rw[if_pos c] at e;obtain⟨H,A⟩:=JG hl n (r + 1) j e Z;exact⟨Z,A⟩
   .rw[if_neg c] at e;cases e;rw[Bj Z Z] at c;exact⟨dB _,by simpa using D,N,by rw[<- G];omega⟩
theorem LG {AI:List Int} {l:List AQ}:∀(H:List Int) (t t' : List Rg) (r:Int) (R out:List Int),slide AI l H t r R = some (t',out)->t.length<=12->1<=r->(∀q:Int,1<=q->q < t.length->16 * q<=(rv t q).top)->(∀a∈H,0<=a/\∀x,B7 l a = some x->0 < AG x.sh)->H.Nodup->
  ∃j,out = R ++ j/\j.length = H.length/\j.Nodup/\∀p∈H.zip j,(Aj AI (AN p.1) = true/\p.2 = p.1)\/(Aj AI (AN p.1) = false/\Aj AI (p.2 / 16) = false/\1<=p.2 / 16/\p.2 / 16 < t.length/\(rv t (p.2 / 16)).top<=p.2)
 | [],t,t',r,R,out,h,_,_,_,_,_=>by
  cases h;exact⟨[],V,rfl,List.nodup_nil,λp y=>by simp at y⟩
 | a :: H,t,t',r,R,out,h,hl,h1,ht,hs,nd=>by
  rw[dp] at nd;unfold slide at h;obtain⟨x,hx,h⟩:=AF h;have K:=λb hb=>hs b (ce _ hb)
  obtain⟨a2,a4⟩:=hs a V;by_cases Q:Aj AI (AN a) = true
  .rw[if_pos Q] at h;obtain⟨j,g1,W,g3,g4⟩:=LG H t t' r (R ++ [a]) out h hl h1 ht K nd.2;refine⟨a :: j,by rw[g1];simp,by simp[W],dp.2 ⟨λhm=>?_,g3⟩,λp y=>?_⟩
   .obtain⟨b,hb⟩:=Hb W.symm hm;rcases g4 _ hb with ⟨_,e⟩ | ⟨_,e,_⟩
    .dsimp only at e;exact nd.1 (e▸(dq hb).1)
    .dsimp only at e;rw[Be a2] at Q;rw[Q] at e;cases e
   .rw[ei] at y;rcases cU.1 y with rfl | y
    .exact .inl ⟨Q,rfl⟩
    .exact g4 p y
  .rw[if_neg Q] at h;obtain⟨G,a3,h⟩:=AF h;obtain⟨row,a1,h⟩:=AF h;obtain⟨top,A,h⟩:=AF h;obtain⟨x0,x1,x2⟩:=Fq Db a1;have D:row = rv t G:=x2.symm;have a5:top = row.top + AG x.sh:=by unfold Cg at A;split at A<;>cases A;rfl
   obtain⟨n1,n2,n3,n4⟩:=JG hl _ _ _ a3 h1;have h0:=a4 x hx;have hb:=ht G Z x1;have et:∀q:Int,0<=q->rv (AT t G { row with kind:=3,top:=top,BA:=top }) q = if q = G then { row with kind:=3,top:=top,BA:=top } else rv t q:=λq q0=>DA Z x1 q0
   obtain⟨j,g1,W,g3,g4⟩:=LG H _ t' G (R ++ [row.top]) out h (by simpa [AT] using hl) Z (λq q1 q2=>by
    rw[et q Z]
    by_cases c:q = G
    .subst c
     rw[if_pos rfl]
     show 16 * q<=top
     rw[a5,D];omega
    .rw[if_neg c];exact ht q q1 (by simpa [AT] using q2)) K nd.2
   have O:row.top / 16 = G:=by rw[D];omega
   refine⟨row.top :: j,by rw[g1];simp,by simp[W],dp.2 ⟨λhm=>?_,g3⟩,λp y=>?_⟩
   .obtain⟨b,a0⟩:=Hb W.symm hm;rcases g4 _ a0 with ⟨T,e2⟩ | ⟨_,_,_,_,e⟩
    .dsimp only at T e2;have a6:=(K b (dq a0).1).1;rw[<- e2,Be Z,O,n2] at T;cases T
    .dsimp only at e;rw[O,et G Z,if_pos rfl] at e;have e:top<=row.top:=e;omega
   .rw[ei] at y;rcases cU.1 y with rfl | y
    .exact .inr ⟨by simpa using Q,by dsimp only;rw[O];exact n2,by dsimp only;rw[O];omega,by dsimp only;rw[O];exact n3,by dsimp only;rw[O,D];exact dB _⟩
    .rcases g4 p y with e | ⟨T,e2,e3,e4,N⟩
     .exact .inl e
     .refine .inr ⟨T,e2,e3,by simpa [AT] using e4,?_⟩;rw[et _ Z] at N;by_cases c:p.2 / 16 = G
      .rw[if_pos c] at N;have N:top<=p.2:=N;rw[c,<- D];omega
      .rw[if_neg c] at N;exact N
theorem Ue {AI:List Int} {l:List AQ} {W:List Int} {T0:List Rg} {B0:Int->Prop} (T:Thn W B0 l) (G0:Geo W T0 B0):∀(D:List Int) (t K:List Rg) (r:Int) (N out:List Int) (f:Int->Shp) (B:Int->Prop),
  slide AI l D t r N = some (K,out)->(∀a∈D,B0 a)->IN f t B->1<=r->(∀q:Int,1<=q->q < t.length->(rv t q).AX = -1)->(∀a∈D,Aj AI (a / 16) = true->B a/\f a = shp W a)->
  ∃x H A,out = N ++ x/\x.length = D.length/\IN H K A/\K.length = t.length/\(∀b,B b->A b/\H b = f b)/\(∀b,A b->B b\/(b∈x/\Aj AI (b / 16) = false))/\
   (∀p∈D.zip x,A p.2/\H p.2 = shp W p.1/\(Aj AI (p.1 / 16) = true->p.2 = p.1)):=by
 intro D;induction D with
 | nil=>
  intro t K r N out f B h _ G _ _ _;cases h;exact⟨[],f,B,V,rfl,G,rfl,λb h=>⟨h,rfl⟩,λb h=>.inl h,λp h=>(by simp at h)⟩
 | cons a D ih=>
  intro t K r N out f B h hB G r0 ho h4;have O:=hB a V;obtain⟨g1,g2,g3,g4,g5,g6,g7,g8⟩:=G0.inn O;have n1:=G.ok.n1;unfold slide at h;rw[T.find O] at h;simp only[cP,z_o] at h;have es:AG (thg W a).sh = sz W a:=rfl;rw[es,Be Z] at h;cases hh:Aj AI (a / 16) with
  | true=>
   rw[if_pos hh] at h;obtain⟨hb,hf⟩:=h4 a V hh;obtain⟨x,H,A,e,k1,k2,k3,k5,k6,k7⟩:=ih t K r (N ++ [a]) out f B h (λb hb=>hB b (by simp[hb])) G r0 ho (λb hb=>h4 b (by simp[hb]));refine⟨a :: x,H,A,by rw[e];simp,by simp[k1],k2,k3,k5,λb hb=>?_,λp y=>?_⟩
   .rcases k6 b hb with h | h
    .exact .inl h
    .exact .inr ⟨by simp[h.1],h.2⟩
   .rw[ei] at y;rcases cU.1 y with y | y
    .subst y;exact⟨(k5 a hb).1,by rw[(k5 a hb).2,hf],λ_=>rfl⟩
    .exact k7 p y
  | false=>
   rw[if_neg (by rw[hh];decide)] at h;obtain⟨j,e1,h⟩:=AF h;obtain⟨p1,p3,p2,p4⟩:=JG n1 _ _ _ e1 r0;have R:=G.ok.row j Z Z;have t0:=R.t0;rw[Cm Z Z] at h;simp only[z_o] at h;rw[BQ Z Z] at h;simp only[z_o] at h;have Q:AG (shp W a) = sz W a:=rfl;obtain⟨G2,nd,ed⟩:=G.add (r:=j) (sh:=shp W a) Z Z rfl (ho j Z Z) (GX W a) (by rw[Q];exact p4);rw[Q] at G2;have et:∀q,0<=q->rv (AT t j { rv t j with kind:=3,top:=(rv t j).top + sz W a,BA:=(rv t j).top + sz W a }) q = if q = j then { rv t j with kind:=3,top:=(rv t j).top + sz W a,BA:=(rv t j).top + sz W a } else rv t q:=λq q0=>DA Z Z q0
   obtain⟨x,H,A,e,k1,k2,k3,k5,k6,k7⟩:=ih _ K j (N ++ [(rv t j).top]) out _ _ h (λb hb=>hB b (by simp[hb])) G2 Z (λq q0 q1=>by
     rw[et q Z];split
     .exact ho j Z Z
     .exact ho q q0 (by simpa using q1)) (λb hb a0=>by
     obtain⟨c1,c2⟩:=h4 b (by simp[hb]) a0
     refine⟨.inl c1,?_⟩
     have:b≠(rv t j).top:=λc=>nd (c▸c1)
     simp only[if_neg this];exact c2)
   refine⟨(rv t j).top :: x,H,A,by rw[e];simp,by simp[k1],k2,by rw[k3];simp,λb hb=>?_,λb hb=>?_,λp y=>?_⟩
   .obtain⟨c1,c2⟩:=k5 b (.inl hb);refine⟨c1,?_⟩;have:b≠(rv t j).top:=λc=>nd (c▸hb)
    rw[c2];simp only[if_neg this]
   .rcases k6 b hb with (h | h) | h
    .exact .inl h
    .exact .inr ⟨by simp[h],by rw[h,ed];exact p3⟩
    .exact .inr ⟨by simp[h.1],h.2⟩
   .rw[ei] at y;rcases cU.1 y with y | y
    .subst y;obtain⟨c1,c2⟩:=k5 (rv t j).top (.inr rfl);refine⟨c1,by rw[c2];simp,λh=>by rw[hh] at h;cases h⟩
    .exact k7 p y
def Bm (s:Ah):List Int:=(List.range s.AA.length).map λ(r:Nat)=>if Aj s.AI r = true then (rv s.AA r).top else AK r
structure DX (s s' : Ah) (l:List AQ) (AJ to tops:List Int):Prop where
 ld:Ca s.AI l AJ (Bm s) 1 = some (to,tops)
 wd:s'.AC = Bp (Bp (List.replicate s.AC.length 0) ((l.filter λx=>Aj s.AI (AN x.at_)).map Dm)) ((AJ.zip to).map λp=>DJ l AJ to p.1 p.2)
 tl:Rel tops s'.AA
 tn:s'.AA.length = s.AA.length
 e0:rv s'.AA 0 = Db
 rw_:∀q:Int,1<=q->q < s.AA.length->rv s'.AA q = II s.AI q (rv s'.AA q).top
 th:DW l AJ to s.AB = some s'.AB
 eq:s' = ⟨s'.AC,s'.AA,List.replicate s.AC.length false,0,false,false,s.Ap,0,s'.AB,[],s.AI,s.BC,s.BJ + 1⟩
 hlen:to.length = AJ.length
 hd:((AJ.zip to).map λp=>DJ l AJ to p.1 p.2).Pairwise (λb c=>∀x,¬ (inB b x/\inB c x))
 dd:((l.filter λx=>Aj s.AI (AN x.at_)).map Dm).Pairwise (λb c=>∀x,¬ (inB b x/\inB c x))
 rg:∀p∈AJ.zip to,(Aj s.AI (p.1 / 16) = true/\p.2 = p.1)\/(Aj s.AI (p.1 / 16) = false/\Aj s.AI (p.2 / 16) = false)
 rn:∀p∈AJ.zip to,16<=p.2/\∀t,B7 l p.1 = some t->p.2 + (2 + t.refs.length + t.nums.length:Nat)<=s.AC.length/\p.2 + (2 + t.refs.length + t.nums.length:Nat)<=16 * (p.2 / 16) + 16
 gs:∃f B',IN f s'.AA B'/\(∀b,(bgs l b/\Aj s.AI (b / 16) = true)->B' b/\f b = shp s.AC b)/\(∀b,B' b->(bgs l b/\Aj s.AI (b / 16) = true)\/(b∈to/\Aj s.AI (b / 16) = false))/\∀p∈AJ.zip to,B' p.2/\f p.2 = shp s.AC p.1/\(Aj s.AI (p.1 / 16) = true->p.2 = p.1)
structure Od (met AJ:List Int):Prop where
 nd:AJ.Nodup
 m:∀a,a∈AJ↔a∈met
theorem U9 {j:List Int} (h:j.Nodup):Od j (Ac j):=⟨(Bk h).1.imp λh e=>Z,(Bk h).2⟩
theorem EB {w:List Int} {t:List Rg} {B:Int->Prop} (G:Geo w t B) {a:Int} (h:B a):((thg w a).refs.length:Int) = (shp w a).refs/\((thg w a).nums.length:Int) = (shp w a).nums/\((2 + (thg w a).refs.length + (thg w a).nums.length:Nat):Int) = sz w a:=by
 have i:=G.inn h;have o:=Em (GX w a);have y:AG (shp w a) = sz w a:=rfl;have j:((thg w a).refs.length:Int) = (shp w a).refs:=Ha Z Z Z;have x:((thg w a).nums.length:Int) = (shp w a).nums:=Ha Z Z Z;exact⟨j,x,Z⟩
def Hv (AJ:List Int) (s:Ah):Option Ah:=do
 let l:=(BI s).getD []
 let (AC,AA) <- stay s l (List.replicate s.AC.length 0) (AV s.AA.length)
 let (AA,to) <- slide s.AI l AJ AA 1 []
 let AC <- Ee l AJ to AJ to AC
 let ths <- DW l AJ to s.AB
 let BJ <- Cg s.BJ 1
 some ⟨AC,AA,List.replicate AC.length false,0,false,false,s.Ap,0,ths,[],s.AI,s.BC,BJ⟩
theorem QF {s:Ah} {l:List AQ} {a7 AJ:List Int} (hf:HpF s l a7) (O:Od a7 AJ) (hs:∀w1 t1,stay s l (List.replicate s.AC.length 0) (AV s.AA.length) = some (w1,t1)->t1.length = s.AA.length->IN (shp s.AC) t1 (λb=>bgs l b/\Aj s.AI (b / 16) = true)->(∀r:Int,1<=r->r < s.AA.length->(rv t1 r = ⟨3,-1,(rv s.AA r).top,(rv s.AA r).top,0⟩/\Aj s.AI r = true)\/(rv t1 r = ⟨1,-1,16 * r,16 * r,0⟩/\Aj s.AI r = false))->∃t2 to,slide s.AI l AJ t1 1 [] = some (t2,to)) (a6:-900000<=s.BJ/\s.BJ<=900000):∃s' to a0,Hv AJ s = some s'/\DX s s' l AJ to a0:=by
 obtain⟨G,T,b6⟩:=ER hf.ths;have To:=G.ok;have n0:=To.n0;have n1:=To.n1;have len:=G.len;have a1:∀a,bgs l a->16<=a:=λa h=>(G.at_ a h).1
 have sm:=O.m;have j:∀a∈AJ,bgs l a:=λa h=>by
  obtain⟨t,ht⟩:=hf.M.th a ((sm a).1 h);obtain⟨H,A⟩:=BE ht;exact⟨t,H,A⟩
 have a4:∀p∈s.AI,bgs l p:=λp D=>by
  have hh:=hf.head;unfold C8 at hh;simp only[z_b] at hh;have:=ck.1 hh.2 p D;unfold Dt at this;cases ht:B7 l p with
  | none=>rw[ht] at this;cases this
  | some t=>obtain⟨H,A⟩:=BE ht;exact⟨t,H,A⟩
 have a5:∀r:Int,Aj s.AI r = true->∃x,bgs l x/\x / 16 = r:=λr h=>by
  unfold Aj at h;rw[List.any_eq_true] at h;obtain⟨p,D,e⟩:=h;have b2:=a1 p (a4 p D);exact⟨p,a4 p D,by rw[<- Be Z];simpa using e⟩
 obtain⟨b3,b4⟩:=hf.closed;obtain⟨c7,b9,c0⟩:=E4 (n:=s.AA.length) Z Z;obtain⟨w1,t1,e3,l1,b1,s1,s2,s3,s4⟩:=Ni (s:=s) (B0:=bgs l) G l (List.replicate s.AC.length 0) (AV s.AA.length) T.all V Z;have z0:∀x,wv (List.replicate s.AC.length 0) x = 0:=λx=>by
  unfold wv gv;rw[cH,List.getElem?_replicate];split<;>rfl
 have N:∀r:Int,1<=r->r < s.AA.length->(rv t1 r = ⟨3,-1,(rv s.AA r).top,(rv s.AA r).top,0⟩/\Aj s.AI r = true)\/(rv t1 r = ⟨1,-1,16 * r,16 * r,0⟩/\Aj s.AI r = false):=λr r0 r1=>by
  rw[s4 r Z];cases hh:Aj s.AI r with
  | true=>
   obtain⟨x,⟨t,H,A⟩,h3⟩:=a5 r hh;exact .inl ⟨by rw[if_pos ⟨rfl,t,H,by rw[A];exact h3⟩],rfl⟩
  | false=>
   exact .inr ⟨by rw[if_neg (λh=>by cases h.1),c0 r r0 r1,(Ct r0 Z).2],rfl⟩
 have To1:TOk t1:=by
  refine⟨Z,Z,?_,λr r0 r1=>?_,λr q r0 r1 W Q ho _=>?_⟩
  .rw[s4 0 Z,if_neg,b9];rintro⟨_,x,hx,h⟩;have:=a1 _ (T.all x hx).1;omega
  .have R:=To.row r r0 Z;rcases N r r0 Z with ⟨h,_⟩ | ⟨h,_⟩
   .rw[h];exact⟨V,V,R.t0,R.t1,R.t0,dB _,dB 0,by show 0<=(rv s.AA r).top - 16 * r;have:=R.t0;omega,λh=>by simp at h,V,V,V⟩
   .rw[h];exact⟨V,V,dB _,by show 16 * r<=16 * r + 16;omega,dB _,dB _,dB 0,by show 0<=16 * r - 16 * r;omega,λ_=>rfl,V,V,V⟩
  .rcases N r r0 Z with ⟨h,_⟩ | ⟨h,_⟩<;>rw[h] at ho<;>simp at ho
 have a3:∀b,(bgs l b/\Aj s.AI (b / 16) = true)->(rv t1 (b / 16)).top = (rv s.AA (b / 16)).top:=λb hb=>by
  have i:=G.inn hb.1;rcases N (b / 16) i.2.1 i.2.2.1 with ⟨h,_⟩ | ⟨_,h⟩
  .rw[h]
  .rw[hb.2] at h;cases h
 have G1:IN (shp s.AC) t1 (λb=>bgs l b/\Aj s.AI (b / 16) = true):=by
  refine⟨To1,λa K=>?_,λa K=>?_,λr r0 r1=>?_,λa b K hb h=>G.dj a b K.1 hb.1 h⟩
  .rw[a3 a K];obtain⟨H,A,_⟩:=G.at_ a K.1;exact⟨H,A,GX s.AC a⟩
  .rw[a3 a K];have i:=G.inn K.1;have es:AG (shp s.AC a) = sz s.AC a:=rfl;rw[es];by_cases h0:a + sz s.AC a = (rv s.AA (a / 16)).top
   .exact .inl h0
   .right;rcases G.nx a K.1 with h | h
    .exact absurd h h0
    .exact⟨h,by rw[show (a + sz s.AC a) / 16 = a / 16 from Z];exact K.2⟩
  .rcases N r r0 Z with ⟨h,A⟩ | ⟨h,_⟩
   .rw[h];rcases G.bs r r0 Z with h3 | h3
    .exact .inl h3
    .exact .inr ⟨h3,by rw[show 16 * r / 16 = r from Z];exact A⟩
   .rw[h];exact .inl rfl
 have b0:∀q:Int,1<=q->q < s.AA.length->16 * q<=(rv t1 q).top:=λq W Q=>(To1.row q W Z).t0
 obtain⟨t2,to,e4⟩:=hs w1 t1 e3 Z G1 N;obtain⟨a2,f,B',k0,k1,G2,k3,k5,k6,k7⟩:=Ue (AI:=s.AI) T G AJ t1 t2 1 [] to (shp s.AC) _ e4 j G1 (dB 1)
  (λq W Q=>by rcases N q W Z with ⟨h,_⟩ | ⟨h,_⟩<;>rw[h])
  (λa K hq=>⟨⟨j a K,hq⟩,rfl⟩)
 simp only[zl] at k0;subst k0;have b8:t2.length = s.AA.length:=by rw[k3,b1]
 have a9:∀a∈AJ,∀x,B7 l a = some x->0 < AG x.sh:=λa K x hx=>by
  rw[T.find (j a K)] at hx;cases hx;have:=(G.inn (j a K)).2.2.2.2.2.2.1;show 0 < sz s.AC a;omega
 have a8:Rel (Bm s) t1:=by
  refine⟨by unfold Bm;simp[b1],λq W Q=>?_⟩;unfold Bm;rw[cH,dH,fE Z];show (if Aj s.AI q = true then (rv s.AA q).top else AK q) = _;rcases N q Z Z with ⟨h,A⟩ | ⟨h,A⟩
  .rw[if_pos A,h]
  .rw[if_neg (by rw[A];decide),h,Bj Z Z]
 obtain⟨a2,a0,g1,g2,g3,g4,g5,g6⟩:=IH (AI:=s.AI) AJ t1 t2 1 [] to (Bm s) e4 Z (dB 1) a8 (λq W Q=>by
   have Q:q < s.AA.length:=Z
   refine⟨?_,by rw[Bj Z Z];exact b0 q W Q⟩
   unfold II
   rcases N q W Q with ⟨h,A⟩ | ⟨h,A⟩
   .rw[if_pos (.inr A),h]
   .rw[if_neg,h,(Ct W Z).2]
    rintro (c | c)
    .rw[h,Bj Z Z] at c;simp at c
    .rw[A] at c;cases c) a9
 have g1:to = a2:=by simpa using g1
 subst g1;obtain⟨a2,d1,d2,d3,d4⟩:=LG (AI:=s.AI) AJ t1 t2 1 [] to e4 Z (dB 1) (λq W Q=>b0 q W Z) (λa K=>⟨by have:=a1 a (j a K);omega,a9 a K⟩) O.nd;have d1:to = a2:=by simpa using d1
 subst d1;have rg:∀p∈AJ.zip to,(Aj s.AI (p.1 / 16) = true/\p.2 = p.1)\/(Aj s.AI (p.1 / 16) = false/\Aj s.AI (p.2 / 16) = false):=λp D=>by
  have b2:=a1 _ (j p.1 (dq D).1);rw[<- Be (a:=p.1) Z];rcases d4 p D with ⟨H,A⟩ | ⟨H,A,_⟩
  .exact .inl ⟨H,A⟩
  .exact .inr ⟨H,A⟩
 have pz:∀p∈AJ.zip to,B' p.2/\AG (f p.2) = sz s.AC p.1/\B7 l p.1 = some (thg s.AC p.1)/\bgs l p.1:=λp D=>by
  obtain⟨Q,q2,_⟩:=k7 p D;have hb:=j p.1 (dq D).1;exact⟨Q,by rw[q2];rfl,T.find hb,hb⟩
 have bl:∀p∈AJ.zip to,∀x,inB (DJ l AJ to p.1 p.2) x↔p.2<=x/\x < p.2 + sz s.AC p.1:=λp D x=>by
  obtain⟨_,_,h3,h4⟩:=pz p D;have:=(EB G h4).2.2;unfold inB DJ;rw[h3];simp only[cS,cJ,cM];constructor
  .rintro⟨a,b⟩;exact⟨a,Z⟩
  .rintro⟨a,b⟩;exact⟨a,Z⟩
 have hd:((AJ.zip to).map λp=>DJ l AJ to p.1 p.2).Pairwise (λb c=>∀x,¬ (inB b x/\inB c x)):=by
  rw[fV];have hnd:(AJ.zip to).Pairwise (λp q=>p.2≠q.2):=by
   have:((AJ.zip to).map Prod.snd).Nodup:=by rw[List.map_snd_zip Z];exact d3
   rw[List.Nodup,fV] at this;exact this
  refine hnd.imp_of_mem λ{p q} D hq b5 x hx=>?_
  rw[bl p D,bl q hq] at hx;obtain⟨p1,p2,_⟩:=pz p D;obtain⟨Q,q2,_⟩:=pz q hq;rcases Int.lt_or_gt_of_ne b5 with c | c
  .have:=G2.dj _ _ p1 Q c;omega
  .have:=G2.dj _ _ Q p1 c;omega
 have dd:((l.filter λx=>Aj s.AI (AN x.at_)).map Dm).Pairwise (λb c=>∀x,¬ (inB b x/\inB c x)):=by
  rw[fV];refine (hf.asc.filter _).imp_of_mem λ{x y} hx hy c4 z hz=>?_
  obtain⟨x1,x2⟩:=T.all x (dV.1 hx).1;obtain⟨y1,y2⟩:=T.all y (dV.1 hy).1;have H:=(EB G x1).2.2;rw[<- x2] at H;have es:AG x.sh = sz s.AC x.at_:=by
   have:=congrArg (λt=>AG t.sh) x2;exact this
  unfold inB Dm at hz;simp only[cS,cJ,cW] at hz;omega
 have b7:=IB (s:=s) l _ _ _ _ e3 (λx hx _=>by
  obtain⟨x1,x2⟩:=T.all x hx
  have i:=G.inn x1
  have H:=(EB G x1).2.2
  rw[<- x2] at H
  exact⟨Z,by rw[cW];omega,λy _ _=>z0 y⟩) dd
 have e5:=P7 (l:=l) (AJ:=AJ) (to:=to) k1 AJ to w1 k1.symm (λp D=>by
  obtain⟨H,A,h3,h4⟩:=pz p D
  have i2:=G2.inn H
  have h5:=EB G h4
  refine⟨_,h3,λv hv=>?_,Z,by rw[l1];omega,λx c5 c6=>?_⟩
  .obtain⟨u,hu,_⟩:=b4 p.1 ((sm _).1 (dq D).1) _ h3 v hv
   exact⟨u,hu⟩
  .rcases rg p D with ⟨g1,g2⟩ | ⟨g1,g2⟩
   .rw[show x = p.1 + 2 + (x - p.1 - 2) from Z,s2 p.1 _ h4 Z Z]
    exact z0 _
   .rw[s3 x Z (by rw[show x / 16 = p.2 / 16 from Z];exact g2)]
    exact z0 _) hd
 obtain⟨ths,e6,l6,m6⟩:=KX (l:=l) (AJ:=AJ) (to:=to) k1 s.AB (λt ht a K=>by
  obtain⟨u,hu,_⟩:=b3 a (dC _ (eu.2 ⟨t,ht,K⟩))
  exact⟨u,hu⟩)
 have a6:Cg s.BJ 1 = some (s.BJ + 1):=BQ Z Z;have l2:(Bp w1 ((AJ.zip to).map λp=>DJ l AJ to p.1 p.2)).length = s.AC.length:=by rw[CC];exact l1
 refine⟨⟨Bp w1 ((AJ.zip to).map λp=>DJ l AJ to p.1 p.2),t2,List.replicate s.AC.length false,0,false,false,s.Ap,0,ths,[],s.AI,s.BC,s.BJ + 1⟩,to,a0,?_,g2,by show Bp w1 _ = _;rw[<- b7],g3,b8,?_,λq W Q=>(g5 q W Z).1,e6,rfl,k1,hd,dd,rg,λp D=>?_,f,B',G2,k5,k6,k7⟩
 .unfold Hv;rw[b6];simp only[dI,cP];rw[e3];simp only[z_o];rw[e4];simp only[z_o];rw[e5];simp only[z_o];rw[e6];simp only[z_o];rw[a6];simp only[z_o];rw[l2]
 .exact G2.ok.e
 .obtain⟨H,A,h3,h4⟩:=pz p D;have i2:=G2.inn H;refine⟨Z,λt ht=>?_⟩;rw[h3] at ht;cases ht;have h5:=(EB G h4).2.2;exact⟨Z,Z⟩
theorem XZ {s:Ah} {l:List AQ} {y:List Int} (H:HpF s l y) (a0:-900000<=s.BJ/\s.BJ<=900000):∃R Q x,GK s = some R/\DX s R l (Ac y) Q x:=by
 obtain⟨G,T,a1⟩:=ER H.ths;have n0:=G.ok.n0;have n1:=G.ok.n1;obtain⟨sp,sm⟩:=Bk H.M.nd;have j:∀a∈Ac y,bgs l a:=λa h=>by
  obtain⟨t,ht⟩:=H.M.th a ((sm a).1 h);obtain⟨N,W⟩:=BE ht;exact⟨t,N,W⟩
 obtain⟨R,Q,x,N,W⟩:=QF H (U9 H.M.nd) (λw1 t1 e3 a2 G1 D=>by
  have O:∀q:Int,1<=q->q < s.AA.length->Aj s.AI q = false->(rv t1 q).top = 16 * q:=λq K q1 A=>by
   rcases D q K q1 with ⟨_,h⟩ | ⟨h,_⟩
   .rw[A] at h;cases h
   .rw[h]
  obtain⟨t2,Q,f,B',e4,_⟩:=LT (AI:=s.AI) T G (Ac y) t1 1 [] (shp s.AC) _ j sp G1 Z (dB 1)
   (λq K q1=>by rcases D q K Z with ⟨h,_⟩ | ⟨h,_⟩<;>rw[h])
   (λq K=>by
    by_cases c1:q < s.AA.length
    .by_cases c2:1<=q
     .rcases D q c2 c1 with ⟨h,_⟩ | ⟨h,_⟩<;>rw[h]<;>simp
     .rw[show q = 0 from Z,G1.ok.e];simp[Db]
    .rw[Dc K Z];simp[Db])
   (λq K q1 A=>O q Z Z A)
   (λa ha A=>by
    have i:=G.inn (j a ha)
    refine⟨i.2.1,λN=>?_⟩
    rw[O 1 Z Z (by rw[N];exact A)];omega)
   (λa ha A=>⟨⟨j a ha,A⟩,rfl⟩)
  exact⟨t2,Q,e4⟩) a0
 refine⟨R,Q,x,?_,W⟩;rw[<- N];unfold GK Hv;rw[a1];simp only[dI];rw[H.re];rfl
end Sm
end
section
namespace Go.Lf
open Go Sm
theorem Lv {R:RM} {b t n w x:Nat} {j sp:List Value} (hb:R b = some (C t (j ++ sp))) (hl:j.length = n * w) (hc:n<=x):Fz R (S0 b n x) w n j:=
 .inr ⟨b,0,x,t,_,rfl,hb,by rw[cJ,hl];omega,by rw[di,<- hl,dW (z_n _),cO (z_n _)],hc⟩
def QFd (r:Option Sm.Ah) (v:Value) (R:RM):Prop:=match r with
 | none=>v = .tuple #[z50,.bool false]
 | some s'=>∃wv tv mv thv ov pv,StC R s' wv tv mv thv ov pv/\RgZ R tv s'.AA/\v = .tuple #[.agg (eSt s' wv tv mv thv ov pv).toArray,.bool true]
section st
variable {R:RM} {s:Sm.Ah} {wv tv mv thv ov pv:Value}
theorem WX (h:SF R s wv tv mv thv ov pv):Ro MP [.agg (eSt s wv tv mv thv ov pv).toArray] (.bool (!s.AB.any (·.busy))) R []:=by
 refine Sx λF=>?_
 refine z_1 ?_;have n1:=h.b.n1;obtain⟨N,tc,A⟩:=h.c.th.sl;refine ja λb=>(jli (λi:Nat=>s.AB.length - i) (λi=>[Pt b,I i]) (λ_=>(b,C 50 (eSt s wv tv mv thv ov pv)) :: ([] ++ F)) (λy i=>y = R/\i<=s.AB.length/\s.AB.any (·.busy) = (s.AB.drop i).any (·.busy)) 0 ⟨rfl,Z,by rw[di]⟩ rfl rfl ?_)
 rintro K e y i ⟨G,T,j⟩ he D;subst G;refine z_V ?_;refine jfo (jl rfl (Bo ⟨N,tc,A⟩ (jlt (jif (λc=>?_) (λc=>?_)))));rotate_left
 .have c:=z_g c;refine Bf (BN ?_);rw[j,cT Z];rfl
 have c:i < s.AB.length:=by have:=z_f c;omega
 rw[cQ c,List.any_cons] at j;refine jfo (jl rfl (jtr h.c.th c λO o ty Q rv H hb W x=>jfo (jlr hb (Bc x rfl) (jif (λg=>?_) (λg=>?_)))))
 .refine Bf (BN ?_);rw[j,g];rfl
 .exact jad (D y (i + 1) Z ⟨rfl,Z,by rw[j,g,dU]⟩)
end st
end Go.Lf
end
section
namespace Sm
open Go.Lf
theorem MT {AI tops:List Int} {n:Int} {f r:Nat} (h:r < tops.length/\(Aj AI r = true\/AK r + 16 < tops.getD r 0 + n)):nxt AI tops n (f + 1) r = nxt AI tops n f (r + 1):=by
 conv=>lhs;unfold nxt
 rw[if_pos h]
theorem Mi {AI tops:List Int} {n:Int} {f r:Nat} (h:¬ (r < tops.length/\(Aj AI r = true\/AK r + 16 < tops.getD r 0 + n))):nxt AI tops n f r = r:=by
 cases f with
 | zero=>rfl
 | succ f=>unfold nxt;rw[if_neg h]
theorem VF {AI tops:List Int} {n:Int}:∀{f r:Nat},r<=tops.length->nxt AI tops n f r<=tops.length/\r<=nxt AI tops n f r
 | 0,r,h=>⟨h,z_n _⟩
 | f + 1,r,h=>by
  by_cases c:r < tops.length/\(Aj AI r = true\/AK r + 16 < tops.getD r 0 + n)
  .rw[MT c];have:=VF (AI:=AI) (n:=n) (f:=f) (r:=r + 1) (tops:=tops) Z;omega
  .rw[Mi c];exact⟨h,z_n _⟩
theorem Lq {AI:List Int} {l:List AQ} {a:Int} {j tops:List Int} {r:Nat}:Ca AI l (a :: j) tops r = if Aj AI (AN a) = true then (Ca AI l j tops r).map λq=>(a :: q.1,q.2) else
  if nxt AI tops (Bt l a) (tops.length + 1) r = tops.length then none else
  (Ca AI l j (tops.set (nxt AI tops (Bt l a) (tops.length + 1) r) (tops.getD (nxt AI tops (Bt l a) (tops.length + 1) r) 0 + Bt l a)) (nxt AI tops (Bt l a) (tops.length + 1) r)).map λq=>(tops.getD (nxt AI tops (Bt l a) (tops.length + 1) r) 0 :: q.1,q.2):=rfl
end Sm
namespace Go.Lf
open Go Sm
theorem HJ:P.underlying 122 = some (.map 3 3):=by kernel_rfl
theorem WC (w:World):(zeroValue 3).run P w = .ok (I 0) w:=by kernel_rfl
theorem Yo (w:World):(Instr.makeMap 122 none).run P w = .ok (.map (some w.heap.size)) (w.alloc (.map #[] 0)):=rfl
theorem RO {l:List (Int × Value)} {x:Int} {v:Value} (h:∀p∈l,p.1≠x):up l x v = l ++ [(x,v)]:=by
 unfold up;rw[On.2 h];rfl
def prs (xs ys:List Int):List (Int × Value):=(xs.zip ys).map λp=>(p.1,I p.2)
theorem TV {xs ys:List Int} {p:Int × Value} (h:p∈prs xs ys):p.1∈xs:=by
 obtain⟨q,j,rfl⟩:=cq.1 h;exact (dq j).1
theorem Tt {xs ys:List Int} {x y:Int} (h:xs.length = ys.length):prs (xs ++ [x]) (ys ++ [y]) = prs xs ys ++ [(x,I y)]:=by
 unfold prs;rw[List.zip_append h,dE];rfl
def ab (r:Option (List Int × List Int)) (order:List Int) (sb:Nat) (so:Obj) (v:Value) (A:Chs):Prop:=match r with
 | none=>v = .tuple #[.map none,SN,.bool false]/\A = [(sb,so)]
 | some (to,tops)=>to.length = order.length/\∃mb o tb,v = .tuple #[.map (some mb),S0 tb tops.length tops.length,.bool true]/\Mg o (prs order to)/\A = [(tb,C Aa (tops.map I ++ [])),(mb,o),(sb,so)]
section st
variable {R:RM} {s:Sm.Ah} {wv tv mv thv ov pv:Value} {l:List AQ} {met:List Int}
set_option maxHeartbeats 2000000 in
set_option maxRecDepth 8000 in
theorem X4 {hb mb N:Nat} {T:Obj} {v rv:Value} {D:List Int} (h:SF R s wv tv mv thv ov pv) (hv:HpV R s wv tv mv thv ov pv l met hb mb v) (c4:B8 R rv D) (f1:D.length<=192) (e5:∀a∈D,∃t,B7 l a = some t) (hnd:D.Nodup) (b1:MpI T (λr=>Aj s.AI r = true)) (d2:∀a∈D,0<=a/\a < 1000000) (e6:∀t∈l,0<=AG t.sh/\AG t.sh<=10) :
  Fn P Ho [Pt hb,rv,.map (some N)] R [(N,T)] (λv R' A=>R' = R/\ab (Ca s.AI l D (Bm s) 1) D N T v A):=by
 refine NK λF=>?_
 refine z_3 ?_;obtain⟨o,g1,g2,g3,-⟩:=hv;obtain⟨c9,tc,sp,rfl,d4,f2⟩:=h.z;have t0:=h.b.t0;have t1:=h.b.t1;have tp:=h.b.tp;obtain⟨ra,rc,e3⟩:=c4.sl;refine Vj Yo λO o0 e1=>jnc (jfo (jfo (jlr (v:=S0 c9 s.AA.length tc) g1 rfl (jln (jms Z Z Z λtb=>?_)))))
 have e0:(List.replicate (s.AA.length:Int).toNat (cl z3)).flatten = (List.replicate s.AA.length (0:Int)).map I ++ []:=by
  rw[cG,dD,List.map_replicate];show (List.replicate s.AA.length [I 0]).flatten = _;rw[<- List.map_replicate (f:=λx=>[x])];simp
 rw[e0];have a5:(Bm s).length = s.AA.length:=by unfold Bm;simp
 have b3:∀(i:Nat) (hi:i < (Bm s).length),(Bm s)[i] = if Aj s.AI i = true then (Sm.rv s.AA i).top else AK i:=λi hi=>by
  have e:(Bm s)[i]? = some (if Aj s.AI i = true then (Sm.rv s.AA i).top else AK i):=by
   unfold Bm;rw[dH,fE Z];rfl
  rw[cF hi] at e;exact da e
 have d3:∀x∈Bm s,-1000<=x/\x<=1000:=λx hx=>by
  obtain⟨i,hi,rfl⟩:=d5 hx;rw[b3 i hi];split
  .have e:Sm.rv s.AA i = s.AA[i]'(Z):=by
    unfold Sm.rv gv;rw[cG,cH,cF Z];rfl
   rw[e];have:=tp _ (cK (l:=s.AA) (n:=i) Z);omega
  .unfold AK;split<;>omega
 refine jci (λ_:Unit=>[Pt hb,rv,.map (some N),.map (some O),S0 tb s.AA.length s.AA.length]) (λ_=>(tb,C Aa ((Bm s).map I ++ [])) :: (O,o0) :: ([(N,T)] ++ F)) (λR' _=>R' = R) (λK1 k1=>?_) ?_
 .refine jln ?_;refine jiI k1 λK2 k2=>?_
  refine jli (λi:Nat=>s.AA.length - i) (λi=>[Pt hb,rv,.map (some N),.map (some O),S0 tb s.AA.length s.AA.length,I s.AA.length,I i])
   (λi=>(tb,C Aa (((Bm s).take i ++ List.replicate (s.AA.length - i) 0).map I ++ [])) :: (O,o0) :: ([(N,T)] ++ F)) (λR' i=>R' = R/\i<=s.AA.length) 0 ⟨rfl,Z⟩ τ τ ?_
  rintro K e R' i ⟨hR,hi⟩ he hK;subst hR;refine z_V ?_;refine jlt (jif (λc=>?_) (λc=>?_));rotate_left
  .have c:=z_g c;rw[cO Z,show s.AA.length - i = 0 from Z,List.replicate_zero,dD (Bm s)];exact k2 R' () rfl
  have c:i < s.AA.length:=by have:=z_f c;omega
  have hlen:((Bm s).take i ++ List.replicate (s.AA.length - i) 0).length = s.AA.length:=by simp[a5];omega
  have Ef:∀(y:Int) (w:List Int),w = (Bm s).take i ++ y :: List.replicate (s.AA.length - (i + 1)) 0->∀z,w.set i z = (Bm s).take i ++ z :: List.replicate (s.AA.length - (i + 1)) 0:=λy w hw z=>by
   rw[hw,dl _ _ (by simp[a5];omega)];simp[a5,show min i s.AA.length = i from Z]
  have b9:(Bm s).take i ++ List.replicate (s.AA.length - i) 0 = (Bm s).take i ++ 0 :: List.replicate (s.AA.length - (i + 1)) 0:=by
   rw[show s.AA.length - i = (s.AA.length - (i + 1)) + 1 from Z];rfl
  have a2:(Bm s).take (i + 1) ++ List.replicate (s.AA.length - (i + 1)) 0 = (Bm s).take i ++ (Bm s)[i] :: List.replicate (s.AA.length - (i + 1)) 0:=by
   rw[cI Z,cR];rfl
  have b5:=b3 i Z;refine jci (λ_:Unit=>[Pt hb,rv,.map (some N),.map (some O),S0 tb s.AA.length s.AA.length,I s.AA.length,I i])
   (λ_=>(tb,C Aa (((Bm s).take (i + 1) ++ List.replicate (s.AA.length - (i + 1)) 0).map I ++ [])) :: (O,o0) :: ([(N,T)] ++ F)) (λH _=>H = R') (λK3 k3=>?_) ?_
  rotate_left
  .rintro e H _ hp he;subst hp;refine z_V ?_;exact jad (hK H (i + 1) Z ⟨rfl,Z⟩)
  refine jiI k3 λK4 k4=>?_
  refine jp (CZ i) (C0 c (jsi Z ?_));rw[Ef 0 _ b9];refine @jlk _ _ _ N T _ _ (Aj s.AI i) _ b1 Iff.rfl (jif (λhh=>?_) (λhh=>?_))
  .have a8:(Ad eRg s.AA ++ sp)[0 + i * 5 + 2]? = some (I (s.AA[i]).top):=by rw[cg];exact C6 (f:=2) c rfl
   refine jnc (jfo (jfo (jlr (v:=S0 c9 s.AA.length tc) g1 rfl (C0 c (jfo (jlr (v:=I (s.AA[i]).top) d4 a8 (C0 c (jsi (by simp[a5];omega) ?_))))))));rw[Ef _ _ rfl];rw[a2,b5,if_pos hh] at k4;have e:Sm.rv s.AA i = s.AA[i]:=by
    unfold Sm.rv gv;rw[cG,cH,cF Z];rfl
   rw[e] at k4;exact k4 R' () rfl
  .rw[a2,b5,if_neg (by rw[hh];decide)] at k4;exact k4 R' () rfl
 rintro e R' _ hR he;subst hR;refine z_V ?_;refine jci (λ_:List Int × List Int × Obj=>[.map (some O),S0 tb s.AA.length s.AA.length]) (λq=>(tb,C Aa (q.2.1.map I ++ [])) :: (O,q.2.2) :: ([(N,T)] ++ F)) (λH q=>H = R'/\q.2.1.length = s.AA.length/\q.1.length = D.length/\Ca s.AI l D (Bm s) 1 = some (q.1,q.2.1)/\Mg q.2.2 (prs D q.1)) (λK1 k1=>?_) ?_;rotate_left
 .rintro e H ⟨to,tops,o2⟩ ⟨hR,hl,c7,G,Q⟩ he;subst hR;dsimp only at hl c7 G Q ⊢;refine z_V ?_;refine Ao (A:=[(tb,C Aa (tops.map I ++ [])),(O,o2),(N,T)]) (RM.le.refl _) ⟨rfl,?_⟩;rw[G];exact⟨c7,O,o2,tb,by rw[hl],Q,rfl⟩
 refine Bo ⟨ra,rc,e3⟩ ?_;refine jiI k1 λK2 k2=>?_
 refine jli (λi:Nat × Nat × List Int × Obj × List Int=>D.length - i.1) (λi=>[Pt hb,.map (some N),.map (some O),S0 tb s.AA.length s.AA.length,I i.2.1,rv,I D.length,I i.1])
  (λi=>(tb,C Aa (i.2.2.1.map I ++ [])) :: (O,i.2.2.2.1) :: ([(N,T)] ++ F))
  (λH i=>H = R'/\i.1<=D.length/\1<=i.2.1/\i.2.1<=s.AA.length/\i.2.2.1.length = s.AA.length/\(∀x∈i.2.2.1,-1000<=x/\x<=1000 + 10 * (i.1:Int))/\i.2.2.2.2.length = i.1/\Mg i.2.2.2.1 (prs (D.take i.1) i.2.2.2.2)/\(Ca s.AI l (D.drop i.1) i.2.2.1 i.2.1).map (λq=>(i.2.2.2.2 ++ q.1,q.2)) = Ca s.AI l D (Bm s) 1)
  (0,1,Bm s,o0,[]) ⟨rfl,V,V,by dsimp only;omega,a5,λx hx=>by have:=d3 x hx;dsimp only;omega,rfl,e1,by dsimp only;rw[di];cases Ca s.AI l D (Bm s) 1<;>rfl⟩ τ τ ?_
 rintro K e H ⟨k,r,tops,o2,to⟩ ⟨hR,hk,b7,b0,a6,a3,a4,Q,G⟩ he hK;subst hR;dsimp only at hk b7 b0 a6 a3 a4 Q G he hK ⊢;refine z_V ?_;refine jlt (jif (λc=>?_) (λc=>?_));rotate_left
 .have c:=z_g c;rw[cT Z] at G;rw[cO Z] at Q;exact k2 H (to,tops,o2) ⟨rfl,a6,by dsimp only;omega,by rw[<- G];simp[Ca],Q⟩
 have c:k < D.length:=by have:=z_f c;omega
 have b4:=cK c;obtain⟨t,ht⟩:=e5 _ b4;have f3:=e6 t (BE ht).1;have a7:=d2 _ b4;have e4:Bt l D[k] = AG t.sh:=by unfold Bt;rw[ht]
 rw[cQ c,Lq] at G;have b6:∀p∈prs (D.take k) to,p.1≠D[k]:=λp hp e=>by
  have h1:=TV hp;rw[e] at h1;obtain⟨j,hj,e2⟩:=d5 h1;rw[cV] at hj;rw[eh] at e2;have:=(List.getElem_inj hnd).1 e2;omega
 have c6:∀y:Int,prs (D.take (k + 1)) (to ++ [y]) = prs (D.take k) to ++ [(D[k],I y)]:=λy=>by
  rw[cI c,Tt (by rw[cV];omega)]
 refine jci (λq:Nat × List Int × Obj × List Int=>[Pt hb,.map (some N),.map (some O),S0 tb s.AA.length s.AA.length,I q.1,rv,I D.length,I k])
  (λq=>(tb,C Aa (q.2.1.map I ++ [])) :: (O,q.2.2.1) :: ([(N,T)] ++ F))
  (λW q=>W = H/\1<=q.1/\q.1<=s.AA.length/\q.2.1.length = s.AA.length/\(∀x∈q.2.1,-1000<=x/\x<=1000 + 10 * ((k + 1:Nat):Int))/\q.2.2.2.length = k + 1/\Mg q.2.2.1 (prs (D.take (k + 1)) q.2.2.2)/\(Ca s.AI l (D.drop (k + 1)) q.2.1 q.1).map (λz=>(q.2.2.2 ++ z.1,z.2)) = Ca s.AI l D (Bm s) 1) (λK3 k3=>?_) ?_
 rotate_left
 .rintro e W ⟨r2,b2,o3,e7⟩ ⟨hR,q1,q2,q3,q4,q5,q6,q7⟩ he;subst hR;dsimp only at q1 q2 q3 q4 q5 q6 q7 he ⊢;refine z_V ?_;exact jad (hK W (k + 1,r2,b2,o3,e7) (by dsimp only;omega) ⟨rfl,by dsimp only;omega,q1,q2,q3,q4,q5,q6,q7⟩)
 refine jiI k3 λK4 k4=>?_
 clear k3 hK k2 k1;refine Bl c4 Z Z ?_;simp only[cG];refine jp (F9 a7.1 a7.2) ?_;refine @jlk _ _ _ N T _ _ (Aj s.AI (AN D[k])) _ b1 Iff.rfl (jif (λhh=>?_) (λhh=>?_))
 .rw[if_pos hh] at G;refine @Xm _ _ _ 122 3 O o2 _ (prs (D.take k) to) _ _ _ HJ Q λo3 a1=>?_
  rw[RO b6] at a1;refine Ei tb (k4 H (r,tops,o3,to ++ [D[k]]) ⟨rfl,b7,b0,a6,λx hx=>by have:=a3 x hx;omega,by simp[a4],by show Mg _ _;rw[c6];exact a1,?_⟩);dsimp only;rw[<- G,Option.map_map];congr 1;funext z;simp
 rw[if_neg (by rw[hh];decide),e4] at G;refine jnc (jfo (jlr (v:=.map (some mb)) g1 rfl ?_));refine @Pb _ _ _ mb o l D[k] false (Li.fz g2) g3 (λe=>by rw[ht] at e;cases e) (λt' v' e c8=>?_);rw[ht] at e;cases e;refine FP c8 ?_;clear c8;have a0:∀{i:Nat} (hi:i < s.AA.length),(tops.map I ++ [])[0 + i * 1]? = some (I (tops[i]'(Z))):=λ{i} hi=>by
  rw[cg,dx];exact G3 Z
 have a9:∀{i:Nat} (hi:i < s.AA.length),tops.getD i 0 = tops[i]'(Z):=λ{i} hi=>by
  rw[cH,cF Z];rfl
 obtain⟨rN,b8⟩:∃rN,rN = nxt s.AI tops (AG t.sh) (tops.length + 1) r:=⟨_,rfl⟩;have c0:=VF (AI:=s.AI) (tops:=tops) (n:=AG t.sh) (f:=tops.length + 1) (r:=r) Z;rw[<- b8] at G c0;have d1:∀i:Nat,0<=AK i/\AK i<=176:=λi=>by unfold AK;split<;>omega
 refine jci (λ_:Unit=>[Pt hb,.map (some N),.map (some O),S0 tb s.AA.length s.AA.length,I rN,I D[k],I (AG t.sh),rv,I D.length,I k]) (λ_=>(tb,C Aa (tops.map I ++ [])) :: (O,o2) :: ([(N,T)] ++ F)) (λW _=>W = H) (λK5 k5=>?_) ?_
 .refine jiI k5 λK6 k6=>?_
  refine jli (λi:Nat=>s.AA.length - i) (λi=>[Pt hb,.map (some N),.map (some O),S0 tb s.AA.length s.AA.length,I i,I D[k],I (AG t.sh),rv,I D.length,I k]) (λ_=>(tb,C Aa (tops.map I ++ [])) :: (O,o2) :: ([(N,T)] ++ F)) (λW i=>W = H/\i<=s.AA.length/\∃f,nxt s.AI tops (AG t.sh) f i = rN/\tops.length - i < f) r ⟨rfl,b0,tops.length + 1,b8.symm,Z⟩ τ τ ?_;rintro K e W i ⟨hR,hi,f,hf,f0⟩ he hK;subst hR;refine z_V ?_;refine Ce (Ce (jln (jlt ?_)));have bi:=d1 i;by_cases ca:i < s.AA.length
  .rw[decide_eq_true Z];have e9:=a3 _ (cK (l:=tops) (n:=i) Z);refine jtt (C5 λe he=>?_);refine z_V ?_;refine jtt (@jlk _ _ _ N T _ _ (Aj s.AI i) _ b1 Iff.rfl (Ce (jtt ?_)));obtain⟨f,rfl⟩:∃f',f = f' + 1:=⟨f - 1,Z⟩;cases hs:Aj s.AI i with
   | false=>
    refine jff (C0 ca (jl (v:=I (tops[i]'(Z))) (a0 ca) (jad (C5 λe he=>?_))));refine z_V ?_;refine jff (jp (CZ i) (Ce (jff (jad (jgr (C5 λe he=>?_))))));refine z_V ?_;refine Ce (jtt (Et (C5 λe he=>?_)));refine z_V ?_;refine Ec (Ak (jff (jl (v:=I (tops[i]'(Z))) (a0 ca) jev)) (C5 λe he=>?_));refine z_V ?_;refine jif (λg=>?_) (λg=>?_)
    .have g:=z_f g;rw[MT ⟨Z,.inr (by rw[a9 ca];omega)⟩] at hf;exact jad (hK W (i + 1) Z ⟨rfl,Z,f,hf,Z⟩)
    .have g:=z_g g;have c5:¬ (i < tops.length/\(Aj s.AI i = true\/AK i + 16 < tops.getD i 0 + AG t.sh)):=by
      rw[hs,a9 ca];rintro⟨_,g2 | g2⟩
      .cases g2
      .omega
     rw[Mi c5] at hf;subst hf;exact k6 W () rfl
   | true=>
    refine jtf (C5 λe he=>?_);refine z_V ?_;refine jtf (Ce (jtf (C5 λe he=>?_)));refine z_V ?_;refine Ce (jtt (Ec (C5 λe he=>?_)));refine z_V ?_;refine Ec (Ak (jtf jev) (C5 λe he=>?_));refine z_V ?_;rw[MT ⟨Z,.inl hs⟩] at hf;exact DM (jad (hK W (i + 1) Z ⟨rfl,Z,f,hf,Z⟩))
  .rw[decide_eq_false Z];refine jft (C5 λe he=>?_);refine z_V ?_;refine jft (Ce (jft (C5 λe he=>?_)));refine z_V ?_;refine jgu (Ce (jgu (C5 λe he=>?_)));refine z_V ?_;refine Ce (jft (C5 λe he=>?_));refine z_V ?_;refine Et (Ak (jgu jev) (C5 λe he=>?_));refine z_V ?_;rw[Mi (by rintro⟨g2,_⟩;omega)] at hf;subst hf;exact CW (k6 W () rfl)
 rintro e W _ hR he;subst hR;refine z_V ?_;refine jln (jeq (jif (λg=>?_) (λg=>?_)))
 .have g:(rN:Int) = s.AA.length:=by simpa using g
  rw[if_pos Z] at G;refine Ao (A:=[(N,T)]) (RM.le.refl _) ⟨rfl,?_⟩;rw[<- G];exact⟨rfl,rfl⟩
 have g:¬ (rN:Int) = s.AA.length:=by simpa using g
 rw[if_neg Z] at G;have hN:rN < s.AA.length:=Z
 rw[a9 hN] at G;have e8:=a3 _ (cK (l:=tops) (n:=rN) Z);refine C0 hN (jl (v:=I (tops[rN]'(Z))) (a0 hN) ?_);refine @Xm _ _ _ 122 3 O o2 _ (prs (D.take k) to) _ _ _ HJ Q λo3 a1=>?_
 rw[RO b6] at a1;refine Ei tb (C0 hN (jl (v:=I (tops[rN]'(Z))) (a0 hN) (jad (C0 hN (jsi Z ?_)))));refine k4 W (rN,tops.set rN (tops[rN]'(Z) + AG t.sh),o3,to ++ [tops[rN]'(Z)]) ⟨rfl,Z,Z,by simpa using a6,λx hx=>?_,by simp[a4],by show Mg _ _;rw[c6];exact a1,?_⟩
 .rcases dy hx with h2 | h2
  .have:=a3 x h2;omega
  .subst h2;omega
 dsimp only;rw[<- G,Option.map_map];congr 1;funext z;simp
end st
end Go.Lf
end
section
namespace Go.Lf
open Go Sm
section rules
variable {R:RM} {D:Chs} {k:Value->M}
theorem XO {v z:Value} {t w n y:Nat} {j:List Value} (h:Fz R v w n j) (hw:j.length = n * w) (hz:(cl z).length = w) (hb:y≠0) (W:y * (2 * n + 200)<=2 ^ 48) (H:∀b c sp,n<=c->sp.length = (c - n) * w->J R ((b,C t (j ++ sp)) :: D) (k (S0 b n c))) :
  J R D (BS t 0 (ZR 0 z) [] λx=>AP t w y (cl z) x v k):=by
 obtain⟨a,O,rfl,T⟩:=Fz.reads h;refine jbs (cs:=[]) rfl rfl λK=>(W6 (new:=j) ?_ hb W (λ_=>rfl) (λh0=>?_) (λN c hc=>Az (dh _ _ _) (Bf ?_)))
 .intro Q G;exact T Q (St.drop (A:=[(K,C t [])]) (by simpa using G))
 .subst h0;have:j = []:=dA.1 Z;subst this;exact H K 0 [] V V
 .exact H N c _ hc (by rw[Br (w:=w) (by intro x hx;rw[(dQ.1 hx).2];exact hz)];simp)
theorem VR {q:Nat} {v:Value} {w n:Nat} {j:List Value} {x y:Operand} (e0:∀w:World,(do eqGuard .eql q x y (SN) (SN);binOp .eql q (SN) (SN):Sem Value).run P w = .ok (.bool true) w) (K:∀(a:Addr) (n c:Nat) (w:World),(do eqGuard .eql q x y (.slice (some a) n c) (SN);binOp .eql q (.slice (some a) n c) (SN):Sem Value).run P w = .ok (.bool false) w) (h:Fz R v w n j) (A:v = SN->n = 0->j = []->J R D (k (.bool true))) (G:J R D (k (.bool false))):J R D (X P (do eqGuard .eql q x y v (SN);binOp .eql q v (SN)) k):=by
 rcases h with ⟨rfl,N,O⟩ | ⟨b,o,H,t,Q,rfl,_⟩
 .exact @jxr R D k _ _ e0 (A rfl N O)
 .exact @jxr R D k _ _ (K _ _ _) G
end rules
def OwW (t w n:Nat) (cells:List Value) (v:Value) (A:Chs):Prop:=(n = 0/\v = SN/\A = [])\/∃b c sp,n<=c/\sp.length = (c - n) * w/\v = S0 b n c/\A = [(b,C t (cells ++ sp))]
section st
variable {R:RM}
theorem Qy {v:Value} {n:Nat} {j:List Value} (h:Fz R v 5 n j) (H:j.length = n * 5) (K:n < 1000000):Fn P FY [v] R [] (λx y A=>y = R/\OwW AO 5 n j x A):=by
 refine IQ λF=>?_
 refine z_1 ?_;refine @VR _ _ _ _ _ _ _ _ _ _ (λw=>by kernel_rfl) (λa n c w=>by kernel_rfl) h (λ_ h0 _=>DM (Ao (RM.le.refl R) ⟨rfl,.inl ⟨h0,rfl,rfl⟩⟩)) (CW (XO h H rfl δ Z λb c sp D G=>Ao (RM.le.refl R) ⟨rfl,.inr ⟨b,c,sp,D,G,rfl,rfl⟩⟩))
theorem UT {v:Value} {n:Nat} {j:List Value} (h:Fz R v 1 n j) (H:j.length = n * 1) (K:n < 1000000):Fn P FW [v] R [] (λx y A=>y = R/\OwW Ax 1 n j x A):=by
 refine IV λF=>?_
 refine z_1 ?_;refine @VR _ _ _ _ _ _ _ _ _ _ (λw=>by kernel_rfl) (λa n c w=>by kernel_rfl) h (λ_ h0 _=>DM (Ao (RM.le.refl R) ⟨rfl,.inl ⟨h0,rfl,rfl⟩⟩)) (CW (XO h H rfl δ Z λb c sp D G=>Ao (RM.le.refl R) ⟨rfl,.inr ⟨b,c,sp,D,G,rfl,rfl⟩⟩))
theorem SA {v:Value} {n:Nat} {j:List Value} (h:Fz R v 4 n j) (H:j.length = n * 4) (K:n < 1000000):Fn P FM [v] R [] (λx y A=>y = R/\OwW PN 4 n j x A):=by
 refine IP λF=>?_
 refine z_1 ?_;refine @VR _ _ _ _ _ _ _ _ _ _ (λw=>by kernel_rfl) (λa n c w=>by kernel_rfl) h (λ_ h0 _=>DM (Ao (RM.le.refl R) ⟨rfl,.inl ⟨h0,rfl,rfl⟩⟩)) (CW (XO h H rfl δ Z λb c sp D G=>Ao (RM.le.refl R) ⟨rfl,.inr ⟨b,c,sp,D,G,rfl,rfl⟩⟩))
end st
section rules
variable {R:RM} {D:Chs}
theorem ZD {t w b i f:Nat} {rows:List (List Value)} {sp:List Value} {v:Value} {D' : Chs} {m:M} (j:∀r∈rows,r.length = w) (y:i < rows.length) (A:f < w) (G:flat v = true) (x:cl v = [v]) [a:At D b (C t (rows.flatten ++ sp))] [u:Up D b (C t (rows.flatten ++ sp)) (C t ((rows.set i ((rows[i]).set f v)).flatten ++ sp)) D'] (H:J R D' m) :
  J R D (ST 1 (.pointer (some ⟨b,0 + i * w + f,none⟩)) v m):=by
 have hl:i * w + w<=(rows.flatten ++ sp).length:=by
  rw[cJ,Br j,<- fd];exact fT (eQ w Z) (Nat.le_add_right _ _)
 refine js (cs':=(rows.set i ((rows[i]).set f v)).flatten ++ sp) (by rw[x];rfl) (by rw[x];simp[By,G]) Z ?_ H;rw[x,cg,Zj hl A,FX i y j];exact Ic (by rw[dG];exact j _ (cK y)) i y j
end rules
def Hc:List Th->List (List Value)->Chs->Prop
 | [],rows,A=>rows = []/\A = []
 | t :: ts,rows,A=>∃rv rest A1 A2,rows = [rv,I t.next,.bool t.busy,I t.Am] :: rest/\SO t.AD rv A1/\Hc ts rest A2/\A = A1 ++ A2
theorem Hc.app:∀{y:List Th} {rows:List (List Value)} {A:Chs},Hc y rows A->∀{t:Th} {rv:Value} {j:Chs},SO t.AD rv j->Hc (y ++ [t]) (rows ++ [[rv,I t.next,.bool t.busy,I t.Am]]) (A ++ j)
 | [],rows,A,h,t,rv,j,so=>by
  obtain⟨rfl,rfl⟩:=h;exact⟨rv,[],j,[],rfl,so,⟨rfl,rfl⟩,V⟩
 | u :: y,rows,A,h,t,rv,j,so=>by
  obtain⟨x,D,G,H,rfl,K,N,rfl⟩:=h;exact⟨x,_,G,H ++ j,rfl,K,N.app so,by rw[cR]⟩
theorem Hc.len:∀{x:List Th} {rows:List (List Value)} {A:Chs},Hc x rows A->rows.length = x.length/\∀r∈rows,r.length = 4
 | [],rows,A,h=>by obtain⟨rfl,_⟩:=h;exact⟨rfl,λr j=>by cases j⟩
 | t :: x,rows,A,h=>by
  obtain⟨K,y,N,O,rfl,Q,H,rfl⟩:=h;obtain⟨D,G⟩:=H.len;exact⟨by simp[D],λr j=>by
   rcases cU.1 j with rfl | j
   .rfl
   .exact G r j⟩
def aw (R:RM) (s:Sm.Ah) (v:Value) (A:Chs):Prop:=∃bw cw wsp bt tc tsp bm mc msp bh hc hsp rows Ar ov pv,s.AC.length<=cw/\wsp.length = cw - s.AC.length/\s.AA.length<=tc/\s.AM.length<=mc/\msp.length = mc - s.AM.length/\s.AB.length<=hc/\Hc s.AB rows Ar/\B8 R ov s.old/\B8 R pv s.AI/\
 v = .agg (eSt s (S0 bw s.AC.length cw) (S0 bt s.AA.length tc) (S0 bm s.AM.length mc) (S0 bh s.AB.length hc) ov pv).toArray/\
 A = (bw,C Aa (s.AC.map I ++ wsp)) :: (bt,C AO (Ad eRg s.AA ++ tsp)) :: (bm,C Ax (s.AM.map Value.bool ++ msp)) :: (bh,C PN (rows.flatten ++ hsp)) :: Ar
section st
variable {R:RM} {s:Sm.Ah} {wv tv mv thv ov pv:Value}
set_option maxHeartbeats 1000000 in
set_option maxRecDepth 8000 in
theorem VV (h:SF R s wv tv mv thv ov pv):Fn P HE [.agg (eSt s wv tv mv thv ov pv).toArray] R [] (λv Q A=>aw Q s v A):=by
 refine MI λF=>?_
 refine z_1 ?_;have t0:=h.b.t0;have t1:=h.b.t1;have wl:=h.b.wl;have ml:=h.b.ml;have n0:=h.b.n0;have n1:=h.b.n1;have rl:=h.b.rl;have ol:=h.b.ol;have pl:=h.b.pl;refine ja λsb=>ja λgb=>jfo (jl rfl (jc (Dk h.c.w Z) ?_))
 rintro _ R1 _ _ ⟨j,_,own⟩;subst j;obtain⟨H,cw,wsp,b1,b0,rfl,rfl⟩:=own Z;refine jfo (js rfl rfl (cN rfl) rfl (jfo (jl rfl (jc (Qy h.c.t (by rw[DT (w:=5) (λ_=>rfl)]) Z) ?_))));rintro _ R2 _ _ ⟨j,own⟩;subst j;obtain⟨e,_⟩ | ⟨bt,tc,tsp,htc,htsp,rfl,rfl⟩:=own
 .omega
 refine jfo (js rfl rfl (cN rfl) rfl (jfo (jl rfl (jc (UT h.c.m V Z) ?_))));rintro _ R3 _ _ ⟨j,own⟩;subst j;obtain⟨e,_⟩ | ⟨bm,mc,msp,hmc,hmsp,rfl,rfl⟩:=own
 .omega
 refine jfo (js rfl rfl (cN rfl) rfl (jfo (jl rfl ?_)));obtain⟨rows,a1,hfz⟩:=h.c.th;have a9:=a1.1;have a8:∀r∈rows,r.length = 4:=a1.all λ_ _=>Cd.len
 refine jc (SA hfz (Br a8) Z) ?_;rintro _ R4 _ _ ⟨j,own⟩;subst j;obtain⟨e,_⟩ | ⟨bh,hc,hsp,hhc,hhsp,rfl,rfl⟩:=own
 .omega
 rw[a9] at hhc;rw[a9];refine jfo (jS (eSt s (S0 H s.AC.length cw) (S0 bt s.AA.length tc) (S0 bm s.AM.length mc) (S0 bh s.AB.length hc) ov pv) ?_);generalize hW:S0 H s.AC.length cw = W;generalize hT:S0 bt s.AA.length tc = T;generalize hM:S0 bm s.AM.length mc = M0;refine Al [(bh,C 117 (rows.flatten ++ hsp)),(sb,C 50 (eSt s W T M0 (S0 bh s.AB.length hc) ov pv)),(gb,C 50 (cl z50)),(H,C Aa (s.AC.map I ++ wsp)),(bt,C AO (Ad eRg s.AA ++ tsp)),(bm,C Ax (s.AM.map Value.bool ++ msp))] (G:=[] ++ F) ?_;refine jci (λ_:List (List Value) × Chs=>[Pt sb,Pt gb])
  (λq=>(bh,C 117 (q.1.flatten ++ hsp)) :: (sb,C 50 (eSt s W T M0 (S0 bh s.AB.length hc) ov pv)) :: (gb,C 50 (cl z50)) :: (H,C Aa (s.AC.map I ++ wsp)) :: (bt,C AO (Ad eRg s.AA ++ tsp)) :: (bm,C Ax (s.AM.map Value.bool ++ msp)) :: (q.2 ++ ([] ++ F)))
  (λQ q=>Q = R4/\Hc s.AB q.1 q.2) (λK1 k1=>?_) ?_
 .refine jfo (jl rfl (jln ?_));refine jiI k1 λK2 k2=>?_
  refine jli (λi:Nat × List (List Value) × Chs=>s.AB.length - i.1) (λi=>[Pt sb,Pt gb,I s.AB.length,I i.1])
   (λi=>(bh,C 117 ((i.2.1 ++ rows.drop i.1).flatten ++ hsp)) :: (sb,C 50 (eSt s W T M0 (S0 bh s.AB.length hc) ov pv)) :: (gb,C 50 (cl z50)) :: (H,C Aa (s.AC.map I ++ wsp)) :: (bt,C AO (Ad eRg s.AA ++ tsp)) :: (bm,C Ax (s.AM.map Value.bool ++ msp)) :: (i.2.2 ++ ([] ++ F)))
   (λQ i=>Q = R4/\i.1<=s.AB.length/\Hc (s.AB.take i.1) i.2.1 i.2.2) (0,[],[]) ⟨rfl,V,rfl,rfl⟩ τ τ ?_
  rintro K e Q ⟨i,D,O⟩ ⟨j,hi,x⟩ he hK;subst j;dsimp only at hi x he hK ⊢;refine z_V ?_;refine jlt (jif (λc=>?_) (λc=>?_));rotate_left
  .have c:=z_g c;rw[cO Z] at x;rw[cT Z,dD];exact k2 Q (D,O) ⟨rfl,x⟩
  have c:i < s.AB.length:=by have:=z_f c;omega
  obtain⟨l1,l4⟩:=x.len;rw[cV] at l1;obtain⟨rv,a2,b3⟩:=a1.2 i Z c;have b2:rows.drop i = rows[i]'(Z) :: rows.drop (i + 1):=cQ Z;have Bq:∀r∈D ++ rows.drop i,r.length = 4:=λr hr=>by
   rcases cm.1 hr with h1 | h1
   .exact l4 r h1
   .exact a8 r (eG h1)
  have N:i < (D ++ rows.drop i).length:=by rw[cJ,dN];omega
  have a5:(D ++ rows.drop i)[i]'N = [rv,I (s.AB[i]).next,.bool (s.AB[i]).busy,I (s.AB[i]).Am]:=by
   rw[df Z,<- a2,eH];congr 1;omega
  have a0:((D ++ rows.drop i).flatten ++ hsp)[0 + i * 4 + 0]? = some rv:=by
   have e1:=FX (sp:=hsp) i N Bq;rw[a5] at e1;have e2:=congrArg (λz=>z[0]?) e1;simp only[List.getElem?_take_of_lt (show 0 < 4 by omega),dY] at e2;rw[show 0 + i * 4 + 0 = i * 4 + 0 from Z];exact e2
  have Ef:∀y:Value,(D ++ rows.drop i).set i (((D ++ rows.drop i)[i]'N).set 0 y) = (D ++ [[y,I (s.AB[i]).next,.bool (s.AB[i]).busy,I (s.AB[i]).Am]]) ++ rows.drop (i + 1):=λy=>by
   rw[a5,dl _ _ Z,b2,show i - D.length = 0 from Z,cR];rfl
  have b6:=rl _ (cK c);refine jfo (jl rfl (jfo (jl rfl (C0 c (jfo (jl a0 (jc (Dk b3 Z) ?_)))))));rintro yv R5 A5 _ ⟨j,so,_⟩;subst j;obtain⟨ya,yc,hy⟩:=so.frz;refine C0 c (jfo (Ak (jl rfl jev) (ZD Bq N Z (by rw[hy];rfl) (by rw[hy]) (jad ?_))));rw[Ef];refine Az (D':=(bh,C 117 (((D ++ [[yv,I (s.AB[i]).next,.bool (s.AB[i]).busy,I (s.AB[i]).Am]]) ++ rows.drop (i + 1)).flatten ++ hsp)) :: (sb,C 50 (eSt s W T M0 (S0 bh s.AB.length hc) ov pv)) :: (gb,C 50 (cl z50)) :: (H,C Aa (s.AC.map I ++ wsp)) :: (bt,C AO (Ad eRg s.AA ++ tsp)) :: (bm,C Ax (s.AM.map Value.bool ++ msp)) :: ((O ++ A5) ++ ([] ++ F))) ?_ (hK R5 (i + 1,_,O ++ A5) (by dsimp only;omega) ⟨rfl,c,?_⟩)
  .refine (db (l₁:=A5)).trans ?_;simp only[zc];refine eE _ (eE _ (eE _ (eE _ (eE _ (eE _ ?_)))));simp only[zl,cR];exact List.Perm.append_left O db
  .dsimp only;rw[cI c];exact x.app so
 rintro e Q ⟨D,O⟩ ⟨j,x⟩ he;subst j;dsimp only at x ⊢;refine z_V ?_;refine jfo (jl rfl (jc (Dk h.c.o Z) ?_));rintro o2 R5 A5 _ ⟨j,b4,_⟩;subst j;refine Dw b4 λR6 a3 a6=>?_
 obtain⟨oa,oc,rfl⟩:=a6.sl;refine jfo (js rfl rfl (cN rfl) rfl (jfo (jl rfl (jc (Dk (h.c.p.le a3) Z) ?_))));rintro p2 R7 A7 _ ⟨j,b5,_⟩;subst j;refine Dw b5 λR8 a4 a7=>?_
 obtain⟨pa,pc,rfl⟩:=a7.sl;subst hW hT hM;refine jfo (js rfl rfl (cN rfl) rfl (jla (cN rfl) rfl (js rfl rfl (cN rfl) rfl (jla (cN rfl) rfl (Al [(H,C Aa (s.AC.map I ++ wsp)),(bt,C AO (Ad eRg s.AA ++ tsp)),(bm,C Ax (s.AM.map Value.bool ++ msp)),(bh,C 117 (D.flatten ++ hsp))] (G:=O ++ ([] ++ F)) (Ao (A:=(H,C Aa (s.AC.map I ++ wsp)) :: (bt,C AO (Ad eRg s.AA ++ tsp)) :: (bm,C Ax (s.AM.map Value.bool ++ msp)) :: (bh,C 117 (D.flatten ++ hsp)) :: O) (a3.trans a4) (⟨H,cw,wsp,bt,tc,tsp,bm,mc,msp,bh,hc,hsp,D,O,_,_,b1,b0,htc,hmc,by simpa using hmsp,hhc,x,a6.le a4,a7,rfl,rfl⟩)))))))
end st
end Go.Lf
end
section
namespace Sm
open Go.Lf
theorem QH:∀{c w:List Int} {a:Nat},a + c.length<=w.length->CE w a c = w.take a ++ c ++ w.drop (a + c.length)
 | [],w,a,_=>by simp[CE]
 | v :: c,w,a,h=>by
  simp only[cS] at h;unfold CE;rw[show (a:Int) + 1 = ((a + 1:Nat):Int) from rfl,QH (by simp[AT];omega)];unfold AT;simp only[cG];have j:(w.take a ++ [v]).length = a + 1:=by rw[cJ,cV];simp;omega
  rw[List.set_eq_take_append_cons_drop,if_pos Z,show w.take a ++ v :: w.drop (a + 1) = (w.take a ++ [v]) ++ w.drop (a + 1) from V,List.take_left' j,List.drop_append,j,cT Z,fP,zl];simp only[cR,zc,zl,cS];rw[show a + 1 + (a + 1 + c.length - (a + 1)) = a + (c.length + 1) from Z]
theorem V3 {c w:List Int} {a v:Int}:CE w a (c ++ [v]) = AT (CE w a c) (a + c.length) v:=by
 rw[HT];rfl
end Sm
namespace Go.Lf
open Go Sm
theorem OM {u:Int}:∀{xs ys:List Int},ys.length = xs.length->lk (prs xs ys) u = if u∈xs then some (I (ys.getD (xs.idxOf u) 0)) else none
 | [],[],_=>rfl
 | x :: xs,y :: ys,h=>by
  have A:=OM (u:=u) (by simpa using h);by_cases c:x = u
  .subst c;rw[if_pos V];simp[prs,lk]
  .have e:lk (prs (x :: xs) (y :: ys)) u = lk (prs xs ys) u:=by
    unfold prs lk;rw[ei,dO,fD (by simpa using c)]
   rw[e,A];have j : ¬ u = x:=λh=>c h.symm
   by_cases d:u∈xs
   .rw[if_pos d,if_pos (ce _ d),List.idxOf_cons,beq_eq_false_iff_ne.2 c];rfl
   .rw[if_neg d,if_neg (by simp[j,d])]
section rules
variable {R:RM} {D:Chs} {k:Value->M}
theorem YS (a:Addr) (n c:Nat) (w:World):(Builtin.copy_ #[30,30] 3 #[.slice (some a) n c,SN]).run P w = (do storeCells a (#[]:Array Value).toList;pure (goInt (Nat.min 0 n)):Sem Value).run P w:=by
 kernel_rfl
theorem ba {b o len j n:Nat} {lo:Int} (h0:0<=lo) (A:lo<=len) (G:len<=j) (H:∀x,(lo < j->x = o + lo.toNat * n)->(x = o\/x = o + lo.toNat * n)->J R D (k (.slice (some ⟨b,x,none⟩) (len - lo.toNat) (j - lo.toNat)))) :
  J R D (SL n (.slice (some ⟨b,o,none⟩) len j) (some (I lo)) none k):=λh y=>by
 refine⟨⟨h0,Z,Z⟩,?_⟩;split
 .exact H o (λc=>Z) (.inl rfl) h y
 .exact H _ (λ_=>rfl) (.inr rfl) h y
theorem cC {b o n c lo:Nat} {sv:Value} {l j:List Int} {sp:List Value} {D' : Chs} (hl:B8 R sv l) (hn:l.length<=n) (ho:l.length≠0->o = lo) (a2:o<=j.length) (Q:lo + l.length<=j.length) [a:At D b (C Aa (j.map I ++ sp))] [u:Up D b (C Aa (j.map I ++ sp)) (C Aa ((CE j lo l).map I ++ sp)) D'] (H:J R D' (k (I l.length))) :
  J R D (X P (Builtin.copy_ #[30,30] 3 #[.slice (some ⟨b,o,none⟩) n c,sv]) k):=by
 have N:Nat.min l.length n = l.length:=Nat.min_eq_left hn;obtain⟨xa,a0,e,hr⟩:=B8.reads hl;rcases hl with ⟨rfl,h3,h4⟩ | ⟨b2,o2,T,t2,a1,rfl,h3,h4,h5,h6⟩
 .have e0:l = []:=dA.1 h3;subst e0;have hk:∀h,St h R D->∀w:World,w.heap = h->∃v A,(Builtin.copy_ #[30,30] 3 #[.slice (some ⟨b,o,none⟩) n c,SN]).run P w = .ok v A/\BG w A/\k v A.heap:=by
   intro h hs w Q;subst Q;obtain⟨W,w1,w2,w3⟩:=G7 [] o (hs.at_ b _ a.m).1 (by rw[dc,cJ,cM];omega) rfl;obtain⟨A,K,O,e2⟩:=Eg (P:=P) b [] o 0 w W w1;refine⟨I (Nat.min 0 n:Nat),A,?_,O,?_⟩
   .rw[YS];simp only[d6,K,cY];rfl
   rw[e2,show Nat.min 0 n = 0 from Nat.min_eq_left (Nat.zero_le _)];refine H W (hs.turn (o':=C Aa ((CE j lo []).map I ++ sp)) ?_ w3);rw[w2];unfold lay CE;simp
  exact @jX _ _ _ _ hk
 .cases e;refine @bE R D k b o n c Aa _ _ _ (l.map I) (j.map I ++ sp) ((CE j lo l).map I ++ sp) D' (by rw[N];exact hr) (by rw[cM,N]) (by unfold By;rw[ck];intro x hx;obtain⟨y,_,rfl⟩:=cq.1 hx;rfl) a ?_ ?_ u (by rw[N];exact H)
  .rw[cM,cJ,cM];by_cases G:l.length = 0
   .omega
   .have:=ho G;omega
  .by_cases G:l.length = 0
   .have e0:l = []:=dA.1 G;subst e0;unfold lay CE;simp
   .have K:=ho G;subst K;rw[QH Q,show o = 0 + o * 1 from Z,Xd rfl Z];simp
end rules
section st
variable {R:RM} {s:Sm.Ah} {wv tv mv thv ov pv:Value} {l:List AQ} {met:List Int}
def RFn (R:RM) (f:Value) (g:Int->Int) (x:Int):Prop:=∀(D:Chs) (k:Value->M),J R D (k (I (g x)))->J R D (CV P f [I x] k)
theorem Zr (x:Int):RFn R (.func (.func 122) #[] #[]) (λ_=>0) x:=λD k H=>by
 refine Hg (by kernel_rfl) ?_;refine jro (v:=I 0) (D:=D) ?_ H;refine IY λF=>?_
 refine z_1 ?_;exact BN rfl
theorem Vf {hb mb tb K y:Nat} {v:Value} {o:Obj} {j to:List Int} {x:Int} (Q:HpV R s wv tv mv thv ov pv l met hb mb v) (hlen:to.length = j.length) (O:R tb = some o) (N:Mg o (prs j to)) (h0:0 ∉ j) (A:R K = some (C 122 [.map (some tb)])) (hc:R y = some (C 98 [Pt hb])) (T:∃u,now l x = some u) :
  RFn R (.func (.func 117) #[] #[Pt K,Pt y]) (plc l j to) x:=λD k H=>by
 refine Hg (by kernel_rfl) (jro (IL λF=>?_) H);refine z_3 ?_;obtain⟨u,G⟩:=T;refine jeq (jif (λh=>?_) (λh=>?_))
 .have e:x = 0:=by simpa using h
  subst e;have:now l 0 = some 0:=rfl;refine BN ?_;unfold plc;rw[this];dsimp only;rw[if_neg h0]
 refine jlr A rfl (jlr hc rfl (jrp (Tq Q G) (Ak (jlr A rfl jev) (@Ua _ _ _ 122 3 tb o (prs j to) u (I 0) false (Li.fz O) HJ WC N (BN ?_)))));rw[OM hlen];unfold plc;rw[G];show (if u∈j then some (I (to.getD (j.idxOf u) 0)) else none).getD (I 0) = I (if u∈j then to.getD (j.idxOf u) 0 else 0);split<;>rfl
set_option maxHeartbeats 1000000 in
set_option maxRecDepth 4000 in
theorem Yq {D bw n cw d:Nat} {cs sp:List Value} {j:List Int} {t:AQ} {rv nv f:Value} {g:Int->Int} (hr:B8 R rv t.refs) (hn:B8 R nv t.nums) (a1:j.length = n) (N:n<=cw) (hd:d + (2 + t.refs.length + t.nums.length)<=n) (a0:n < 1000000) (hf:∀x∈t.refs,RFn R f g x) :
  Fn P FJ [.agg (eTh t rv nv).toArray,I d,f,Pt D] R [(D,C 50 (S0 bw n cw :: cs)),(bw,C Aa (j.map I ++ sp))] (λ_ y A=>y = R/\A = [(D,C 50 (S0 bw n cw :: cs)),(bw,C Aa ((CE j d (d :: AY t.sh :: (t.refs.map g ++ t.nums))).map I ++ sp))]):=by
 refine I7 λF=>?_
 refine z_4 ?_;obtain⟨ra,rc,rfl⟩:=hr.sl;obtain⟨na,nc,rfl⟩:=hn.sl;refine ja λtb=>(jfo (jl rfl (jfo (jl rfl (jad (jfo (jla (cN rfl) rfl ?_)))))))
 refine jp (N8 t.sh) ?_;rw[show (d:Int) + 1 = ((d + 1:Nat):Int) from rfl];refine C0 Z (Ak (jl rfl jev) (Ak (jl rfl jev) (jsi Z (C0 Z (Ak (jl rfl jev) (jsi (by simp;omega) ?_))))));have T:(j.set d (d:Int)).set (d + 1) (AY t.sh) = CE j d [(d:Int),AY t.sh]:=by
  show _ = AT (AT j d d) (d + 1) (AY t.sh);unfold AT;rw[show (d:Int) + 1 = ((d + 1:Nat):Int) from rfl];simp only[cG]
 rw[T];refine jk3 (F:=F) tb D bw ?_;generalize hW:S0 bw n cw = W;refine jci (λ_:Unit=>[I d,Pt D,Pt tb])
  (λ_=>(tb,C 70 (eTh t (.slice ra t.refs.length rc) (.slice na t.nums.length nc))) :: (D,C 50 (W :: cs)) :: (bw,C Aa ((CE j d ([(d:Int),AY t.sh] ++ t.refs.map g)).map I ++ sp)) :: F) (λy _=>y = R) (λK1 k1=>?_) ?_
 .refine jfo (jl rfl (jln ?_));refine jiI k1 λK2 k2=>?_
  refine jli (λi:Nat=>t.refs.length - i) (λi=>[I d,f,Pt D,Pt tb,.slice ra t.refs.length rc,I t.refs.length,I i])
   (λi=>(tb,C 70 (eTh t (.slice ra t.refs.length rc) (.slice na t.nums.length nc))) :: (D,C 50 (W :: cs)) :: (bw,C Aa ((CE j d ([(d:Int),AY t.sh] ++ (t.refs.take i).map g)).map I ++ sp)) :: F) (λy i=>y = R/\i<=t.refs.length) 0 ⟨rfl,Z⟩ rfl V ?_
  rintro K e y i ⟨H,hi⟩ he hK;subst H;refine z_V ?_;refine jlt (jif (λc=>?_) (λc=>?_));rotate_left
  .have c:=z_g c;rw[cO Z];exact k2 y () rfl
  have c:i < t.refs.length:=by have:=z_f c;omega
  refine Bl hr Z Z ?_;simp only[cG];refine jfo (jl rfl (jad (jad (hf _ (cK c) _ _ ?_))));subst hW;rw[show (d:Int) + 2 + i = ((d + 2 + i:Nat):Int) from Z];refine C0 Z (Ak (jl rfl jev) (jsi (by rw[E7];omega) (jad ?_)));have e2:(CE j d ([(d:Int),AY t.sh] ++ (t.refs.take i).map g)).set (d + 2 + i) (g t.refs[i]) = CE j d ([(d:Int),AY t.sh] ++ (t.refs.take (i + 1)).map g):=by
   rw[cI c,dE,<- cR];show _ = CE j d (_ ++ [g t.refs[i]]);rw[V3];unfold AT;congr 1;simp only[cJ,cS,dc,cM,cV];omega
  rw[e2];exact hK y (i + 1) Z ⟨rfl,c⟩
 rintro e y _ H he;subst H;refine z_V ?_;subst hW;refine jfo (jl rfl (jad (jfo (jl rfl (jln (jad ?_))))));rw[show (d:Int) + 2 + t.refs.length = ((d + 2 + t.refs.length:Nat):Int) from Z];refine ba Z Z N λo' G O=>?_
 simp only[cG,dx,cg] at G O ⊢;refine jfo (jl rfl ?_);have Q:t.nums.length≠0->o' = d + 2 + t.refs.length:=λh0=>G Z
 refine cC hn Z Q (by rw[E7];omega) (by rw[E7];omega) ?_;have e3:CE (CE j d ([(d:Int),AY t.sh] ++ t.refs.map g)) ((d + 2 + t.refs.length:Nat):Int) t.nums = CE j d ((d:Int) :: AY t.sh :: (t.refs.map g ++ t.nums)):=by
  rw[show (d:Int) :: AY t.sh :: (t.refs.map g ++ t.nums) = ([(d:Int),AY t.sh] ++ t.refs.map g) ++ t.nums from V,HT (d:=t.nums)];congr 1;simp only[cJ,cS,dc,cM];omega
 rw[e3];exact Ao (RM.le.refl _) ⟨rfl,rfl⟩
end st
end Go.Lf
end
section
namespace Sm
open Go.Lf
def Cv (AI order:List Int) (a:Int):Bool:=Aj AI (AN a) && !order.contains a
def Gt (l:List AQ) (a:Int):Int × List Int:=match B7 l a with | some t=>Dm t | none=>(a,[])
def YX (AI:List Int) (t:List Rg) (tops:List Int) (r:Nat):Rg:=if r = 0 then rv t 0 else II AI r (tops.getD r 0)
def QK (AI:List Int) (t:List Rg) (tops:List Int):List Rg:=(List.range t.length).map (YX AI t tops)
def Cq (l:List AQ) (order to:List Int) (t:Th):Th:=⟨t.AD.map (plc l order to),t.next,false,if t.Am = 1 then 2 else t.Am⟩
structure aW (s s' : Ah) (l:List AQ) (order to tops:List Int):Prop where
 wd:∀xs:List Int,xs.Perm (l.map AQ.at_)->s'.AC = Bp (Bp (List.replicate s.AC.length 0) ((xs.filter (Cv s.AI order)).map (Gt l))) ((order.zip to).map λp=>DJ l order to p.1 p.2)
 hlen:to.length = order.length
 tl:tops.length = s.AA.length
 tb:s'.AA = QK s.AI s.AA tops
 th:s'.AB = s.AB.map (Cq l order to)
 eq:s' = ⟨s'.AC,s'.AA,List.replicate s.AM.length false,0,false,false,s.Ap,0,s'.AB,[],s.AI,s.BC,s.BJ + 1⟩
 rn:∀i (h:i < order.length) (h' : i < to.length),0<=to[i]/\∀t,B7 l order[i] = some t->to[i] + (2 + t.refs.length + t.nums.length:Nat)<=s.AC.length
theorem KM {w:List Int} {j:List (Int × List Int)} {b:Int × List Int}:Bp w (j ++ [b]) = CE (Bp w j) b.1 b.2:=by
 unfold Bp;rw[fU];rfl
theorem Me {AI:List Int} {t:List Rg} {tops:List Int}:(QK AI t tops).length = t.length:=by simp[QK]
theorem Qd {AI:List Int} {t:List Rg} {tops:List Int} {r:Nat} (h:r < (QK AI t tops).length):(QK AI t tops)[r] = YX AI t tops r:=by simp[QK]
end Sm
namespace Go.Lf
open Go Sm
section rules
variable {R:RM} {D:Chs} {k:Value->M}
theorem WP (a:Addr) (n c:Nat) (w:World):(Builtin.clear_ #[47] 0 #[.slice (some a) (n + 1) c]).run P w = (do storeCells a (Builtin.zeroCells #[.bool false] (n + 1)).toList;pure (.tuple #[]):Sem Value).run P w:=by
 kernel_rfl
theorem Q5 (n:Nat):(Builtin.zeroCells #[.bool false] n).toList = List.replicate n (.bool false):=by
 unfold Builtin.zeroCells;rw[fZ];apply eN
 .simp
 .intro i j x;simp[Nat.mod_one]
theorem XV {b o n c t:Nat} {cs cs' : List Value} {D' : Chs} (hn:0 < n) [a:At D b (C t cs)] (Q:o + n<=cs.length) (hc:lay cs o (List.replicate n (.bool false)) = cs') [u:Up D b (C t cs) (C t cs') D'] (H:J R D' (k (.tuple #[]))) :
  J R D (X P (Builtin.clear_ #[47] 0 #[.slice (some ⟨b,o,none⟩) n c]) k):=by
 have O:∀h,St h R D->∀w:World,w.heap = h->∃v j,(Builtin.clear_ #[47] 0 #[.slice (some ⟨b,o,none⟩) n c]).run P w = .ok v j/\BG w j/\k v j.heap:=by
  intro h G w T;subst T;obtain⟨n,rfl⟩:∃m,n = m + 1:=⟨n - 1,Z⟩;obtain⟨A,w1,w2,w3⟩:=G7 (List.replicate (n + 1) (.bool false)) o (G.at_ b _ a.m).1 (by rw[cW];exact Q) (by unfold By;rw[ck];intro x W;rw[(dQ.1 W).2];rfl);obtain⟨j,K,y,N⟩:=Eg (P:=P) b (List.replicate (n + 1) (.bool false)) o 0 w A w1;refine⟨.tuple #[],j,?_,y,?_⟩
  .rw[WP,Q5];simp only[d6,K,cY];rfl
  .rw[N];exact H A (G.turn (by rw[w2,hc]) w3)
 exact @jX _ _ _ _ O
theorem bJ {E:Chs} {m:M}:∀{D:List Th} {rows:List (List Value)} {A:Chs} {R:RM},Hc D rows A->(∀x,R.le x->Rw (Cd x) rows D->J x E m)->J R (A ++ E) m
 | [],rows,A,R,h,H=>by
  obtain⟨rfl,rfl⟩:=h;exact H R (RM.le.refl _) Rw.nil
 | t :: D,rows,A,R,h,H=>by
  obtain⟨rv,K,A1,A2,rfl,W,Q,rfl⟩:=h;rw[cR];refine Dw W λR1 y T=>bJ Q λN j G=>H N (y.trans j) ⟨by simp[G.1],λi h O=>?_⟩
  cases i with
  | zero=>exact⟨rv,rfl,T.le j⟩
  | succ i=>exact G.2 i (by simpa using h) (by simpa using O)
theorem bW {A E:Chs} {l:List Int} {v:Value} {x:Int} {i:Nat} {a m:M} (G:SO l v A) (j:i < l.length) (D:J R (A ++ E) a) (H:∀y,SO (l.set i x) v y->J R (y ++ E) m):J R (A ++ E) (IA 1 v (I (i:Int)) λq=>AND a (ST 1 q (I x) m)):=by
 rcases G with ⟨rfl,_,_⟩ | ⟨b,c,sp,hc,hsp,rfl,rfl⟩
 .exact absurd j V
 .refine C0 j (Ak D (jsi j (H _ (.inr ⟨b,c,sp,by simpa using hc,by simpa using hsp,by rw[dG],rfl⟩))))
theorem Hc.split:∀{x:List Th} {rows:List (List Value)} {A:Chs} {i:Nat},Hc x rows A->(h:i < x.length)->∃rv H D K,A = H ++ (D ++ K)/\SO (x[i]).AD rv D/\rows[i]? = some [rv,I (x[i]).next,.bool (x[i]).busy,I (x[i]).Am]/\∀(t' : Th) (j : Chs),SO t'.AD rv j->Hc (x.set i t') (rows.set i [rv,I t'.next,.bool t'.busy,I t'.Am]) (H ++ (j ++ K))
 | [],rows,A,i,h,hi=>absurd hi V
 | t :: x,rows,A,0,h,hi=>by
  obtain⟨rv,y,H,D,rfl,Q,N,rfl⟩:=h;exact⟨rv,[],H,D,rfl,Q,rfl,λt' j G=>⟨rv,y,j,D,rfl,G,N,rfl⟩⟩
 | t :: x,rows,A,i + 1,h,hi=>by
  obtain⟨rv,y,T,B2,rfl,Q,N,rfl⟩:=h;obtain⟨O,H,D,K,rfl,R,hr,W⟩:=N.split (by simpa using hi);exact⟨O,T ++ H,D,K,V,R,hr,λt' j G=>⟨rv,_,T,_,rfl,Q,W t' j G,V⟩⟩
end rules
end Go.Lf
end
section
namespace Go.Lf
open Go Sm
section st
variable {R:RM} {s:Sm.Ah} {wv tv mv thv ov pv:Value} {l:List AQ} {met:List Int}
set_option maxHeartbeats 4000000 in
set_option maxRecDepth 8000 in
theorem Qi {hb mb:Nat} {v a4:Value} {j:List Int} {r:Option Sm.Ah} (h:SF R s wv tv mv thv ov pv) (hv:HpV R s wv tv mv thv ov pv l met hb mb v) (b2:B8 R a4 j) (r3:j.length<=192) (o6:∀a∈j,∃t,B7 l a = some t) (hnd:j.Nodup) (g9:∀a∈j,0 < a/\a < 1000000) (s2:∀t∈l,0<=AG t.sh/\AG t.sh<=10) (q2:(l.map AQ.at_).Nodup)
  (q7:∀t∈l,0<=t.at_/\t.at_ + (2 + t.refs.length + t.nums.length:Nat)<=s.AC.length) (n9:∀a∈j,∀t,B7 l a = some t->∀x∈t.refs,∃u,now l x = some u) (j4:∀t∈s.AB,∀x∈t.AD,∃u,now l x = some u)
  (e6:match Ca s.AI l j (Bm s) 1 with | none=>r = none | some (T,y)=>∃s',r = some s'/\aW s s' l j T y) :
  Fn P GD [Pt hb,a4] R [] (λv R' A=>A = []/\QFd r v R'):=by
 refine JS λF=>?_
 refine z_2 ?_;have t0:=h.b.t0;have t1:=h.b.t1;have wl:=h.b.wl;have ml:=h.b.ml;have n0:=h.b.n0;have n1:=h.b.n1;have rl:=h.b.rl;have fu:=h.b.fu;refine ja λcb=>BB (b:=cb) λR0 b6 a3=>ja λgb=>?_
 have a3:R0 cb = some (C 98 [Pt hb]):=a3;have h:=h.le b6;have hv:=hv.le b6;have b2:=b2.le b6;refine jlr (v:=Pt hb) a3 rfl ?_;refine jc (A:=[]) (UL h hv) ?_;rintro _ R1 _ _ ⟨N,sb,so,rfl,j5,rfl⟩;subst N;refine jlr (v:=Pt hb) a3 rfl ?_;refine jc (A:=[(sb,so)]) (X4 h hv b2 r3 o6 hnd j5 (λa ha=>by have:=g9 a ha;omega) s2) ?_;rintro x R2 A2 _ ⟨N,hq⟩;subst N;cases n3:Ca s.AI l j (Bm s) 1 with
 | none=>
  rw[n3] at hq e6;obtain⟨rfl,rfl⟩:=hq;obtain rfl:r = none:=e6;refine jex rfl (jex rfl (jex rfl (ja λkb=>jS [.map none] (DM ?_))));refine jbd (cs:=cl z50) rfl rfl (jS (cl z50) (jla (l:=cl z50) (cN rfl) rfl ?_));exact Ao (A:=[]) b6 ⟨rfl,rfl⟩
 | some q=>
 obtain⟨T,y⟩:=q;rw[n3] at hq e6;obtain⟨s',rfl,CR⟩:=e6;obtain⟨hlen,m2,o2,tb,rfl,b7,rfl⟩:=hq;have u0:=CR.tl;refine jex rfl (jex rfl (jex rfl (ja λkb=>jS [.map (some m2)] (CW ?_))));refine BB (b:=kb) λR3 m0 b0=>BB (b:=m2) λR4 h6 b1=>BB (b:=tb) λR5 d4 b8=>?_
 have b0:=(h6.trans d4) _ _ b0;have b1:=d4 _ _ b1;have a6:=m0.trans (h6.trans d4);have a3:=a6 _ _ a3;have h:=h.le a6;have hv:=hv.le a6;have b2:=b2.le a6;have f4:=b6.trans a6;clear b6 m0 h6 d4 a6;have s3:=hv;obtain⟨o,g1,g2,g3,g4⟩:=s3;refine jlr (v:=Pt hb) a3 rfl (jnc (jfo (Do (l:=eSt s wv tv mv thv ov pv) g1 (cN rfl) rfl ?_)));refine jc (A:=[]) (VV h) ?_;rintro _ R6 _ a2 ⟨bw,cw,wsp,Q,tc,tsp,bm,mc,msp,O,hc,hsp,rows,Ar,u3,u5,m7,t2,t9,t6,s8,t4,g7,r4,f1,rfl,rfl⟩;have b0:=a2 _ _ b0;have b1:=a2 _ _ b1;have b8:=a2 _ _ b8;have a3:=a2 _ _ a3;have h:=h.le a2;have hv:=hv.le a2;have b2:=b2.le a2;have g1:=a2 _ _ g1;have g2:=a2 _ _ g2;have g3:=g3.le a2;have l9:=f4.trans a2;clear f4 a2;obtain⟨oa,oc,rfl⟩:=r4.sl;obtain⟨pa,pc,rfl⟩:=f1.sl;refine ja λD=>jS (eSt s (S0 bw s.AC.length cw) (S0 Q s.AA.length tc) (S0 bm s.AM.length mc) (S0 O s.AB.length hc) (.slice oa s.old.length oc) (.slice pa s.AI.length pc)) ?_
 refine jfo (jl (v:=S0 bw s.AC.length cw) rfl (Zc (cs':=(List.replicate s.AC.length (0:Int)).map I ++ wsp) Z V (by unfold lay;simp) ?_));obtain⟨cs,i4⟩:∃cs:List Value,cs = [S0 Q s.AA.length tc,S0 bm s.AM.length mc,I s.Ae,.bool s.stop,.bool s.full,.bool s.Ap,I s.want,S0 O s.AB.length hc,.slice oa s.old.length oc,.slice pa s.AI.length pc,I s.BC,I s.BJ]:=⟨_,rfl⟩;obtain⟨E,hE⟩:∃E:Chs,E = (gb,C 50 (cl z50)) :: (Q,C AO (Ad eRg s.AA ++ tsp)) :: (bm,C Ax (s.AM.map Value.bool ++ msp)) :: (O,C 117 (rows.flatten ++ hsp)) :: (Ar ++ F):=⟨_,rfl⟩;obtain⟨u6,hZ⟩:∃u6:List Int,u6 = List.replicate s.AC.length 0:=⟨_,rfl⟩;have m5:u6.length = s.AC.length:=by rw[hZ,cW]
 obtain⟨W,hW⟩:∃W:Value,W = S0 bw s.AC.length cw:=⟨_,rfl⟩;refine Az (D':=(D,C 50 (W :: cs)) :: (bw,C Aa (u6.map I ++ wsp)) :: (sb,so) :: E) ?_ ?_
 .subst i4 hE hZ hW;refine eE _ (eE _ ?_);exact (d9 (l₁:=_ :: _ :: _ :: Ar)).trans (eE _ (d9 (l₁:=_ :: _ :: _ :: Ar)))
 obtain⟨ps,f0,j0,j1⟩:=g3;have s7:∀p∈ps,∃t∈l,p.1 = t.at_/\ThV R6 p.2 t:=λp hp=>WV (o:=o) j0 j1 hp
 have o9:ps.map Prod.fst = l.map AQ.at_:=by
  apply eN (by simpa using j0);intro i h1 h2;rw[eF,eF];exact (j1 i (by simpa using h1) (by simpa using h2)).1
 have j6:∀(xs:List Int) (a:Int) (t:AQ),B7 l a = some t->Cv s.AI j a = true->Bp u6 (((xs ++ [a]).filter (Cv s.AI j)).map (Gt l)) = CE (Bp u6 ((xs.filter (Cv s.AI j)).map (Gt l))) a (a :: AY t.sh :: (t.refs.map (λ_=>0) ++ t.nums)):=λxs a t ht hd=>by
  have ha:=(BE ht).2;rw[List.filter_append,List.filter_cons_of_pos hd,List.filter_nil,dE,dO,List.map_nil,KM];unfold Gt;rw[ht];unfold Dm;dsimp only;rw[ha,List.map_const']
 have c8:∀(xs:List Int) (a:Int),Cv s.AI j a = false->(xs ++ [a]).filter (Cv s.AI j) = xs.filter (Cv s.AI j):=λxs a hd=>by
  rw[List.filter_append,List.filter_cons_of_neg (by rw[hd];decide),List.filter_nil,dD]
 have e7:∀a:Int,(lk (prs j T) a).isSome = j.contains a:=λa=>by
  rw[OM hlen];by_cases c:a∈j
  .rw[if_pos c];simpa using c
  .rw[if_neg c];simpa using c
 refine jci (λ_:List Int=>[a4,Pt cb,Pt gb,.map (some sb),Pt kb,S0 tb y.length y.length,.func (.func 117) #[] #[Pt kb,Pt cb],Pt D,.func (.func 119) #[] #[Pt D]])
  (λxs=>(D,C 50 (W :: cs)) :: (bw,C Aa ((Bp u6 ((xs.filter (Cv s.AI j)).map (Gt l))).map I ++ wsp)) :: (sb,so) :: E)
  (λR' xs=>R' = R6/\xs.Perm (l.map AQ.at_)) (λK1 k1=>?_) ?_
 .refine jlr (v:=Pt hb) a3 rfl (jnc (jfo (jlr (v:=.map (some mb)) g1 rfl ?_)));refine @bO _ _ _ 101 70 mb o ps (Li.fz g2) ON f0 λib it q8=>?_
  refine jiI k1 λK2 k2=>?_
  refine jli (λi:List (Int × Value) × List (Int × Value) × Obj × Option (Int × Value)=>i.1.length) (λ_=>[a4,Pt cb,Pt gb,.map (some sb),Pt kb,S0 tb y.length y.length,.func (.func 117) #[] #[Pt kb,Pt cb],Pt D,.func (.func 119) #[] #[Pt D],Pt ib])
   (λi=>(ib,i.2.2.1) :: (D,C 50 (W :: cs)) :: (bw,C Aa ((Bp u6 (((i.2.1.map Prod.fst).filter (Cv s.AI j)).map (Gt l))).map I ++ wsp)) :: (sb,so) :: E)
   (λR' i=>R' = R6/\ps.Perm (i.2.1 ++ i.1)/\ItG mb o i.2.2.1 i.1 i.2.2.2) (ps,[],it,none) ⟨rfl,dK _,q8⟩ rfl rfl ?_
  rintro K e R' ⟨p3,b5,s4,p6⟩ ⟨N,c6,g0⟩ he hK;subst N;dsimp only at c6 g0 he hK ⊢;refine z_V ?_;refine @ar _ _ _ mb ib o s4 _ ps p3 p6 _ (Li.fz g2) f0 g0 (λh0=>?_) (λp b4 d1 j2 f8=>?_)
  .subst h0;refine jex rfl (CW (Bf (k2 _ (b5.map Prod.fst) ⟨rfl,?_⟩)));rw[<- o9];rw[dD] at c6;exact (c6.symm.map Prod.fst)
  have f1:p∈ps:=c6.mem_iff.2 (cm.2 (.inr (j2.mem_iff.2 (.head _))));obtain⟨t,ht,n6,rv,nv,n7,c7,c5⟩:=s7 p f1;have q9 : b4.length < p3.length:=by rw[j2.length_eq,cS];omega
  have n5 : ps.Perm ((b5 ++ [p]) ++ b4):=c6.trans (by
   rw[cR]
   exact List.Perm.append_left b5 j2)
  obtain⟨u4,f3⟩:=p;dsimp only at n6 n7;subst n6;obtain⟨m8,q6⟩:=q7 t ht;obtain⟨d,hd⟩:=Int.eq_ofNat_of_zero_le m8;have r7:=E0 q2 ht;refine jex rfl (DM ?_);obtain⟨xs,f2⟩:∃xs:List Int,xs = b5.map Prod.fst:=⟨_,rfl⟩;have o8:(b5 ++ [((t.at_,f3):Int × Value)]).map Prod.fst = xs ++ [t.at_]:=by rw[dE,<- f2];rfl
  rw[<- f2];refine jci (λ_:Unit=>[a4,Pt cb,Pt gb,.map (some sb),Pt kb,S0 tb y.length y.length,.func (.func 117) #[] #[Pt kb,Pt cb],Pt D,.func (.func 119) #[] #[Pt D],Pt ib])
   (λ_=>(ib,d1) :: (D,C 50 (W :: cs)) :: (bw,C Aa ((Bp u6 (((xs ++ [t.at_]).filter (Cv s.AI j)).map (Gt l))).map I ++ wsp)) :: (sb,so) :: E)
   (λR3 _=>R3 = R') (λK3 k3=>?_) ?_
  rotate_left
  .rintro e R3 _ N he;subst N;refine z_V ?_;refine hK _ (b4,b5 ++ [(t.at_,f3)],d1,some (t.at_,f3)) (by dsimp only;omega) ⟨rfl,n5,f8⟩ |> λz=>?_
   dsimp only at z;rw[o8] at z;exact z
  refine @aa _ _ _ mb ib o d1 ps b4 (t.at_,f3) _ (Li.fz g2) f0 f8 ?_;obtain⟨ra,rc,rfl⟩:=c7.sl;obtain⟨na,nc,rfl⟩:=c5.sl;refine jex rfl (jex rfl (ja λtk=>?_));subst n7;refine jS (eTh t (.slice ra t.refs.length rc) (.slice na t.nums.length nc)) ?_;refine jlr (v:=.map (some m2)) b0 rfl ?_;refine @Ua _ _ _ 122 3 m2 o2 (prs j T) t.at_ (I 0) true (Li.fz b1) HJ WC b7 ?_;rw[if_pos rfl,e7];refine jex rfl (jex rfl ?_);refine jci (λu:Value=>[a4,Pt cb,Pt gb,.map (some sb),Pt kb,S0 tb y.length y.length,.func (.func 117) #[] #[Pt kb,Pt cb],Pt D,.func (.func 119) #[] #[Pt D],I t.at_,Pt tk,Pt ib,.bool (!j.contains t.at_),u])
   (λ_=>(tk,C 70 (eTh t (.slice ra t.refs.length rc) (.slice na t.nums.length nc))) :: (ib,d1) :: (D,C 50 (W :: cs)) :: (bw,C Aa ((Bp u6 ((xs.filter (Cv s.AI j)).map (Gt l))).map I ++ wsp)) :: (sb,so) :: E)
   (λR3 u=>R3 = R'/\(j.contains t.at_ = false->u = .bool (Aj s.AI (AN t.at_)))) (λK4 k4=>?_) ?_
  .refine Dv (λg=>?_) (λg=>?_)
   .refine jp (F9 m8 Z) ?_;refine @jlk _ _ _ sb so _ _ (Aj s.AI (AN t.at_)) _ j5 Iff.rfl ?_;exact k4 _ _ ⟨rfl,λ_=>rfl⟩
   .exact k4 _ _ ⟨rfl,λhh=>by rw[hh] at g;cases g⟩
  rintro e R3 u ⟨N,hu⟩ he;subst N;refine z_V ?_;cases i9:j.contains t.at_ with
  | true=>
   have i5:Cv s.AI j t.at_ = false:=by unfold Cv;rw[i9];simp
   refine Et (CW (Bf ?_));have z:=k3 R3 () rfl;rw[c8 _ _ i5] at z;exact z
  | false=>
   rw[hu i9];refine Ec (jif (λg=>?_) (λg=>?_));rotate_left
   .have i5:Cv s.AI j t.at_ = false:=by unfold Cv;rw[g];rfl
    have z:=k3 R3 () rfl;rw[c8 _ _ i5] at z;exact Bf z
   have q4:Cv s.AI j t.at_ = true:=by unfold Cv;rw[g,i9];rfl
   refine jla (l:=eTh t (.slice ra t.refs.length rc) (.slice na t.nums.length nc)) (cN rfl) rfl ?_;refine Hg (by kernel_rfl) ?_;have z:=k3 R3 () rfl;rw[j6 xs t.at_ t r7 q4] at z;rw[hd] at z ⊢;subst hW;refine jc (A:=[(D,C 50 (S0 bw s.AC.length cw :: cs)),(bw,C Aa ((Bp u6 ((xs.filter (Cv s.AI j)).map (Gt l))).map I ++ wsp))]) (Yq (g:=λ_=>0) (d:=d) c7 c5 (by rw[CC,m5]) m7 Z Z λx _=>Zr x) ?_;rintro _ R4 A4 _ ⟨N,rfl⟩;subst N;refine Al [(ib,d1),(D,C 50 (S0 bw s.AC.length cw :: cs)),(bw,C Aa ((CE (Bp u6 ((xs.filter (Cv s.AI j)).map (Gt l))) d (d :: AY t.sh :: (t.refs.map (λ_=>0) ++ t.nums))).map I ++ wsp)),(sb,so)] (G:=E) ?_;exact z
 rintro e R' xs ⟨N,f2⟩ he;subst N;refine z_V ?_;obtain⟨w1,j8⟩:∃w1:List Int,w1 = Bp u6 ((xs.filter (Cv s.AI j)).map (Gt l)):=⟨_,rfl⟩;have g8:w1.length = s.AC.length:=by rw[j8,CC,m5]
 have a7:=CR.wd xs f2;rw[<- hZ,<- j8] at a7;rw[<- j8];have o7 : s'.AC.length = s.AC.length:=by rw[a7,CC,g8]
 obtain⟨s5,s6,o5⟩:=B8.sl b2;refine jci (λ_:Unit=>[Pt gb,.map (some sb),S0 tb y.length y.length,.func (.func 117) #[] #[Pt kb,Pt cb],Pt D])
  (λ_=>(D,C 50 (W :: cs)) :: (bw,C Aa (s'.AC.map I ++ wsp)) :: (sb,so) :: E)
  (λR3 _=>R3 = R') (λK1 k1=>?_) ?_
 .refine Bo ⟨s5,s6,o5⟩ ?_;refine jiI k1 λK2 k2=>?_
  refine jli (λi:Nat=>j.length - i) (λi=>[Pt cb,Pt gb,.map (some sb),Pt kb,S0 tb y.length y.length,.func (.func 117) #[] #[Pt kb,Pt cb],Pt D,.func (.func 119) #[] #[Pt D],a4,I j.length,I i])
   (λi=>(D,C 50 (W :: cs)) :: (bw,C Aa ((Bp w1 (((j.zip T).take i).map λp=>DJ l j T p.1 p.2)).map I ++ wsp)) :: (sb,so) :: E)
   (λR3 i=>R3 = R'/\i<=j.length) 0 ⟨rfl,Z⟩ rfl τ ?_
  rintro K e R3 i ⟨N,hi⟩ he hK;subst N;refine z_V ?_;refine jlt (jif (λc=>?_) (λc=>?_));rotate_left
  .have c:=z_g c;rw[cO (by rw[fJ,hlen];omega),<- a7];exact k2 R3 () rfl
  have c:i < j.length:=by have:=z_f c;omega
  refine jci (λ_:Unit=>[Pt cb,Pt gb,.map (some sb),Pt kb,S0 tb y.length y.length,.func (.func 117) #[] #[Pt kb,Pt cb],Pt D,.func (.func 119) #[] #[Pt D],a4,I j.length,I i])
   (λ_=>(D,C 50 (W :: cs)) :: (bw,C Aa ((Bp w1 (((j.zip T).take (i + 1)).map λp=>DJ l j T p.1 p.2)).map I ++ wsp)) :: (sb,so) :: E)
   (λR4 _=>R4 = R3) (λK3 k3=>?_) ?_
  rotate_left
  .rintro e R4 q N he;subst N;refine z_V ?_;exact jad (hK _ (i + 1) Z ⟨rfl,c⟩)
  refine jiI k3 λK4 k4=>?_
  have m9:=cK c;obtain⟨t,ht⟩:=o6 _ m9;obtain⟨r5,n8⟩:=CR.rn i c Z;have n8:=n8 t ht;obtain⟨d,hd⟩:=Int.eq_ofNat_of_zero_le r5;have n2:lk (prs j T) j[i] = some (I (T[i]'(Z))):=by
   refine OJ b7.nd (p:=(j[i],I (T[i]'(Z)))) ?_;unfold prs;have hz:(j[i],T[i]'(Z))∈j.zip T:=by
    have i6:i < (j.zip T).length:=by rw[fJ,hlen];omega
    have:=cK i6;rwa [fN] at this
   exact cq.2 ⟨_,hz,rfl⟩
  have g5:∀(v' : Value) (k:Value->M),ThV R3 v' t->(∀x,J R3 ((D,C 50 (W :: cs)) :: (bw,C Aa ((Bp w1 (((j.zip T).take (i + 1)).map λp=>DJ l j T p.1 p.2)).map I ++ wsp)) :: (sb,so) :: E) (k x))->J R3 ((D,C 50 (W :: cs)) :: (bw,C Aa ((Bp w1 (((j.zip T).take i).map λp=>DJ l j T p.1 p.2)).map I ++ wsp)) :: (sb,so) :: E) (CV P (.func (.func 119) #[] #[Pt D]) [v',I (T[i]'(Z)),.func (.func 117) #[] #[Pt kb,Pt cb]] k):=λv' k c9 H=>by
   obtain⟨rv,nv,rfl,c7,c5⟩:=c9;obtain⟨ra,rc,rfl⟩:=c7.sl;obtain⟨na,nc,rfl⟩:=c5.sl;refine Hg (by kernel_rfl) ?_;have i6:i < (j.zip T).length:=by rw[fJ,hlen];omega
   have n4:Bp w1 (((j.zip T).take (i + 1)).map λp=>DJ l j T p.1 p.2) = CE (Bp w1 (((j.zip T).take i).map λp=>DJ l j T p.1 p.2)) d (d :: AY t.sh :: (t.refs.map (plc l j T) ++ t.nums)):=by
    rw[cI i6,dE,dO,List.map_nil,KM,fN];unfold DJ;dsimp only;rw[ht,hd]
   rw[n4] at H;rw[hd];subst hW;refine jc (A:=[(D,C 50 (S0 bw s.AC.length cw :: cs)),(bw,C Aa ((Bp w1 (((j.zip T).take i).map λp=>DJ l j T p.1 p.2)).map I ++ wsp))]) (Yq (g:=plc l j T) (d:=d) c7 c5 (by rw[CC,g8]) m7 Z Z λx hx=>Vf hv hlen b1 b7 (λh0=>by have:=g9 0 h0;omega) b0 a3 (n9 _ m9 t ht x hx)) ?_;rintro x R4 A4 _ ⟨N,rfl⟩;subst N;exact H x
  have l6:MpT R3 o l:=⟨ps,f0,j0,j1⟩;refine Bl b2 Z Z ?_;simp only[cG];refine jlr (v:=Pt hb) a3 rfl (jnc (jfo (jlr (v:=.map (some mb)) g1 rfl (jlr (v:=.map (some m2)) b0 rfl ?_))));refine F5 ?_ (E3 ?_)
  .refine @Pb _ _ _ mb o l j[i] false (Li.fz g2) l6 (λe=>by rw[ht] at e;cases e) (λt' v' e c9=>?_);rw[ht] at e;cases e;refine Ak (jlr (v:=.map (some m2)) b0 rfl jev) ?_;refine @Ua _ _ _ 122 3 m2 o2 (prs j T) j[i] (I 0) false (Li.fz b1) HJ WC b7 ?_;rw[n2];exact g5 v' _ c9 λx=>k4 _ () rfl
  .refine @Ua _ _ _ 122 3 m2 o2 (prs j T) j[i] (I 0) false (Li.fz b1) HJ WC b7 ?_;rw[n2];refine Ak (jlr (v:=Pt hb) a3 rfl jev) (Ak (jlr (v:=.map (some mb)) g1 rfl jev) ?_);refine @Pb _ _ _ mb o l j[i] false (Li.fz g2) l6 (λe=>by rw[ht] at e;cases e) (λt' v' e c9=>?_);rw[ht] at e;cases e;exact g5 v' _ c9 λx=>k4 _ () rfl
 rintro e R3 _ N he;subst N;refine z_V ?_;obtain⟨a9,f5⟩:∃a9:List Value,a9 = [S0 bm s.AM.length mc,I s.Ae,.bool s.stop,.bool s.full,.bool s.Ap,I s.want,S0 O s.AB.length hc,.slice oa s.old.length oc,.slice pa s.AI.length pc,I s.BC,I s.BJ]:=⟨_,rfl⟩;rw[<- f5] at i4;subst i4;subst hE;refine Al [(D,C 50 (W :: S0 Q s.AA.length tc :: a9)),(Q,C AO (Ad eRg s.AA ++ tsp)),(sb,so)] (G:=(bw,C Aa (s'.AC.map I ++ wsp)) :: (gb,C 50 (cl z50)) :: (bm,C Ax (s.AM.map Value.bool ++ msp)) :: (O,C 117 (rows.flatten ++ hsp)) :: (Ar ++ F)) ?_;obtain⟨E2,l2⟩:∃E2:Chs,E2 = (bw,C Aa (s'.AC.map I ++ wsp)) :: (gb,C 50 (cl z50)) :: (bm,C Ax (s.AM.map Value.bool ++ msp)) :: (O,C 117 (rows.flatten ++ hsp)) :: (Ar ++ F):=⟨_,rfl⟩;rw[<- l2];obtain⟨TN,b9⟩:∃TN,TN = QK s.AI s.AA y:=⟨_,rfl⟩;have m4:TN.length = s.AA.length:=by rw[b9,Me]
 have q1:TN.take 1 ++ s.AA.drop 1 = s.AA:=by
  rw[b9];cases hc:s.AA with
  | nil=>rw[hc] at t0;simp at t0
  | cons x t=>
   unfold QK;rw[cS,List.range_succ_eq_map,dO];rfl
 refine jci (λ_:Unit=>[Pt gb,.func (.func 117) #[] #[Pt kb,Pt cb],Pt D]) (λ_=>(D,C 50 (W :: S0 Q s.AA.length tc :: a9)) :: (Q,C AO (Ad eRg (TN) ++ tsp)) :: (sb,so) :: E2) (λR4 _=>R4 = R3) (λK1 k1=>?_) ?_
 .refine jiI k1 λK2 k2=>?_
  refine jli (λi:Nat=>s.AA.length - i) (λi=>[Pt gb,.map (some sb),S0 tb y.length y.length,.func (.func 117) #[] #[Pt kb,Pt cb],Pt D,I i]) (λi=>(D,C 50 (W :: S0 Q s.AA.length tc :: a9)) :: (Q,C AO (Ad eRg (TN.take i ++ s.AA.drop i) ++ tsp)) :: (sb,so) :: E2) (λR4 i=>R4 = R3/\1<=i/\i<=s.AA.length) 1 ⟨rfl,Z,Z⟩ rfl (by show _ = (D,C 50 (W :: S0 Q s.AA.length tc :: a9)) :: (Q,C AO (Ad eRg (TN.take 1 ++ s.AA.drop 1) ++ tsp)) :: (sb,so) :: E2;rw[q1];rfl) ?_;rintro K e R4 i ⟨N,q6,hi⟩ he hK;subst N;refine z_V ?_;refine jfo (jl (v:=S0 Q s.AA.length tc) rfl (jln (jlt (jif (λc=>?_) (λc=>?_)))));rotate_left
  .have c:=z_g c;rw[cO Z,cT Z,dD];exact k2 R4 () rfl
  have c:i < s.AA.length:=by have:=z_f c;omega
  have j7:=E5 (l':=TN) (l:=s.AA) (k:=i) m4;have Ef:∀x,((TN.take i ++ s.AA.drop i).set i x).set i (TN[i]'(Z)) = TN.take (i + 1) ++ s.AA.drop (i + 1):=λx=>by
   rw[List.set_set];exact GI m4 c
  have a8:TN[i]'(Z) = II s.AI i (y[i]'(Z)):=by
   subst b9;rw[Qd];unfold YX;rw[if_neg Z,cH,cF Z];rfl
  refine jci (λ_:Unit=>[Pt gb,.map (some sb),S0 tb y.length y.length,.func (.func 117) #[] #[Pt kb,Pt cb],Pt D,I i]) (λ_=>(D,C 50 (W :: S0 Q s.AA.length tc :: a9)) :: (Q,C AO (Ad eRg (TN.take (i + 1) ++ s.AA.drop (i + 1)) ++ tsp)) :: (sb,so) :: E2) (λR5 _=>R5 = R4) (λK3 k3=>?_) ?_;rotate_left
  .rintro e R5 q N he;subst N;refine z_V ?_;exact jad (hK _ (i + 1) Z ⟨rfl,Z,c⟩)
  refine jiI k3 λK4 k4=>?_
  refine jfo (jl (v:=S0 Q s.AA.length tc) rfl (jp (WJ i) (C0 c (Ak (jl (v:=S0 Q s.AA.length tc) rfl jev) ?_))));refine Ge (t:=TN.take i ++ s.AA.drop i) (x:=Dj i) Z ?_;have e8:(y.map I ++ [])[0 + i * 1]? = some (I (y[i]'(Z))):=by
   rw[cg,dx];exact G3 Z
  refine jci (λ_:Unit=>[Pt gb,.map (some sb),S0 tb y.length y.length,.func (.func 117) #[] #[Pt kb,Pt cb],Pt D,I i,.bool (decide (y[i]'(Z) > AK i) || Aj s.AI i)]) (λ_=>(D,C 50 (W :: S0 Q s.AA.length tc :: a9)) :: (Q,C AO (Ad eRg ((TN.take i ++ s.AA.drop i).set i (Dj i)) ++ tsp)) :: (sb,so) :: E2) (λR5 _=>R5 = R4) (λK5 k5=>?_) ?_
  .refine C0 Z (jlr (v:=I (y[i]'(Z))) b8 e8 (jp (CZ i) ?_));refine jci (λu:Value × Value=>[Pt gb,.map (some sb),S0 tb y.length y.length,.func (.func 117) #[] #[Pt kb,Pt cb],Pt D,I i,.pointer (some ⟨tb,0 + i * 1,none⟩),I (y[i]'(Z)),.bool (decide (y[i]'(Z) > AK i)),u.1,u.2]) (λ_=>(D,C 50 (W :: S0 Q s.AA.length tc :: a9)) :: (Q,C AO (Ad eRg ((TN.take i ++ s.AA.drop i).set i (Dj i)) ++ tsp)) :: (sb,so) :: E2) (λR5 u=>R5 = R4/\(decide (y[i]'(Z) > AK i) = false->u = (.map (some sb),I i))) (λK6 k6=>?_) ?_
   .refine jgr (F0 (λg=>?_) (λg=>?_))
    .exact k6 R4 (.map (some sb),I i) ⟨rfl,λ_=>rfl⟩
    .exact k6 R4 (U,U) ⟨rfl,λhh=>by rw[hh] at g;cases g⟩
   rintro e R5 ⟨u1,u2⟩ ⟨N,hu⟩ he;subst N;dsimp only at he;refine z_V ?_;refine Ak (jlr (v:=I (y[i]'(Z))) b8 e8 jev) (F0 (λg=>?_) (λg=>?_))
   .have z:=k5 R5 () rfl;cases hu g;rw[g,dU] at z;refine @jlk _ _ _ sb so _ _ (Aj s.AI i) _ j5 Iff.rfl ?_;rw[g];exact Et z
   .have z:=k5 R5 () rfl;rw[g,eL] at z;rw[g];exact Ec z
  rintro e R5 _ N he;subst N;refine z_V ?_;refine jif (λg=>?_) (λg=>?_)
  .refine jfo (jl (v:=S0 Q s.AA.length tc) rfl (C0 Z (jlr (v:=I (y[i]'(Z))) b8 e8 (C0 Z (jlr (v:=I (y[i]'(Z))) b8 e8 ?_)))));refine jbd (cs:=eRg ⟨3,-1,y[i]'(Z),y[i]'(Z),0⟩) rfl rfl (C0 c ?_);refine Ge (t:=(TN.take i ++ s.AA.drop i).set i (Dj i)) (x:=⟨3,-1,y[i]'(Z),y[i]'(Z),0⟩) (by rw[dG];omega) ?_;have e1:(⟨3,-1,y[i]'(Z),y[i]'(Z),0⟩:Rg) = TN[i]'(Z):=by
    rw[a8];unfold II;rw[if_pos (by simpa using g)]
   rw[e1,Ef];exact k4 _ () rfl
  .have e1:Dj i = TN[i]'(Z):=by
    rw[a8];unfold II;rw[if_neg (by simpa using g)]
   have e2:=Ef (Dj i);rw[List.set_set,<- e1] at e2;have z:=k4 R5 () rfl;rw[<- e2] at z;exact z
 rintro e R4 _ N he;subst N;refine z_V ?_;subst l2 f5;refine jfo (jl (v:=S0 bm s.AM.length mc) rfl (XV (cs':=(List.replicate s.AM.length false).map Value.bool ++ msp) Z V (by unfold lay;simp) ?_));refine jfo (jS [W,S0 Q s.AA.length tc,S0 bm s.AM.length mc,I 0,.bool s.stop,.bool s.full,.bool s.Ap,I s.want,S0 O s.AB.length hc,.slice oa s.old.length oc,.slice pa s.AI.length pc,I s.BC,I s.BJ] ?_);refine jfo (jS [W,S0 Q s.AA.length tc,S0 bm s.AM.length mc,I 0,.bool false,.bool s.full,.bool s.Ap,I s.want,S0 O s.AB.length hc,.slice oa s.old.length oc,.slice pa s.AI.length pc,I s.BC,I s.BJ] ?_);refine jfo (jS [W,S0 Q s.AA.length tc,S0 bm s.AM.length mc,I 0,.bool false,.bool false,.bool s.Ap,I s.want,S0 O s.AB.length hc,.slice oa s.old.length oc,.slice pa s.AI.length pc,I s.BC,I s.BJ] ?_);refine jfo (jS [W,S0 Q s.AA.length tc,S0 bm s.AM.length mc,I 0,.bool false,.bool false,.bool s.Ap,I 0,S0 O s.AB.length hc,.slice oa s.old.length oc,.slice pa s.AI.length pc,I s.BC,I s.BJ] ?_);refine jfo (jS [W,S0 Q s.AA.length tc,S0 bm s.AM.length mc,I 0,.bool false,.bool false,.bool s.Ap,I 0,S0 O s.AB.length hc,SN,.slice pa s.AI.length pc,I s.BC,I s.BJ] ?_);refine jfo (jl (v:=I s.BJ) rfl (jad (jfo (jS [W,S0 Q s.AA.length tc,S0 bm s.AM.length mc,I 0,.bool false,.bool false,.bool s.Ap,I 0,S0 O s.AB.length hc,SN,.slice pa s.AI.length pc,I s.BC,I (s.BJ + 1)] ?_))));obtain⟨a1,c4⟩:∃a1:List Value,a1 = [W,S0 Q s.AA.length tc,S0 bm s.AM.length mc,I 0,.bool false,.bool false,.bool s.Ap,I 0,S0 O s.AB.length hc,SN,.slice pa s.AI.length pc,I s.BC,I (s.BJ + 1)]:=⟨_,rfl⟩;rw[<- c4];have m6:a1[0 + 8]? = some (S0 O s.AB.length hc):=by rw[c4];rfl
 refine Al [(O,C 117 (rows.flatten ++ hsp)),(D,C 50 a1)] (G:=(Q,C AO (Ad eRg TN ++ tsp)) :: (sb,so) :: (bw,C Aa (s'.AC.map I ++ wsp)) :: (gb,C 50 (cl z50)) :: (bm,C Ax ((List.replicate s.AM.length false).map Value.bool ++ msp)) :: (Ar ++ F)) ?_;obtain⟨G1,l3⟩:∃G1:Chs,G1 = (Q,C AO (Ad eRg TN ++ tsp)) :: (sb,so) :: (bw,C Aa (s'.AC.map I ++ wsp)) :: (gb,C 50 (cl z50)) :: (bm,C Ax ((List.replicate s.AM.length false).map Value.bool ++ msp)) :: F:=⟨_,rfl⟩;refine Az (D':=(O,C 117 (rows.flatten ++ hsp)) :: (D,C 50 a1) :: (Ar ++ G1)) ?_ ?_
 .rw[l3];exact eE _ (eE _ (eK [_,_,_,_,_] Ar F))
 have t8:=g7.len;refine jci (λ_:List (List Value) × Chs=>[Pt gb,Pt D])
  (λq=>(O,C 117 (q.1.flatten ++ hsp)) :: (D,C 50 a1) :: (q.2 ++ G1))
  (λR5 q=>R5 = R4/\Hc s'.AB q.1 q.2) (λK1 k1=>?_) ?_
 .refine jfo (jl (v:=S0 O s.AB.length hc) m6 (jln ?_));refine jiI k1 λK2 k2=>?_
  obtain⟨a5,h5⟩:∃a5 : List Th,a5 = s.AB.map (Cq l j T):=⟨_,rfl⟩;have d3:a5.length = s.AB.length:=by rw[h5,cM]
  refine jli (λi:Nat × List (List Value) × Chs=>s.AB.length - i.1) (λi=>[Pt gb,.func (.func 117) #[] #[Pt kb,Pt cb],Pt D,I s.AB.length,I i.1])
   (λi=>(O,C 117 (i.2.1.flatten ++ hsp)) :: (D,C 50 a1) :: (i.2.2 ++ G1))
   (λR5 i=>R5 = R4/\i.1<=s.AB.length/\Hc (a5.take i.1 ++ s.AB.drop i.1) i.2.1 i.2.2) (0,rows,Ar) ⟨rfl,V,g7⟩ τ τ ?_
  rintro K e R5 ⟨i,a0,A⟩ ⟨N,hi,hT⟩ he hK;subst N;dsimp only at hi hT he hK ⊢;refine z_V ?_;refine jlt (jif (λc=>?_) (λc=>?_));rotate_left
  .have c:=z_g c;rw[cO Z,cT Z,dD,h5,<- CR.th] at hT;exact k2 R5 (a0,A) ⟨rfl,hT⟩
  have c:i < s.AB.length:=by have:=z_f c;omega
  have j7:i < (a5.take i ++ s.AB.drop i).length:=by rw[E5 d3];exact c
  have q5:(a5.take i ++ s.AB.drop i)[i] = s.AB[i]:=JA d3 c j7;have i8:(a5.take i ++ s.AB.drop i).set i (Cq l j T s.AB[i]) = a5.take (i + 1) ++ s.AB.drop (i + 1):=by
   have e1:Cq l j T s.AB[i] = a5[i]'(Z):=by subst h5;rw[eF]
   rw[e1];exact GI d3 c
  obtain⟨rv,A1,A2,A3,rfl,k7,a8,r2⟩:=hT.split (i:=i) j7;rw[q5] at k7 a8;have o4:=hT.len;rw[E5 d3] at o4;have j3:∀r∈a0,r.length = 4:=o4.2;have e9:i < a0.length:=Z
  have o3:a0[i] = [rv,I (s.AB[i]).next,.bool (s.AB[i]).busy,I (s.AB[i]).Am]:=by
   rw[cF e9] at a8;exact da a8
  have c0:∀(f:Nat) (x:Value),f < 4->[rv,I (s.AB[i]).next,.bool (s.AB[i]).busy,I (s.AB[i]).Am][f]? = some x->(a0.flatten ++ hsp)[0 + i * 4 + f]? = some x:=λf x hf hx=>by
   have e1:=FX (sp:=hsp) i e9 j3;rw[o3] at e1;have e2:=congrArg (λz=>z[f]?) e1;simp only[List.getElem?_take_of_lt hf,dY] at e2;rw[show 0 + i * 4 + f = i * 4 + f from Z,e2,hx]
  have b3:∀A' : Chs,(A' ++ ((O,C 117 (a0.flatten ++ hsp)) :: (D,C 50 a1) :: (A1 ++ (A3 ++ G1)))).Perm ((O,C 117 (a0.flatten ++ hsp)) :: (D,C 50 a1) :: ((A1 ++ (A' ++ A3)) ++ G1)):=λA'=>by
   refine (eK A' [_,_] _).trans ?_;refine eE _ (eE _ ?_);refine (eK A' A1 _).trans ?_;simp only[cR];exact dK _
  have t7:=rl _ (cK c);refine jci (λ_:List (List Value) × Chs=>[Pt gb,.func (.func 117) #[] #[Pt kb,Pt cb],Pt D,I s.AB.length,I i]) (λq=>(O,C 117 (q.1.flatten ++ hsp)) :: (D,C 50 a1) :: (q.2 ++ G1))
   (λR6 q=>R6 = R5/\Hc (a5.take (i + 1) ++ s.AB.drop (i + 1)) q.1 q.2) (λK3 k3=>?_) ?_
  rotate_left
  .rintro e R6 q ⟨N,hq⟩ he;subst N;refine z_V ?_;exact jad (hK _ (i + 1,q.1,q.2) (by dsimp only;omega) ⟨rfl,c,hq⟩)
  refine jiI k3 λK4 k4=>?_
  refine jfo (jl (v:=S0 O s.AB.length hc) m6 (C0 c ?_));refine jci (λ_:Chs=>[Pt gb,.func (.func 117) #[] #[Pt kb,Pt cb],Pt D,.pointer (some ⟨O,0 + i * 4,none⟩),I s.AB.length,I i]) (λA'=>A' ++ ((O,C 117 (a0.flatten ++ hsp)) :: (D,C 50 a1) :: (A1 ++ (A3 ++ G1)))) (λR6 A'=>R6 = R5/\SO ((s.AB[i]).AD.map (plc l j T)) rv A') (λK5 k5=>?_) ?_
  .refine jnc (jfo (jl (v:=rv) (c0 0 rv Z rfl) (Bo k7.sln ?_)));refine Az (b3 A2).symm ?_;refine jiI k5 λK6 k6=>?_
   refine jli (λk:Nat × Chs=>(s.AB[i]).AD.length - k.1) (λk=>[Pt gb,.func (.func 117) #[] #[Pt kb,Pt cb],Pt D,.pointer (some ⟨O,0 + i * 4,none⟩),I s.AB.length,I i,rv,I (s.AB[i]).AD.length,I k.1]) (λk=>k.2 ++ ((O,C 117 (a0.flatten ++ hsp)) :: (D,C 50 a1) :: (A1 ++ (A3 ++ G1))))
    (λR6 k=>R6 = R5/\k.1<=(s.AB[i]).AD.length/\SO (((s.AB[i]).AD.map (plc l j T)).take k.1 ++ (s.AB[i]).AD.drop k.1) rv k.2) (0,A2) ⟨rfl,V,k7⟩ τ τ ?_
   rintro K e R6 ⟨k,A'⟩ ⟨N,hk,d2⟩ he l4;subst N;dsimp only at hk d2 he l4 ⊢;refine z_V ?_;refine jlt (jif (λc2=>?_) (λc2=>?_));rotate_left
   .have c2:=z_g c2;rw[cO (by rw[cM];omega),cT Z,dD] at d2;exact k6 R6 A' ⟨rfl,d2⟩
   have c2:k < (s.AB[i]).AD.length:=by have:=z_f c2;omega
   have i7:((s.AB[i]).AD.map (plc l j T)).length = (s.AB[i]).AD.length:=cM _;have t5:=E5 (l':=(s.AB[i]).AD.map (plc l j T)) (l:=(s.AB[i]).AD) (k:=k) i7;refine @Un _ _ _ _ _ A' _ k d2 ⟨dK _⟩ Z ?_;rw[JA i7 c2];refine jnc (jfo ?_);have l5:∀{k:Value->M},J R6 (A' ++ ((O,C 117 (a0.flatten ++ hsp)) :: (D,C 50 a1) :: (A1 ++ (A3 ++ G1)))) (k rv)->J R6 (A' ++ ((O,C 117 (a0.flatten ++ hsp)) :: (D,C 50 a1) :: (A1 ++ (A3 ++ G1)))) (L1 (.pointer (some ⟨O,0 + i * 4 + 0,none⟩)) k):=λH=>Az (b3 A') (jl (v:=rv) (c0 0 rv Z rfl) (Az (b3 A').symm H))
   refine l5 ?_;refine Vf hv hlen b1 b7 (λh0=>by have:=g9 0 h0;omega) b0 a3 (j4 _ (cK c) _ (cK c2)) _ _ ?_;refine bW d2 Z (l5 jev) λA4 p4=>jad (l4 _ (k + 1,A4) (by dsimp only;omega) ⟨rfl,c2,?_⟩)
   have e1:plc l j T (s.AB[i]).AD[k] = ((s.AB[i]).AD.map (plc l j T))[k]'(Z):=by rw[eF]
   rw[e1,GI i7 c2] at p4;exact p4
  rintro e R6 A' ⟨N,p5⟩ he;subst N;refine z_V ?_;refine Az (b3 A') ?_;obtain⟨ra,rc,s9⟩:=p5.sln;have hz:=k4 R6;have a7:∀tr:Int,tr = (if (s.AB[i]).Am = 1 then 2 else (s.AB[i]).Am)->J R6 ((O,C 117 ((a0.set i [rv,I (s.AB[i]).next,.bool false,I tr]).flatten ++ hsp)) :: (D,C 50 a1) :: ((A1 ++ (A' ++ A3)) ++ G1)) (K4 [Pt gb,.func (.func 117) #[] #[Pt kb,Pt cb],Pt D,I s.AB.length,I i]):=λtr r9=>by
   have e1:=r2 (Cq l j T s.AB[i]) A' p5;rw[i8] at e1;subst r9;exact k4 R6 (_,_) ⟨rfl,e1⟩
  refine jnc (jfo ?_);refine ZD (rows:=a0) (i:=i) (f:=2) j3 e9 Z rfl rfl ?_;rw[o3];have g6 : ∀r∈a0.set i [rv,I (s.AB[i]).next,.bool false,I (s.AB[i]).Am],r.length = 4:=λr hr=>by
   rcases dy hr with h1 | h1
   .exact j3 r h1
   .rw[h1];rfl
  have f6 : i < (a0.set i [rv,I (s.AB[i]).next,.bool false,I (s.AB[i]).Am]).length:=by rw[dG];exact e9
  have e5 : ((a0.set i [rv,I (s.AB[i]).next,.bool false,I (s.AB[i]).Am]).flatten ++ hsp)[0 + i * 4 + 3]? = some (I (s.AB[i]).Am):=by
   have e1:=FX (sp:=hsp) i f6 g6;rw[List.getElem_set_self] at e1;have e2:=congrArg (λz=>z[3]?) e1;simp only[List.getElem?_take_of_lt (show 3 < 4 by omega),dY] at e2;rw[show 0 + i * 4 + 3 = i * 4 + 3 from Z,e2];rfl
  refine jnc (jfo (jl (v:=I (s.AB[i]).Am) e5 (jeq (jif (λg=>?_) (λg=>?_)))))
  .have g:(s.AB[i]).Am = 1:=by simpa using g
   refine jnc (jfo (ZD (rows:=a0.set i [rv,I (s.AB[i]).next,.bool false,I (s.AB[i]).Am]) (i:=i) (f:=3) g6 f6 Z rfl rfl ?_));rw[List.getElem_set_self,List.set_set];exact a7 2 (by rw[if_pos g])
  .have g:¬ (s.AB[i]).Am = 1:=by simpa using g
   exact a7 _ (by rw[if_neg g])
 rintro e R5 ⟨j9,AE⟩ ⟨N,hT⟩ he;subst N;dsimp only at hT ⊢;refine z_V ?_;subst hW c4 l3;refine Az (D':=AE ++ ((O,C 117 (j9.flatten ++ hsp)) :: (D,C 50 [S0 bw s.AC.length cw,S0 Q s.AA.length tc,S0 bm s.AM.length mc,I 0,.bool false,.bool false,.bool s.Ap,I 0,S0 O s.AB.length hc,SN,.slice pa s.AI.length pc,I s.BC,I (s.BJ + 1)]) :: (Q,C AO (Ad eRg TN ++ tsp)) :: (sb,so) :: (bw,C Aa (s'.AC.map I ++ wsp)) :: (gb,C 50 (cl z50)) :: (bm,C Ax ((List.replicate s.AM.length false).map Value.bool ++ msp)) :: F)) (eK [_,_] AE _) ?_;refine bJ hT λR6 a2 r6=>?_
 refine jla (l:=[S0 bw s.AC.length cw,S0 Q s.AA.length tc,S0 bm s.AM.length mc,I 0,.bool false,.bool false,.bool s.Ap,I 0,S0 O s.AB.length hc,SN,.slice pa s.AI.length pc,I s.BC,I (s.BJ + 1)]) (cN rfl) rfl ?_;refine jS [S0 bw s.AC.length cw,S0 Q s.AA.length tc,S0 bm s.AM.length mc,I 0,.bool false,.bool false,.bool s.Ap,I 0,S0 O s.AB.length hc,SN,.slice pa s.AI.length pc,I s.BC,I (s.BJ + 1)] ?_;refine jla (l:=[S0 bw s.AC.length cw,S0 Q s.AA.length tc,S0 bm s.AM.length mc,I 0,.bool false,.bool false,.bool s.Ap,I 0,S0 O s.AB.length hc,SN,.slice pa s.AI.length pc,I s.BC,I (s.BJ + 1)]) (cN rfl) rfl ?_;refine BB (b:=O) λR7 q0 h8=>BB (b:=Q) λR8 m1 e4=>BB (b:=bw) λR9 h7 h9=>BB (b:=bm) λRA e3 q3=>?_
 have h8:=(m1.trans (h7.trans e3)) _ _ h8;have e4:=(h7.trans e3) _ _ e4;have h9:=e3 _ _ h9;have h3:=q0.trans (m1.trans (h7.trans e3));have m3:s'.AA.length = s.AA.length:=by rw[CR.tb,Me]
 have t3:s'.AB.length = s.AB.length:=by rw[CR.th,cM]
 have l8:s'.AM = List.replicate s.AM.length false:=by rw[CR.eq]
 have p7:s'.AM.length = s.AM.length:=by rw[l8,cW]
 have p9:s'.AI = s.AI:=by rw[CR.eq]
 have p8:s'.old = []:=by rw[CR.eq]
 refine Ao (A:=[]) (l9.trans (a2.trans h3)) ⟨rfl,?_⟩;refine⟨S0 bw s.AC.length cw,S0 Q s.AA.length tc,S0 bm s.AM.length mc,S0 O s.AB.length hc,SN,.slice pa s.AI.length pc,⟨?_,?_,?_,?_,?_,?_⟩,?_,?_⟩
 .rw[<- o7];exact Lv h9 V Z
 .rw[<- m3,CR.tb,<- b9];exact Lv e4 (by rw[DT (w:=5) (λ_=>rfl)]) Z
 .rw[<- p7,l8];exact Lv q3 V (by simp;omega)
 .refine⟨j9,r6.mono λ_ _=>Cd.le h3,?_⟩;have h4:=hT.len;rw[show s.AB.length = j9.length from Z];exact Lv h8 (Br h4.2) Z
 .rw[p8];exact .inl ⟨rfl,rfl,rfl⟩
 .rw[p9];exact f1.le (a2.trans h3)
 .exact⟨Q,tc,tsp,by rw[m3],by rw[CR.tb,<- b9];exact e4,Z⟩
 .have:eSt s' (S0 bw s.AC.length cw) (S0 Q s.AA.length tc) (S0 bm s.AM.length mc) (S0 O s.AB.length hc) (SN) (.slice pa s.AI.length pc) = [S0 bw s.AC.length cw,S0 Q s.AA.length tc,S0 bm s.AM.length mc,I 0,.bool false,.bool false,.bool s.Ap,I 0,S0 O s.AB.length hc,SN,.slice pa s.AI.length pc,I s.BC,I (s.BJ + 1)]:=by
   rw[CR.eq];rfl
  rw[this]
end st
end Go.Lf
end
section
namespace Sm
open Go.Lf
theorem KA {l:List AQ} {AJ to:List Int} (hlen:to.length = AJ.length):∀{xs ys:List Int},DC l AJ to xs = some ys->ys = xs.map (plc l AJ to)
 | [],ys,h=>by cases h;rfl
 | a :: r,ys,h=>by
  unfold DC at h;simp only[cP,z_i] at h;obtain⟨u,A,b,hb,zs,D,e⟩:=h;cases e;rw[dO,<- KA hlen D];congr 1;unfold plc;rw[A];dsimp only;by_cases c:u∈AJ
  .have y:=(DF).1 c;have x:BP AJ u = (AJ.idxOf u:Nat):=by unfold BP;rw[if_pos c]
   rw[if_neg Z] at hb;rw[if_pos c];have j:AJ.idxOf u < to.length:=by rw[hlen];exact dP c
   rw[x] at hb;unfold idx at hb;rw[if_pos Z] at hb;simp only[cG,cF j,cX] at hb;rw[cH,cF j,dI,hb]
  .have y:=(DF).2 c;rw[if_pos Z] at hb;cases hb;rw[if_neg c]
theorem EM {l:List AQ} {AJ to:List Int} (hlen:to.length = AJ.length):∀{x j : List Th},DW l AJ to x = some j->j = x.map (Cq l AJ to)
 | [],j,h=>by cases h;rfl
 | t :: r,j,h=>by
  unfold DW at h;simp only[cP,z_i] at h;obtain⟨u,y,zs,A,e⟩:=h;cases e;rw[dO,<- EM hlen A];unfold Cq;rw[<- KA hlen y]
theorem Ij {t:AQ}:(Dm t).2.length = 2 + t.refs.length + t.nums.length:=by
 unfold Dm;simp only[cS,cJ,cW];omega
theorem Xy {s s' : Ah} {l:List AQ} {b0 AJ to tops:List Int} (hf:HpF s l b0) (O:Od b0 AJ) (b6:s.AM.length = s.AC.length) (A:DX s s' l AJ to tops):aW s s' l AJ to tops:=by
 obtain⟨G,T,-⟩:=ER hf.ths;have hS:=hf.S;have a6:∀t∈l,16<=t.at_/\t.at_ + (2 + t.refs.length + t.nums.length:Nat)<=s.AC.length:=λt y=>by
  obtain⟨K,Q⟩:=T.all t y;have i:=G.inn K;have j:=(EB G K).2.2;rw[<- Q] at j;omega
 have a0:∀i (h:i < AJ.length) (h' : i < to.length),(AJ[i],to[i])∈AJ.zip to:=λi h h'=>by
  have b5:i < (AJ.zip to).length:=by rw[fJ];omega
  have:=cK b5;rwa [fN] at this
 have R:∀(w:List Int),w.length = s.AC.length->∀b∈(AJ.zip to).map λp=>DJ l AJ to p.1 p.2,0<=b.1/\b.1 + b.2.length<=w.length:=λw hw b hb=>by
  obtain⟨p,hp,rfl⟩:=cq.1 hb;obtain⟨K,Q⟩:=A.rn p hp;unfold DJ;dsimp only;refine⟨Z,?_⟩;cases y:B7 l p.1 with
  | none=>
   have a7:=(dq hp).1;rw[O.m] at a7;obtain⟨t,a9⟩:=hf.M.th _ a7;rw[y] at a9;cases a9
  | some t=>
   have h3:=(Q t y).1;dsimp only;rw[hw];simp only[cS,cJ,cM];omega
 have a3:∀(w:List Int),w.length = s.AC.length->∀t∈l,0<=(Dm t).1/\(Dm t).1 + (Dm t).2.length<=w.length:=λw hw t y=>by
  have h:=a6 t y;rw[Ij,hw];show 0<=t.at_/\t.at_ + _<=_;omega
 refine⟨λxs b8=>?_,A.hlen,A.tl.1.trans A.tn,?_,EM A.hlen A.th,?_,λi h h'=>?_⟩
 .rw[A.wd];obtain⟨c4,hZ⟩:∃c4:List Int,c4 = List.replicate s.AC.length 0:=⟨_,rfl⟩;have N:c4.length = s.AC.length:=by rw[hZ,cW]
  rw[<- hZ];have b9:∀{b c:Int × List Int},(∀x,¬ (inB b x/\inB c x))->∀x,¬ (inB c x/\inB b x):=λh x hx=>h x ⟨hx.2,hx.1⟩
  have b1:∀t∈l,Gt l t.at_ = Dm t:=λt y=>by
   unfold Gt;rw[E0 hS.nd y]
  have D:((xs.filter (Cv s.AI AJ)).map (Gt l)).Perm ((l.filter λt=>Cv s.AI AJ t.at_).map Dm):=by
   refine ((b8.filter _).map _).trans ?_;rw[List.filter_map,fA];refine List.Perm.of_eq (dZ λt y=>(b1 t (dV.1 y).1))
  have W:((l.filter λt=>Cv s.AI AJ t.at_).map Dm).Sublist ((l.filter λx=>Aj s.AI (AN x.at_)).map Dm):=by
   refine List.Sublist.map _ ?_;have e:(l.filter λt=>Cv s.AI AJ t.at_) = (l.filter λx=>Aj s.AI (AN x.at_)).filter λt=>!AJ.contains t.at_:=by
    rw[List.filter_filter];congr 1;funext t;unfold Cv;rw[Bool.and_comm]
   rw[e];exact List.filter_sublist
  have b7:((xs.filter (Cv s.AI AJ)).map (Gt l)).Pairwise (λb c=>∀x,¬ (inB b x/\inB c x)):=(D.pairwise_iff b9).2 (A.dd.sublist W);have b2:∀b∈(xs.filter (Cv s.AI AJ)).map (Gt l),∃t∈l,Cv s.AI AJ t.at_ = true/\b = Dm t:=λb hb=>by
   obtain⟨t,y,rfl⟩:=cq.1 (D.mem_iff.1 hb);exact⟨t,(dV.1 y).1,(dV.1 y).2,rfl⟩
  have a4:∀b∈(l.filter λx=>Aj s.AI (AN x.at_)).map Dm,∃t∈l,Aj s.AI (AN t.at_) = true/\b = Dm t:=λb hb=>by
   obtain⟨t,y,rfl⟩:=cq.1 hb;exact⟨t,(dV.1 y).1,(dV.1 y).2,rfl⟩
  have a1:∀b∈(l.filter λx=>Aj s.AI (AN x.at_)).map Dm,0<=b.1/\b.1 + b.2.length<=c4.length:=λb hb=>by
   obtain⟨t,y,_,rfl⟩:=a4 b hb;exact a3 c4 N t y
  have a2:∀b∈(xs.filter (Cv s.AI AJ)).map (Gt l),0<=b.1/\b.1 + b.2.length<=c4.length:=λb hb=>by
   obtain⟨t,y,_,rfl⟩:=b2 b hb;exact a3 c4 N t y
  refine X5 (by simp only[CC]) λx hx=>?_
  by_cases cL:∃b∈(AJ.zip to).map λp=>DJ l AJ to p.1 p.2,inB b x
  .obtain⟨b,hb,H⟩:=cL;rw[Eh (R _ (by rw[CC,N])) A.hd hb H,Eh (R _ (by rw[CC,N])) A.hd hb H]
  have cL:∀b∈(AJ.zip to).map λp=>DJ l AJ to p.1 p.2,¬ inB b x:=λb hb h=>cL ⟨b,hb,h⟩
  rw[EC (R _ (by rw[CC,N])) hx cL,EC (R _ (by rw[CC,N])) hx cL];by_cases c2:∃b∈(xs.filter (Cv s.AI AJ)).map (Gt l),inB b x
  .obtain⟨b,hb,H⟩:=c2;rw[Eh a2 b7 hb H,Eh a1 A.dd (W.subset (D.mem_iff.1 hb)) H]
  rw[EC a2 hx λb hb h=>c2 ⟨b,hb,h⟩];refine EC a1 hx λb hb H=>?_
  obtain⟨t,y,hh,rfl⟩:=a4 b hb;have c0:=a6 t y;by_cases ca:t.at_∈AJ
  .obtain⟨i,hi,a5⟩:=d5 ca;have b4 : i < to.length:=by rw[A.hlen];exact hi
   have hz:=a0 i hi b4;have a8:AN t.at_ = t.at_ / 16:=Be Z;rcases A.rg _ hz with ⟨K,Q⟩ | ⟨K,Q⟩
   .dsimp only at K Q;refine cL _ (cq.2 ⟨_,hz,rfl⟩) ?_;dsimp only;rw[Q,a5];unfold inB DJ;dsimp only;rw[E0 hS.nd y];dsimp only;have h3:=H;unfold inB at h3;rw[Ij] at h3;simp only[cS,cJ,cM];have h4:(Dm t).1 = t.at_:=rfl;omega
   .dsimp only at K;rw[a5,<- a8,hh] at K;cases K
  .refine c2 ⟨Dm t,D.mem_iff.2 (cq.2 ⟨t,dV.2 ⟨y,?_⟩,rfl⟩),H⟩;unfold Cv;rw[hh];simpa using ca
 .apply eN (by rw[Me,A.tn]);intro i K Q;rw[Qd];have b3:rv s'.AA i = s'.AA[i]:=by
   unfold rv gv;simp only[cG,cH,cF K,dI]
  rw[<- b3];unfold YX;by_cases c:i = 0
  .subst c;rw[if_pos rfl,G.ok.e];exact A.e0
  .rw[if_neg c,A.tl.2 i Z K];exact A.rw_ i Z (by rw[A.tn] at K;omega)
 .have e:=A.eq;rw[b6];exact e
 .obtain⟨K,Q⟩:=A.rn _ (a0 i h h');exact⟨by dsimp only at K;omega,λt y=>(Q t y).1⟩
end Sm
end
section
namespace Go.Lf
open Go Sm
theorem W3 {n:Nat} {a z:Int} (h:fits n a z = true) (K:2<=z):fits n a 2 = true:=by
 obtain⟨A,D,G,H⟩:=FA h;unfold fits at h ⊢;simp only[z_b,z_d,beq_iff_eq] at h ⊢;obtain⟨⟨⟨⟨⟨p0,p1⟩,p2⟩,x⟩,y⟩,j⟩:=h;refine⟨⟨⟨⟨⟨p0,δ⟩,δ⟩,x⟩,y⟩,?_⟩;unfold AN at j ⊢;rw[if_neg Z,if_neg Z] at j;rw[if_neg Z,if_neg Z];omega
theorem aO {w:List Int} {a:Int} {sh:Shp} (j:fits w.length a 2 = true) (x:AS (w.getD (a.toNat + 1) 0) = (sh,true)) (y:fits w.length a (AG sh) = true) :
  As w a = (⟨a,w.getD a.toNat 0,sh,seg w (a + 2) sh.refs,seg w (a + 2 + sh.refs) sh.nums⟩,true):=by
 unfold As;rw[if_pos j,x];dsimp only;rw[y];rfl
theorem Z8 {w:List Int} {a:Int} (h:(As w a).2 = true):∃sh,AS (w.getD (a.toNat + 1) 0) = (sh,true)/\fits w.length a 2 = true/\fits w.length a (AG sh) = true:=by
 unfold As at h;split at h
 .rename_i h0;dsimp only at h;split at h
  .rename_i j;simp only[z_b] at j;exact⟨(AS (w.getD (a.toNat + 1) 0)).1,Prod.ext rfl j.1,h0,j.2⟩
  .cases h
 .cases h
end Go.Lf
end
