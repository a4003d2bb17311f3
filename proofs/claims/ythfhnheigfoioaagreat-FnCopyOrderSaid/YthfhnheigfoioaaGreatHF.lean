/- A part of the proof of the given row. Conditions: none. -/
import Derived.Test.YthfhnheigfoioaaGreatHE
set_option linter.unusedVariables false
set_option linter.unusedSimpArgs false
set_option maxRecDepth 100000
section
namespace Sm
variable {P:List (List Op)}
theorem Uc {f:Nat->Bool} {n:Nat} (h:∀k,f k = true->k < n):∀N,(List.range N).countP f<=n:=by
 have:∀N,(List.range N).countP f<=min N n:=by
  intro N;induction N with
  | zero=>simp
  | succ N j=>
   rw[List.range_succ,List.countP_append,List.countP_singleton];split
   .have:=h N (by assumption);omega
   .omega
 intro N;have:=this N;omega
theorem RE {f q:Nat->Bool} {lo s:Nat} (h:∀k,q k = (f k || (decide (lo<=k) && decide (k < lo + s)))) (hd:∀k,lo<=k->k < lo + s->f k = false):∀N,(List.range N).countP q = (List.range N).countP f + (min (lo + s) N - lo):=by
 intro N;induction N with
 | zero=>simp
 | succ N j=>
  rw[List.range_succ,List.countP_append,List.countP_append,List.countP_singleton,List.countP_singleton,j,h N];by_cases c:lo<=N/\N < lo + s
  .rw[hd N c.1 c.2];simp[c.1,c.2];omega
  .cases x:f N
   .have:(decide (lo<=N) && decide (N < lo + s)) = false:=by simp;omega
    rw[this];simp;omega
   .simp;omega
open Classical in
theorem Zv {x y:X} (H:Sh x) (N:y.w = x.w) (A : ∀b,0<=b->mv y.m b = true->x.L b) {r:Int} (h0:1<=r) (G:r < x.t.length):(cnt y r:Int)<=(rv x.t r).top - 16 * r:=by
 have R:=H.g.ok.row r h0 G;have:cnt y r<=((rv x.t r).top - 16 * r).toNat:=by
  unfold cnt;rw[N];rw[show (List.range 16).countP _ = (List.range 16).countP (λ(k:Nat)=>decide (k < 16/\∃a,0<=a/\mv y.m a = true/\a<=16 * r + (k:Int)/\16 * r + (k:Int) < a + sz x.w a)) from List.countP_congr λk j=>by
   have:=du.1 j
   simp[this]]
  refine Uc (λk j=>?_) 16;obtain⟨O,a,D,K,Q,T⟩:=z_f j;have:=H.g.inn (H.lb a (A a D K));have e:a / 16 = r:=Z
  rw[e] at this;omega
 have:=R.t0;omega
open Classical in
theorem PR {x y:X} (H:Sh x) {a:Int} (hL:x.L a) (hm:mv x.m a = false) (hy:y.m = AT x.m a true) (hw:y.w = x.w) (r:Int) (h0:1<=r) (W:r < x.t.length) :
  (cnt y r:Int) = cnt x r + (if r = a / 16 then sz x.w a else 0):=by
 have g:=H.g.inn (H.lb a hL);have a0:=H.ml;have N:∀b,0<=b->mv y.m b = if b = a then true else mv x.m b:=λb hb=>by rw[hy];exact Su Z Z hb
 by_cases R:r = a / 16
 .rw[if_pos R];have t1:=(H.g.ok.row r h0 W).t1;rw[<- R] at g;have T:∀k:Nat,k < 16->((∃b,0<=b/\mv y.m b = true/\b<=16 * r + (k:Int)/\16 * r + (k:Int) < b + sz y.w b)↔((∃b,0<=b/\mv x.m b = true/\b<=16 * r + (k:Int)/\16 * r + (k:Int) < b + sz x.w b)\/((a - 16 * r).toNat<=k/\k < (a - 16 * r).toNat + (sz x.w a).toNat))):=λk K=>by
   rw[hw];constructor
   .rintro⟨b,j,hb,A,D⟩;rw[N b j] at hb;by_cases c:b = a
    .subst c;right;omega
    .rw[if_neg c] at hb;exact .inl ⟨b,j,hb,A,D⟩
   .rintro (⟨b,j,hb,A,D⟩ | h)
    .refine⟨b,j,?_,A,D⟩;rw[N b j];split
     .rfl
     .exact hb
    .exact⟨a,Z,by rw[N a Z,if_pos rfl],Z,Z⟩
  have O:∀k:Nat,(a - 16 * r).toNat<=k->k < (a - 16 * r).toNat + (sz x.w a).toNat->¬ ∃b,0<=b/\mv x.m b = true/\b<=16 * r + (k:Int)/\16 * r + (k:Int) < b + sz x.w b:=λk k1 k2=>by
   rintro⟨b,j,hb,A,D⟩;obtain⟨Q,_⟩:=sep H.g (a:=a) (b:=b) (k:=16 * r + k - a) (l:=16 * r + k - b) (H.lb a hL) (H.lb b (H.mt b j hb).1) Z Z Z Z Z;subst Q;rw[hm] at hb;cases hb
  have Q:cnt y r = (List.range 16).countP (λ(k:Nat)=>decide (k < 16/\∃b,0<=b/\mv y.m b = true/\b<=16 * r + (k:Int)/\16 * r + (k:Int) < b + sz y.w b)):=List.countP_congr λk K=>by
   have:=du.1 K;simp[this]
  have e2:cnt x r = (List.range 16).countP (λ(k:Nat)=>decide (k < 16/\∃b,0<=b/\mv x.m b = true/\b<=16 * r + (k:Int)/\16 * r + (k:Int) < b + sz x.w b)):=List.countP_congr λk K=>by
   have:=du.1 K;simp[this]
  rw[Q,e2,RE (lo:=(a - 16 * r).toNat) (s:=(sz x.w a).toNat) (f:=λ(k:Nat)=>decide (k < 16/\∃b,0<=b/\mv x.m b = true/\b<=16 * r + (k:Int)/\16 * r + (k:Int) < b + sz x.w b)) (λk=>?_) (λk k1 k2=>?_) 16]
  .omega
  .by_cases G:k < 16
   .have:=T k G;simp only[G,true_and];rw[dX];simp only[z_d,d7,z_b];exact this
   .rw[dX];simp only[z_d,d7,z_b];omega
  .have:=O k k1 k2;exact decide_eq_false λh=>this h.2
 .rw[if_neg R,Int.add_zero];congr 1;refine List.countP_congr λk K=>?_
  have G:=du.1 K;simp only[z_d];rw[hw];have t1:=(H.g.ok.row r h0 W).t1;constructor
  .rintro⟨b,j,hb,A,D⟩;rw[N b j] at hb;by_cases c:b = a
   .subst c;omega
   .rw[if_neg c] at hb;exact⟨b,j,hb,A,D⟩
  .rintro⟨b,j,hb,A,D⟩;refine⟨b,j,?_,A,D⟩;rw[N b j];split
   .rfl
   .exact hb
theorem X8 {p:Int} {x:X} {sk' old' : List Int} (H:Sh x) (D:∀v∈sk',x.L v) (y:∀v∈old',x.L v) (hl:∀v,(v∈x.sk\/v∈x.old)->Lg { x with sk:=sk',old:=old' } v):Sh { x with sk:=sk',old:=old' }/\Kp p x { x with sk:=sk',old:=old' }:=by
 have lg:∀v,Lg x v->Lg { x with sk:=sk',old:=old' } v:=λv h=>by
  rcases h with h | h | h | h | h
  .exact .inl h
  .exact .inr (.inl h)
  .exact hl v (.inl h)
  .exact hl v (.inr h)
  .exact .inr (.inr (.inr (.inr h)))
 refine⟨⟨H.g,H.lb,H.rf,H.st,H.fw,H.ml,H.mt,H.ph,H.nf,H.lm,H.pl,H.fm,H.nb,H.af,λA=>?_⟩,?_⟩
 .have M:=H.mp A;exact⟨D,y,M.mn,λa h=>⟨(M.l0 a h).1,(M.l0 a h).2.1,lg _ (M.l0 a h).2.2⟩,M.ql,λa j h G K N=>(M.un a j h G K N).imp id (lg _),M.cov⟩
 .exact⟨rfl,rfl,rfl,λ_ h=>h,λ_ h=>h,λ_ h _=>h,λ_ _=>Iff.rfl,λ_ _=>rfl,λ_ _ h _=>⟨⟨h,rfl,rfl⟩,λ_ _ _=>rfl⟩,λ_ _=>rfl,λ_ _ _ _ _ _=>rfl,λ_ _ _=>rfl,λ_=>lg,rfl,λ_ _ _ h _ _ _ _=>⟨h,rfl⟩⟩
theorem am {p:Int} {x:X} {a:Int} {sk' : List Int} (H:Sh x) (a3:x.ph = 1) (hL:x.L a) (ht:a < x.tm a) (hm:mv x.m a = false) (hs:∀v∈x.sk,v∈sk'\/v = a) (a4 : ∀v∈sk',v∈x.sk) :
  Sh { x with m:=AT x.m a true,t:=AT x.t (a / 16) { rv x.t (a / 16) with AJ:=(rv x.t (a / 16)).AJ + sz x.w a },sk:=sk' }/\
  Kp p x { x with m:=AT x.m a true,t:=AT x.t (a / 16) { rv x.t (a / 16) with AJ:=(rv x.t (a / 16)).AJ + sz x.w a },sk:=sk' }:=by
 obtain⟨g1,Q,G,g4,g5,g6,g7,g8⟩:=H.g.inn (H.lb a hL);have a2:=H.ml;have M:=H.mp a3;have W:∀b,0<=b->mv (AT x.m a true) b = if b = a then true else mv x.m b:=λb hb=>Su Z Z hb
 have et:∀r,0<=r->rv (AT x.t (a / 16) { rv x.t (a / 16) with AJ:=(rv x.t (a / 16)).AJ + sz x.w a }) r = if r = a / 16 then { rv x.t (a / 16) with AJ:=(rv x.t (a / 16)).AJ + sz x.w a } else rv x.t r:=λr hr=>DA Z G hr
 have T:∀r,0<=r->(rv (AT x.t (a / 16) { rv x.t (a / 16) with AJ:=(rv x.t (a / 16)).AJ + sz x.w a }) r).kind = (rv x.t r).kind:=λr r0=>by
  rw[et r r0];split
  .subst r;rfl
  .rfl
 have es:∀r,0<=r->(rv (AT x.t (a / 16) { rv x.t (a / 16) with AJ:=(rv x.t (a / 16)).AJ + sz x.w a }) r).BA = (rv x.t r).BA:=λr r0=>by
  rw[et r r0];split
  .subst r;rfl
  .rfl
 have eo:∀r,0<=r->(rv (AT x.t (a / 16) { rv x.t (a / 16) with AJ:=(rv x.t (a / 16)).AJ + sz x.w a }) r).AX = (rv x.t r).AX:=λr r0=>by
  rw[et r r0];split
  .subst r;rfl
  .rfl
 have ep:∀r,0<=r->(rv (AT x.t (a / 16) { rv x.t (a / 16) with AJ:=(rv x.t (a / 16)).AJ + sz x.w a }) r).top = (rv x.t r).top:=λr r0=>by
  rw[et r r0];split
  .subst r;rfl
  .rfl
 have hf:∀b,BZ (AT x.t (a / 16) { rv x.t (a / 16) with AJ:=(rv x.t (a / 16)).AJ + sz x.w a }) b↔BZ x.t b:=λb=>⟨λh=>⟨h.1,by have:=h.1;have:=h.2;rw[T _ Z] at this;exact this⟩,λh=>⟨h.1,by have:=h.1;rw[T _ Z];exact h.2⟩⟩
 have tm:∀b,0<=b->X.tm { x with m:=AT x.m a true,t:=AT x.t (a / 16) { rv x.t (a / 16) with AJ:=(rv x.t (a / 16)).AJ + sz x.w a },sk:=sk' } b = x.tm b:=λb hb=>es (b / 16) Z
 have D:∀b,x.L b->0<=b:=λb h=>by have:=H.g.inn (H.lb b h);omega
 have B0:∀b,x.B b->0<=b:=λb h=>by have:=H.g.inn h;omega
 have lg:∀v,Lg x v->Lg { x with m:=AT x.m a true,t:=AT x.t (a / 16) { rv x.t (a / 16) with AJ:=(rv x.t (a / 16)).AJ + sz x.w a },sk:=sk' } v:=λv h=>by
  have ma:mv (AT x.m a true) a = true:=by rw[W a Z,if_pos rfl]
  rcases h with h | h | h | h | h
  .exact .inl h
  .by_cases c:0<=v
   .right;left;show mv (AT x.m a true) v = true;rw[W v c];split
    .rfl
    .exact h
   .right;left;show mv (AT x.m a true) v = true;unfold mv gv at h ⊢;unfold AT;rw[show v.toNat = 0 from Z] at h ⊢;rw[cH] at h ⊢;rw[List.getElem?_set_ne Z];exact h
  .rcases hs v h with h | h
   .exact .inr (.inr (.inl h))
   .subst h;exact .inr (.inl ma)
  .exact .inr (.inr (.inr (.inl h)))
  .exact .inr (.inr (.inr (.inr ⟨h.1,by rw[tm v h.1];exact h.2⟩)))
 have len:(AT x.t (a / 16) { rv x.t (a / 16) with AJ:=(rv x.t (a / 16)).AJ + sz x.w a }).length = x.t.length:=V
 have R:=H.g.ok.row (a / 16) Q G;have a0:(rv x.t (a / 16)).AJ + sz x.w a<=(rv x.t (a / 16)).top - 16 * (a / 16):=by
  have e:=PR (y:={ x with m:=AT x.m a true }) H hL hm rfl rfl (a / 16) Q G;rw[if_pos rfl,<- M.cov (a / 16) Q G] at e;rw[<- e];refine Zv (y:={ x with m:=AT x.m a true }) H rfl (λb O h=>?_) Q G;have h:mv (AT x.m a true) b = true:=h;rw[W b O] at h;by_cases c:b = a
  .subst c;exact hL
  .rw[if_neg c] at h;exact (H.mt b O h).1
 refine⟨⟨⟨by rw[len];exact H.g.len,?_,λb h=>?_,λb h=>?_,λr r0 r1=>?_,H.g.dj⟩,H.lb,H.rf,λb h hn=>H.st b h λc=>hn ((hf b).2 c),λb h K N=>?_,by simpa using a2,λb O h=>?_,H.ph,λhp r r0 hk=>H.nf hp r r0 (by rw[T r r0] at hk;exact hk),λhp=>absurd hp (by show ¬ 2<=x.ph;omega),λb h=>⟨(H.pl b h).1,λc=>(H.pl b h).2 ((hf b).1 c)⟩,λb h K=>?_,λh1 b h a5=>H.nb h1 b h (by rw[<- tm b (B0 b h)];exact a5),λh3=>absurd h3 (by show ¬ x.ph = 3;omega),λhp=>?_⟩,?_⟩
 .refine TOk.set H.g.ok Q G ⟨R.k0,R.k1,R.t0,R.t1,R.s0,R.s1,?_,a0,R.fr,R.ow,R.o0,R.o1⟩ λs s0 s1 N ho he=>N (H.g.ok.own s (a / 16) s0 s1 Q G (by rw[he];exact ho) he)
  have:=R.l0;show 0<=(rv x.t (a / 16)).AJ + sz x.w a;omega
 .rw[ep _ (by have:=B0 b h;omega)];exact H.g.at_ b h
 .rw[ep _ (by have:=B0 b h;omega)];exact H.g.nx b h
 .rw[ep r Z];exact H.g.bs r r0 (by rw[<- len];exact r1)
 .obtain⟨b1,b2,b3⟩:=H.fw b h ((hf b).1 K) N;exact⟨b1,λc=>b2 ((hf _).1 c),b3⟩
 .have h:mv (AT x.m a true) b = true:=h;rw[W b O] at h;rw[tm b O];by_cases c:b = a
  .subst c;exact⟨hL,ht⟩
  .rw[if_neg c] at h;exact H.mt b O h
 .show mv (AT x.m a true) b = true;rw[W b (D b h)];split
  .rfl
  .exact H.fm b h ((hf b).1 K)
 .refine⟨λv h=>M.sk v (a4 v h),M.old,λa6 h2 h3 b hb A=>M.mn a6 h2 (λc j hc a1 hy j0 j1 hq=>h3 c j hc (by rw[tm c (D c hc)];exact a1) hy j0 j1 hq) b hb (by rw[tm b (D b hb)] at A;exact A),λb h=>⟨(M.l0 b h).1,by rw[tm b (D b (M.l0 b h).1)];exact (M.l0 b h).2.1,lg _ (M.l0 b h).2.2⟩,λb j hb A j0 j1 hq=>?_,λb j hb A j0 j1=>(M.un b j hb (by rw[tm b (D b hb)] at A;exact A) j0 j1).imp id (lg _),λr r0 r1=>?_⟩
  .obtain⟨q1,q2⟩:=M.ql b j hb (by rw[tm b (D b hb)] at A;exact A) j0 j1 hq;exact⟨q1,by rw[tm _ (D _ q1)];exact q2⟩
  .have r1:r < x.t.length:=by rw[<- len];exact r1
   show (rv (AT x.t (a / 16) { rv x.t (a / 16) with AJ:=(rv x.t (a / 16)).AJ + sz x.w a }) r).AJ = _;refine Eq.trans ?_ (PR (y:={ x with m:=AT x.m a true,t:=AT x.t (a / 16) { rv x.t (a / 16) with AJ:=(rv x.t (a / 16)).AJ + sz x.w a },sk:=sk' }) H hL hm rfl rfl r r0 r1).symm;rw[et r Z];have:=M.cov r r0 r1;split
   .subst r;show (rv x.t (a / 16)).AJ + sz x.w a = _;omega
   .omega
 .exact⟨rfl,len,rfl,λ_ h=>h,λ_ h=>h,λ_ h _=>h,λr r0=>by rw[show (rv _ r).kind = (rv x.t r).kind from T r r0],es,λr r0 hk _=>⟨⟨by rw[show (rv _ r).kind = (rv x.t r).kind from T r r0];exact hk,eo r r0,ep r r0⟩,λ_ _ _=>rfl⟩,λ_ _=>rfl,λ_ _ _ _ _ _=>rfl,λ_ _ _=>rfl,λ_=>lg,rfl,λ_ _ _ h _ _ _ _=>⟨h,rfl⟩⟩
end Sm
end
section
namespace Sm
variable {P:List (List Op)}
theorem IG.cstep {S S' : Sim} {g g' : Gh} (I:IG P S g) (x:S'.th = S.th) (D:(S'.AZ,S'.c) = (S.AZ,S.c)) (H:Sh (xof S' g')) (K:Kp S.th.length (xof S g) (xof S' g')) (c1:S.Ae = 1->C1 (xof S' g') S'.col)
  (c2:S.Ae = 2->C2 (xof S' g') S.th.length S'.col) (c3:S.Ae = 3->C3 (xof S' g') S'.col) (wt:S'.stop = true->S'.full = false->Wt (xof S' g') S'.col.want):IG P S' g':=by
 have y:S'.AZ = S.AZ:=congrArg Prod.fst D;have G:S'.c = S.c:=congrArg Prod.snd D;have A:S'.Ae = S.Ae:=K.ph;refine⟨by rw[y];exact I.pg,H,by rw[x];exact I.n0,by rw[x];exact I.n1,by rw[x,y];exact I.pl,by rw[y];exact I.pp,λj u N=>?_,λh=>c1 (by rw[<- A];exact h),λh=>by rw[x];exact c2 (by rw[<- A];exact h),λh=>c3 (by rw[<- A];exact h),wt,by rw[G];exact I.rs⟩;rw[x] at N;have O:=OX N;have:S'.opOf j u = S.opOf j u:=by unfold Sim.opOf;rw[y]
 rw[this];exact (I.ti j u N).stable I.sh K Z
def GV (c:Col):Nat:=if c.pc = 2 then (c.sh.refs - c.i).toNat else 0
def mu (S:Sim):Nat:=3 * S.old.length + 2 * S.col.AR.length + 14 * S.AM.countP (λb=>!b) + 3 * GV S.col
section
variable {c:Nat} {S:Sim} {g:Gh}
theorem Xn {l:List Bool} {a:Int} (h0:0<=a) (j:a < l.length) (h:mv l a = false):(AT l a true).countP (λb=>!b) + 1 = l.countP (λb=>!b):=by
 have e:l[a.toNat]'(Z) = false:=by
  have:=GP (d:=false) (l:=l) (k:=a.toNat) Z;rw[<- this,show ((a.toNat:Nat):Int) = a from Z];exact h
 have x:0 < l.countP (λb=>!b):=List.countP_pos_iff.2 ⟨_,cK (by omega:a.toNat < l.length),by rw[e];rfl⟩;unfold AT;rw[List.countP_set (by omega:a.toNat < l.length),e];simp;omega
theorem C1.col {x:X} {c j : Col} (C:C1 x c) (h:j.pc = c.pc) (y:j.p = c.p) (D:j.sh = c.sh) (A:j.i = c.i):C1 x j:=by
 refine⟨by rw[h];exact C.pc,by rw[h,y,D,A];exact C.p2,?_⟩;rw[h,y,A];exact C.sc
theorem TS (hc:c < 900000) (I:IG P S g) (B:Bd c S) (A:S.Ae = 1) (hp:S.col.pc = 1):∃S',S.mark = some S'/\IG P S' g/\Bd c S'/\S'.Ae = 1/\(S'.AI = S.AI/\S'.th = S.th)/\S'.full = S.full/\((S'.stop = true/\S.col.AR = []/\S.old = [])\/(mu S' < mu S/\S'.stop = S.stop/\S'.col.want = S.col.want)):=by
 have M:=I.sh.mp A;have C:=I.c1 A;have hz:=I.szok rfl B hc;have a9:=I.wl;have N:∀{S' : Sim} {g'},Kp S.th.length (xof S g) (xof S' g')->S'.stop = S.stop->S'.full = S.full->S'.col.want = S.col.want->S'.stop = true->S'.full = false->Wt (xof S' g') S'.col.want:=λK e1 e2 e3 h h'=>by
  rw[e3];exact (I.wt (by rw[<- e1];exact h) (by rw[<- e2];exact h')).stable I.sh K
 unfold Sim.mark;rw[hz,if_neg δ];rcases List.eq_nil_or_concat S.col.AR with y | ⟨l,a,y⟩
 .rw[if_pos (by rw[y];rfl)];have a7:S.old = []\/∃a l,S.old = a :: l:=by cases S.old<;>simp
  rcases a7 with hold | ⟨a,l,hold⟩
  .refine⟨{ S with stop:=true,col:={ S.col with want:=2 } },by rw[hold],?_,⟨B.ev,B.old,B.cy,B.fu,B.st,B.pn⟩,A,⟨rfl,rfl⟩,rfl,.inl ⟨rfl,y,hold⟩⟩;exact I.cstep (g':=g) (S':={ S with stop:=true,col:={ S.col with want:=2 } }) rfl rfl I.sh (Kp.refl _ _) (λ_=>C.col rfl rfl rfl rfl) (λh=>Z) (λh=>Z) (λ_ _=>.inr (.inl ⟨A,rfl⟩))
  .obtain⟨H,K⟩:=X8 (p:=S.th.length) (sk':=[a]) (old':=l) I.sh (λv x=>by
    simp only[cZ] at x;subst x;exact M.old v (by show v∈S.old;rw[hold];simp)) (λv x=>M.old v (by show v∈S.old;rw[hold];simp[x])) (λv x=>by
    rcases x with x | x
    .have x:v∈S.col.AR:=x
     rw[y] at x;cases x
    .have x:v∈S.old:=x
     rw[hold] at x
     rcases cU.1 x with h | h
     .exact .inr (.inr (.inl (by simp[h])))
     .exact .inr (.inr (.inr (.inl h))))
   have bs:=B.st;rw[y,hold] at bs;refine⟨{ S with old:=l,col:={ S.col with AR:=[a] } },by rw[hold],?_,⟨B.ev,?_,B.cy,B.fu,?_,B.pn⟩,A,⟨rfl,rfl⟩,rfl,.inr ⟨?_,rfl,rfl⟩⟩
   .exact I.cstep (g':=g) (S':={ S with old:=l,col:={ S.col with AR:=[a] } }) rfl rfl H K (λ_=>(C.stable I.sh K rfl A).col rfl rfl rfl rfl) (λh=>Z) (λh=>Z) (N K rfl rfl rfl)
   .have:=B.old;rw[hold] at this;simp at this;show l.length<=c;omega
   .show [a].length + l.length + 5 * S.AM.countP (λb=>!b) + (if S.col.pc = 2 then (S.col.sh.refs - S.col.i).toNat else 0)<=3000 + c;simp only[dc,cS] at bs ⊢;omega
   .show 3 * l.length + 2 * [a].length + 14 * S.AM.countP (λb=>!b) + 3 * GV { S.col with AR:=[a] } < 3 * S.old.length + 2 * S.col.AR.length + 14 * S.AM.countP (λb=>!b) + 3 * GV S.col;rw[y,hold];have:GV { S.col with AR:=[a] } = GV S.col:=rfl;rw[this];simp;omega
 .rw[List.concat_eq_append] at y;rw[if_neg (by rw[y];simp)];simp only[cP];have e1:S.col.AR.getLast? = some a:=by rw[y];simp
  have e2:S.col.AR.dropLast = l:=by rw[y];simp
  have hL:g.L a:=M.sk a (by show a∈S.col.AR;rw[y];simp);have O:∀v∈l,v∈S.col.AR:=λv x=>by rw[y];simp[x]
  have T:∀v∈S.col.AR,v∈l\/v = a:=λv x=>by rw[y] at x;simpa using x
  obtain⟨a1,a2,a3,a4,a5,a6⟩:=I.in_ hL;have a8:S.AM.length = S.AC.length:=I.sh.ml;have bs:=B.st;rw[y,hp,if_neg δ] at bs;simp only[cJ,cr] at bs;have W:mu S = 3 * S.old.length + 2 * (l.length + 1) + 14 * S.AM.countP (λb=>!b):=by
   unfold mu GV;rw[y,hp,if_neg δ];simp
  rw[e1,e2];simp only[z_o];rw[Be Z,Cm Z a3];simp only[z_o];have G:∀(b:a < (rv S.AA (a / 16)).BA->mv S.AM a = true),∃S',some (S.setC { S.col with AR:=l }) = some S'/\IG P S' g/\Bd c S'/\S'.Ae = 1/\(S'.AI = S.AI/\S'.th = S.th)/\S'.full = S.full/\((S'.stop = true/\S.col.AR = []/\S.old = [])\/(mu S' < mu S/\S'.stop = S.stop/\S'.col.want = S.col.want)):=λb=>by
   obtain⟨H,K⟩:=X8 (p:=S.th.length) (sk':=l) (old':=S.old) I.sh (λv x=>M.sk v (O v x)) M.old (λv x=>by
    rcases x with x | x
    .rcases T v x with h | h
     .exact .inr (.inr (.inl h))
     .subst h
      by_cases c:v < (rv S.AA (v / 16)).BA
      .exact .inr (.inl (b c))
      .exact .inr (.inr (.inr (.inr ⟨Z,by show (rv S.AA (v / 16)).BA<=v;omega⟩)))
    .exact .inr (.inr (.inr (.inl x))))
   refine⟨_,rfl,?_,⟨B.ev,B.old,B.cy,B.fu,?_,B.pn⟩,A,⟨rfl,rfl⟩,rfl,.inr ⟨?_,rfl,rfl⟩⟩
   .exact I.cstep (g':=g) (S':=S.setC { S.col with AR:=l }) rfl rfl H K (λ_=>(C.stable I.sh K rfl A).col rfl rfl rfl rfl) (λh=>Z) (λh=>Z) (N K rfl rfl rfl)
   .show l.length + S.old.length + 5 * S.AM.countP (λb=>!b) + (if S.col.pc = 2 then (S.col.sh.refs - S.col.i).toNat else 0)<=3000 + c;rw[hp,if_neg δ];omega
   .rw[W];show 3 * S.old.length + 2 * l.length + 14 * S.AM.countP (λb=>!b) + 3 * GV { S.col with AR:=l } < _;have:GV { S.col with AR:=l } = 0:=by unfold GV;rw[if_neg (by show ¬ S.col.pc = 2;omega)]
    rw[this];omega
  by_cases D:a < (rv S.AA (a / 16)).BA
  .rw[if_pos D,S5 Z Z];simp only[z_o];cases hm:mv S.AM a with
   | true=>
    simp only[fW,d8,if_false];exact G λ_=>hm
   | false=>
    simp only[Bool.not_false,if_true];rw[BQ Z Z];simp only[z_o];rw[CX Z (by show _ < (S.AC.length:Int);omega)];simp only[z_o];obtain⟨H,K⟩:=am (p:=S.th.length) (sk':=l) I.sh A hL D hm T O;have R:=I.sh.g.ok.row (a / 16) a2 a3;have l0:=R.l0;have l1:=R.l1;have t0:=R.t1;have es:(AS (wv S.AC (a + 1))).1 = shp S.AC a:=rfl;have a0:AG (shp S.AC a) = sz S.AC a:=rfl;have sb:=Ft S.AC a;rw[es,a0,BQ (by simp only at l0;omega) (by simp only at l0 l1 t0;omega)];simp only[z_o];have Q:(if (if 0 < (shp S.AC a).refs then 2 else S.col.pc) = 2 then ((shp S.AC a).refs - 0).toNat else 0)<=4:=by
     by_cases c:0 < (shp S.AC a).refs
     .rw[if_pos c,if_pos rfl];omega
     .rw[if_neg c,if_neg Z];omega
    have hu:=Xn (l:=S.AM) (a:=a) Z Z hm;refine⟨_,rfl,?_,⟨B.ev,B.old,B.cy,B.fu,?_,B.pn⟩,A,⟨rfl,rfl⟩,rfl,.inr ⟨?_,rfl,rfl⟩⟩
    .refine I.cstep (g':=g) (S':={ S with used:=true,AM:=AT S.AM a true,AA:=AT S.AA (a / 16) { rv S.AA (a / 16) with AJ:=(rv S.AA (a / 16)).AJ + sz S.AC a },col:={ S.col with AR:=l,p:=a,i:=0,sh:=shp S.AC a,pc:=if 0 < (shp S.AC a).refs then 2 else S.col.pc } }) rfl rfl H K (λ_=>?_) (λh=>Z) (λh=>Z) (N K rfl rfl rfl);have em:∀b,0<=b->mv (AT S.AM a true) b = if b = a then true else mv S.AM b:=λb hb=>Su Z Z hb
     refine⟨?_,λh=>?_,λb j b0 hb j0 j1=>?_⟩
     .show (if 0 < (shp S.AC a).refs then 2 else S.col.pc) = 1\/(if 0 < (shp S.AC a).refs then 2 else S.col.pc) = 2;split
      .exact .inr rfl
      .exact .inl hp
     .have h:(if 0 < (shp S.AC a).refs then 2 else S.col.pc) = 2:=h;refine⟨?_,by show 0<=a;omega,rfl,dB 0,?_⟩
      .show mv (AT S.AM a true) a = true;rw[em a Z,if_pos rfl]
      .show 0 < (shp S.AC a).refs;by_cases c:0 < (shp S.AC a).refs
       .exact c
       .rw[if_neg c] at h;omega
     .have hb:mv (AT S.AM a true) b = true:=hb;rw[em b b0] at hb;by_cases c:b = a
      .subst c;left;have j1:j < (shp S.AC b).refs:=j1;refine⟨?_,rfl,j0⟩;show (if 0 < (shp S.AC b).refs then 2 else S.col.pc) = 2;rw[if_pos Z]
      .rw[if_neg c] at hb;right;rcases C.sc b j b0 hb j0 j1 with h | h
       .omega
       .exact K.lg A _ h
    .show l.length + S.old.length + 5 * (AT S.AM a true).countP (λb=>!b) + (if (if 0 < (shp S.AC a).refs then 2 else S.col.pc) = 2 then ((shp S.AC a).refs - 0).toNat else 0)<=3000 + c;omega
    .rw[W];show 3 * S.old.length + 2 * l.length + 14 * (AT S.AM a true).countP (λb=>!b) + 3 * GV _ < _;have:GV { S.col with AR:=l,p:=a,i:=0,sh:=shp S.AC a,pc:=if 0 < (shp S.AC a).refs then 2 else S.col.pc }<=4:=by
      unfold GV;exact Q
     refine Nat.lt_of_le_of_lt (Nat.add_le_add_left (Nat.mul_le_mul_left 3 this) _) ?_;omega
  .rw[if_neg D];simp only[z_o,d8,if_false];exact G λh=>absurd h D
theorem TC (hc:c < 900000) (I:IG P S g) (B:Bd c S) (D:S.Ae = 1) (A:S.col.pc = 2):∃S',S.look = some S'/\IG P S' g/\Bd c S'/\S'.Ae = 1/\(S'.AI = S.AI/\S'.th = S.th)/\S'.full = S.full/\S'.used = true/\mu S' < mu S/\S'.stop = S.stop/\S'.col.want = S.col.want:=by
 have M:=I.sh.mp D;have C:=I.c1 D;have hz:=I.szok rfl B hc;have a0:=I.wl;obtain⟨p1,p0,x,N,y⟩:=C.p2 A;obtain⟨O,R⟩:=I.sh.mt S.col.p p0 p1;obtain⟨a1,a2,a3,a4,a5,a6⟩:=I.in_ O;have sb:=Ft S.AC S.col.p;have x:S.col.sh = shp S.AC S.col.p:=x;rw[x] at y;unfold Sim.look;rw[hz,if_neg δ];simp only[cP];rw[BQ Z Z];simp only[z_o];rw[BQ Z Z];simp only[z_o];rw[CX Z Z];simp only[z_o];rw[BQ Z Z];simp only[z_o];have hv:=I.sh.rf S.col.p S.col.i O N y;have Q:∀v∈S.col.AR,v∈(if wv S.AC (S.col.p + 2 + S.col.i)≠0 then S.col.AR ++ [wv S.AC (S.col.p + 2 + S.col.i)] else S.col.AR):=λv h=>by
  split
  .exact dC _ h
  .exact h
 obtain⟨H,K⟩:=X8 (p:=S.th.length) (sk':=if wv S.AC (S.col.p + 2 + S.col.i)≠0 then S.col.AR ++ [wv S.AC (S.col.p + 2 + S.col.i)] else S.col.AR) (old':=S.old) I.sh (λv h=>by
  split at h
  .rcases cm.1 h with h | h
   .exact M.sk v h
   .simp only[cZ] at h;subst h;exact hv (by assumption)
  .exact M.sk v h) M.old (λv h=>by
  rcases h with h | h
  .exact .inr (.inr (.inl (Q v h)))
  .exact .inr (.inr (.inr (.inl h))))
 have bs:=B.st;rw[A,if_pos rfl,x] at bs;have hlen:(if wv S.AC (S.col.p + 2 + S.col.i)≠0 then S.col.AR ++ [wv S.AC (S.col.p + 2 + S.col.i)] else S.col.AR).length<=S.col.AR.length + 1:=by split<;>simp
 have W:GV { S.col with AR:=if wv S.AC (S.col.p + 2 + S.col.i)≠0 then S.col.AR ++ [wv S.AC (S.col.p + 2 + S.col.i)] else S.col.AR,i:=S.col.i + 1,pc:=if S.col.i + 1 = S.col.sh.refs then 1 else S.col.pc } + 1<=((shp S.AC S.col.p).refs - S.col.i).toNat:=by
  unfold GV;show (if (if S.col.i + 1 = S.col.sh.refs then 1 else S.col.pc) = 2 then (S.col.sh.refs - (S.col.i + 1)).toNat else 0) + 1<=_;rw[x];by_cases c:S.col.i + 1 = (shp S.AC S.col.p).refs
  .rw[if_pos c,if_neg δ];omega
  .rw[if_neg c,if_pos A];omega
 refine⟨_,rfl,?_,⟨B.ev,B.old,B.cy,B.fu,?_,B.pn⟩,D,⟨rfl,rfl⟩,rfl,rfl,?_,rfl,rfl⟩
 .refine I.cstep (g':=g) (S':=({ S with used:=true }:Sim).setC { S.col with AR:=if wv S.AC (S.col.p + 2 + S.col.i)≠0 then S.col.AR ++ [wv S.AC (S.col.p + 2 + S.col.i)] else S.col.AR,i:=S.col.i + 1,pc:=if S.col.i + 1 = S.col.sh.refs then 1 else S.col.pc }) rfl rfl H K (λ_=>?_) (λh=>Z) (λh=>Z) (λh h'=>(I.wt h h').stable I.sh K);refine⟨?_,λh=>?_,λb j b0 hb j0 T=>?_⟩
  .show (if S.col.i + 1 = S.col.sh.refs then 1 else S.col.pc) = 1\/(if S.col.i + 1 = S.col.sh.refs then 1 else S.col.pc) = 2;split
   .exact .inl rfl
   .exact .inr A
  .have h:(if S.col.i + 1 = S.col.sh.refs then 1 else S.col.pc) = 2:=h;refine⟨p1,p0,x,by show 0<=S.col.i + 1;omega,?_⟩;show S.col.i + 1 < S.col.sh.refs;by_cases c:S.col.i + 1 = S.col.sh.refs
   .rw[if_pos c] at h;cases h
   .rw[x] at c ⊢;omega
  .have T:j < (shp S.AC b).refs:=T;rcases C.sc b j b0 hb j0 T with ⟨_,h2,h3⟩ | h
   .subst h2;by_cases c:j = S.col.i
    .subst c;right;rcases M.un S.col.p S.col.i O R N y with h | h
     .show Lg _ (g.q (S.col.p + 2 + S.col.i));have h:wv S.AC (S.col.p + 2 + S.col.i) = g.q (S.col.p + 2 + S.col.i):=h;rw[<- h];by_cases G:wv S.AC (S.col.p + 2 + S.col.i) = 0
      .exact .inl G
      .refine .inr (.inr (.inl ?_));show _∈(if wv S.AC (S.col.p + 2 + S.col.i)≠0 then S.col.AR ++ [wv S.AC (S.col.p + 2 + S.col.i)] else S.col.AR);rw[if_pos G];simp
     .exact K.lg D _ h
    .left;refine⟨?_,rfl,by show S.col.i + 1<=j;omega⟩;show (if S.col.i + 1 = S.col.sh.refs then 1 else S.col.pc) = 2;rw[if_neg (by rw[x];omega)];exact A
   .exact .inr (K.lg D _ h)
 .show (if wv S.AC (S.col.p + 2 + S.col.i)≠0 then S.col.AR ++ [wv S.AC (S.col.p + 2 + S.col.i)] else S.col.AR).length + S.old.length + 5 * S.AM.countP (λb=>!b) + GV { S.col with AR:=if wv S.AC (S.col.p + 2 + S.col.i)≠0 then S.col.AR ++ [wv S.AC (S.col.p + 2 + S.col.i)] else S.col.AR,i:=S.col.i + 1,pc:=if S.col.i + 1 = S.col.sh.refs then 1 else S.col.pc }<=3000 + c;omega
 .have e:mu S = 3 * S.old.length + 2 * S.col.AR.length + 14 * S.AM.countP (λb=>!b) + 3 * ((shp S.AC S.col.p).refs - S.col.i).toNat:=by
   unfold mu GV;rw[A,if_pos rfl,x]
  rw[e];show 3 * S.old.length + 2 * (if wv S.AC (S.col.p + 2 + S.col.i)≠0 then S.col.AR ++ [wv S.AC (S.col.p + 2 + S.col.i)] else S.col.AR).length + 14 * S.AM.countP (λb=>!b) + 3 * GV { S.col with AR:=if wv S.AC (S.col.p + 2 + S.col.i)≠0 then S.col.AR ++ [wv S.AC (S.col.p + 2 + S.col.i)] else S.col.AR,i:=S.col.i + 1,pc:=if S.col.i + 1 = S.col.sh.refs then 1 else S.col.pc } < _;omega
end
end Sm
end
section
namespace Sm
variable {P:List (List Op)}
theorem Qm {m:List Bool} {row:Rg}:∀(n:Nat) (p:Int),0<=p->row.top - p < n->0 < n->row.top<=m.length->∃q,Jf m row n p = some q/\p<=q/\(row.kind = 4->q < row.top->mv m q = true)/\(row.kind = 4->∀a,p<=a->a < q->mv m a = false)/\(row.kind≠4->q = p)/\(q = p\/q<=row.top):=by
 intro n;induction n with
 | zero=>intro p _ _ h;omega
 | succ n K=>
  intro p p0 h _ G;unfold Jf;by_cases c:row.kind = 4/\p < row.top
  .rw[if_pos c,S5 p0 Z];simp only[cP,z_o];cases A:mv m p with
   | true=>
    simp only[if_true];exact⟨p,rfl,dB p,λ_ _=>A,λ_ a y x=>Z,λ_=>rfl,.inl rfl⟩
   | false=>
    simp only[d8,if_false];obtain⟨q,e,y,x,D,N,O⟩:=K (p + 1) Z Z Z G;refine⟨q,e,Z,x,λj a Q hb=>?_,λj=>absurd c.1 j,.inr Z⟩;by_cases d:a = p
    .subst d;exact A
    .exact D j a Z hb
  .rw[if_neg c];exact⟨p,rfl,dB p,λj H=>absurd ⟨j,H⟩ c,λ_ a y x=>Z,λ_=>rfl,.inl rfl⟩
theorem Om {S:Sim} (T:TOk S.AA) (hl:(S.AC.length:Int) = 16 * S.AA.length) (a0:S.AM.length = S.AC.length):∀(n:Nat) (r p:Int),1<=r->r<=S.AA.length->16 * r<=p->p<=16 * r + 16->S.AA.length - r < n->
  ∃j x,S.walkOut n r p = some (j,x)/\1<=j/\j<=S.AA.length/\16 * j<=x/\x<=16 * j + 16/\p<=x/\(∀a,BZ S.AA a->p<=a->a < x->a < (rv S.AA (a / 16)).top->mv S.AM a = false)/\(j < S.AA.length->(rv S.AA j).kind = 4/\x < (rv S.AA j).top/\mv S.AM x = true):=by
 intro n;induction n with
 | zero=>intro r p _ _ _ _ h;omega
 | succ n ih=>
  intro r p r0 r1 p0 p1 hn;unfold Sim.walkOut;by_cases c:r < S.AA.length
  .have R:=T.row r r0 c;have R0:=R.t0;have R1:=R.t1;rw[if_pos c,Cm Z c];simp only[cP,z_o];obtain⟨q,e,G,H,K,h4,h5⟩:=Qm (m:=S.AM) (row:=rv S.AA r) 20 p Z Z Z Z;rw[e];simp only[z_o];have q1:q<=16 * r + 16:=Z
   by_cases d:(rv S.AA r).kind = 4/\q < (rv S.AA r).top
   .rw[if_pos d];refine⟨r,q,rfl,r0,r1,Z,q1,G,λa A y hb _=>K d.1 a y hb,λ_=>⟨d.1,d.2,H d.1 d.2⟩⟩
   .rw[if_neg d,show (r + 1) * 16 = 16 * (r + 1) from Z];obtain⟨j,x,e',g1,g2,g3,g4,g5,g6,g7⟩:=ih (r + 1) (16 * (r + 1)) Z Z Z Z Z;refine⟨j,x,e',g1,g2,g3,g4,Z,λa A y hb O=>?_,g7⟩;by_cases Q:16 * (r + 1)<=a
    .exact g6 a A Q hb O
    .have D:a / 16 = r:=Z
     rw[D] at O;have N:(rv S.AA r).kind = 4:=by have:=A.2;rw[D] at this;exact this
     by_cases W:a < q
     .exact K N a y W
     .exfalso;exact d ⟨N,Z⟩
  .rw[if_neg c];exact⟨r,p,rfl,r0,r1,p0,p1,dB p,λa _ G H=>Z,λh=>absurd h c⟩
section
variable {c:Nat} {S:Sim} {g:Gh}
theorem Xr (I:IG P S g) (B:Bd c S) (D:S.Ae = 2) (T:S.col.pc = 5):∃S',S.walk = some S'/\IG P S' g/\Bd c S'/\S'.Ae = 2/\(S'.stop = true\/S'.used = true):=by
 have C:=I.c2 D;have a8:=I.wl;have hl:(S.AC.length:Int) = 16 * S.AA.length:=I.sh.g.len;have O:S.AM.length = S.AC.length:=I.sh.ml;have a0:S.col.r<=S.AA.length:=C.r1;obtain⟨r,p,e,r0,r1,p0,p1,a7,R,N⟩:=Om I.sh.g.ok hl O (S.AA.length + 2) S.col.r S.col.p C.r0 C.r1 C.p0 C.p1 (by have:=C.r0;omega);have G:∀a,g.L a->BZ S.AA a->a < p->wv S.AC a≠a:=λa A y j=>by
  by_cases d:a < S.col.p
  .rcases C.wk a A y d with h | ⟨h,_⟩
   .exact h
   .exact absurd T h
  .exfalso;have h1:=R a y Z j (by have:=I.sh.g.inn (I.sh.lb a A);simp only at this;omega);have D:mv S.AM a = true:=I.sh.fm a A y;rw[h1] at D;cases D
 unfold Sim.walk;simp only[cP];rw[e];simp only[z_o];by_cases d:r = S.AA.length
 .rw[if_pos d];refine⟨_,rfl,?_,⟨B.ev,B.old,B.cy,B.fu,?_,B.pn⟩,D,.inl rfl⟩
  .refine I.cstep (g':=g) (S':={ S with stop:=true,col:={ S.col with r:=r,p:=p,want:=3 } }) rfl rfl I.sh (Kp.refl _ _) (λh=>Z) (λ_=>⟨r0,r1,p0,p1,λa A y j=>.inl (G a A y j),.inl T⟩) (λh=>Z) (λ_ _=>.inr (.inr (.inl ⟨D,rfl,λa A y=>?_⟩)));have:=I.in_ A;exact G a A y Z
  .exact B.st
 .rw[if_neg d];obtain⟨k4,pt,pm⟩:=N Z;obtain⟨hL,_⟩:=I.sh.mt p Z pm;obtain⟨a1,a2,a3,a4,a5,a6⟩:=I.in_ hL;have R1:=(I.sh.g.ok.row r r0 (by simp only;omega)).t1;simp only at R1;have er:p / 16 = r:=Z
  have y:BZ S.AA p:=⟨Z,by rw[er];exact k4⟩;rw[BQ Z Z];simp only[z_o];rw[CX Z Z];simp only[z_o];have H:∀x : Col,(x = { S.col with r:=r,p:=p + 1 }/\wv S.AC p≠p)\/x = { S.col with r:=r,p:=p + 1,src:=p,pc:=20 }->IG P (({ S with used:=true }:Sim).setC x) g/\Bd c (({ S with used:=true }:Sim).setC x):=λx h=>by
   rcases h with ⟨rfl,Q⟩ | rfl
   .refine⟨I.cstep (g':=g) (S':=({ S with used:=true }:Sim).setC { S.col with r:=r,p:=p + 1 }) rfl rfl I.sh (Kp.refl _ _) (λh=>Z) (λ_=>⟨r0,r1,by show 16 * r<=p + 1;omega,by show p + 1<=16 * r + 16;omega,λa A y j=>.inl ?_,.inl T⟩) (λh=>Z) (λh K=>I.wt h K),⟨B.ev,B.old,B.cy,B.fu,B.st,B.pn⟩⟩;by_cases c2:a = p
    .subst c2;exact Q
    .exact G a A y (by have j:a < p + 1:=j;omega)
   .refine⟨I.cstep (g':=g) (S':=({ S with used:=true }:Sim).setC { S.col with r:=r,p:=p + 1,src:=p,pc:=20 }) rfl rfl I.sh (Kp.refl _ _) (λh=>Z) (λ_=>⟨r0,r1,by show 16 * r<=p + 1;omega,by show p + 1<=16 * r + 16;omega,λa A y j=>?_,.inr (Cp.start hL y D)⟩) (λh=>Z) (λh K=>I.wt h K),⟨B.ev,B.old,B.cy,B.fu,?_,B.pn⟩⟩
    .by_cases c2:a = p
     .right;exact⟨by show (20:Int)≠5;decide,c2⟩
     .left;exact G a A y (by have j:a < p + 1:=j;omega)
    .have:=B.st;show S.col.AR.length + S.old.length + 5 * S.AM.countP (λb=>!b) + (if (20:Int) = 2 then _ else 0)<=3000 + c;rw[if_neg δ];omega
  split
  .obtain⟨k1,W⟩:=H _ (.inr rfl);exact⟨_,rfl,k1,W,D,.inr rfl⟩
  .obtain⟨k1,W⟩:=H _ (.inl ⟨rfl,by assumption⟩);exact⟨_,rfl,k1,W,D,.inr rfl⟩
theorem Wo (I:IG P S g) (B:Bd c S) (j:S.Ae = 2) (hp:S.col.pc≠5):∃S' g',S.carry = some S'/\IG P S' g'/\Bd c S'/\S'.Ae = 2/\(S'.stop = true\/S'.used = true):=by
 have C:=I.c2 j;have b1:=I.wl;have b0:=I.n1;rcases C.pc with h | cp
 .exact absurd h hp
 have p:=cp.p;obtain⟨a1,a2,a3,a4,a5,a6⟩:=I.in_ cp.ls;have D:=B.usd true;have bs:S.col.AR.length + S.old.length + 5 * S.AM.countP (λb=>!b)<=3000 + c:=by have:=B.st;omega
 have wk:∀{y:X},Kp S.th.length (xof S g) y->∀a,y.L a->BZ y.t a->a < S.col.p->a≠S.col.src->wv y.w a≠a:=λK a ha hf x a0=>by
  have hL:=K.lf a ha hf;rcases C.wk a hL (K.frm.1 hf) x with d | d
  .rw[K.fwd a (I.sh.lb _ hL) d];exact d
  .exact absurd d.2 a0
 have stay:∀{S1:Sim} {g' : Gh} {col' : Col},S1.th = S.th->(S1.AZ,S1.c) = (S.AZ,S.c)->S1.stop = S.stop->S1.full = S.full->Bd c S1->S1.col = S.col->S1.Ae = 2->Sh (xof (S1.setC col') g')->Kp S.th.length (xof S g) (xof (S1.setC col') g')->col'.r = S.col.r->col'.p = S.col.p->col'.AR = S.col.AR->col'.want = S.col.want->
   ((col'.src = S.col.src/\Cp (xof (S1.setC col') g') S.th.length col'.src col'.dst col'.size col'.i col'.word col'.pc)\/(col'.pc = 5/\wv S1.AC S.col.src≠S.col.src))->IG P (S1.setC col') g'/\Bd c (S1.setC col'):=λ{S1 g' col'} e1 e2 e3 e4 D e5 e6 H K q1 q2 q3 q4 hc=>by
  refine⟨I.cstep (g':=g') (S':=S1.setC col') e1 e2 H K (λh=>Z) (λ_=>?_) (λh=>Z) (λh h'=>?_),⟨D.ev,D.old,D.cy,D.fu,?_,D.pn⟩⟩
  .refine⟨by show 1<=col'.r;rw[q1];exact C.r0,by show col'.r<=_;rw[q1,K.tl];exact C.r1,by show 16 * col'.r<=col'.p;rw[q1,q2];exact C.p0,by show col'.p<=16 * col'.r + 16;rw[q1,q2];exact C.p1,λa ha hf x=>?_,?_⟩
   .have x:a < col'.p:=x;rw[q2] at x;by_cases c2:a = S.col.src
    .rcases hc with ⟨h1,Q⟩ | ⟨h1,Q⟩
     .right;have:=Q.p;exact⟨by show col'.pc≠5;omega,by show a = col'.src;rw[h1,c2]⟩
     .left;subst c2;exact Q
    .left;exact wk K a ha hf x c2
   .rcases hc with ⟨h1,Q⟩ | ⟨h1,Q⟩
    .exact .inr Q
    .exact .inl h1
  .show Wt (xof (S1.setC col') g') col'.want;rw[q4];exact (I.wt (by rw[<- e3];exact h) (by rw[<- e4];exact h')).stable I.sh K
  .have a9:col'.pc≠2:=by
    rcases hc with ⟨h1,Q⟩ | ⟨h1,Q⟩
    .have:=Q.p;omega
    .omega
   have:=D.st;show col'.AR.length + S1.old.length + 5 * S1.AM.countP (λb=>!b) + (if col'.pc = 2 then _ else 0)<=3000 + c;rw[if_neg a9,q3,<- e5];omega
 unfold Sim.carry;by_cases a7:S.col.pc = 20
 .simp only[cP];rw[if_pos a7,BQ Z Z];simp only[z_o];rw[CX Z Z];simp only[z_o];have es:AG (AS (wv S.AC (S.col.src + 1))).1 = sz S.AC S.col.src:=rfl;rw[es];rcases G6 (o:=(S.th.length:Int)) (size:=sz S.AC S.col.src) I.sh.g.ok Z Z Z Z with h | ⟨t',d,h,R⟩
  .have h' : BY S.AA S.th.length (sz S.AC S.col.src) = none:=h;simp only[h'];refine⟨_,g,rfl,I.cstep (g':=g) (S':={ S with used:=true,full:=true,stop:=true }) rfl rfl I.sh (Kp.refl _ _) (λh=>Z) (λ_=>C) (λh=>Z) (λ_ h=>by cases h),⟨B.ev,B.old,B.cy,B.fu,B.st,B.pn⟩,j,.inl rfl⟩
  .have h' : BY S.AA S.th.length (sz S.AC S.col.src) = some (t',d):=h;simp only[h'];obtain⟨T,K,C'⟩:=aU (word:=S.col.word) I.sh cp.ls cp.fs cp.p2 R;obtain⟨k1,A⟩:=stay (S1:={ S with used:=true,AA:=t' }) (g':=g) (col':={ S.col with size:=sz S.AC S.col.src,dst:=d,i:=1,pc:=21 }) rfl rfl rfl rfl ⟨B.ev,B.old,B.cy,B.fu,B.st,B.pn⟩ rfl j T K rfl rfl rfl rfl (.inl ⟨rfl,C'⟩);exact⟨_,g,rfl,k1,A,j,.inr rfl⟩
 simp only[cP];rw[if_neg a7];have j0:=cp.i0 Z;have hs:=cp.sz Z;have O:=cp.ow Z;have ow:=O.wl I.sh.g;have d0:=O.d0;simp only at hs ow;by_cases G:S.col.pc = 21
 .rw[if_pos G];have j1:=cp.i1 (.inl G);rw[BQ Z Z];simp only[z_o];rw[CX Z Z];simp only[z_o];rw[G] at cp;obtain⟨k1,A⟩:=stay (S1:={ S with used:=true }) (g':=g) (col':={ S.col with word:=wv S.AC (S.col.src + S.col.i),pc:=22 }) rfl rfl rfl rfl D rfl j I.sh (Kp.refl _ _) rfl rfl rfl rfl (.inl ⟨rfl,ay cp⟩);exact⟨_,g,rfl,k1,A,j,.inr rfl⟩
 rw[if_neg G];by_cases N:S.col.pc = 22
 .rw[if_pos N];have j1:=cp.i1 (.inr N);rw[BQ Z Z];simp only[z_o];rw[DK Z Z];simp only[z_o];rw[BQ Z Z];simp only[z_o];rw[N] at cp;obtain⟨T,K,C'⟩:=al I.sh cp;obtain⟨k1,A⟩:=stay (S1:={ S with used:=true,AC:=AT S.AC (S.col.dst + S.col.i) S.col.word }) (g':=g) (col':={ S.col with i:=S.col.i + 1,pc:=if S.col.i + 1 = S.col.size then 23 else 21 }) rfl rfl rfl rfl ⟨B.ev,B.old,B.cy,B.fu,B.st,B.pn⟩ rfl j T K rfl rfl rfl rfl (.inl ⟨rfl,C'⟩);exact⟨_,g,rfl,k1,A,j,.inr rfl⟩
 rw[if_neg N];by_cases W:S.col.pc = 23
 .rw[if_pos W];rw[DK Z Z];simp only[z_o];rw[W] at cp;obtain⟨T,K,C'⟩:=aZ I.sh cp;obtain⟨k1,A⟩:=stay (S1:={ S with used:=true,AC:=AT S.AC S.col.dst S.col.dst }) (g':=g) (col':={ S.col with pc:=24 }) rfl rfl rfl rfl ⟨B.ev,B.old,B.cy,B.fu,B.st,B.pn⟩ rfl j T K rfl rfl rfl rfl (.inl ⟨rfl,C'⟩);exact⟨_,g,rfl,k1,A,j,.inr rfl⟩
 rw[if_neg W,if_pos Z];have a8:S.col.pc = 24:=Z
 rw[a8] at cp;rw[CX Z Z];simp only[z_o];by_cases hw:wv S.AC S.col.src = S.col.src
 .rw[if_pos hw,DK (S:={ S with used:=true }) Z (by show _ < (S.AC.length:Int);omega)];simp only[z_o];obtain⟨T,K,nf,_,a0⟩:=azq I.sh cp hw;have inn:S.col.dst / 16 < S.AA.length:=O.inn;rw[WY (S:={ S with used:=true,AC:=AT S.AC S.col.src S.col.dst }) Z inn Z Z];simp only[z_o];obtain⟨k1,A⟩:=stay (S1:={ S with used:=true,AC:=AT S.AC S.col.src S.col.dst,AA:=AT S.AA (S.col.dst / 16) { rv S.AA (S.col.dst / 16) with top:=S.col.dst + S.col.size } }) (g':={ g with B:=λa=>g.B a\/a = S.col.dst,L:=λa=>g.L a\/a = S.col.dst }) (col':={ S.col with pc:=5 }) rfl rfl rfl rfl ⟨B.ev,B.old,B.cy,B.fu,B.st,B.pn⟩ rfl j T K rfl rfl rfl rfl (.inr ⟨rfl,by
   show wv (AT S.AC S.col.src S.col.dst) S.col.src≠S.col.src
   rw[Co Z Z Z,if_pos rfl];exact a0⟩)
  exact⟨_,_,rfl,k1,A,j,.inr rfl⟩
 .rw[if_neg hw];simp only[z_o];obtain⟨k1,A⟩:=stay (S1:={ S with used:=true }) (g':=g) (col':={ S.col with pc:=5 }) rfl rfl rfl rfl D rfl j I.sh (Kp.refl _ _) rfl rfl rfl rfl (.inr ⟨rfl,hw⟩);exact⟨_,g,rfl,k1,A,j,.inr rfl⟩
end
end Sm
end
section
namespace Sm
variable {P:List (List Op)}
theorem Ob {S:Sim} (T:TOk S.AA):∀(n:Nat) (r p:Int),1<=r->r<=S.AA.length->16 * r<=p->S.AA.length - r < n->
  ∃j x,S.renewTo n r p = some (j,x)/\1<=j/\j<=S.AA.length/\16 * j<=x/\((j = r/\x = p)\/x = 16 * j)/\(j < S.AA.length->(rv S.AA j).kind≠4/\x < 16 * j + (rv S.AA j).AJ)/\(∀a:Int,p<=a->a < 16 * (a / 16) + (rv S.AA (a / 16)).AJ->(rv S.AA (a / 16)).kind≠4->x<=a):=by
 intro n;induction n with
 | zero=>intro r p _ _ _ h;omega
 | succ n ih=>
  intro r p r0 r1 p0 hn;have n1:=T.n1;unfold Sim.renewTo;by_cases c:r < S.AA.length
  .have R:=T.row r r0 c;have R0:=R.t0;have R1:=R.t1;have R2:=R.l0;have R3:=R.l1;rw[if_pos c,Cm Z c];simp only[cP,z_o];rw[Bj Z Z,BQ Z Z];simp only[z_o];have y:((rv S.AA r).kind = 4\/16 * r + (rv S.AA r).AJ<=p)->∃j x,S.renewTo n (r + 1) ((r + 1) * 16) = some (j,x)/\1<=j/\j<=S.AA.length/\16 * j<=x/\((j = r/\x = p)\/x = 16 * j)/\(j < S.AA.length->(rv S.AA j).kind≠4/\x < 16 * j + (rv S.AA j).AJ)/\(∀a:Int,p<=a->a < 16 * (a / 16) + (rv S.AA (a / 16)).AJ->(rv S.AA (a / 16)).kind≠4->x<=a):=λhs=>by
    obtain⟨j,x,e,H,K,N,O,Q,W⟩:=ih (r + 1) ((r + 1) * 16) Z Z Z Z;refine⟨j,x,e,H,K,N,?_,Q,λa h1 D G=>W a ?_ D G⟩
    .rcases O with ⟨h1,D⟩ | h
     .right;omega
     .exact .inr h
    .by_cases d:a / 16 = r
     .rw[d] at D G;rcases hs with h | h
      .exact absurd h G
      .omega
     .omega
   by_cases A:(rv S.AA r).kind = 4
   .rw[if_pos A];simp only[z_o,if_true];exact y (.inl A)
   .rw[if_neg A];simp only[z_o,z_d];by_cases hl:16 * r + (rv S.AA r).AJ<=p
    .rw[if_pos hl];exact y (.inr hl)
    .rw[if_neg hl];exact⟨r,p,rfl,r0,r1,p0,.inl ⟨rfl,rfl⟩,λ_=>⟨A,Z⟩,λ_ h _ _=>h⟩
  .rw[if_neg c];exact⟨r,p,rfl,r0,r1,p0,.inl ⟨rfl,rfl⟩,λh=>absurd h c,λ_ h _ _=>h⟩
def MO (x:Col):Col:={ x with i:=x.i + 1,pc:=if x.i + 1 = x.sh.refs then 6 else 7 }
theorem O3 {x:X} {c:Col} (C:C3 x c) (R:7<=c.pc) (W:¬ BZ x.t (wv x.w (c.f + 2 + c.i))):C3 x (MO c):=by
 obtain⟨H,K,D,f4,N,O⟩:=C.f R;have A:((MO c).pc = 6/\c.i + 1 = c.sh.refs)\/((MO c).pc = 7/\c.i + 1≠c.sh.refs):=by
  show ((if c.i + 1 = c.sh.refs then (6:Int) else 7) = 6/\_)\/((if c.i + 1 = c.sh.refs then (6:Int) else 7) = 7/\_);by_cases h:c.i + 1 = c.sh.refs
  .rw[if_pos h];exact .inl ⟨rfl,h⟩
  .rw[if_neg h];exact .inr ⟨rfl,h⟩
 refine⟨Z,C.r0,C.r1,C.p0,C.at_,λh=>?_,λh=>Z,λh=>Z,λh=>Z,λa j T y j0 j1 G=>?_⟩
 .refine⟨H,K,D,by show 0<=c.i + 1;omega,by show c.i + 1 < c.sh.refs;omega,O⟩
 .rcases C.cl a j T y j0 j1 G with h | ⟨h1,Q,h3⟩
  .exact .inl h
  .right;subst Q;have:j≠c.i:=λh=>by subst h;exact W G
   rw[D] at A N;refine⟨?_,rfl,by show c.i + 1<=j;omega⟩;omega
section
variable {c:Nat} {S:Sim} {g:Gh}
theorem Oa {x:Col} (h0:0<=x.i) (j:x.i<=100):H5 x = some (MO x):=by
 unfold H5;simp only[cP];rw[BQ Z Z];rfl
theorem VS (I:IG P S g) (B:Bd c S) (h3:S.Ae = 3):∃S',S.renew = some S'/\IG P S' g/\Bd c S'/\S'.Ae = 3/\(S'.stop = true\/S'.used = true):=by
 have C:=I.c3 h3;have hwl:=I.wl;have cpc:=C.pc;have hl:(S.AC.length:Int) = 16 * S.AA.length:=I.sh.g.len;have hml:S.AM.length = S.AC.length:=I.sh.ml;have cr1:S.col.r<=S.AA.length:=C.r1;have B1:=B.usd true;have bs:S.col.AR.length + S.old.length + 5 * S.AM.countP (λb=>!b)<=3000 + c:=by have:=B.st;omega
 have fin:∀{S1:Sim} {col' : Col},S1.th = S.th->(S1.AZ,S1.c) = (S.AZ,S.c)->S1.stop = S.stop->S1.full = S.full->Bd c S1->S1.col = S.col->Sh (xof (S1.setC col') g)->Kp S.th.length (xof S g) (xof (S1.setC col') g)->col'.AR = S.col.AR->col'.want = S.col.want->C3 (xof (S1.setC col') g) col'->IG P (S1.setC col') g/\Bd c (S1.setC col'):=λ{S1 col'} e1 e2 e3 e4 B1 e5 H K q3 q4 hc=>by
  refine⟨I.cstep (g':=g) (S':=S1.setC col') e1 e2 H K (λh=>Z) (λh=>Z) (λ_=>hc) (λh h'=>?_),⟨B1.ev,B1.old,B1.cy,B1.fu,?_,B1.pn⟩⟩
  .show Wt (xof (S1.setC col') g) col'.want;rw[q4];exact (I.wt (by rw[<- e3];exact h) (by rw[<- e4];exact h')).stable I.sh K
  .have:=B1.st;have hp:=hc.pc;show col'.AR.length + S1.old.length + 5 * S1.AM.countP (λb=>!b) + (if col'.pc = 2 then _ else 0)<=3000 + c;rw[if_neg Z,q3,<- e5];omega
 unfold Sim.renew;by_cases c6:S.col.pc = 6
 .simp only[cP];rw[if_pos c6];obtain⟨r,p,e,r0,r1,p0,hrp,hat,hno⟩:=Ob I.sh.g.ok (S.AA.length + 2) S.col.r S.col.p C.r0 cr1 C.p0 (by have:=C.r0;omega);rw[e];simp only[z_o];have cl0:∀a j,g.L a->¬ BZ S.AA a->0<=j->j < (shp S.AC a).refs->BZ S.AA (wv S.AC (a + 2 + j))->p<=a/\a < 16 * (a / 16) + (rv S.AA (a / 16)).AJ:=λa j ha hn j0 j1 hf=>by
   rcases C.cl a j ha hn j0 j1 hf with ⟨h1,h2⟩ | ⟨h1,_⟩
   .have ha0:=I.in_ ha;exact⟨hno a h1 h2 λh=>hn ⟨Z,h⟩,h2⟩
   .omega
  by_cases d:r = S.AA.length
  .rw[if_pos d];refine⟨_,rfl,?_,⟨B.ev,B.old,B.cy,B.fu,?_,B.pn⟩,h3,.inl rfl⟩
   .refine I.cstep (g':=g) (S':={ S with stop:=true,col:={ S.col with r:=r,p:=p,want:=0 } }) rfl rfl I.sh (Kp.refl _ _) (λh=>Z) (λh=>Z) (λ_=>⟨C.pc,r0,by show r<=S.AA.length;omega,p0,λh=>by have h:r < S.AA.length:=h;omega,λh=>by have h:7<=S.col.pc:=h;omega,λh=>by have h:8<=S.col.pc:=h;omega,λh=>by have h:S.col.pc = 9:=h;omega,λh=>by have h:8<=S.col.pc:=h;omega,λa j ha hn j0 j1 hf=>.inl (cl0 a j ha hn j0 j1 hf)⟩) (λ_ _=>.inr (.inr (.inr ⟨h3,rfl,λa j ha hn j0 j1 hf=>?_⟩)));have h1:=cl0 a j ha hn j0 j1 hf;have h2:=I.in_ ha;omega
   .exact B.st
  .rw[if_neg d];obtain⟨k4,pl⟩:=hat Z;have R:=I.sh.g.ok.row r r0 (by simp only;omega);have R1:=R.t1;have R3:=R.l1;simp only at R1 R3;have er:p / 16 = r:=Z
   have hB:g.B p:=by
    rcases hrp with ⟨h1,h2⟩ | h
    .subst h1 h2;exact C.at_ (by simp only;omega) (by unfold lim;exact pl)
    .rcases I.sh.g.bs r r0 (by simp only;omega) with h2 | h2
     .simp only at h2;omega
     .rw[h];exact h2
   obtain⟨a1,a2,a3,a4,a5,a6,a7,a8⟩:=I.sh.g.inn hB;simp only at a3 a4 a5 a6 a7 a8;have sb:=Ft S.AC p;have hnF:¬ BZ S.AA p:=λh=>k4 (by have:=h.2;rw[er] at this;exact this)
   rw[BQ Z Z];simp only[z_o];rw[CX Z Z];simp only[z_o];have es:(AS (wv S.AC (p + 1))).1 = shp S.AC p:=rfl;have esz:AG (shp S.AC p) = sz S.AC p:=rfl;rw[es,esz,BQ Z Z];simp only[z_o];rw[Cm Z Z];simp only[z_o];have at' : r < S.AA.length->p + sz S.AC p < 16 * r + (rv S.AA r).AJ->g.B (p + sz S.AC p):=λ_ hlt=>by
    rcases I.sh.g.nx p hB with h | h
    .simp only at h;rw[er] at h;omega
    .exact h
   have nxt:∀a,g.L a->p<=a->a≠p->p + sz S.AC p<=a:=λa ha h1 h2=>I.sh.g.dj p a hB (I.sh.lb a ha) Z
   have out:∀q:Int,(q = 7/\0 < (shp S.AC p).refs/\g.L p)\/(q = 6/\(∀j,g.L p->0<=j->j < (shp S.AC p).refs->False))->∃S',some (({ S with used:=true }:Sim).setC { S.col with r:=r,f:=p,sh:=shp S.AC p,p:=p + sz S.AC p,i:=0,pc:=q }) = some S'/\IG P S' g/\Bd c S'/\S'.Ae = 3/\(S'.stop = true\/S'.used = true):=λq hq=>by
    obtain⟨k1,k2⟩:=fin (S1:={ S with used:=true }) (col':={ S.col with r:=r,f:=p,sh:=shp S.AC p,p:=p + sz S.AC p,i:=0,pc:=q }) rfl rfl rfl rfl B1 rfl I.sh (Kp.refl _ _) rfl rfl ⟨by show 6<=q/\q<=9;omega,r0,r1,by show 16 * r<=p + sz S.AC p;omega,at',λh=>by
      rcases hq with ⟨_,h1,h2⟩ | ⟨h1,_⟩
      .exact⟨h2,hnF,rfl,dB 0,h1,by show p < p + sz S.AC p;omega⟩
      .have h:7<=q:=h;omega,λh=>by have h:8<=q:=h;omega,λh=>by have h:q = 9:=h;omega,λh=>by have h:8<=q:=h;omega,λa j ha hn j0 j1 hf=>by
      obtain⟨h1,h2⟩:=cl0 a j ha hn j0 j1 hf
      by_cases d2:a = p
      .rcases hq with ⟨h3,_⟩ | ⟨_,h3⟩
       .exact .inr ⟨by show 7<=q;omega,d2,j0⟩
       .subst d2;exact (h3 j ha j0 j1).elim
      .exact .inl ⟨nxt a ha h1 d2,h2⟩⟩
    exact⟨_,rfl,k1,k2,h3,.inr rfl⟩
   by_cases hr:0 < (shp S.AC p).refs
   .rw[if_pos hr];by_cases ht:(rv S.AA r).BA<=p
    .rw[if_pos ht];simp only[z_o,if_true];exact out 7 (.inl ⟨rfl,hr,I.sh.nb (by show 1<=S.Ae;omega) p hB (by show (rv S.AA (p / 16)).BA<=p;rw[er];exact ht)⟩)
    .rw[if_neg ht,S5 Z Z];simp only[z_o];cases hm:mv S.AM p with
     | true=>
      simp only[if_true];exact out 7 (.inl ⟨rfl,hr,(I.sh.mt p Z hm).1⟩)
     | false=>
      simp only[d8,if_false];have:=out 6 (.inr ⟨rfl,λj hL _ _=>by
       have:mv S.AM p = true:=I.sh.lm (by show 2<=S.Ae;omega) p hL (by show p < (rv S.AA (p / 16)).BA;rw[er];omega)
       rw[hm] at this;cases this⟩)
      rw[<- c6] at this;exact this
   .rw[if_neg hr];simp only[z_o,d8,if_false];have:=out 6 (.inr ⟨rfl,λj _ j0 j1=>Z⟩);rw[<- c6] at this;exact this
 simp only[cP];rw[if_neg c6];obtain⟨f1,f2,f3,f4,f5,f6⟩:=C.f Z;obtain⟨a1,a2,a3,a4,a5,a6⟩:=I.in_ f1;have sb:=Ft S.AC S.col.f;have f3:S.col.sh = shp S.AC S.col.f:=f3;have f5' : S.col.i < (shp S.AC S.col.f).refs:=by rw[<- f3];exact f5
 have hrf:=I.sh.rf S.col.f S.col.i f1 f4 f5';by_cases c7:S.col.pc = 7
 .rw[if_pos c7,BQ Z Z];simp only[z_o];rw[BQ Z Z];simp only[z_o];rw[CX Z Z];simp only[z_o];obtain⟨d,hd,hdf⟩:=(I.usd true).frm hrf;rw[hd];simp only[z_o];cases d with
  | true=>
   have hf:BZ S.AA (wv S.AC (S.col.f + 2 + S.col.i)):=hdf.1 rfl;rw[if_pos rfl];obtain⟨k1,k2⟩:=fin (S1:={ S with used:=true }) (col':={ S.col with v:=wv S.AC (S.col.f + 2 + S.col.i),pc:=8 }) rfl rfl rfl rfl B1 rfl I.sh (Kp.refl _ _) rfl rfl ⟨⟨by show (6:Int)<=8;decide,by show (8:Int)<=9;decide⟩,C.r0,C.r1,C.p0,C.at_,λ_=>⟨f1,f2,f3,f4,f5,f6⟩,λ_=>⟨hrf (TE I.sh.g hf),hf⟩,λh=>absurd (show (8:Int) = 9 from h) δ,λ_ _=>rfl,λa j ha hn j0 j1 hff=>by
    rcases C.cl a j ha hn j0 j1 hff with h | ⟨_,h2,h3⟩
    .exact .inl h
    .exact .inr ⟨by show (7:Int)<=8;decide,h2,h3⟩⟩
   exact⟨_,rfl,k1,k2,h3,.inr rfl⟩
  | false=>
   rw[if_neg δ,Oa (by exact f4) (by show S.col.i<=100;omega)];simp only[z_o];have C' : C3 (xof S g) { S.col with v:=wv S.AC (S.col.f + 2 + S.col.i) }:=⟨C.pc,C.r0,C.r1,C.p0,C.at_,C.f,λh=>by have h:8<=S.col.pc:=h;omega,λh=>by have h:S.col.pc = 9:=h;omega,λh=>by have h:8<=S.col.pc:=h;omega,C.cl⟩;obtain⟨k1,k2⟩:=fin (S1:={ S with used:=true }) (col':=MO { S.col with v:=wv S.AC (S.col.f + 2 + S.col.i) }) rfl rfl rfl rfl B1 rfl I.sh (Kp.refl _ _) rfl rfl (O3 C' (by show 7<=S.col.pc;omega) λh=>by
    have:=hdf.2 h;cases this)
   exact⟨_,rfl,k1,k2,h3,.inr rfl⟩
 rw[if_neg c7];obtain⟨v1,v2⟩:=C.v Z;obtain⟨b1,b2,b3,b4,b5,b6⟩:=I.in_ v1;have hne:wv S.AC S.col.v≠S.col.v:=I.sh.af h3 _ v1 v2;by_cases c8:S.col.pc = 8
 .rw[if_pos c8,CX Z Z];simp only[z_o];rw[if_neg hne];obtain⟨k1,k2⟩:=fin (S1:={ S with used:=true }) (col':={ S.col with word:=wv S.AC S.col.v,pc:=9 }) rfl rfl rfl rfl B1 rfl I.sh (Kp.refl _ _) rfl rfl ⟨⟨by show (6:Int)<=9;decide,by show (9:Int)<=9;decide⟩,C.r0,C.r1,C.p0,C.at_,λ_=>⟨f1,f2,f3,f4,f5,f6⟩,λ_=>⟨v1,v2⟩,λ_=>rfl,λ_=>C.u Z,λa j ha hn j0 j1 hff=>by
    rcases C.cl a j ha hn j0 j1 hff with h | ⟨_,h2,h3⟩
    .exact .inl h
    .exact .inr ⟨by show (7:Int)<=9;decide,h2,h3⟩⟩
  exact⟨_,rfl,k1,k2,h3,.inr rfl⟩
 rw[if_neg c8,if_pos Z,BQ Z Z];have c9:S.col.pc = 9:=Z
 simp only[z_o];rw[BQ Z Z];simp only[z_o];rw[CX Z Z];simp only[z_o];have hw:S.col.word = wv S.AC S.col.v:=C.w c9;by_cases hv:wv S.AC (S.col.f + 2 + S.col.i) = S.col.v
 .rw[if_pos hv,DK (S:={ S with used:=true }) Z (by show _ < (S.AC.length:Int);omega)];simp only[z_o];rw[Oa (by exact f4) (by show S.col.i<=100;omega)];simp only[z_o];obtain⟨w1,w2,_⟩:g.L (wv S.AC S.col.v)/\¬ BZ S.AA (wv S.AC S.col.v)/\_:=I.sh.fw _ (I.sh.lb _ v1) v2 hne;obtain⟨H1,K⟩:=ref (o:=S.th.length) (v:=S.col.word) I.sh f1 f2 f4 f5' (λ_=>by rw[hw];exact w1) (λh=>absurd h (by show S.Ae≠1;omega)) (λ_=>by rw[hw];exact w2);have C':=C.stable I.sh K (λ_ _=>rfl) h3;obtain⟨k1,k2⟩:=fin (S1:={ S with used:=true,AC:=AT S.AC (S.col.f + 2 + S.col.i) S.col.word }) (col':=MO S.col) rfl rfl rfl rfl ⟨B.ev,B.old,B.cy,B.fu,B.st,B.pn⟩ rfl H1 K rfl rfl (O3 C' Z λh=>by
   have h:BZ S.AA (wv (AT S.AC (S.col.f + 2 + S.col.i) S.col.word) (S.col.f + 2 + S.col.i)):=h
   rw[Co Z Z Z,if_pos rfl,hw] at h
   exact w2 h)
  exact⟨_,rfl,k1,k2,h3,.inr rfl⟩
 .rw[if_neg hv];simp only[z_o];rw[Oa (by exact f4) (by show S.col.i<=100;omega)];simp only[z_o];obtain⟨k1,k2⟩:=fin (S1:={ S with used:=true }) (col':=MO S.col) rfl rfl rfl rfl B1 rfl I.sh (Kp.refl _ _) rfl rfl (O3 C Z λh=>hv (C.u Z h));exact⟨_,rfl,k1,k2,h3,.inr rfl⟩
theorem W1 (hc:c < 900000):∀(n:Nat) (S:Sim) (g:Gh),IG P S g->Bd c S->1<=S.Ae->0 < n->(S.used = true\/S.stop = true\/(S.Ae = 1/\mu S + 1 < n)\/(2<=S.Ae/\1 < n))->∃j G,Sim.cloop n S = some j/\IG P j G/\Bd c j:=by
 intro n;induction n with
 | zero=>intro S g _ _ _ h;omega
 | succ n T=>
  intro S g I B h1 _ W;unfold Sim.cloop;by_cases H:S.used = true\/S.stop = true
  .rw[if_neg (by simp;intro h;rcases H with O | O;simp[O] at h;exact O)];exact⟨S,g,rfl,I,B⟩
  .have hu:S.used = false:=by cases h:S.used;rfl;exact absurd (.inl h) H
   have Q:S.stop = false:=by cases h:S.stop;rfl;exact absurd (.inr h) H
   rw[hu,Q];simp only[Bool.not_false,Bool.and_self,if_true,cP];have hp:S.Ae<=3:=I.sh.ph.2;have W:(S.Ae = 1/\mu S + 1 < n + 1)\/(2<=S.Ae/\1 < n + 1):=by
    rcases W with h | h | h
    .exact absurd (.inl h) H
    .exact absurd (.inr h) H
    .exact h
   unfold Sim.work;by_cases p1:S.Ae = 1
   .have C:=I.c1 p1;by_cases c1:S.col.pc = 1
    .rw[if_pos ⟨p1,c1⟩];obtain⟨j,e,y,x,A,_,_,h⟩:=TS hc I B p1 c1;rw[e];simp only[z_o];refine T j g y x Z Z ?_;rcases h with h | h
     .exact .inr (.inl h.1)
     .exact .inr (.inr (.inl ⟨A,Z⟩))
    .rw[if_neg (λh=>c1 h.2),if_pos p1];have c2:S.col.pc = 2:=by rcases C.pc with h | h;exact absurd h c1;exact h
     obtain⟨j,e,y,x,A,_,_,R,_⟩:=TC hc I B p1 c2;rw[e];simp only[z_o];exact T j g y x Z Z (.inl R)
   .rw[if_neg (λh=>p1 h.1),if_neg p1];have D:∀{j : Sim} {G},IG P j G->Bd c j->(j.Ae = 2\/j.Ae = 3)->(j.stop = true\/j.used = true)->∃N g2,Sim.cloop n j = some N/\IG P N g2/\Bd c N:=λ{j G} y x A h=>T j G y x Z Z (by
     rcases h with h | h
     .exact .inr (.inl h)
     .exact .inl h)
    by_cases p2:S.Ae = 2
    .by_cases K:S.col.pc = 5
     .rw[if_pos ⟨p2,K⟩];obtain⟨j,e,y,x,A,h⟩:=Xr I B p2 K;rw[e];simp only[z_o];exact D y x (.inl A) h
     .rw[if_neg (λh=>K h.2),if_pos p2];obtain⟨j,G,e,y,x,A,h⟩:=Wo I B p2 K;rw[e];simp only[z_o];exact D y x (.inl A) h
    .rw[if_neg (λh=>p2 h.1),if_neg p2];obtain⟨j,e,y,x,A,h⟩:=VS I B Z;rw[e];simp only[z_o];exact D y x (.inr A) h
theorem Vx (hc:c < 900000):∀(n:Nat) (S:Sim) (g:Gh),IG P S g->Bd c S->S.Ae = 1->mu S < n->∃j,Sim.drain n S = some j/\IG P j g/\Bd c j/\j.Ae = 1/\(j.AI = S.AI/\j.th = S.th)/\j.full = S.full/\j.stop = S.stop/\j.col.want = S.col.want/\j.col.AR = []/\j.old = []/\j.col.pc = 1:=by
 intro n;induction n with
 | zero=>intro S g _ _ _ h;omega
 | succ n ih=>
  intro S g I B G hn;have hz:=I.szok rfl B hc;have C:=I.c1 G;unfold Sim.drain;rw[hz,if_neg δ];by_cases x:0 < S.col.AR.length\/0 < S.old.length\/S.col.pc = 2
  .rw[if_pos x];simp only[cP];by_cases c2:S.col.pc = 2
   .rw[if_pos c2];obtain⟨j,e,K,H,p',D,q2,_,hm,q3,q4⟩:=TC hc I B G c2;rw[e];simp only[z_o];obtain⟨N,O,Q,R,T,y,W,g6,g7,g8⟩:=ih j g K H p' Z;exact⟨N,O,Q,R,T,⟨by rw[y.1,D.1],by rw[y.2,D.2]⟩,by rw[W,q2],by rw[g6,q3],by rw[g7,q4],g8⟩
   .rw[if_neg c2];have c1:S.col.pc = 1:=by rcases C.pc with h | h;exact h;exact absurd h c2
    obtain⟨j,e,K,H,p',D,q2,h⟩:=TS hc I B G c1;rw[e];simp only[z_o];rcases h with ⟨_,h2,h3⟩ | ⟨hm,q3,q4⟩
    .exfalso;rw[h2,h3] at x;simp at x;exact c2 x
    .obtain⟨N,O,Q,R,T,y,W,g6,g7,g8⟩:=ih j g K H p' Z;exact⟨N,O,Q,R,T,⟨by rw[y.1,D.1],by rw[y.2,D.2]⟩,by rw[W,q2],by rw[g6,q3],by rw[g7,q4],g8⟩
  .rw[if_neg x];have A:=x;rw[not_or,not_or] at A;refine⟨S,rfl,I,B,G,⟨rfl,rfl⟩,rfl,rfl,rfl,?_,?_,?_⟩
   .exact dA.1 Z
   .exact dA.1 Z
   .rcases C.pc with h | h
    .exact h
    .exact absurd h A.2.2
end
end Sm
end
section
namespace Sm
variable {P:List (List Op)}
theorem Geo.tab {w:List Int} {t t' : List Rg} {B A : Int->Prop} (G:Geo w t B) (T:TOk t') (hl:t'.length = t.length) (D:∀a,A a->B a)
  (h:∀r:Int,1<=r->r < t.length->((rv t' r).top = (rv t r).top/\∀a,B a->a / 16 = r->A a)\/((rv t' r).top = 16 * r/\∀a,A a->a / 16≠r)):Geo w t' A:=by
 have x:∀a,A a->(rv t' (a / 16)).top = (rv t (a / 16)).top/\∀b,B b->b / 16 = a / 16->A b:=λa j=>by
  have g:=G.inn (D a j);rcases h (a / 16) g.2.1 g.2.2.1 with y | ⟨_,H⟩
  .exact y
  .exact absurd rfl (H a j)
 refine⟨by rw[hl];exact G.len,T,λa j=>?_,λa j=>?_,λr r0 r1=>?_,λa b j hb=>G.dj a b (D a j) (D b hb)⟩
 .rw[(x a j).1];exact G.at_ a (D a j)
 .rw[(x a j).1];have g:=G.inn (D a j);rcases G.nx a (D a j) with y | y
  .exact .inl y
  .by_cases c:(a + sz w a) / 16 = a / 16
   .exact .inr ((x a j).2 _ y c)
   .left;omega
 .rw[hl] at r1;rcases h r r0 r1 with ⟨y,H⟩ | ⟨y,_⟩
  .rw[y];rcases G.bs r r0 r1 with K | K
   .exact .inl K
   .exact .inr (H _ K Z)
  .exact .inl y
theorem CQ {f:Int->Rg->Rg} {t:List Rg}:(rows f t).length = t.length:=by simp[rows]
theorem El {f:Int->Rg->Rg} {t:List Rg} {r:Int} (h0:0<=r) (j:r < t.length):rv (rows f t) r = if r = 0 then rv t r else f r (rv t r):=by
 obtain⟨k,rfl⟩:∃k:Nat,r = k:=⟨r.toNat,Z⟩;rw[rv,GP (by rw[CQ];omega),rv,GP Z];simp only[rows,fX];by_cases c:k = 0
 .rw[if_pos c,if_pos Z]
 .rw[if_neg c,if_neg Z]
theorem P5 {n:Nat} {a:Int}:mv (List.replicate n false) a = false:=by
 unfold mv gv;rw[cH,List.getElem?_replicate];split<;>rfl
open Classical in
theorem WB {x:X} (h:∀a,0<=a->mv x.m a = false) (r:Int):cnt x r = 0:=by
 unfold cnt;rw[List.countP_eq_zero];intro k _ A;obtain⟨a,y,j,_⟩:=z_f A;rw[h a y] at j;cases j
theorem TOk.rows {f:Int->Rg->Rg} {t:List Rg} (T:TOk t) (h:∀r x,Kk r x->Kk r (f r x)/\(f r x).AX = x.AX):TOk (rows f t):=by
 have e:∀r:Int,1<=r->r < t.length->rv (Sm.rows f t) r = f r (rv t r):=λr r0 r1=>by rw[El Z r1,if_neg Z]
 refine⟨by rw[CQ];exact T.n0,by rw[CQ];exact T.n1,?_,λr r0 r1=>?_,λr s r0 r1 s0 s1 j he=>?_⟩
 .have:=T.n0;rw[El Z Z,if_pos rfl];exact T.e
 .rw[CQ] at r1;rw[e r r0 r1];exact (h r _ (T.row r r0 r1)).1
 .rw[CQ] at r1 s1;rw[e r r0 r1] at j he;rw[e s s0 s1] at he;rw[(h r _ (T.row r r0 r1)).2] at j he;rw[(h s _ (T.row s s0 s1)).2] at he;exact T.own r s r0 r1 s0 s1 j he
structure LM (L:Int->Prop) (t:Thr):Prop where
 pc:t.pc = 0
 g:t.g = 0
 k:t.k = 0
 nx:0<=t.next
 rl:t.AD.length<=8
 rt:∀a∈t.AD,a≠0->L a
theorem LM.ti {x:X} {i:Int} {j:Option Op} {t:Thr} (s:LM x.L t):TI x i j t:=⟨s.rt,s.rl,s.nx,λ_ _ h=>absurd s.pc h,.inl ⟨s.pc,s.g,s.k⟩⟩
theorem IG.still {S:Sim} {g:Gh} (I:IG P S g) (hc:S.calm = true):∀t∈S.th,LM g.L t:=λt j=>by
 obtain⟨i,_,_,x⟩:=OA j;have T:=I.ti i t x;have y:t.pc = 0:=by
  have:=ck.1 (show (S.th.all λt=>t.pc == 0) = true from hc) t j;simpa using this
 rcases T.run with h | ⟨o,_,r⟩
 .exact⟨y,h.2.1,h.2.2,T.nx,T.rl,T.rt⟩
 .exfalso;cases r with
  | bs b=>have:=b.p;omega
  | cp _ _ _ cp=>have:=cp.p;omega
  | mg m=>have:=m.p;omega
theorem IG.mk' {S S' : Sim} {g g' : Gh} (I:IG P S g) (x:(S'.AZ,S'.c) = (S.AZ,S.c)) (hl:S'.th.length = S.th.length) (A:Sh (xof S' g')) (D:∀t∈S'.th,LM g'.L t) (c1:S'.Ae = 1->C1 (xof S' g') S'.col) (c2:S'.Ae = 2->C2 (xof S' g') S'.th.length S'.col)
  (c3:S'.Ae = 3->C3 (xof S' g') S'.col) (wt:S'.stop = true->S'.full = false->Wt (xof S' g') S'.col.want):IG P S' g':=
 have j:S'.AZ = S.AZ:=congrArg Prod.fst x;have y:S'.c = S.c:=congrArg Prod.snd x
 ⟨by rw[j];exact I.pg,A,by rw[hl];exact I.n0,by rw[hl];exact I.n1,by rw[hl,j];exact I.pl,by rw[j];exact I.pp,λi t h=>(D t (Io h)).ti,c1,c2,c3,wt,by rw[y];exact I.rs⟩
inductive Rch (w:List Int) (r0:Int->Prop):Int->Prop
 | base {a:Int} (h:r0 a):Rch w r0 a
 | step {a j:Int} (h:Rch w r0 a) (j0:0<=j) (j1:j < (shp w a).refs) (hn:wv w (a + 2 + j)≠0):Rch w r0 (wv w (a + 2 + j))
section
variable {c:Nat} {S:Sim} {g:Gh}
theorem IG.nofrom (I:IG P S g) (h:S.Ae<=1) (a:Int):¬ BZ S.AA a:=λj=>I.sh.nf h (a / 16) (by have:=j.1;omega) j.2
theorem MW (l:List Bool):l.countP (λb=>!b)<=l.length:=List.countP_le_length
theorem Q9 (I:IG P S g) (B:Bd c S) (hc:S.calm = true) (h0:S.Ae = 0):∃g',IG P (({ S with stop:=false }:Sim).snapshot) g'/\Bd c (({ S with stop:=false }:Sim).snapshot):=by
 have st:=I.still hc;have H:=I.sh;have g0:=H.g;have a1:=I.wl;have a0:S.AM.length = S.AC.length:=H.ml
 let sk:List Int:=(S.th.flatMap λt=>t.AD.filter (·≠0)) ++ S.AI
 have O:∀a∈sk,g.L a:=λa ha=>by
  rcases cm.1 ha with h | h
  .obtain⟨t,A,h⟩:=eu.1 h;rw[dV] at h;exact (st t A).rt a h.1 (by simpa using h.2)
  .exact (H.pl a h).1
 have y:∀a,Rch S.AC (·∈sk) a->g.L a:=λa h=>by
  induction h with
  | base h=>exact O _ h
  | step h D G N Q=>exact H.rf _ _ Q D G N
 have T' : TOk (rows (λ_ x=>{ x with BA:=x.top,AJ:=0 }) S.AA):=TOk.rows g0.ok λr x R=>⟨⟨R.k0,R.k1,R.t0,R.t1,R.t0,dB _,dB 0,by show 0<=x.top - 16 * r;have:=R.t0;omega,R.fr,R.ow,R.o0,R.o1⟩,rfl⟩
 have W:∀r:Int,0<=r->r < S.AA.length->rv (rows (λ_ x=>{ x with BA:=x.top,AJ:=0 }) S.AA) r = if r = 0 then rv S.AA r else { rv S.AA r with BA:=(rv S.AA r).top,AJ:=0 }:=λr r0 r1=>El r0 r1
 have ek:∀r:Int,0<=r->(rv (rows (λ_ x=>{ x with BA:=x.top,AJ:=0 }) S.AA) r).kind = (rv S.AA r).kind:=λr r0=>by
  by_cases c:r < S.AA.length
  .rw[W r r0 c];split<;>rfl
  .rw[Dc r0 (by rw[CQ];omega),Dc r0 Z]
 have tm:∀a,g.B a->(rv (rows (λ_ x=>{ x with BA:=x.top,AJ:=0 }) S.AA) (a / 16)).BA = (rv S.AA (a / 16)).top:=λa h=>by
  have i:=g0.inn h;rw[W _ Z i.2.2.1,if_neg Z]
 have T:∀a,g.B a->a < (rv (rows (λ_ x=>{ x with BA:=x.top,AJ:=0 }) S.AA) (a / 16)).BA:=λa h=>by
  have i:=g0.inn h;rw[tm a h];simp only at i;omega
 have nf:∀a,¬ BZ (rows (λ_ x=>{ x with BA:=x.top,AJ:=0 }) S.AA) a:=λa K=>by
  have:=K.2;rw[ek _ (by have:=K.1;omega)] at this;exact I.nofrom Z a ⟨K.1,this⟩
 have f0:∀a,mv (List.replicate S.AM.length false) a = false:=λa=>P5
 refine⟨⟨g.B,Rch S.AC (·∈sk),λa=>wv S.AC a,(·∈sk)⟩,I.mk' (S':=({ S with stop:=false }:Sim).snapshot) rfl rfl ?_ (λt A=>?_) (λ_=>?_) (λh=>absurd (show (1:Int) = 2 from h) δ) (λh=>absurd (show (1:Int) = 3 from h) δ) (λh=>by cases h),?_⟩
 .refine⟨Geo.tab g0 T' (CQ (f:=λ_ x=>{ x with BA:=x.top,AJ:=0 }) (t:=S.AA)) (λ_ h=>h) λr r0 r1=>.inl ⟨?_,λ_ h _=>h⟩,λa h=>H.lb a (y a h),λa j h D G N=>.step h D G N,λa h _=>H.st a h (I.nofrom Z a),λa _ K=>absurd K (nf a),by show (List.replicate S.AM.length false).length = _;rw[cW];exact a0,λa _ h=>?_,by show (0:Int)<=1/\(1:Int)<=3;decide,λ_ r r0 hk=>?_,λh=>absurd (show (2:Int)<=1 from h) δ,λa h=>⟨.base (dM _ h),nf a⟩,λa _ K=>absurd K (nf a),λ_ a h A=>?_,λh=>absurd (show (1:Int) = 3 from h) δ,λ_=>?_⟩
  .show (rv (rows (λ_ x=>{ x with BA:=x.top,AJ:=0 }) S.AA) r).top = _;rw[W r Z r1,if_neg Z]
  .have h:mv (List.replicate S.AM.length false) a = true:=h;rw[f0] at h;cases h
  .have hk:(rv (rows (λ_ x=>{ x with BA:=x.top,AJ:=0 }) S.AA) r).kind = 4:=hk;rw[ek r r0] at hk;exact H.nf (by show S.Ae<=1;omega) r r0 hk
  .have:=T a h;have A:(rv (rows (λ_ x=>{ x with BA:=x.top,AJ:=0 }) S.AA) (a / 16)).BA<=a:=A;omega
  .refine⟨λa h=>.base h,λa h=>(by cases h),λa2 h1 h2 a h _=>?_,λa h=>⟨.base h,T a (H.lb a (O a h)),.inr (.inr (.inl h))⟩,λa j h _ D G hq=>⟨.step h D G hq,T _ (H.lb _ (y _ (.step h D G hq)))⟩,λa j _ _ _ _=>.inl rfl,λr r0 r1=>?_⟩
   .induction h with
    | base h=>exact h1 _ h
    | step h D G N Q=>exact h2 _ _ h (T _ (H.lb _ (y _ h))) (Q (T _ (H.lb _ (y _ h)))) D G N
   .rw[WB λa _=>f0 a];have r1:r < S.AA.length:=by
     have:r < (rows (λ_ x=>{ x with BA:=x.top,AJ:=0 }) S.AA).length:=r1;rw[CQ] at this;exact this
    show (rv (rows (λ_ x=>{ x with BA:=x.top,AJ:=0 }) S.AA) r).AJ = _;rw[W r Z r1,if_neg Z];rfl
 .have s:=st t A;refine⟨s.pc,s.g,s.k,s.nx,s.rl,λa ha h0=>.base (dC _ (eu.2 ⟨t,A,dV.2 ⟨ha,by simpa using h0⟩⟩))⟩
 .refine⟨.inl rfl,λh=>absurd (show (1:Int) = 2 from h) δ,λa j _ h=>?_⟩;have h:mv (List.replicate S.AM.length false) a = true:=h;rw[f0] at h;cases h
 .refine⟨B.ev,Nat.zero_le _,B.cy,B.fu,?_,B.pn⟩;have h1:sk.length<=8 * S.th.length + 8:=by
   have hp:=B.pn;have:(S.th.flatMap λt=>t.AD.filter (·≠0)).length<=8 * S.th.length:=by
    have hs:∀t∈S.th,t.AD.length<=8:=λt A=>(st t A).rl
    revert hs;induction S.th with
    | nil=>intro _;simp
    | cons t r Q=>
     intro hs;rw[List.flatMap_cons,cJ,cS];have h1:=Q λt A=>hs t (by simp[A])
     have h2:=hs t V;have h3:=List.length_filter_le (λx=>decide (x≠0)) t.AD;omega
   show ((S.th.flatMap λt=>t.AD.filter (·≠0)) ++ S.AI).length<=_;rw[cJ];omega
  have h2:=MW (List.replicate S.AM.length false);rw[cW] at h2;have h3:=I.n1;show sk.length + ([]:List Int).length + 5 * (List.replicate S.AM.length false).countP (λb=>!b) + (if (1:Int) = 2 then _ else 0)<=3000 + c;rw[if_neg δ,dc];omega
theorem UO (I:IG P S g) (B:Bd c S) (hc:S.calm = true) (G:S.Ae = 2) (W:∀a,g.L a->BZ S.AA a->wv S.AC a≠a):∃S',({ S with stop:=false }:Sim).update = some S'/\IG P S' g/\Bd c S':=by
 have st:=I.still hc;have H:=I.sh;have N:=H.g;have T:=N.ok;have n1:S.AA.length<=12:=T.n1;have Bq:(S.AA.all λx=>decide (-1000<=x.top) && decide (x.top<=1000)) = true:=by
  rw[ck];intro x hx;obtain⟨i,i0,i1,hi⟩:=OA hx;have e:rv S.AA i = x:=(Fq Db hi).2.2;by_cases c:i = 0
  .subst c;rw[<- e,show rv S.AA 0 = Db from T.e];decide
  .have R:=T.row i Z i1;have D:=R.t0;have G:=R.t1;rw[<- e];simp only[z_b,z_d];simp only at D G;omega
 have T' : TOk (rows (λi x=>{ x with AJ:=x.top - AK i }) S.AA):=by
  refine⟨by rw[CQ];exact T.n0,by rw[CQ];exact T.n1,?_,λr r0 r1=>?_,λr s r0 r1 s0 s1 ho he=>?_⟩
  .have:=T.n0;simp only at this;rw[El Z Z,if_pos rfl];exact T.e
  .rw[CQ] at r1;rw[El Z r1,if_neg Z];have R:=T.row r r0 r1;have hb:=Bj (r:=r) Z Z;refine⟨R.k0,R.k1,R.t0,R.t1,R.s0,R.s1,?_,?_,R.fr,R.ow,R.o0,R.o1⟩
   .show 0<=(rv S.AA r).top - AK r;have:=R.t0;simp only at this;rw[hb];omega
   .show (rv S.AA r).top - AK r<=_;rw[hb];exact dB _
  .rw[CQ] at r1 s1;rw[El Z r1,if_neg Z] at ho he;rw[El Z s1,if_neg Z] at he;exact T.own r s r0 r1 s0 s1 ho he
 have er:∀r:Int,1<=r->r < S.AA.length->rv (rows (λi x=>{ x with AJ:=x.top - AK i }) S.AA) r = { rv S.AA r with AJ:=(rv S.AA r).top - 16 * r }:=λr r0 r1=>by
  rw[El Z r1,if_neg Z,Bj Z Z]
 have e0:∀r:Int,0<=r->(rv (rows (λi x=>{ x with AJ:=x.top - AK i }) S.AA) r).kind = (rv S.AA r).kind/\(rv (rows (λi x=>{ x with AJ:=x.top - AK i }) S.AA) r).BA = (rv S.AA r).BA/\(rv (rows (λi x=>{ x with AJ:=x.top - AK i }) S.AA) r).top = (rv S.AA r).top:=λr r0=>by
  by_cases c:r < S.AA.length
  .rw[El r0 c];split<;>exact⟨rfl,rfl,rfl⟩
  .rw[Dc r0 (by rw[CQ];omega),Dc r0 Z];exact⟨rfl,rfl,rfl⟩
 have K:∀a,BZ (rows (λi x=>{ x with AJ:=x.top - AK i }) S.AA) a↔BZ S.AA a:=λa=>⟨λh=>⟨h.1,by have:=h.1;have:=h.2;rw[(e0 _ Z).1] at this;exact this⟩,λh=>⟨h.1,by have:=h.1;rw[(e0 _ Z).1];exact h.2⟩⟩
 have tm:∀a,0<=a->(rv (rows (λi x=>{ x with AJ:=x.top - AK i }) S.AA) (a / 16)).BA = (rv S.AA (a / 16)).BA:=λa h=>(e0 (a / 16) Z).2.1
 have B0:∀a,g.B a->0<=a:=λa h=>by have:=N.inn h;omega
 unfold Sim.update;simp only[cP];rw[if_pos Bq];simp only[z_o];refine⟨_,rfl,I.mk' (g':=g) (S':={ S with stop:=false,Ae:=3,AA:=rows (λi x=>{ x with AJ:=x.top - AK i }) S.AA,col:={ Da S.col.Ap S.col.want with pc:=6,r:=1,p:=16 } }) rfl rfl ?_ st (λh=>absurd (show (3:Int) = 1 from h) δ) (λh=>absurd (show (3:Int) = 2 from h) δ) (λ_=>?_) (λh=>by cases h),?_⟩
 .refine⟨Geo.tab N T' (CQ (f:=λi x=>{ x with AJ:=x.top - AK i }) (t:=S.AA)) (λ_ h=>h) λr r0 r1=>.inl ⟨(e0 r Z).2.2,λ_ h _=>h⟩,H.lb,H.rf,λa h hn=>H.st a h λc=>hn ((K a).2 c),λa h y a1=>?_,H.ml,λa a0 h=>?_,by show (0:Int)<=3/\(3:Int)<=3;decide,λh=>absurd (show (3:Int)<=1 from h) δ,λ_ a h A=>?_,λa h=>⟨(H.pl a h).1,λc=>(H.pl a h).2 ((K a).1 c)⟩,λa h y=>H.fm a h ((K a).1 y),λ_ a h A=>?_,λ_ a h y=>W a h ((K a).1 y),λh=>absurd (show (3:Int) = 1 from h) δ⟩
  .obtain⟨O,Q,b3⟩:=H.fw a h ((K a).1 y) a1;exact⟨O,λc=>Q ((K _).1 c),b3⟩
  .obtain⟨O,Q⟩:=H.mt a a0 h;refine⟨O,?_⟩;show a < (rv (rows (λi x=>{ x with AJ:=x.top - AK i }) S.AA) (a / 16)).BA;rw[tm a a0];exact Q
  .have A:a < (rv (rows (λi x=>{ x with AJ:=x.top - AK i }) S.AA) (a / 16)).BA:=A;rw[tm a (B0 a (H.lb a h))] at A;exact H.lm (by show 2<=S.Ae;omega) a h A
  .have A:(rv (rows (λi x=>{ x with AJ:=x.top - AK i }) S.AA) (a / 16)).BA<=a:=A;rw[tm a (B0 a h)] at A;exact H.nb (by show 1<=S.Ae;omega) a h A
 .refine⟨by show (6:Int)<=6/\(6:Int)<=9;decide,dB 1,?_,by show (16:Int) * 1<=16;decide,λD G=>?_,λh=>absurd (show (7:Int)<=6 from h) δ,λh=>absurd (show (8:Int)<=6 from h) δ,λh=>absurd (show (6:Int) = 9 from h) δ,λh=>absurd (show (8:Int)<=6 from h) δ,λa j h hn j0 j1 _=>.inl ?_⟩
  .have:=T.n0;show (1:Int)<=(rows (λi x=>{ x with AJ:=x.top - AK i }) S.AA).length;rw[CQ];simp only at this;omega
  .have D:(1:Int) < (rows (λi x=>{ x with AJ:=x.top - AK i }) S.AA).length:=D;rw[CQ] at D;have G:(16:Int) < 16 * 1 + (rv (rows (λi x=>{ x with AJ:=x.top - AK i }) S.AA) 1).AJ:=G;rw[er 1 δ D] at G;simp only at G;rcases N.bs 1 δ D with h | h
   .simp only at h;omega
   .exact h
  .have i:=N.inn (H.lb a h);simp only at i;refine⟨by show 16<=a;omega,?_⟩;show a < 16 * (a / 16) + (rv (rows (λi x=>{ x with AJ:=x.top - AK i }) S.AA) (a / 16)).AJ;rw[er (a / 16) Z Z];simp only;omega
 .refine⟨B.ev,B.old,B.cy,B.fu,?_,B.pn⟩;have:=B.st;show ([]:List Int).length + S.old.length + 5 * S.AM.countP (λb=>!b) + (if (6:Int) = 2 then _ else 0)<=3000 + c;rw[if_neg δ,dc];omega
end
end Sm
end
section
namespace Sm
variable {P:List (List Op)}
theorem Ct {r:Int} (h0:1<=r) (j:r < 12):Kk r (Dj r)/\Dj r = ⟨1,-1,16 * r,16 * r,0⟩:=by
 have hb:=Bj (r:=r) Z j;have e:Dj r = ⟨1,-1,16 * r,16 * r,0⟩:=by unfold Dj;rw[hb]
 refine⟨?_,e⟩;rw[e];exact⟨V,V,V,by simp;omega,V,V,V,V,V,V,V,V⟩
theorem HV {t:List Rg} {r:Int} (T:TOk t) (h0:1<=r) (j:r < t.length) (A:(rv t r).kind≠1):CF t r = some (AT t r (Dj r))/\TOk (AT t r (Dj r)):=by
 have n1:=T.n1;obtain⟨fr,y⟩:=Ct h0 (by omega:r < 12);constructor
 .unfold CF;rw[if_pos (by simp[Bi.2 T,h0]),Cm Z j];simp only[];rw[if_neg (by simpa using A)]
 .refine T.set h0 j fr λs _ _ _ x=>?_
  rw[y] at x;simp at x
theorem NA:∀(n i:Nat) (t:List Rg),TOk t->1<=i->t.length<=i + n->TOk (DG n i t)/\(DG n i t).length = t.length/\∀r:Int,1<=r->r < t.length->rv (DG n i t) r = if i<=r/\(rv t r).kind = 4 then Dj r else rv t r:=by
 intro n;induction n with
 | zero=>intro i t T O Q;exact⟨T,rfl,λr r0 r1=>by rw[if_neg Z];rfl⟩
 | succ n H=>
  intro i t T O Q;unfold DG;by_cases c:i < t.length
  .have e:t[i]? = some (rv t i):=by rw[cF c,rv,GP c]
   rw[e];simp only[];by_cases y:(rv t i).kind = 4
   .obtain⟨K,N⟩:=HV (r:=i) T Z Z Z;rw[if_pos (by simpa using y),K];simp only[dI];obtain⟨A,D,G⟩:=H (i + 1) (AT t i (Dj i)) N Z (by simp;omega);refine⟨A,by rw[D];simp,λr r0 r1=>?_⟩;rw[G r r0 (by simpa using r1),DA Z Z Z];by_cases h:r = i
    .subst h;rw[if_neg Z,if_pos rfl,if_pos ⟨Z,y⟩]
    .rw[if_neg h];by_cases j:((i + 1:Nat):Int)<=r/\(rv t r).kind = 4
     .rw[if_pos j,if_pos ⟨Z,j.2⟩]
     .rw[if_neg j,if_neg (λx=>j ⟨Z,x.2⟩)]
   .rw[if_neg (by simpa using y)];obtain⟨A,D,G⟩:=H (i + 1) t T Z Z;refine⟨A,D,λr r0 r1=>?_⟩;rw[G r r0 r1];by_cases j:((i + 1:Nat):Int)<=r/\(rv t r).kind = 4
    .rw[if_pos j,if_pos ⟨Z,j.2⟩]
    .rw[if_neg j,if_neg (λx=>j ⟨by
      by_cases h:r = i
      .subst h;exact absurd x.2 y
      .omega,x.2⟩)]
  .rw[dT Z];simp only[];exact⟨T,trivial,λr r0 r1=>by rw[if_neg Z]⟩
theorem Na:∀(l:List Int) (t:List Rg),TOk t->l.Nodup->(∀r∈l,1<=r/\r < t.length/\(rv t r).kind≠1)->TOk (l.foldl (λt r=>(CF t r).getD []) t)/\(l.foldl (λt r=>(CF t r).getD []) t).length = t.length/\∀r:Int,1<=r->r < t.length->rv (l.foldl (λt r=>(CF t r).getD []) t) r = if r∈l then Dj r else rv t r:=by
 intro l;induction l with
 | nil=>intro t T _ _;exact⟨T,rfl,λr _ _=>V⟩
 | cons a l Q=>
  intro t T j h;rw[dp] at j;obtain⟨A,x,D⟩:=h a V;obtain⟨G,H⟩:=HV T A x D;simp only[fF,G,dI];obtain⟨K,N,O⟩:=Q (AT t a (Dj a)) H j.2 λr y=>by
   obtain⟨r0,r1,rk⟩:=h r (by simp[y]);refine⟨r0,by simpa using r1,?_⟩;rw[DA Z x Z,if_neg (λc=>by subst c;exact j.1 y)];exact rk
  refine⟨K,by rw[N];simp,λr r0 r1=>?_⟩;rw[O r r0 (by simpa using r1),DA Z x Z];by_cases c:r = a
  .subst c;rw[if_neg j.1,if_pos rfl,if_pos V]
  .rw[if_neg c];by_cases d:r∈l
   .rw[if_pos d,if_pos (by simp[d])]
   .rw[if_neg d,if_neg (by simp[c,d])]
theorem T9:∀(l:List Int) (t:List Rg),TOk t->(∀r∈l,1<=r/\r < t.length/\((rv t r).kind = 3\/(rv t r).kind = 4))->∃j,Mo l t = some j/\TOk j/\j.length = t.length/\∀r:Int,1<=r->r < t.length->rv j r = if r∈l then { rv t r with kind:=4 } else rv t r:=by
 intro l;induction l with
 | nil=>intro t T _;exact⟨t,rfl,T,rfl,λr _ _=>V⟩
 | cons a l N=>
  intro t T h;obtain⟨y,x,O⟩:=h a V;unfold Mo;rw[Cm Z x];simp only[cP,z_o];have R:=T.row a y x;have Q:(rv t a).AX < 0:=by
   have:=R.ow;by_cases c:0<=(rv t a).AX
   .have:=this.2 c;omega
   .omega
  have A:TOk (AT t a { rv t a with kind:=4 }):=T.set y x ⟨V,V,R.t0,R.t1,R.s0,R.s1,R.l0,R.l1,λh=>by simp at h,by simp;omega,R.o0,R.o1⟩ λs _ _ _ h=>by simp at h;omega
  obtain⟨j,e,D,G,H⟩:=N _ A λr K=>by
   obtain⟨r0,r1,rk⟩:=h r (by simp[K]);refine⟨r0,by simpa using r1,?_⟩;rw[DA Z x Z];split
   .exact .inr rfl
   .exact rk
  refine⟨j,e,D,by rw[G];simp,λr r0 r1=>?_⟩;rw[H r r0 (by simpa using r1),DA Z x Z];by_cases c:r = a
  .subst c;rw[if_pos rfl,if_pos (show r∈r :: l by simp)];split<;>rfl
  .rw[if_neg c];by_cases d:r∈l
   .rw[if_pos d,if_pos (by simp[d])]
   .rw[if_neg d,if_neg (by simp[c,d])]
theorem PU {held:List Int}:∀(l:List Rg) (i:Nat),(DN held i l).Nodup/\∀r∈DN held i l,∃k,∃h:k < l.length,r = (i + k:Nat)/\C4 held 0 (i + k) l[k] = true:=by
 intro l;induction l with
 | nil=>intro i;exact⟨by simp[DN],λr y=>by simp[DN] at y⟩
 | cons x l K=>
  intro i;obtain⟨A,D⟩:=K (i + 1);have j : ∀r∈DN held (i + 1) l,∃k,∃h:k < (x :: l).length,r = (i + k:Nat)/\C4 held 0 (i + k) (x :: l)[k] = true:=λr y=>by
   obtain⟨k,G,e,hc⟩:=D r y;exact⟨k + 1,by simpa using G,by rw[e];congr 1;omega,by rw[show i + (k + 1) = i + 1 + k from Z];exact hc⟩
  simp only[DN];split
  .refine⟨dp.2 ⟨λH=>?_,A⟩,λr y=>?_⟩
   .obtain⟨k,_,e,_⟩:=D _ H;omega
   .rcases cU.1 y with h | h
    .exact⟨0,V,by rw[h];rfl,by assumption⟩
    .exact j r h
  .exact⟨A,j⟩
theorem NN {held:List Int} {n:Int}:∀(l:List Rg) (i:Nat) (left:Int),∀r∈(Cj held n i l left).2,∃k,∃h:k < l.length,r = (i + k:Nat)/\C4 held n (i + k) l[k] = true:=by
 intro l;induction l with
 | nil=>intro i left r j;simp[Cj] at j
 | cons x l D=>
  intro i left r j;have y : ∀left,r∈(Cj held n (i + 1) l left).2->∃k,∃h:k < (x :: l).length,r = (i + k:Nat)/\C4 held n (i + k) (x :: l)[k] = true:=λleft j=>by
   obtain⟨k,A,e,hc⟩:=D (i + 1) left r j;exact⟨k + 1,by simpa using A,by rw[e];congr 1;omega,by rw[show i + (k + 1) = i + 1 + k from Z];exact hc⟩
  simp only[Cj] at j;split at j
  .rename_i hc;rcases cU.1 j with h | h
   .exact⟨0,V,by rw[h];rfl,by simp only[z_b] at hc;exact hc.1⟩
   .exact y _ h
  .exact y _ j
theorem Ks {t:List Rg} {held:List Int}:∀(k:Nat) (n left:Int),∀r∈Bw t held k n left,∃m,n<=m/\∃j,∃h:j < t.tail.length,r = (1 + j:Nat)/\C4 held m (1 + j) t.tail[j] = true:=by
 intro k;induction k with
 | zero=>intro n left r x;simp[Bw] at x
 | succ k D=>
  intro n left r x;simp only[Bw,cm] at x;rcases x with h | h
  .obtain⟨j,A,e,hc⟩:=NN t.tail 1 left r h;exact⟨n,dB n,j,A,e,hc⟩
  .obtain⟨m,G,y⟩:=D (n + 1) _ r h;exact⟨m,Z,y⟩
theorem choose_spec {t:List Rg} {AU:Int} {held:List Int} (T:TOk t):((Ai t AU held).2).Nodup/\
  (∀r∈(Ai t AU held).2,1<=r/\r < t.length/\(rv t r).kind = 3/\(rv t r).top = (rv t r).BA/\(rv t r).AJ = 0/\r ∉ held)/\
  (∀r∈(Ai t AU held).1,1<=r/\r < t.length/\(rv t r).kind = 3/\(rv t r).top = (rv t r).BA/\1<=(rv t r).AJ/\r ∉ held):=by
 have x:∀(m:Int) (j:Nat) (h:j < t.tail.length),C4 held m (1 + j) t.tail[j] = true->1<=((1 + j:Nat):Int)/\((1 + j:Nat):Int) < t.length/\(rv t (1 + j:Nat)).kind = 3/\(rv t (1 + j:Nat)).top = (rv t (1 + j:Nat)).BA/\(rv t (1 + j:Nat)).AJ = m/\((1 + j:Nat):Int) ∉ held:=λm j h hc=>by
  rw[J8 h] at hc;simp only[C4,z_b,z_d,beq_iff_eq,cz,List.contains_eq_mem,decide_eq_false_iff_not] at hc;simp only[eT] at h;exact⟨Z,Z,hc.1.1.1.1,hc.1.1.1.2,hc.1.1.2,hc.2⟩
 unfold Ai;rw[if_pos (Bi.2 T)];obtain⟨A,D⟩:=PU (held:=held) t.tail 1;refine⟨A,λr y=>?_,λr y=>?_⟩
 .obtain⟨k,R,e,hc⟩:=D r y;rw[e];exact x 0 k R hc
 .obtain⟨m,hm,j,Q,e,hc⟩:=Ks 16 1 AU r y;obtain⟨G,H,K,N,W,O⟩:=x m j Q hc;rw[e];exact⟨G,H,K,N,Z,O⟩
theorem TU {c:Nat} {S:Sim} {B L q r0} (hc:c < 900000) (n0:1<=S.th.length) (n1:S.th.length<=3) (pl:S.AZ.length = S.th.length) (pp:∀p∈S.AZ,p.length<=40) (pg:S.AZ = P) (rs:0<=S.c.AU/\S.c.AU<=100) (G:Geo S.AC S.AA B) (lb:∀a,L a->B a)
  (rf:∀a j,L a->0<=j->j < (shp S.AC a).refs->wv S.AC (a + 2 + j)≠0->L (wv S.AC (a + 2 + j))) (st:∀a,B a->wv S.AC a = a) (nf:∀r:Int,0<=r->(rv S.AA r).kind≠4) (ml:S.AM.length = S.AC.length)
  (AI:∀a∈S.AI,L a) (th:∀t∈S.th,LM L t) (N:S.stop = false) (y:Bd c S):∃H,S.idle = some H/\IG P H ⟨B,L,q,r0⟩/\Bd (c + 1) H:=by
 have wl:S.AC.length<=192:=by
  have h1:=G.len;have O:=G.ok.n1;omega
 unfold Sim.idle;simp only[cP];rw[BQ (by have:=y.cy.1;omega) (by have:=y.cy.2;omega)];simp only[z_o];have T:=G.ok;have Q : TOk (rows (λ_ x=>{ x with AJ:=0 }) S.AA):=TOk.rows T λr x R=>⟨⟨R.k0,R.k1,R.t0,R.t1,R.s0,R.s1,dB 0,by show 0<=x.top - 16 * r;have:=R.t0;omega,R.fr,R.ow,R.o0,R.o1⟩,rfl⟩
 have K:∀r:Int,0<=r->(rv (rows (λ_ x=>{ x with AJ:=0 }) S.AA) r).kind = (rv S.AA r).kind/\(rv (rows (λ_ x=>{ x with AJ:=0 }) S.AA) r).top = (rv S.AA r).top:=λr r0=>by
  by_cases c:r < S.AA.length
  .rw[El r0 c];split<;>exact⟨rfl,rfl⟩
  .rw[Dc r0 (by rw[CQ];omega),Dc r0 Z];exact⟨rfl,rfl⟩
 have D : ∀a,¬ BZ (rows (λ_ x=>{ x with AJ:=0 }) S.AA) a:=λa A=>nf (a / 16) (by have:=A.1;omega) (by rw[<- (K _ (by have:=A.1;omega)).1];exact A.2)
 have W:∀a,mv (List.replicate S.AM.length false) a = false:=λa=>P5
 refine⟨_,rfl,⟨pg,?_,n0,n1,pl,pp,λi t h=>(th t (Io h)).ti,λh=>absurd (show (0:Int) = 1 from h) δ,λh=>absurd (show (0:Int) = 2 from h) δ,λh=>absurd (show (0:Int) = 3 from h) δ,(λh=>absurd (N.symm.trans h) δ),rs⟩,?_⟩
 .exact⟨Geo.tab G Q (CQ (f:=λ_ x=>{ x with AJ:=0 }) (t:=S.AA)) (λ_ h=>h) λr r0 r1=>.inl ⟨(K r Z).2,λ_ h _=>h⟩,lb,rf,λa h _=>st a h,λa _ A=>absurd A (D a),by show (List.replicate S.AM.length false).length = _;rw[cW];exact ml,λa _ h=>(by
   have h:mv (List.replicate S.AM.length false) a = true:=h
   rw[W] at h;cases h),by show (0:Int)<=0/\(0:Int)<=3;decide,λ_ r r0 hk=>nf r r0 (by rw[<- (K r r0).1];exact hk),λh=>absurd (show (2:Int)<=0 from h) δ,λa h=>⟨AI a h,D a⟩,λa _ A=>absurd A (D a),λh=>absurd (show (1:Int)<=0 from h) δ,λh=>absurd (show (0:Int) = 3 from h) δ,λh=>absurd (show (0:Int) = 1 from h) δ⟩
 .have O:=MW (List.replicate S.AM.length false);rw[cW] at O;have h3:=y.old;refine⟨by have:=y.ev;show S.ev.length<=c + 1;omega,by show S.old.length<=c + 1;omega,by have:=y.cy;show 0<=S.BC + 1/\S.BC + 1<=((c + 1:Nat):Int);omega,by have:=y.fu;show 0<=S.BJ/\S.BJ<=((c + 1:Nat):Int);omega,?_,y.pn⟩;show ([]:List Int).length + S.old.length + 5 * (List.replicate S.AM.length false).countP (λb=>!b) + (if (0:Int) = 2 then _ else 0)<=3000 + (c + 1);rw[if_neg δ,dc];omega
section
variable {c:Nat} {S:Sim} {g:Gh}
theorem UV (I:IG P S g) (N:S.Ae = 3):∀l:List Int,(∀a∈l,a≠0->g.L a)->∃y,S.rootsF l = some y/\y.length = l.length/\∀a∈y,a≠0->g.L a/\¬ BZ S.AA a:=by
 intro l;induction l with
 | nil=>intro _;exact⟨[],rfl,rfl,λa h=>by cases h⟩
 | cons a l O=>
  intro h;obtain⟨y,e,hl,G⟩:=O λb hb=>h b (by simp[hb])
  obtain⟨d,hd,j⟩:=I.frm (h a V);unfold Sim.rootsF;rw[hd,e];simp only[cP,z_o];cases d with
  | false=>
   simp only[d8,if_false,z_o];refine⟨_,rfl,by simp[hl],λb hb x=>?_⟩;rcases cU.1 hb with hb | hb
   .subst hb;exact⟨h b V x,λc=>by have:=j.2 c;cases this⟩
   .exact G b hb x
  | true=>
   have D:BZ S.AA a:=j.1 rfl;have A:=h a V (TE I.sh.g D);obtain⟨Q,R,T,W,a5,a6⟩:=I.in_ A;simp only[if_true];rw[Va Z Z];simp only[z_o];obtain⟨H,K,_⟩:g.L (wv S.AC a)/\¬ BZ S.AA (wv S.AC a)/\_:=I.sh.fw _ (I.sh.lb _ A) D (I.sh.af N a A D);refine⟨_,rfl,by simp[hl],λb hb x=>?_⟩;rcases cU.1 hb with hb | hb
   .subst hb;exact⟨H,K⟩
   .exact G b hb x
theorem YV (I:IG P S g) (D:S.Ae = 3):∀l:List Thr,(∀t∈l,LM g.L t)->∃j,S.thsF l = some j/\j.length = l.length/\∀t∈j,LM (λa=>g.L a/\¬ BZ S.AA a) t:=by
 intro l;induction l with
 | nil=>intro _;exact⟨[],rfl,rfl,λa h=>by cases h⟩
 | cons t l H=>
  intro h;obtain⟨j,e,hl,G⟩:=H λb hb=>h b (by simp[hb])
  have s:=h t V;obtain⟨K,A,x,y⟩:=UV I D t.AD s.rt;unfold Sim.thsF;rw[A,e];simp only[cP,z_o];refine⟨_,rfl,by simp[hl],λb hb=>?_⟩;rcases cU.1 hb with hb | hb
  .subst hb;exact⟨s.pc,s.g,s.k,s.nx,by show K.length<=8;rw[x];exact s.rl,y⟩
  .exact G b hb
theorem UY (hc:c < 900000) (I:IG P S g) (B:Bd c S) (N:S.calm = true) (h3:S.Ae = 3) (K:∀a j,g.L a->¬ BZ S.AA a->0<=j->j < (shp S.AC a).refs->¬ BZ S.AA (wv S.AC (a + 2 + j))):∃y g',({ S with stop:=false }:Sim).finish = some y/\IG P y g'/\Bd (c + 1) y:=by
 have st:=I.still N;have H:=I.sh;have G:=H.g;have I0:IG P { S with stop:=false } g:=⟨I.pg,I.sh,I.n0,I.n1,I.pl,I.pp,I.ti,I.c1,I.c2,I.c3,(λh=>by cases h),I.rs⟩;obtain⟨th,e,hl,hm⟩:=YV I0 h3 S.th st;unfold Sim.finish;simp only[cP];rw[e];simp only[z_o];have T:=G.ok;have n1:S.AA.length<=12:=T.n1;obtain⟨Q,R,A⟩:=NA S.AA.length 1 S.AA T Z Z;have A:∀r:Int,1<=r->r < S.AA.length->rv (DG S.AA.length 1 S.AA) r = if (rv S.AA r).kind = 4 then Dj r else rv S.AA r:=λr r0 r1=>by
  rw[A r r0 r1];by_cases h:(rv S.AA r).kind = 4
  .rw[if_pos ⟨Z,h⟩,if_pos h]
  .rw[if_neg (λh'=>h h'.2),if_neg h]
 obtain⟨y,e',I',B'⟩:=TU (P:=P) (S:={ S with stop:=false,th:=th,AA:=DG S.AA.length 1 S.AA }) (B:=λa=>g.B a/\¬ BZ S.AA a) (L:=λa=>g.L a/\¬ BZ S.AA a) (q:=g.q) (r0:=g.r0) hc (by show 1<=th.length;rw[hl];exact I.n0) (by show th.length<=3;rw[hl];exact I.n1) (by show S.AZ.length = th.length;rw[hl];exact I.pl) I.pp I.pg I.rs
  (Geo.tab G Q R (λa h=>h.1) λr r0 r1=>by
   rw[A r r0 r1]
   by_cases h:(rv S.AA r).kind = 4
   .right
    rw[if_pos h,(Ct r0 (by simp only at r1;omega)).2]
    exact⟨rfl,λa D O=>D.2 ⟨by have:=G.inn D.1;omega,by rw[O];exact h⟩⟩
   .left
    rw[if_neg h]
    exact⟨rfl,λa D O=>⟨D,λhf=>h (by rw[<- O];exact hf.2)⟩⟩) (λa h=>⟨H.lb a h.1,h.2⟩) (λa j h W j1 hn=>⟨H.rf a j h.1 W j1 hn,K a j h.1 h.2 W j1⟩) (λa h=>H.st a h.1 h.2) (λr r0 x=>by
   have x:(rv (DG S.AA.length 1 S.AA) r).kind = 4:=x
   by_cases c1:r < S.AA.length
   .by_cases c2:1<=r
    .rw[A r c2 c1] at x
     split at x
     .rw[(Ct c2 Z).2] at x;cases x
     .contradiction
    .rw[show r = 0 from Z,Q.e] at x;cases x
   .rw[Dc r0 (by rw[R];omega)] at x;cases x) H.ml (λa h=>H.pl a h) hm rfl ⟨B.ev,B.old,B.cy,B.fu,B.st,B.pn⟩
 exact⟨y,_,e',I',B'⟩
theorem Xv {x:X} (H:Sh x) {a:Int} (j:x.L a) (y:mv x.m a = true):0 < cnt x (a / 16):=by
 have g:=H.g.inn (H.lb a j);unfold cnt;rw[List.countP_pos_iff];refine⟨(a - 16 * (a / 16)).toNat,du.2 Z,?_⟩
 classical
 have:∃b,0<=b/\mv x.m b = true/\b<=16 * (a / 16) + ((a - 16 * (a / 16)).toNat:Int)/\16 * (a / 16) + ((a - 16 * (a / 16)).toNat:Int) < b + sz x.w b:=⟨a,Z,y,Z,Z⟩;exact decide_eq_true this
theorem Uw {n:Nat} (hc:c < 900000) (hn:mu S < n) (I:IG P S g) (B:Bd c S) (b5:S.calm = true) (h1:S.Ae = 1):∃S' g',({ S with stop:=false }:Sim).choose n = some S'/\IG P S' g'/\Bd (c + 1) S':=by
 have I0:IG P { S with stop:=false } g:=⟨I.pg,I.sh,I.n0,I.n1,I.pl,I.pp,I.ti,I.c1,I.c2,I.c3,(λh=>by cases h),I.rs⟩;have B0:Bd c { S with stop:=false }:=⟨B.ev,B.old,B.cy,B.fu,B.st,B.pn⟩;obtain⟨x,e1,N,K,p1,⟨_,t1⟩,_,s1,_,k1,o1,b7⟩:=Vx hc n { S with stop:=false } g I0 B0 h1 hn;have a9:x.calm = true:=by
  show (x.th.all λt=>t.pc == 0) = true;rw[t1];exact b5
 have st:=N.still a9;have H:=N.sh;have G:=H.g;have T:=G.ok;have n1:x.AA.length<=12:=T.n1;have M:=H.mp p1;have C:=N.c1 p1;have lg:∀v,Lg (xof x g) v->v≠0->v < (xof x g).tm v->mv x.AM v = true:=λv h h0 Q=>by
  rcases h with h | h | h | h | h
  .exact absurd h h0
  .exact h
  .have h:v∈x.col.AR:=h;rw[k1] at h;cases h
  .have h:v∈x.old:=h;rw[o1] at h;cases h
  .have:=h.2;omega
 have L0:∀a,g.L a->16<=a:=λa h=>(N.in_ h).1
 have lm:∀a,g.L a->a < (xof x g).tm a->mv x.AM a = true:=M.mn (λa=>mv x.AM a = true) (λa h=>by
  obtain⟨q1,q2,q3⟩:=M.l0 a h
  exact lg a q3 (by have:=L0 a q1;omega) q2) (λa j O Q hm j0 j1 hq=>by
  obtain⟨q1,q2⟩:=M.ql a j O Q j0 j1 hq
  rcases C.sc a j (by have:=L0 a O;omega) hm j0 j1 with ⟨h,_⟩ | h
  .omega
  .exact lg _ h hq q2)
 obtain⟨c1,c2,c3⟩:=choose_spec (AU:=x.c.AU) (held:=x.AI.map AN) T;obtain⟨f1,f2,f3⟩:=Na (Ai x.AA x.c.AU (x.AI.map AN)).2 x.AA T c1 λr W=>by
  obtain⟨h1,D,h3,_⟩:=c2 r W;exact⟨h1,D,by simp only at h3;omega⟩
 have a4:∀r∈(Ai x.AA x.c.AU (x.AI.map AN)).1,r ∉ (Ai x.AA x.c.AU (x.AI.map AN)).2:=λr h h'=>by
  have a1:=(c3 r h).2.2.2.2.1;have a2:=(c2 r h').2.2.2.2.1;omega
 obtain⟨R,e2,b4,k2,k3⟩:=T9 (Ai x.AA x.c.AU (x.AI.map AN)).1 _ f1 λr W=>by
  obtain⟨h1,D,h3,_⟩:=c3 r W;refine⟨h1,by rw[f2];exact D,.inl ?_⟩;rw[f3 r h1 D,if_neg (a4 r W)];exact h3
 have kr:∀r:Int,1<=r->r < x.AA.length->rv R r = if r∈(Ai x.AA x.c.AU (x.AI.map AN)).1 then { rv x.AA r with kind:=4 } else if r∈(Ai x.AA x.c.AU (x.AI.map AN)).2 then Dj r else rv x.AA r:=λr r0 r1=>by
  rw[k3 r r0 (by rw[f2];exact r1),f3 r r0 r1];by_cases h:r∈(Ai x.AA x.c.AU (x.AI.map AN)).1
  .rw[if_pos h,if_pos h,if_neg (a4 r h)]
  .rw[if_neg h,if_neg h]
 have a5 : R.length = x.AA.length:=by rw[k2,f2]
 have y:∀a,g.L a->a / 16 ∉ (Ai x.AA x.c.AU (x.AI.map AN)).2:=λa O h=>by
  obtain⟨h1,D,h3,h4,h5,_⟩:=c2 _ h;have i:=G.inn (H.lb a O);simp only at i h4 h5 D;have hm:=lm a O (by show a < (rv x.AA (a / 16)).BA;omega);have h6:=Xv H O hm;have h7:=M.cov (a / 16) i.2.1 i.2.2.1;have h8:(rv x.AA (a / 16)).AJ = cnt (xof x g) (a / 16):=h7;rw[h5] at h8;omega
 have hB:∀a,(g.B a/\a / 16 ∉ (Ai x.AA x.c.AU (x.AI.map AN)).2)->g.B a:=λa h=>h.1
 have a6:∀a,g.B a->wv x.AC a = a:=λa h=>H.st a h (N.nofrom Z a)
 have a8:Geo x.AC R (λa=>g.B a/\a / 16 ∉ (Ai x.AA x.c.AU (x.AI.map AN)).2):=Geo.tab G b4 a5 hB λr r0 r1=>by
  rw[kr r r0 r1];by_cases h:r∈(Ai x.AA x.c.AU (x.AI.map AN)).1
  .left;rw[if_pos h];exact⟨rfl,λa O W=>⟨O,by rw[W];exact a4 r h⟩⟩
  .rw[if_neg h];by_cases D:r∈(Ai x.AA x.c.AU (x.AI.map AN)).2
   .right;rw[if_pos D,(Ct r0 (by simp only at r1;omega)).2];exact⟨rfl,λa O W=>O.2 (by rw[W];exact D)⟩
   .left;rw[if_neg D];exact⟨rfl,λa O W=>⟨O,by rw[W];exact D⟩⟩
 unfold Sim.choose;simp only[cP];rw[e1];simp only[z_o];rw[e2];simp only[z_o];by_cases hz:(Ai x.AA x.c.AU (x.AI.map AN)).1.length = 0
 .rw[if_pos hz];have b3:=dA.1 hz;obtain⟨S',e',I',B'⟩:=TU (P:=P) (S:={ x with stop:=false,AA:=R }) (B:=λa=>g.B a/\a / 16 ∉ (Ai x.AA x.c.AU (x.AI.map AN)).2) (L:=g.L) (q:=g.q) (r0:=g.r0) hc N.n0 N.n1 N.pl N.pp N.pg N.rs a8 (λa h=>⟨H.lb a h,y a h⟩) H.rf (λa h=>a6 a h.1) (λr r0 A=>by
   have A:(rv R r).kind = 4:=A
   by_cases c1:r < x.AA.length
   .by_cases c2:1<=r
    .rw[kr r c2 c1,b3,if_neg V] at A
     split at A
     .rw[(Ct c2 Z).2] at A;cases A
     .exact H.nf (by show x.Ae<=1;omega) r r0 A
    .rw[show r = 0 from Z,b4.e] at A;cases A
   .rw[Dc r0 (by rw[a5];omega)] at A;cases A) H.ml (λa h=>(H.pl a h).1) st rfl ⟨K.ev,K.old,K.cy,K.fu,K.st,K.pn⟩
  exact⟨S',_,e',I',B'⟩
 .rw[if_neg hz];have a7:∀a,g.B a->a / 16 ∉ (Ai x.AA x.c.AU (x.AI.map AN)).2->(rv R (a / 16)).BA = (rv x.AA (a / 16)).BA:=λa h D=>by
   have i:=G.inn h;rw[kr _ i.2.1 i.2.2.1];by_cases hh:a / 16∈(Ai x.AA x.c.AU (x.AI.map AN)).1
   .rw[if_pos hh]
   .rw[if_neg hh,if_neg D]
  have a3:∀a,g.B a->BZ R a->a / 16∈(Ai x.AA x.c.AU (x.AI.map AN)).1:=λa h hf=>by
   have i:=G.inn h;have A:=hf.2;rw[kr _ i.2.1 i.2.2.1] at A;split at A
   .assumption
   .split at A
    .rw[(Ct i.2.1 (by have:=i.2.2.1;simp only at this;omega)).2] at A;cases A
    .exact absurd A (H.nf (by show x.Ae<=1;omega) _ Z)
  refine⟨_,⟨λa=>g.B a/\a / 16 ∉ (Ai x.AA x.c.AU (x.AI.map AN)).2,g.L,g.q,g.r0⟩,rfl,N.mk' (S':={ x with stop:=false,AA:=R,Ae:=2,col:={ Da x.col.Ap x.col.want with pc:=5,r:=1,p:=16 } }) rfl rfl ?_ st (λh=>absurd (show (2:Int) = 1 from h) δ) (λ_=>?_) (λh=>absurd (show (2:Int) = 3 from h) δ) (λh=>by cases h),?_⟩
  .refine⟨a8,λa h=>⟨H.lb a h,y a h⟩,H.rf,λa h _=>a6 a h.1,λa h _ b6=>absurd (a6 a h.1) b6,H.ml,λa a0 h=>?_,by show (0:Int)<=2/\(2:Int)<=3;decide,λh=>absurd (show (2:Int)<=1 from h) δ,λ_ a h Q=>lm a h ?_,λa h=>⟨(H.pl a h).1,λhf=>?_⟩,λa h hf=>?_,λ_ a h Q=>?_,λh=>absurd (show (2:Int) = 3 from h) δ,λh=>absurd (show (2:Int) = 1 from h) δ⟩
   .obtain⟨b1,b2⟩:=H.mt a a0 h;refine⟨b1,?_⟩;show a < (rv R (a / 16)).BA;rw[a7 a (H.lb a b1) (y a b1)];exact b2
   .have Q:a < (rv R (a / 16)).BA:=Q;rw[a7 a (H.lb a h) (y a h)] at Q;exact Q
   .have hL:=(H.pl a h).1;have:=(c3 _ (a3 a (H.lb a hL) hf)).2.2.2.2.2;refine this (cq.2 ⟨a,h,?_⟩);have:=L0 a hL;rw[Be Z]
   .obtain⟨_,_,_,h4,_⟩:=c3 _ (a3 a (H.lb a h) hf);have i:=G.inn (H.lb a h);simp only at i h4;exact lm a h (by show a < (rv x.AA (a / 16)).BA;omega)
   .have Q:(rv R (a / 16)).BA<=a:=Q;rw[a7 a h.1 h.2] at Q;exact H.nb (by show 1<=x.Ae;omega) a h.1 Q
  .refine⟨dB 1,by show (1:Int)<=R.length;rw[a5];have:=T.n0;simp only at this;omega,by show (16:Int) * 1<=16;decide,by show (16:Int)<=16 * 1 + 16;decide,λa h _ b0=>?_,.inl rfl⟩;have b0:a < 16:=b0;have:=L0 a h;omega
  .refine⟨by have:=K.ev;show x.ev.length<=c + 1;omega,by have:=K.old;show x.old.length<=c + 1;omega,by have:=K.cy;show 0<=x.BC/\x.BC<=((c + 1:Nat):Int);omega,by have:=K.fu;show 0<=x.BJ/\x.BJ<=((c + 1:Nat):Int);omega,?_,K.pn⟩;have:=K.st;show ([]:List Int).length + x.old.length + 5 * x.AM.countP (λb=>!b) + (if (5:Int) = 2 then _ else 0)<=3000 + (c + 1);rw[if_neg δ,dc];omega
end
end Sm
end
section
namespace Go.Lf
open Go Sm
theorem Wy {R:RM} {D:Chs} {v:Value} {l:List Int} {i:Int} {k:Value->M} (h:B8 R v l) (h0:0<=i) (K:i < l.length) (H:∀q:Value,(∀(j : Chs) (x : Value->M),J R j (x (I (l[i.toNat]'(Z))))->J R j (L1 q x))->J R D (k q)):J R D (IA 1 v (I i) k):=by
 rcases h with ⟨_,y,_⟩ | ⟨b,o,G,t,O,rfl,y,Q,N,T⟩
 .omega
 .refine jia h0 K (H _ λj x A=>jlr y ?_ A);have:=congrArg (λl=>l[i.toNat]?) N;simp only[dw,dY,dH] at this;rw[if_pos Z,cF (by omega:i.toNat < l.length)] at this;rw[dx,this];rfl
theorem RJ {S S' : Sim} (h:S.look = some S'):S'.c = S.c/\S'.AI = S.AI:=by
 unfold Sim.look at h;split at h
 .cases h
 obtain⟨_,_,h⟩:=AF h;obtain⟨_,_,h⟩:=AF h;obtain⟨⟨v,x⟩,j,h⟩:=AF h;have e:=Cy j;subst e;obtain⟨_,_,h⟩:=AF h;simp only[cX] at h;subst h;exact⟨rfl,rfl⟩
theorem S7 {S S' : Sim} (h:S.mark = some S'):S'.c = S.c/\S'.AI = S.AI:=by
 unfold Sim.mark at h;split at h
 .cases h
 dsimp only at h;split at h
 .split at h
  .simp only[cX] at h;subst h;exact⟨rfl,rfl⟩
  .simp only[cX] at h;subst h;exact⟨rfl,rfl⟩
 obtain⟨a,_,h⟩:=AF h;obtain⟨row,_,h⟩:=AF h;obtain⟨b,_,h⟩:=AF h;split at h
 .obtain⟨_,_,h⟩:=AF h;obtain⟨⟨v,x⟩,j,h⟩:=AF h;have e:=Cy j;subst e;obtain⟨_,_,h⟩:=AF h;simp only[cX] at h;subst h;exact⟨rfl,rfl⟩
 .simp only[cX] at h;subst h;exact⟨rfl,rfl⟩
def Pr (S:Sim):Prop:=inR S.c.AU/\∀a∈S.AI,AN a<=9223372036854775807
theorem PA {t:List Rg} {AU:Int} {held:List Int} {i:Nat} (h:i < (Ai t AU held).2.length) :
  ∃H,CF (((Ai t AU held).2.take i).foldl (λt r=>(CF t r).getD []) t) ((Ai t AU held).2[i]) = some H/\H.length = t.length/\(((Ai t AU held).2.take i).foldl (λt r=>(CF t r).getD []) t).length = t.length:=by
 cases x:BT t with
 | false=>
  have:Ai t AU held = ([],[]):=by unfold Ai;rw[x];rfl
  rw[this] at h;exact absurd h V
 | true=>
  have T:=Bi.1 x;obtain⟨c1,c2,_⟩:=choose_spec T;generalize (Ai t AU held).2 = q at c1 c2 h ⊢;obtain⟨O,D,Q⟩:=Na (q.take i) t T (c1.sublist (List.take_sublist _ _)) λr hr=>by
   obtain⟨y,A,K,_⟩:=c2 r (dJ hr);exact⟨y,A,Z⟩
  obtain⟨y,A,K,_⟩:=c2 q[i] (cK h);have G:q[i] ∉ q.take i:=by
   intro W;obtain⟨j,R,e⟩:=d5 W;rw[cV] at R;rw[eh] at e;have:=(List.getElem_inj c1).1 e;omega
  have e:=Q q[i] y A;rw[if_neg G] at e;obtain⟨N,d2⟩:=HV O y (by rw[D];exact A) (by rw[e];omega);exact⟨_,N,by rw[DP,D],D⟩
theorem VY {p n:Nat} {S S' : Sim} {g:Img} {R:RM} (c5:Ok R S g) (hp:Pr S) (hS:S.choose n = some S') :
  Fn P Iq [Pt p] R (Ag p S g) (DI p S' λ_=>True):=by
 refine Ny λF=>?_
 refine z_1 ?_;unfold Sim.choose at hS;obtain⟨S0,c0,hS⟩:=AF hS;refine Ab (λvs H Q=>R.le H/\∃g0,Ok H S0 g0/\S0.sz = true/\Pr S0/\Q = Ag p S0 g0 ++ F/\vs = [Pt p]) (λK hK=>?_) ?_
 .refine jcI hK λK2 a0=>?_
  refine jlp (λm vs H Q=>R.le H/\∃S1 D,Ok H S1 D/\Pr S1/\Sim.drain m S1 = some S0/\Q = Ag p S1 D ++ F/\vs = [Pt p])
   ⟨RM.le.refl R,S,g,c5,hp,c0,rfl,rfl⟩ ?_
  rintro m e R1 D1 K3 ⟨a2,S1,D,j,b8,y,hD,he⟩ a1;refine z_W ?_;clear hD;cases m with
  | zero=>exact absurd y (by simp[Sim.drain])
  | succ m=>
  unfold Sim.drain at y;split at y
  .cases y
  rename_i hz;have hz:S1.sz = true:=by simpa using hz
  refine jor [Pt p] ((decide ((S1.col.AR.length:Int) > 0)) || (decide ((S1.old.length:Int) > 0))) (λK' b6=>?_) (λe c u ho he=>?_)
  .refine jl rfl (Jh j.AR (jgr (jgO b6 λh1 hN=>jl rfl (Jh j.old (jgr hN)))))
  refine z_V ?_;refine jor [Pt p] ((decide ((S1.col.AR.length:Int) > 0) || decide ((S1.old.length:Int) > 0)) || (S1.col.pc == 2)) (λK' b6=>?_) (λe c u ho he=>?_)
  .rw[ho];refine jgO b6 λh1 hN=>jl rfl (jeq hN)
  refine z_V ?_;rw[ho];refine jif (λhc=>?_) (λhc=>?_)
  .simp only[d7,z_d,beq_iff_eq] at hc;rw[if_pos Z] at y;have e6:∃S2,(if S1.col.pc = 2 then S1.look else S1.mark) = some S2/\Sim.drain m S2 = some S0:=by
    dsimp only at y;by_cases c2:S1.col.pc = 2
    .rw[if_pos c2] at y ⊢;exact AF y
    .rw[if_neg c2] at y ⊢;exact AF y
   obtain⟨S2,h2,y⟩:=e6;refine Ab (λvs H Q=>R.le H/\∃g2,Ok H S2 g2/\Pr S2/\Q = Ag p S2 g2 ++ F/\vs = [Pt p]) (λK4 b9=>?_) ?_;rotate_left
   .rintro e R2 D2 ⟨N,g2,W,e7,hD,he⟩;refine z_W ?_;clear hD;exact a1 m _ _ _ Z ⟨N,S2,g2,W,e7,y,rfl,rfl⟩
   refine jl rfl (jeq (jif (λh3=>?_) (λh3=>?_)))
   .rw[if_pos (eq_of_beq h3)] at h2;obtain⟨k1,k2⟩:=RJ h2;refine jcS (WF j h2) λ_ R2 g2 N _ W=>(b9 _ _ _ ⟨a2.trans N,g2,W,by unfold Pr;rw[k1,k2];exact b8,rfl,rfl⟩)
   .rw[if_neg (ne_of_beq_false h3)] at h2;obtain⟨k1,k2⟩:=S7 h2;refine jcS (Wu j h2) λ_ R2 g2 N _ W=>(b9 _ _ _ ⟨a2.trans N,g2,W,by unfold Pr;rw[k1,k2];exact b8,rfl,rfl⟩)
  .simp only[ci,decide_eq_false_iff_not,beq_eq_false_iff_ne] at hc;rw[if_neg Z] at y;simp only[cX] at y;subst y;exact a0 _ _ _ ⟨a2,D,j,hz,b8,rfl,rfl⟩
 rintro e R1 D1 ⟨a2,g0,a5,hz,c6,hD,he⟩;refine z_W ?_;clear hD;clear hp c0 c5;have c7:=Gp hz;have f5:=a5.tl;refine jss { S0 with stop:=false } g0 rfl rfl δ τ τ ?_;dsimp only at hS;obtain⟨t4,a9,hS⟩:=AF hS;refine Ab (λvs H Q=>H = R1/\∃v A,SO (S0.AI.map AN) v A/\Q = A ++ (Ag p { S0 with stop:=false } g0 ++ F)/\vs = [Pt p,v]) (λK hK=>?_) ?_
 .refine jcI hK λK2 a0=>?_
  refine jlp (λm vs H Q=>H = R1/\∃(i:Nat) (v:Value) (A:Chs),i<=S0.AI.length/\SO ((S0.AI.take i).map AN) v A/\Q = A ++ (Ag p { S0 with stop:=false } g0 ++ F)/\vs = [Pt p,v,I i]/\m = S0.AI.length - i)
   (n:=S0.AI.length) ⟨rfl,0,SN,[],Z,.inl ⟨V,rfl,rfl⟩,rfl,rfl,Z⟩ ?_
  rintro m e R2 D2 K3 ⟨hR,i,v,A,hi,so,hD,he,hm⟩ a1;subst hR;refine z_W ?_;clear hD;refine jl rfl (Jh a5.AI (jlt (jif (λhc=>?_) (λhc=>?_))));rotate_left
  .have hc:=z_g hc;rw[cO Z] at so;exact a0 _ _ _ ⟨rfl,v,A,so,rfl,rfl⟩
  have hc:i < S0.AI.length:=by have:=z_f hc;omega
  refine jl rfl (Bl a5.AI Z Z ?_);have e0:S0.AI[((i:Nat):Int).toNat]'(Z) = S0.AI[i]:=V
  rw[e0];refine jp (Cf _ (c6.2 _ (cK hc))) (jbs rfl rfl λb1=>(Az d9.symm ?_));have hx:BX R2 (A ++ ((b1,C 3 [I (AN S0.AI[i])]) :: (Ag p { S0 with stop:=false } g0 ++ F))) (some ⟨b1,0,none⟩) (1 * 1) ([AN S0.AI[i]].map I):=BX.held (cs:=[I (AN S0.AI[i])]) (z_n 1);obtain⟨sa,sn,sc,rfl⟩:=so.sl;have e8:=c7.2.2.2.1;refine jas so rfl (by rw[cM,cV,cr];omega) hx λv' A' f1=>(jad (Al A' (G:=Ag p { S0 with stop:=false } g0 ++ F) (a1 (S0.AI.length - (i + 1)) _ _ _ Z ⟨rfl,i + 1,v',A',Z,by rw[cI hc,dE];exact f1,rfl,rfl,rfl⟩)))
 rintro e R2 D2 ⟨hR,v,A,so,hD,he⟩;subst hR;refine z_W ?_;clear hD;refine Dw so λR2 N b5=>?_
 have b0:=a2.trans N;have j:Ok R2 { S0 with stop:=false } g0:={ a5.le N with };refine jl (v:=.slice (some ⟨g0.tb,0,none⟩) S0.AA.length g0.tc) rfl (jl rfl ?_);have e8:=c7.2.2.2.1;refine jmk (NE S0.c.AU c6.1 Z b5 (by rw[cM];omega)) ?_;rintro _ _ ⟨v1,v2,A1,A2,e1,e3,rfl,rfl⟩;refine jex rfl (jex rfl ?_);rw[cR];refine Dw e1 λR3 b7 T=>(Dw e3 λR4 a6 a3=>?_)
 have T:=T.le a6;have W:=(j.le b7).le a6;have b3:=(b0.trans b7).trans a6;clear j a5 b5 so e1 e3 b7 a6 N b0 a2;have cd:∀i (h:i < (Ai S0.AA S0.c.AU (S0.AI.map AN)).2.length),_:=λi h=>PA h
 generalize hq:Ai S0.AA S0.c.AU (S0.AI.map AN) = q at a9 hS T a3 cd ⊢;obtain⟨q1,q2⟩:=q;dsimp only at a9 hS T a3 cd ⊢;generalize c8:q2.foldl (λt r=>(CF t r).getD []) S0.AA = tf at a9;have f4:q2.length < 1000000:=by
  have:=IJ (S0.AI.map AN) S0.AA.tail 1;have e2:q2 = (Ai S0.AA S0.c.AU (S0.AI.map AN)).2:=by rw[hq]
  rw[eT] at this;rw[e2];unfold Ai;split
  .dsimp only;omega
  .simp
 have f3:q1.length < 1000000:=by
  have:=FZ S0.AA (S0.AI.map AN) 16 1 S0.c.AU;have e2:q1 = (Ai S0.AA S0.c.AU (S0.AI.map AN)).1:=by rw[hq]
  rw[e2];unfold Ai;split
  .dsimp only;omega
  .simp
 refine Ab (λvs H Q=>H = R4/\∃D,Ok R4 { S0 with stop:=false,AA:=tf } D/\Q = Ag p { S0 with stop:=false,AA:=tf } D ++ F/\vs = [Pt p,v1]) (λK hK=>?_) ?_
 .refine jcI hK λK2 a0=>?_
  refine jlp (λm vs H Q=>H = R4/\∃(i:Nat) (t1:List Rg) (D:Img),i<=q2.length/\t1 = (q2.take i).foldl (λt r=>(CF t r).getD []) S0.AA/\Ok R4 { S0 with stop:=false,AA:=t1 } D/\Q = Ag p { S0 with stop:=false,AA:=t1 } D ++ F/\vs = [Pt p,v1,v2,I i]/\m = q2.length - i)
   (n:=q2.length) ⟨rfl,0,S0.AA,g0,Z,rfl,W,rfl,rfl,Z⟩ ?_
  rintro m e R5 D5 K3 ⟨hR,i,t1,D,hi,a8,j,hD,he,hm⟩ a1;subst hR;refine z_W ?_;clear hD;refine Jh a3 (jlt (jif (λhc=>?_) (λhc=>?_)));rotate_left
  .have hc:=z_g hc;rw[cO Z,c8] at a8;subst a8;exact a0 _ _ _ ⟨rfl,D,j,rfl,rfl⟩
  have hc:i < q2.length:=by have:=z_f hc;omega
  obtain⟨t',d1,d2,d3⟩:=cd i hc;rw[<- a8] at d1 d3;refine jl rfl (Bl a3 Z Z ?_);have e0:q2[((i:Nat):Int).toNat]'(Z) = q2[i]:=V
  rw[e0];refine jmk (KL (t:=t1) _ Z) ?_;rw[d1];rintro _ _ ⟨sv,⟨b4,c4,f2,e5,rfl,rfl⟩,rfl⟩;refine jex rfl (jex rfl (Qs (jad (a1 (q2.length - (i + 1)) _ _ _ Z ⟨rfl,i + 1,t',{ D with tb:=b4,tc:=c4,tsp:=f2 },Z,?_,j.tab Z _ _ _ e5,rfl,rfl,rfl⟩))));rw[cI hc,fU,<- a8];simp only[fF,List.foldl_nil,d1,dI]
 rintro e R5 D5 ⟨hR,D,j,hD,he⟩;subst hR;refine z_W ?_;clear hD;clear cd a3 c8 W;refine Ab (λvs H Q=>H = R5/\∃D,Ok R5 { S0 with stop:=false,AA:=t4 } D/\Q = Ag p { S0 with stop:=false,AA:=t4 } D ++ F/\vs = [Pt p,v1]) (λK hK=>?_) ?_
 .refine jcI hK λK2 a0=>?_
  refine jlp (λm vs H Q=>H = R5/\∃(i:Nat) (t1:List Rg),i<=q1.length/\Mo (q1.drop i) t1 = some t4/\Ok R5 { S0 with stop:=false,AA:=t1 } D/\Q = Ag p { S0 with stop:=false,AA:=t1 } D ++ F/\vs = [Pt p,v1,I i]/\m = q1.length - i)
   (n:=q1.length) ⟨rfl,0,tf,Z,a9,j,rfl,rfl,Z⟩ ?_
  rintro m e R6 D6 K3 ⟨hR,i,t1,hi,O,j,hD,he,hm⟩ a1;subst hR;refine z_W ?_;clear hD;refine Jh T (jlt (jif (λhc=>?_) (λhc=>?_)));rotate_left
  .have hc:=z_g hc;rw[cT Z] at O;simp only[Mo,cX] at O;subst O;exact a0 _ _ _ ⟨rfl,D,j,rfl,rfl⟩
  have hc:i < q1.length:=by have:=z_f hc;omega
  rw[cQ hc] at O;unfold Mo at O;obtain⟨x,hx,O⟩:=AF O;obtain⟨x0,x1,x2,x3⟩:=Av hx;have e0:q1[((i:Nat):Int).toNat]'(Z) = q1[i]:=V
  have c9:=j.tl;refine jl rfl (Wy T Z Z λqq a7=>a7 _ _ ?_);rw[e0] at a7 ⊢;obtain⟨k,hk⟩:∃k:Nat,q1[i] = k:=⟨q1[i].toNat,Z⟩;rw[hk] at a7 O ⊢;have a4:k < t1.length:=Z
  have e9:t1[k] = x:=by rw[<- x3];simp only[hk,cG]
  refine C0 a4 (Rm (p:=p) a4 (ja λb2=>(Ak (jl rfl jev) (Ak (a7 _ _ jev) (Ak (Rm (p:=p) a4 jev) ?_)))));have d4 : ({ S0 with stop:=false,AA:=t1 }:Sim).AA[k] = x:=e9;rw[d4];refine js (cs':=eRg x) rfl rfl V rfl (js (cs':=eRg { x with kind:=4 }) rfl rfl V rfl (jl rfl (Bl T Z Z ?_)));rw[e0,hk];refine jla V rfl (C0 a4 (UQ (p:=p) { S0 with stop:=false,AA:=t1.set k { x with kind:=4 } } a4 τ (jad (Al (Ag p { S0 with stop:=false,AA:=t1.set k { x with kind:=4 } } D) (G:=F) (a1 (q1.length - (i + 1)) _ _ _ Z ⟨rfl,i + 1,t1.set k { x with kind:=4 },Z,?_,{ j with tl:=by simpa using c9,tk:=by simpa using j.tk },rfl,rfl,rfl⟩)))));rw[<- O];simp[AT]
 rintro e R6 D6 ⟨hR,D,j,hD,he⟩;subst hR;refine z_W ?_;clear hD;refine Jh T (jeq (jif (λhc=>?_) (λhc=>?_)))
 .rw[if_pos (by have:=eq_of_beq hc;omega)] at hS;refine jcS (Vh j hS) λ_ R7 g7 e4 _ f0=>(Ay (b3.trans e4) trivial rfl f0)
 .rw[if_neg (by have:=ne_of_beq_false hc;omega)] at hS;simp only[cX] at hS;refine jss { S0 with stop:=false,AA:=t4,Ae:=2 } D rfl rfl δ τ τ (jl rfl (jl rfl (jbd rfl rfl (jss { S0 with stop:=false,AA:=t4,Ae:=2,col:={ Da S0.col.Ap S0.col.want with pc:=5,r:=1,p:=16 } } { D with AR:=SN } rfl rfl δ τ τ ?_))));subst hS;refine Ay b3 trivial rfl ?_;exact { j with AR:=.inl ⟨rfl,rfl,rfl⟩ }
theorem M7 {S:Sim}:∀{l j : List Int},S.rootsF l = some j->j.length = l.length/\∀k (h:k < l.length) (A : k < j.length),∃f,S.from_ l[k] = some f/\(if f then idx S.AC l[k] else some l[k]) = some j[k]
 | [],j,e=>by
  simp only[Sim.rootsF,cX] at e;subst e;exact⟨rfl,λk h=>absurd h V⟩
 | a :: r,j,e=>by
  unfold Sim.rootsF at e;obtain⟨f,K,e⟩:=AF e;have D:∃b,(if f then idx S.AC a else some a) = some b/\∃x,S.rootsF r = some x/\b :: x = j:=by
   cases f with
   | true=>
    obtain⟨b,hb,e⟩:=AF e;obtain⟨x,y,e⟩:=AF e;simp only[cX] at e;exact⟨b,hb,x,y,e⟩
   | false=>
    obtain⟨b,hb,e⟩:=AF e;obtain⟨x,y,e⟩:=AF e;simp only[cX] at e;exact⟨b,hb,x,y,e⟩
  obtain⟨b,hb,x,y,rfl⟩:=D;obtain⟨G,H⟩:=M7 y;refine⟨by simp[G],λk h A=>?_⟩;cases k with
  | zero=>exact⟨f,K,hb⟩
  | succ k=>exact H k (by simpa using h) (by simpa using A)
theorem Qe {S:Sim}:∀{l j : List Thr},S.thsF l = some j->j.length = l.length/\∀k (h:k < l.length) (x : k < j.length),∃r,S.rootsF l[k].AD = some r/\j[k] = { l[k] with AD:=r }
 | [],j,e=>by
  simp only[Sim.thsF,cX] at e;subst e;exact⟨rfl,λk h=>absurd h V⟩
 | a :: r,j,e=>by
  unfold Sim.thsF at e;obtain⟨r1,D,e⟩:=AF e;obtain⟨H,G,e⟩:=AF e;simp only[cX] at e;subst e;obtain⟨y,A⟩:=Qe G;refine⟨by simp[y],λk h x=>?_⟩;cases k with
  | zero=>exact⟨r1,D,rfl⟩
  | succ k=>exact A k (by simpa using h) (by simpa using x)
theorem jsi {R:RM} {b k:Nat} {l:List Int} {sp:List Value} {w:Int} {D D' : Chs} {m:M} (j:k < l.length) [a:At D b (C Aa (l.map I ++ sp))] [u:Up D b (C Aa (l.map I ++ sp)) (C Aa ((l.set k w).map I ++ sp)) D'] (H:J R D' m):J R D (ST 1 (.pointer (some ⟨b,0 + k * 1,none⟩)) (I w) m):=by
 rw[cg,dx];refine js (cs':=(l.set k w).map I ++ sp) rfl rfl (by simp;omega) ?_ H;rw[show cl (I w) = [I w] from rfl,GS (by simp;omega),List.set_append_left _ _ (by simpa using j),List.map_set]
theorem GI {α:Type} {l l' : List α} {k:Nat} (hl:l'.length = l.length) (x:k < l.length):(l'.take k ++ l.drop k).set k (l'[k]'(Z)) = l'.take (k + 1) ++ l.drop (k + 1):=by
 have j:(l'.take k).length = k:=by simp;omega
 rw[dl _ _ Z,j,Nat.sub_self,cQ x,List.set_cons_zero,cI Z,cR,List.singleton_append]
theorem JA {α:Type} {l l' : List α} {k:Nat} (hl:l'.length = l.length) (x:k < l.length) (h:k < (l'.take k ++ l.drop k).length):(l'.take k ++ l.drop k)[k] = l[k]:=by
 have j:(l'.take k).length = k:=by simp;omega
 rw[df Z,eH];congr 1;omega
theorem E5 {α:Type} {l l' : List α} {k:Nat} (hl:l'.length = l.length):(l'.take k ++ l.drop k).length = l.length:=by simp;omega
theorem Wb {p:Nat} {S S' : Sim} {g:Img} {R:RM} (b3:Ok R S g) (hz:S.sz = true) (hT:TOk S.AA) (hS:S.finish = some S') :
  Fn P JF [Pt p] R (Ag p S g) (DI p S' λ_=>True):=by
 refine Oy λF=>?_
 refine z_1 ?_;unfold Sim.finish at hS;obtain⟨th,e9,hS⟩:=AF hS;obtain⟨a4,f3⟩:=Qe e9;have e8:=Gp hz;have f6:=b3.hl;have g8:=b3.tl;refine Ab (λvs x D'=>R.le x/\∃g1,Ok x { S with th:=th } g1/\D' = Ag p { S with th:=th } g1 ++ F/\vs = [Pt p]) (λK hK=>?_) ?_
 .refine jcI hK λK2 a9=>?_
  refine jlp (λm vs x D'=>R.le x/\∃(i:Nat) (g1:Img),i<=S.th.length/\Ok x { S with th:=th.take i ++ S.th.drop i } g1/\D' = Ag p { S with th:=th.take i ++ S.th.drop i } g1 ++ F/\vs = [Pt p,I i]/\m = S.th.length - i)
   ⟨RM.le.refl R,0,g,Z,by simpa using b3,V,rfl,Z⟩ ?_
  rintro m e R1 D1 K3 ⟨hR,i,g1,hi,W,hD,he,hm⟩ b0;refine z_W ?_;refine jl rfl (jln (jlt (jif (λhc=>?_) (λhc=>?_))));rotate_left
  .have hc:i = S.th.length:=by have:=z_g hc;rw[E5 a4] at this;omega
   have e1:th.take i ++ S.th.drop i = th:=by rw[cO Z,cT Z,dD]
   rw[e1] at W ⊢;exact a9 _ _ _ ⟨hR,g1,W,rfl,rfl⟩
  have hc:i < S.th.length:=by have:=z_f hc;rw[E5 a4] at this;omega
  obtain⟨r',e6,et⟩:=f3 i hc Z;obtain⟨a7,f2⟩:=M7 e6;have b8:idx (th.take i ++ S.th.drop i) i = some (S.th[i]):=by
   unfold idx;rw[if_pos Z,cG,cF (by rw[E5 a4];exact hc),JA a4 hc]
  have e7:=e8.2.2.2.2 _ (cK hc);generalize a6:({ S with th:=th.take i ++ S.th.drop i }:Sim) = H at W ⊢;have e1:H.th = th.take i ++ S.th.drop i:=by rw[<- a6]
  have e2:H.AC = S.AC:=by rw[<- a6]
  have e3:∀a,H.from_ a = S.from_ a:=λa=>by rw[<- a6];rfl
  rw[<- e1] at b8;refine HN W b8 rfl λb a f5 hv=>(jl rfl (jc (CY hv e7) ?_))
  rintro _ R2 _ a1 ⟨N,c4,D,b6,f4,rfl,rfl⟩;refine js rfl rfl (by simp[Aw]) rfl (Az (D':=(N,C Aa ((S.th[i]).AD.map I ++ D)) :: (b,C Af (Aw (S.th[i]) (S0 N (S.th[i]).AD.length c4))) :: (Ag p H g1 ++ F)) (dK _) (Al (Ag p H g1) (G:=(N,C Aa ((S.th[i]).AD.map I ++ D)) :: (b,C Af (Aw (S.th[i]) (S0 N (S.th[i]).AD.length c4))) :: F) ?_));have a0:=W.le a1;have c8:=hR.trans a1;refine Ab (λvs x D'=>R.le x/\∃j,Ok x H j/\D' = Ag p H j ++ (N,C Aa (r'.map I ++ D)) :: (b,C Af (Aw (S.th[i]) (S0 N (S.th[i]).AD.length c4))) :: F/\vs = [Pt p,I i,Pt b]) (λK4 b1=>?_) ?_;rotate_left
  .rintro e R3 D3 ⟨O,j,a2,hD,he⟩;refine z_W ?_;refine Az d9 (BB (b:=N) λR4 Q c9=>?_);have f0:=CO (c:=c4) c9 Z;have a3:=a2.le Q;have ev:Aw (S.th[i]) (S0 N (S.th[i]).AD.length c4) = Aw { S.th[i] with AD:=r' } (S0 N r'.length c4):=by rw[a7];rfl
   rw[ev];refine Gv { H with th:=AT H.th i { S.th[i] with AD:=r' } } a3 Z (by rw[e1,E5 a4];omega) f0 τ λg5 b9=>(jad ?_)
   have e5:({ H with th:=AT H.th i { S.th[i] with AD:=r' } }:Sim) = { S with th:=th.take (i + 1) ++ S.th.drop (i + 1) }:=by
    rw[<- a6,<- et];have:=GI a4 hc;simp only[AT,cG,this]
   rw[e5] at b9 ⊢;refine Al (Ag p { S with th:=th.take (i + 1) ++ S.th.drop (i + 1) } g5) (G:=F) (b0 (S.th.length - (i + 1)) _ _ _ Z ⟨O.trans Q,i + 1,g5,Z,b9,rfl,rfl,rfl⟩)
  refine jcI b1 λK5 a5=>?_
  refine jlp (λm vs x D'=>R.le x/\∃(k:Nat) (j:Img) (l:List Int),k<=(S.th[i]).AD.length/\l = r'.take k ++ (S.th[i]).AD.drop k/\Ok x H j/\D' = Ag p H j ++ (N,C Aa (l.map I ++ D)) :: (b,C Af (Aw (S.th[i]) (S0 N (S.th[i]).AD.length c4))) :: F/\vs = [Pt p,I i,Pt b,I k]/\m = (S.th[i]).AD.length - k)
   ⟨c8,0,g1,(S.th[i]).AD,Z,V,a0,rfl,rfl,Z⟩ ?_
  rintro m e R3 D3 K6 ⟨O,k,j,l,hk,hl,a2,hD,he,hm⟩ c0;refine z_W ?_;have g6:l.length = (S.th[i]).AD.length:=by rw[hl,E5 a7]
  refine jl rfl (jln (jlt (jif (λhd=>?_) (λhd=>?_))));rotate_left
  .have hd:k = (S.th[i]).AD.length:=by have:=z_g hd;omega
   have:l = r':=by rw[hl,cO Z,cT Z,dD]
   subst this;exact a5 _ _ _ ⟨O,j,a2,rfl,rfl⟩
  have hd:k < (S.th[i]).AD.length:=by have:=z_f hd;omega
  obtain⟨f,hf,hw⟩:=f2 k hd Z;obtain⟨y,hy⟩:∃y,r'[k]'(Z) = y:=⟨_,rfl⟩;rw[hy] at hw;have b7:l[k]'(Z) = (S.th[i]).AD[k]:=by subst hl;exact JA a7 hd Z
  refine Ab (λvs x D'=>R.le x/\∃j,Ok x H j/\D' = Ag p H j ++ (N,C Aa ((l.set k y).map I ++ D)) :: (b,C Af (Aw (S.th[i]) (S0 N (S.th[i]).AD.length c4))) :: F/\vs = [Pt p,I i,Pt b,I k]) (λK7 c5=>?_) ?_;rotate_left
  .rintro e R4 D4 ⟨Q,g3,a3,hD,he⟩;refine z_W ?_;refine jad (c0 ((S.th[i]).AD.length - (k + 1)) _ _ _ Z ⟨Q,k + 1,g3,l.set k y,Z,by rw[hl,<- hy];exact GI a7 hd,a3,rfl,rfl,rfl⟩)
  refine jcI c5 λK8 b5=>?_
  have gk:∀g' : Img,(l.map I ++ D)[0 + k * 1]? = some (I (S.th[i]).AD[k]):=λ_=>by
   rw[cg,dx,G3 Z,b7]
  refine jl rfl (C0 hd (jl (gk g) (jcS (LW a2 ((e3 _).trans hf)) λ_ R4 g3 Q hr a3=>?_)));subst hr;refine jif (λb2=>?_) (λb2=>?_)
  .subst b2;rw[if_pos rfl] at hw;obtain⟨w0,w1,w2,w3⟩:=Av hw;refine jl rfl (jl rfl (jl rfl (C0 hd (jl (gk g) (jia w0 (by rw[e2];exact w1) (jl (v:=I y) ?_ ?_))))))
   .rw[cg,dx,G3 (by rw[e2];exact w2)];simp only[e2,w3]
   refine C0 hd (jsi Z (b5 _ _ _ ⟨O.trans Q,g3,a3,rfl,rfl⟩))
  .subst b2;simp only[d8,if_false,cX] at hw;refine b5 _ _ _ ⟨O.trans Q,g3,a3,?_,rfl⟩;have:l.set k y = l:=by rw[<- hw,<- b7];exact List.set_getElem_self _
   rw[this]
 rintro e R1 D1 ⟨c6,g1,W,hD,he⟩;refine z_W ?_;generalize d4:DG S.AA.length 1 S.AA = td at hS;refine Ab (λvs x D'=>x = R1/\∃j,Ok x { S with th:=th,AA:=td } j/\D' = Ag p { S with th:=th,AA:=td } j ++ F/\vs = [Pt p]) (λK hK=>?_) ?_;rotate_left
 .rintro e R2 D2 ⟨a1,j,a0,hD,he⟩;subst a1;refine z_W ?_;refine jcS (Vh a0 hS) λ_ R7 g7 c7 _ f1=>(Ay (c6.trans c7) trivial rfl f1)
 refine jcI hK λK2 a9=>?_
 refine jlp (λm vs x D'=>x = R1/\∃(i:Nat) (t1:List Rg) (j:Img),1<=i/\i<=S.AA.length/\TOk t1/\t1.length = S.AA.length/\DG (S.AA.length + 1 - i) i t1 = td/\Ok x { S with th:=th,AA:=t1 } j/\D' = Ag p { S with th:=th,AA:=t1 } j ++ F/\vs = [Pt p,I i]/\m = S.AA.length + 1 - i)
  (n:=S.AA.length) ⟨rfl,1,S.AA,g1,Z,by have:=hT.n0;omega,hT,rfl,d4,W,rfl,rfl,Z⟩ ?_
 rintro m e R2 D2 K3 ⟨a1,i,t1,j,f8,g0,T,a8,A,a0,hD,he,hm⟩ b0;subst a1;refine z_W ?_;refine jl (v:=.slice (some ⟨j.tb,0,none⟩) t1.length j.tc) rfl (jln (jlt (jif (λhc=>?_) (λhc=>?_))));rotate_left
 .have hc:i = S.AA.length:=by have:=z_g hc;omega
  have:t1 = td:=by
   rw[<- A,show S.AA.length + 1 - i = 0 + 1 by omega];unfold DG;rw[dT Z]
  subst this;exact a9 _ _ _ ⟨rfl,j,a0,rfl,rfl⟩
 have hc:i < t1.length:=by have:=z_f hc;omega
 rw[show S.AA.length + 1 - i = (S.AA.length + 1 - (i + 1)) + 1 by omega] at A;unfold DG at A;rw[cF hc] at A;simp only at A;refine Ab (λvs x D'=>x = R2/\∃(t2:List Rg) (g3:Img),TOk t2/\t2.length = S.AA.length/\DG (S.AA.length + 1 - (i + 1)) (i + 1) t2 = td/\Ok x { S with th:=th,AA:=t2 } g3/\D' = Ag p { S with th:=th,AA:=t2 } g3 ++ F/\vs = [Pt p,I i]) (λK4 b1=>?_) ?_;rotate_left
 .rintro e R3 D3 ⟨O,t2,g3,T2,e4,d3,a2,hD,he⟩;subst O;refine z_W ?_;refine jad (b0 (S.AA.length + 1 - (i + 1)) _ _ _ Z ⟨rfl,i + 1,t2,g3,Z,Z,T2,e4,d3,a2,rfl,rfl,rfl⟩)
 refine jcI b1 λK5 a5=>?_
 refine jl rfl (C0 hc (jl (by rw[cg];exact C6 hc rfl) (jeq (jif (λhk=>?_) (λhk=>?_)))))
 .rw[if_pos hk] at A;have g4:(rv t1 i).kind = 4:=by rw[Ea hc];exact eq_of_beq hk
  obtain⟨d1,d2⟩:=HV (r:=i) T Z Z Z;rw[d1] at A;simp only[dI] at A;refine jl rfl (jmk (KL (t:=t1) _ Z) ?_);rw[d1];rintro _ _ ⟨sv,⟨N,c4,D,b6,rfl,rfl⟩,rfl⟩;refine jex rfl (jex rfl (Qs (a5 _ _ _ ⟨rfl,AT t1 i (Dj i),{ j with tb:=N,tc:=c4,tsp:=D },d2,by rw[DP,a8],A,a0.tab (by rw[DP];omega) _ _ _ b6,rfl,rfl⟩)))
 .rw[if_neg (by rw[hk];decide)] at A;exact a5 _ _ _ ⟨rfl,t1,j,T,a8,A,a0,rfl,rfl⟩
theorem B8.sl {R:RM} {v:Value} {l:List Int} (h:B8 R v l):∃a c,v = .slice a l.length c:=by
 obtain⟨a,j,x,-⟩:=B8.reads (D:=[]) h;exact⟨a,j,x⟩
theorem JV (a:Option Addr) (n c:Nat) (O:n < 1000000000000):Pu Js [.slice a n c] (.bool (BL n)):=by
 intro R;refine QQ λF=>?_
 refine z_1 ?_;have eq:(n:Int).tdiv 16 = (n / 16:Nat):=by rw[dv Z];omega
 have H:(n:Int).tmod 16 = (n % 16:Nat):=by rw[fC Z];omega
 refine jln (Oq δ ⟨Z,Z⟩ ?_);rw[eq];refine jan [I ((n / 16:Nat):Int)] (((n:Int).tmod 16 == 0) && (decide (((n / 16:Nat):Int)>=2))) (λG j=>?_) (λe c u y he=>?_)
 .refine jln (Pc δ (jeq (jgA j λD x=>jge x)))
 refine z_V ?_;refine jan [] ((((n:Int).tmod 16 == 0) && decide (((n / 16:Nat):Int)>=2)) && (decide (((n / 16:Nat):Int)<=12))) (λG j=>?_) (λe c u y he=>?_)
 .rw[y];refine jgA j λD x=>jle x
 refine z_V ?_;rw[y];refine Ao (A:=[]) (RM.le.refl R) ?_;congr 1;unfold BL;rw[H,dX];simp only[z_b,z_d,beq_iff_eq];constructor<;>rintro⟨⟨D,K⟩,N⟩<;>exact⟨⟨Z,Z⟩,Z⟩
theorem Mb (x:Option Addr) (n G:Nat) (a size:Int) (O:n < 1000000000000):Pu La [.slice x n G,I a,I size] (.bool (fits n a size)):=by
 intro R;refine Qx λF=>?_
 refine z_3 ?_;refine jan [.slice x n G,I a,I size] ((BL n) && (decide (size > 0))) (λK j=>?_) (λe c u D he=>?_)
 .refine jp (JV x n G O) (jgA j λH y=>jgr y)
 refine z_V ?_;refine jan [.slice x n G,I a,I size] ((BL n && decide (size > 0)) && (decide (size<=16))) (λK j=>?_) (λe c u D he=>?_)
 .rw[D];refine jgA j λH y=>jle y
 refine z_V ?_;refine jan [.slice x n G,I a,I size] ((BL n && decide (size > 0) && decide (size<=16)) && (decide (a>=16))) (λK j=>?_) (λe c u D he=>?_)
 .rw[D];refine jgA j λH y=>jge y
 refine z_V ?_;refine jan [I a,I size] ((BL n && decide (size > 0) && decide (size<=16) && decide (a>=16)) && (decide (a < n))) (λK j=>?_) (λe c u D he=>?_)
 .rw[D];refine jgA j λH y=>jln (jlt y)
 refine z_V ?_;refine jan [] ((BL n && decide (size > 0) && decide (size<=16) && decide (a>=16) && decide (a < n)) && (AN a == AN (a + size - 1))) (λK j=>?_) (λe c u D he=>?_)
 .rw[D];refine jgA j λH y=>?_
  have N:=H;simp only[z_b,z_d] at N;have r1:AN a<=9223372036854775807:=by unfold AN;split<;>omega
  have Q:AN (a + size - 1)<=9223372036854775807:=by unfold AN;split<;>omega
  refine jp (Cf a r1) (jad (jsu (jp (Cf _ Q) (jeq y))))
 refine z_V ?_;rw[D];refine Ao (A:=[]) (RM.le.refl R) ?_;congr 1
theorem NZ {n:Int}:∀{l:List Int} {i:Nat} (h:i < l.length),l[i] = n->(∀k (j:k < l.length),k < i->l[k]≠n)->l.idxOf n = i
 | [],i,h,_,_=>absurd h V
 | a :: r,0,_,e,_=>by
  have e:a = n:=e;rw[List.idxOf_cons,e];simp
 | a :: r,i + 1,h,e,Bq=>by
  have h0:a≠n:=Bq 0 V Z;have:=NZ (by simpa using h) (by simpa using e) (λk j x=>by have:=Bq (k + 1) (by simpa using j) Z;simpa using this);rw[List.idxOf_cons,this];have:(a == n) = false:=by simpa using h0
  rw[this];rfl
def eTh (t:AQ) (rv nv:Value):List Value:=[I t.at_,I t.moved,I t.sh.refs,I t.sh.nums,rv,nv]
def ThV (R:RM) (v:Value) (t:AQ):Prop:=∃rv nv,v = .agg (eTh t rv nv).toArray/\B8 R rv t.refs/\B8 R nv t.nums
theorem ThV.le {R j : RM} {v:Value} {t:AQ} (h:R.le j) (H:ThV R v t):ThV j v t:=by
 obtain⟨rv,nv,x,y,A⟩:=H;exact⟨rv,nv,x,y.le h,A.le h⟩
theorem FA {n:Nat} {a size:Int} (h:fits n a size = true):16<=a/\a + size<=n/\0 < size/\size<=16:=by
 unfold fits BL at h;simp only[z_b,z_d,beq_iff_eq] at h;obtain⟨⟨⟨⟨⟨⟨⟨D,G⟩,H⟩,x⟩,y⟩,A⟩,K⟩,j⟩:=h;unfold AN at j;rw[if_neg Z,if_neg Z] at j;refine⟨A,?_,x,y⟩;omega
theorem G8 {w:Int} (h:(AS w).2 = true):0<=(AS w).1.refs/\(AS w).1.refs<=4/\0<=(AS w).1.nums/\(AS w).1.nums<=4/\AG (AS w).1 = 2 + (AS w).1.refs + (AS w).1.nums:=by
 unfold AS at h ⊢;split at h
 .rename_i hc;rw[if_pos hc];have j:BM ⟨w / 16,w % 16⟩ = true:=by
   unfold BM;simp only[z_b,z_d];omega
  refine⟨by dsimp only;omega,by dsimp only;omega,by dsimp only;omega,by dsimp only;omega,?_⟩;unfold AG;rw[if_pos j]
 .exact absurd h δ
theorem Pe {w:List Int} {k i:Nat} (h:k + i < w.length):(w.drop k).take (i + 1) = (w.drop k).take i ++ [w[k + i]]:=by
 rw[cI (by rw[dN];omega),eH]
theorem V4 {R:RM} {wv:Value} {w:List Int} (a:Int) (h:B8 R wv w) (hl:w.length < 1000000000000) :
  Fn P KI [wv,I a] R [] (λv H A=>A = []/\∃x,ThV H x (As w a).1/\v = .tuple #[x,.bool (As w a).2]):=by
 refine Qv λF=>?_
 refine z_2 ?_;obtain⟨wa,wc,a7⟩:=h.sl;refine ja λb1=>?_
 have none_:∀(R1:RM) (G:Chs),R.le R1->(As w a) = (EZ,false)->∀{D:Chs} [At D b1 (C BK (eTh EZ (SN) (SN)))] [Sf D F],True:=λ_ _ _ _ _ _ _=>trivial
 clear none_;rw[a7];refine jp (Mb wa w.length wc a 2 hl) (jif (λh2=>?_) (λh2=>?_))
 .have h2:fits w.length a 2 = false:=by simpa using h2
  have et:As w a = (EZ,false):=by unfold As;rw[h2];rfl
  refine jbd rfl rfl ?_;refine js rfl rfl (by exact z_n 6) rfl ?_;refine jla (by exact z_n 6) rfl ?_;refine Ao (RM.le.refl R) ⟨rfl,_,?_,by rw[et]⟩;rw[et];exact⟨_,_,rfl,.inl ⟨rfl,rfl,rfl⟩,.inl ⟨rfl,rfl,rfl⟩⟩
 have h2:fits w.length a 2 = true:=by simpa using h2
 obtain⟨a0,a1,-,-⟩:=FA h2;obtain⟨n,rfl⟩:∃n:Nat,a = n:=⟨a.toNat,Z⟩;rw[<- a7];refine jad (Bl h Z Z ?_);have e1:w[((n:Int) + 1).toNat]'(Z) = w[n + 1]:=getElem_congr_idx Z;rw[e1];refine jp (FE _) (jex rfl (jex rfl ?_));have eg:w.getD (((n:Int)).toNat + 1) 0 = w[n + 1]:=by
  rw[cG,cH,cF Z,dI]
 have j:As w n = if (AS w[n + 1]).2 && fits w.length n (AG (AS w[n + 1]).1) then (⟨n,w.getD ((n:Int)).toNat 0,(AS w[n + 1]).1,seg w (n + 2) (AS w[n + 1]).1.refs,seg w (n + 2 + (AS w[n + 1]).1.refs) (AS w[n + 1]).1.nums⟩,true) else (EZ,false):=by
  unfold As;rw[if_pos h2,eg]
 have sr:=@G8 w[n + 1];generalize AS w[n + 1] = s at j sr ⊢;obtain⟨s,sb⟩:=s;dsimp only at j sr ⊢;refine ja λb2=>?_
 refine js (cs':=[I s.refs,I s.nums]) rfl rfl V rfl ?_;rw[a7];refine jor [.slice wa w.length wc,I n,Pt b1,Pt b2] ((!sb) || (!fits w.length n (AG s))) (λK' c0=>?_) (λe c u ho he=>?_)
 .refine jgO c0 λh1 hN=>jla (l:=[I s.refs,I s.nums]) V rfl (jp (CN s) (jp (Mb wa w.length wc n (AG s) hl) hN))
 refine z_V ?_;rw[ho];refine jif (λO=>?_) (λO=>?_)
 .have et:As w n = (EZ,false):=by
   rw[j,if_neg];intro hh;simp only[d7,cz,z_b] at O hh;rcases O with O | O
   .rw[O] at hh;exact absurd hh.1 δ
   .rw[O] at hh;exact absurd hh.2 δ
  refine jbd rfl rfl ?_;refine js rfl rfl (by exact z_n 6) rfl ?_;refine jla (by exact z_n 6) rfl ?_;refine Ao (RM.le.refl R) ⟨rfl,_,?_,by rw[et]⟩;rw[et];exact⟨_,_,rfl,.inl ⟨rfl,rfl,rfl⟩,.inl ⟨rfl,rfl,rfl⟩⟩
 simp only[ci,dL] at O;obtain⟨O,h4⟩:=O;obtain⟨s1,s2,s3,s4,s5⟩:=sr O;obtain⟨-,f1,-,-⟩:=FA h4;rw[O,h4] at j;simp only[Bool.and_self,if_true] at j;have b7:w.getD ((n:Int)).toNat 0 = w[n]:=by rw[cG,cH,cF Z,dI]
 rw[b7] at j;obtain⟨⟨r,hr⟩,⟨m,hm⟩⟩:(∃r:Nat,s.refs = r)/\(∃m:Nat,s.nums = m):=⟨⟨s.refs.toNat,Z⟩,⟨s.nums.toNat,Z⟩⟩;have b8:seg w ((n:Int) + 2) s.refs = (w.drop (n + 2)).take r:=by unfold seg;rw[hr,show ((n:Int) + 2).toNat = n + 2 by omega,cG]
 have b9:seg w ((n:Int) + 2 + s.refs) s.nums = (w.drop (n + 2 + r)).take m:=by unfold seg;rw[hr,hm,show ((n:Int) + 2 + r).toNat = n + 2 + r by omega,cG]
 rw[b8,b9] at j;rw[<- a7];refine Wy h Z Z λq hq=>hq _ _ ?_
 have e2:w[((n:Int)).toNat]'(Z) = w[n]:=getElem_congr_idx Z;rw[e2] at hq ⊢;refine jla V rfl ?_;refine jbd rfl rfl ?_;refine ja λN=>?_
 refine Ak (hq _ _ jev) (Ak (jla V rfl jev) ?_);refine js rfl rfl (by exact z_n 6) rfl ?_;generalize hE:((b2,C HZ [I s.refs,I s.nums]) :: (b1,C BK (cl z70)) :: ([] ++ F)) = E;have ea:At E b1 (C BK (cl z70)):=by rw[<- hE];exact inferInstance
 have c5:At E b2 (C HZ [I s.refs,I s.nums]):=by rw[<- hE];exact inferInstance
 refine Ab (λvs H D'=>R.le H/\∃y,B8 H y ((w.drop (n + 2)).take r)/\D' = (N,C BK (eTh ⟨n,w[n],s,[],[]⟩ y (SN))) :: E/\vs = [wv,I n,Pt b1,Pt b2,Pt N]) (λK hK=>?_) ?_
 .refine jcI hK λK2 a8=>?_
  refine jlp (λk vs H D'=>H = R/\∃(i:Nat) (y:Value) (A:Chs),i<=r/\SO ((w.drop (n + 2)).take i) y A/\D' = A ++ ((N,C BK (eTh ⟨n,w[n],s,[],[]⟩ y (SN))) :: E)/\vs = [wv,I n,Pt b1,Pt b2,Pt N,I i]/\k = r - i)
   (n:=r) ⟨rfl,0,SN,[],Z,.inl ⟨V,rfl,rfl⟩,by rw[<- hE];rfl,rfl,Z⟩ ?_
  rintro k e R1 D1 K3 ⟨hR,i,y,A,hi,so,hD,he,hk⟩ a9;subst hR;refine z_W ?_;clear hD;obtain⟨sa,sn,sc,b0⟩:=so.sl;refine jl rfl (jlt (jif (λhc=>?_) (λhc=>?_)));rotate_left
  .have hc:i = r:=by have:=z_g hc;omega
   subst hc;refine Dw so λR2 Q T=>?_
   exact a8 _ _ _ ⟨Q,y,T,rfl,rfl⟩
  have hc:i < r:=by have:=z_f hc;omega
  subst b0;refine jl rfl (jad (jad (Bl h Z Z ?_)));have e3:w[((n:Int) + 2 + i).toNat]'(Z) = w[n + 2 + i]:=getElem_congr_idx Z;rw[e3];refine jbs rfl rfl λb4=>?_
  refine Ak (jl rfl jev) ?_;refine Az d9.symm ?_;have hx:BX R1 (A ++ ((b4,C 3 [I w[n + 2 + i]]) :: (N,C BK (eTh ⟨n,w[n],s,[],[]⟩ (.slice sa sn sc) (SN))) :: E)) (some ⟨b4,0,none⟩) (1 * 1) ([w[n + 2 + i]].map I):=BX.held (cs:=[I w[n + 2 + i]]) (z_n 1);refine jas so rfl (by rw[cV,cr];omega) hx λv' A' a4=>?_
  obtain⟨W,a3,a2,rfl⟩:=a4.sl;refine jS (eTh ⟨n,w[n],s,[],[]⟩ (.slice W a3 a2) (SN)) ?_;refine jad ?_;refine Al A' (G:=(N,C BK (eTh ⟨n,w[n],s,[],[]⟩ (.slice W a3 a2) (SN))) :: E) ?_;exact a9 (r - (i + 1)) _ _ _ Z ⟨rfl,i + 1,_,A',Z,by rw[Pe Z];exact a4,rfl,rfl,rfl⟩
 rintro e R1 D1 ⟨hR,y,a6,hD,he⟩;refine z_W ?_;clear hD;obtain⟨ta,tc,a5⟩:=a6.sl;have h1:=h.le hR;refine Ab (λvs H D'=>R.le H/\B8 H y ((w.drop (n + 2)).take r)/\∃v2,B8 H v2 ((w.drop (n + 2 + r)).take m)/\D' = (N,C BK (eTh ⟨n,w[n],s,[],[]⟩ y v2)) :: E/\vs = [Pt b1,Pt N]) (λK hK=>?_) ?_
 .refine jcI hK λK2 a8=>?_
  refine jlp (λk vs H D'=>H = R1/\∃(i:Nat) (v2:Value) (A:Chs),i<=m/\SO ((w.drop (n + 2 + r)).take i) v2 A/\D' = A ++ ((N,C BK (eTh ⟨n,w[n],s,[],[]⟩ y v2)) :: E)/\vs = [wv,I n,Pt b1,Pt b2,Pt N,I i]/\k = m - i)
   (n:=m) ⟨rfl,0,SN,[],Z,.inl ⟨V,rfl,rfl⟩,rfl,rfl,Z⟩ ?_
  rintro k e R2 D2 K3 ⟨Q,i,v2,A,hi,so,hD,he,hk⟩ a9;subst Q;refine z_W ?_;clear hD;obtain⟨sa,sn,sc,b0⟩:=so.sl;refine jl (v:=I s.nums) rfl (jlt (jif (λhc=>?_) (λhc=>?_)));rotate_left
  .have hc:i = m:=by have:=z_g hc;omega
   subst hc;refine Dw so λR3 b5 T=>?_
   exact a8 _ _ _ ⟨hR.trans b5,a6.le b5,v2,T,rfl,rfl⟩
  have hc:i < m:=by have:=z_f hc;omega
  subst b0;refine jl (v:=.slice sa sn sc) (by rw[a5];rfl) (jad (jl (v:=I s.refs) rfl (jad (jad (Bl h1 Z Z ?_)))));have e3:w[((n:Int) + 2 + s.refs + i).toNat]'(Z) = w[n + 2 + r + i]:=getElem_congr_idx Z;rw[e3];refine jbs (cs:=[I w[n + 2 + r + i]]) rfl rfl λb4=>?_
  refine Ak (jl (v:=.slice sa sn sc) (by rw[a5];rfl) jev) ?_;refine Az d9.symm ?_;have hx:BX R2 (A ++ ((b4,C 3 [I w[n + 2 + r + i]]) :: (N,C BK (eTh ⟨n,w[n],s,[],[]⟩ y (.slice sa sn sc))) :: E)) (some ⟨b4,0,none⟩) (1 * 1) ([w[n + 2 + r + i]].map I):=BX.held (t:=Aa) (cs:=[I w[n + 2 + r + i]]) (o:=0) (n:=1 * 1) (z_n 1);refine jas so rfl (by rw[cV,cr];omega) hx λv' A' a4=>?_
  obtain⟨W,a3,a2,rfl⟩:=a4.sl;refine js (cs':=eTh ⟨n,w[n],s,[],[]⟩ y (.slice W a3 a2)) rfl rfl (by simp[eTh]) (by rw[a5];rfl) ?_;refine jad ?_;refine Al A' (G:=(N,C BK (eTh ⟨n,w[n],s,[],[]⟩ y (.slice W a3 a2))) :: E) ?_;exact a9 (m - (i + 1)) _ _ _ Z ⟨rfl,i + 1,_,A',Z,by rw[Pe Z];exact a4,rfl,rfl,rfl⟩
 rintro e R2 D2 ⟨Q,a6,v2,b6,hD,he⟩;refine z_W ?_;clear hD;obtain⟨ua,uc,c4⟩:=b6.sl;subst a5 c4 hE;refine jla (l:=eTh ⟨n,w[n],s,[],[]⟩ _ _) (by exact z_n 6) rfl ?_;refine jS (eTh ⟨n,w[n],s,[],[]⟩ _ _) ?_;refine jla (l:=eTh ⟨n,w[n],s,[],[]⟩ _ _) (by exact z_n 6) rfl ?_;refine Ao (A:=[]) Q ⟨rfl,_,?_,by rw[j]⟩;rw[j];exact⟨_,_,rfl,a6,b6⟩
def SW (t w:Nat) (rows:List (List Value)) (v:Value) (A:Chs):Prop:=
 (rows = []/\v = SN/\A = [])\/∃b c sp,rows.length<=c/\sp.length = (c - rows.length) * w/\v = S0 b rows.length c/\A = [(b,C t (rows.flatten ++ sp))]
theorem SW.sl {t w:Nat} {rows:List (List Value)} {v:Value} {A:Chs} (h:SW t w rows v A):∃a c,v = .slice a rows.length c:=by
 rcases h with ⟨rfl,rfl,_⟩ | ⟨b,c,sp,_,_,rfl,_⟩<;>exact⟨_,_,rfl⟩
theorem jaw {R:RM} {A E:Chs} {t w y:Nat} {rows j:List (List Value)} {v:Value} {xa:Option Addr} {m cx:Nat} {zs:List Value} {k:Value->M} (so:SW t w rows v A)
  (hw:∀r∈rows,r.length = w) (O:∀r∈j,r.length = w) (hz:zs.length = w) (hf:By j.flatten = true) (hm:m = j.length) (hb:y≠0) (hl:y * (2 * (rows.length + j.length) + 200)<=2 ^ 48) (D:BX R (A ++ E) xa (m * w) j.flatten)
  (H:∀W Q,SW t w (rows ++ j) W Q->J R (Q ++ E) (k W)):J R (A ++ E) (AP t w y zs v (.slice xa m cx) k):=by
 subst hm;have fl:∀n,(List.replicate n zs).flatten.length = n * w:=λn=>by
  rw[Br (by intro x D;rw[(dQ.1 D).2,hz])];simp
 have l1:=Br hw;have T:=Br O;rcases so with ⟨rfl,rfl,rfl⟩ | ⟨b,c,sp,hc,hsp,rfl,rfl⟩
 .refine jap D (by rw[fK];exact BX.none_) hb (by simpa using hl) (λhc h N=>?_) (λb c hc=>?_)
  .have h0:j = []:=dA.1 Z;subst h0;have:=H (SN) [] (.inl ⟨rfl,rfl,rfl⟩) h N;simpa using this
  .have:=H (S0 b j.length c) [(b,C t (j.flatten ++ (List.replicate (c - j.length) zs).flatten))] (.inr ⟨b,c,(List.replicate (c - j.length) zs).flatten,by simpa using hc,by rw[fl];simp,V,V⟩);simpa using this
 .refine WZ D (by rw[cJ,l1,hsp,<- Nat.add_mul];congr 1;omega) hc T hf hb hl (λh=>?_) (λG K h=>?_)
  .have el:lay (rows.flatten ++ sp) (rows.length * w) j.flatten = (rows ++ j).flatten ++ sp.drop (j.length * w):=by
    rw[HX Z,l1,Nat.sub_self];simp[lay,T]
   rw[el];have:=H (S0 b (rows ++ j).length c) [(b,C t ((rows ++ j).flatten ++ sp.drop (j.length * w)))] (.inr ⟨b,c,_,by simpa using h,by rw[dN,hsp,<- Nat.sub_mul,cJ];congr 1;omega,rfl,rfl⟩);simpa using this
  .refine Az (dh _ _ _) (Bf ?_);have:=H (.slice (some ⟨G,0,none⟩) (rows ++ j).length K) [(G,C t ((rows ++ j).flatten ++ (List.replicate (K - (rows.length + j.length)) zs).flatten))] (.inr ⟨G,K,_,by simpa using h,by rw[fl,cJ],rfl,rfl⟩);rw[dW Z,cO Z];simpa using this
theorem jfw {R:RM} {A E:Chs} {t w:Nat} {rows:List (List Value)} {v:Value} {m:M} (G:SW t w rows v A) (y:∀r∈rows,r.length = w) (H:∀j,R.le j->Fz j v w rows.length rows.flatten->J j E m):J R (A ++ E) m:=by
 rcases G with ⟨rfl,rfl,rfl⟩ | ⟨b,c,sp,hc,hsp,rfl,rfl⟩
 .exact H R (RM.le.refl _) (.inl ⟨rfl,rfl,rfl⟩)
 .refine BB (t:=⟨dK _⟩) λD x hb=>(H D x (.inr ⟨b,0,c,t,_,rfl,hb,by rw[cJ,Br y];omega,by rw[di,<- Br y];simp,hc⟩))
def Rw {α:Type} (p:List Value->α->Prop) (rows:List (List Value)) (l:List α):Prop:=rows.length = l.length/\∀i (h:i < rows.length) (h' : i < l.length),p rows[i] l[i]
theorem Rw.nil {α:Type} {p:List Value->α->Prop}:Rw p [] []:=⟨rfl,λi h=>absurd h V⟩
theorem Rw.app {α:Type} {p:List Value->α->Prop} {r1 y:List (List Value)} {l1 l2:List α} (j:Rw p r1 l1) (x:Rw p y l2):Rw p (r1 ++ y) (l1 ++ l2):=by
 refine⟨by rw[cJ,cJ,j.1,x.1],λi h A=>?_⟩;by_cases c:i < r1.length
 .rw[eU c,eU (by rw[<- j.1];exact c)];exact j.2 i c _
 .rw[df Z,df (by rw[<- j.1];omega)];have e:i - l1.length = i - r1.length:=by rw[j.1]
  rw[getElem_congr_idx e];rw[cJ] at h A;have:=j.1;exact x.2 _ Z Z
theorem Rw.one {α:Type} {p:List Value->α->Prop} {r:List Value} {x:α} (h:p r x):Rw p [r] [x]:=by
 refine⟨rfl,λi j y=>?_⟩;have:i = 0:=by simp at j;omega
 subst this;exact h
theorem Rw.mono {α:Type} {p q:List Value->α->Prop} {r:List (List Value)} {l:List α} (h:Rw p r l) (H:∀x y,p x y->q x y):Rw q r l:=⟨h.1,λi j A=>H _ _ (h.2 i j A)⟩
theorem Rw.all {α:Type} {p:List Value->α->Prop} {r:List (List Value)} {l:List α} (h:Rw p r l) {q:List Value->Prop} (H:∀x y,p x y->q x):∀x∈r,q x:=by
 intro x A;obtain⟨i,j,rfl⟩:=d5 A;exact H _ _ (h.2 i j (by rw[<- h.1];exact j))
theorem Px {w:Nat}:∀{rows:List (List Value)} {i:Nat} (_:∀r∈rows,r.length = w) (h:i < rows.length),(rows.flatten.drop (i * w)).take w = rows[i]
 | [],i,_,h=>absurd h V
 | a :: r,0,hw,_=>by
  have:a.length = w:=hw a V;rw[fK,di,eP,dW Z,cO Z];rfl
 | a :: r,i + 1,hw,h=>by
  have j:a.length = w:=hw a V;rw[eP,fd,List.drop_append,List.drop_of_length_le Z,zl,j,Nat.add_sub_cancel];exact Px (λr x=>hw r (by simp[x])) (by simpa using h)
theorem Ja {R:RM} {v:Value} {w:Nat} {rows:List (List Value)} {i:Nat} (h:Fz R v w rows.length rows.flatten) (G:∀r∈rows,r.length = w) (D:i < rows.length) :
  ∃b o j t x,v = .slice (some ⟨b,o,none⟩) rows.length j/\R b = some (C t x)/\o + i * w + w<=x.length/\(x.drop (o + i * w)).take w = rows[i]:=by
 rcases h with ⟨_,y,_⟩ | ⟨b,o,j,t,x,rfl,y,H,A,K⟩
 .omega
 .refine⟨b,o,j,t,x,rfl,y,?_,?_⟩
  .have:(i + 1) * w<=rows.length * w:=eQ w Z;rw[fd] at this;omega
  .rw[<- Px G D,<- A,fI,fP,fO];congr 1;have:(i + 1) * w<=rows.length * w:=eQ w Z;rw[fd] at this;omega
def ThC (R:RM) (row:List Value) (t:AQ):Prop:=∃rv nv,row = eTh t rv nv/\B8 R rv t.refs/\B8 R nv t.nums
theorem ThC.le {R j : RM} {row:List Value} {t:AQ} (h:R.le j) (H:ThC R row t):ThC j row t:=by
 obtain⟨rv,nv,x,y,A⟩:=H;exact⟨rv,nv,x,y.le h,A.le h⟩
theorem ThC.len {R:RM} {row:List Value} {t:AQ} (H:ThC R row t):row.length = 6:=by
 obtain⟨rv,nv,rfl,j,x⟩:=H;rfl
theorem ThC.flat {R:RM} {row:List Value} {t:AQ} (H:ThC R row t):By row = true:=by
 obtain⟨rv,nv,rfl,j,x⟩:=H;obtain⟨_,_,rfl⟩:=j.sl;obtain⟨_,_,rfl⟩:=x.sl;rfl
def Tgs (R:RM) (v:Value) (l:List AQ):Prop:=∃rows,Rw (ThC R) rows l/\Fz R v 6 rows.length rows.flatten
theorem Tgs.le {R j : RM} {v:Value} {l:List AQ} (h:R.le j) (H:Tgs R v l):Tgs j v l:=by
 obtain⟨rows,x,y⟩:=H;exact⟨rows,x.mono λ_ _=>ThC.le h,y.le h⟩
theorem Tgs.sl {R:RM} {v:Value} {l:List AQ} (H:Tgs R v l):∃a c,v = .slice a l.length c:=by
 obtain⟨rows,x,y⟩:=H;obtain⟨a,j,e,-⟩:=Fz.reads (D:=[]) y;exact⟨a,j,by rw[e,x.1]⟩
theorem Bo {R:RM} {D:Chs} {v:Value} {n:Nat} {k:Value->M} (h:∃a c,v = .slice a n c) (H:J R D (k (I n))):J R D (LN v k):=by
 obtain⟨a,c,rfl⟩:=h;exact H
theorem jtg {R:RM} {D:Chs} {v:Value} {l:List AQ} {i:Nat} {k:Value->M} (h:Tgs R v l) (A:i < l.length)
  (H:∀b o t j rv nv,B8 R rv (l[i]).refs->B8 R nv (l[i]).nums->R b = some (C t j)->o + 6<=j.length->(j.drop o).take 6 = eTh l[i] rv nv->J R D (k (.pointer (some ⟨b,o,none⟩)))):J R D (IA 6 v (I (i:Int)) k):=by
 obtain⟨rows,y,K⟩:=h;have x : i < rows.length:=by rw[y.1];exact A
 obtain⟨b,o,G,t,j,rfl,hb,hl,hc⟩:=Ja K (y.all λ_ _=>ThC.len) x;obtain⟨rv,nv,e,r1,N⟩:=y.2 i x A;refine jia Z Z ?_;rw[cG];exact H b (o + i * 6) t j rv nv r1 N hb hl (by rw[hc,e])
theorem Bc {cs row:List Value} {o w f:Nat} {x:Value} (h:(cs.drop o).take w = row) (j:row[f]? = some x):cs[o + f]? = some x:=by
 rw[<- h,dw,dY] at j;split at j
 .exact j
 .cases j
end Go.Lf
end
