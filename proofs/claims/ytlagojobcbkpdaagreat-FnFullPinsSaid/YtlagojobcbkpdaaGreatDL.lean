/- A part of the proof of the given row: the walk of the law and of all that it calls. Conditions: none. -/
import Derived.Test.YtlagojobcbkpdaaGreatDK
set_option linter.unusedVariables false
set_option linter.unusedSimpArgs false
set_option maxRecDepth 100000
section
namespace Go.Lf
open Go Sm
theorem X1 (x:Int) (w:World):(Go.convert 5 3 (.int .u8 x):Sem Value).run P w = .ok (.int .i64 (IntKind.i64.wrap x)) w:=by
 kernel_rfl
def Bsl (R:RM) (v:Value) (n:Nat):Prop:=∃a cap,v = .slice a n cap∧n≤cap∧(n = 0∨∃b o,a = some ⟨b,o,none⟩∧∀i,i < n→∃t cs fz x,R b = some (.cells cs t fz)∧cs[o + i]? = some (.int .u8 x)∧0≤x∧x < 256)
theorem Bsl.le {R R' : RM} {v:Value} {n:Nat} (h:R.le R') (H:Bsl R v n):Bsl R' v n:=by
 obtain⟨a,cap,h1,h2,h3 | ⟨b,o,h3,h4⟩⟩:=H
 ·exact⟨a,cap,h1,h2,.inl h3⟩
 ·exact⟨a,cap,h1,h2,.inr ⟨b,o,h3,λi hi=>by obtain⟨t,cs,fz,x,q1,q2⟩:=h4 i hi;exact⟨t,cs,fz,x,h _ _ q1,q2⟩⟩⟩
section rules
variable {R:RM} {D:Chs} {k:Value→M}
theorem jcv {x:Int} (h:inR x) (H:J R D (k (I x))):J R D (X P (Go.convert 5 3 (.int .u8 x)) k):=by
 intro h' hs w hw;rw[X1,FS h];subst hw;exact⟨BK.refl _,H _ hs⟩
theorem Ya {x y:Int} (hx:0≤x∧x < 4611686018427387904) (hy:0≤y∧y < 4611686018427387904) (H:∀z:Int,0≤z→z < 4611686018427387904→J R D (k (I z))):J R D (BO .xor (I x) (I y) k):=by
 have e:BO .xor (I x) (I y) k = k (.int .i64 (IntKind.i64.wrap (BitVec.ofInt 64 x ^^^ BitVec.ofInt 64 y).toNat)):=rfl;have h1:(BitVec.ofInt 64 x ^^^ BitVec.ofInt 64 y).toNat < 2 ^ 62:=by
  rw[BitVec.toNat_xor];have hb:∀z:Int,0≤z∧z < 4611686018427387904→(BitVec.ofInt 64 z).toNat < 2 ^ 62:=λz hz=>by
   rw[BitVec.toNat_ofInt];omega
  exact Nat.xor_lt_two_pow (hb x hx) (hb y hy)
 rw[e,FS ⟨ω,ω⟩];exact H _ ω ω
theorem T9 {v:Value} {n:Nat} {i:Int} (h:Bsl R v n) (h0:0≤i) (h1:i < n)
  (H:∀(q:Value) (x:Int),0≤x→x < 256→(∀(D' : Chs) (k' : Value→M),J R D' (k' (.int .u8 x))→J R D' (L1 q k'))→J R D (k q)):J R D (IA 1 v (I i) k):=by
 obtain⟨a,cap,rfl,hn,h2 | ⟨b,o,rfl,hc⟩⟩:=h
 ·omega
 ·obtain⟨t,cs,fz,x,hb,hx,x0,x1⟩:=hc i.toNat ω;refine jia h0 ω (H _ x x0 x1 λD' k' hk=>?_);rw[Zo];intro h hs;exact⟨.int .u8 x,by simp only[Go.Lf.hc,hs.rd b _ hb];exact hx,hk h hs⟩
end rules
def Byt (R:RM) (v:Value):Prop:=∃a n cap,v = .slice a n cap∧Bsl R v n∧n≤1000000
theorem Byt.le {R R' : RM} {v:Value} (h:R.le R') (H:Byt R v):Byt R' v:=by
 obtain⟨a,n,cap,h1,h2,h3⟩:=H;exact⟨a,n,cap,h1,h2.le h,h3⟩
@[reducible] def rdO (v:Value) (m:Int):Obj:=C 118 [v,I m]
theorem Wf {R:RM} {rb:Nat} {v:Value} {n m:Int} (hb:Byt R v) (hm:0≤m∧m < 1000000000) :
  Fn P FM [Pt rb,I n] R [(rb,rdO v m)] (λv' R' A=>R' = R∧A = [(rb,rdO v (m + 1))]∧∃x,v' = I x∧0≤x∧(x < n∨x = 0)):=by
 refine Lx λF=>?_
 refine z_2 ?_;obtain⟨a,l,cap,rfl,hf,hl⟩:=hb;refine jl (v:=I m) rfl (jad (js (cs':=[.slice a l cap,I (m + 1)]) rfl rfl σ rfl ?_));refine jor [Pt rb,I n] (decide (n < 1) || ((l:Int) == 0)) (λK' hK'=>?_) (λe c u ho he=>?_)
 ·refine jlt (BR (λh1=>?_) (λh1=>?_))
  ·refine jl (v:=.slice a l cap) rfl (jln (jeq (hK' _ _ _ (h1▸Ah) (by rw[h1,Yl]))))
  ·exact hK' _ _ _ (h1▸Am) (by rw[h1,Yo])
 refine z_V ?_;rw[ho];have fin:∀x:Int,0≤x→(x < n∨x = 0)→J R ((rb,C 118 [.slice a l cap,I (m + 1)]) :: F) (Ey R F (λv' R' A=>R' = R∧A = [(rb,rdO (.slice a l cap) (m + 1))]∧∃x,v' = I x∧0≤x∧(x < n∨x = 0)) (I x)):=λx x0 x1=>
  B9 (A:=[(rb,rdO (.slice a l cap) (m + 1))]) (RM.le.refl R) ⟨rfl,rfl,x,rfl,x0,x1⟩
 refine jif (λh0=>fin 0 ω (.inr rfl)) (λh0=>?_);simp only[Z4,decide_eq_false_iff_not,beq_eq_false_iff_ne] at h0;obtain⟨n1,l1⟩:=h0;have tm:∀x y:Int,0≤x→0 < y→0≤x.tmod y∧x.tmod y < y:=λx y hx hy=>⟨Int.tmod_nonneg y hx,Int.tmod_lt_of_pos x hy⟩
 refine jl (v:=I (m + 1)) rfl (jsu ?_);rw[show m + 1 - 1 = m from ω];refine jl (v:=.slice a l cap) rfl (jln (jlt (jif (λh1=>?_) (λh1=>?_))))
 ·have h1:=z_f h1;refine jl (v:=.slice a l cap) rfl (T9 hf hm.1 h1 λq x x0 x1 hq=>?_);refine hq _ _ ?_;refine @jcv _ _ _ _ ⟨ω,ω⟩ (NW ω ?_);obtain⟨t0,t1⟩:=tm x n x0 ω;exact fin _ t0 (.inl t1)
 ·refine AR (λvs R' D'=>R' = R∧D' = (rb,C 118 [.slice a l cap,I (m + 1)]) :: F∧∃x:Int,0≤x∧x < 1000000000000∧vs = [I n,I x]) (λK hK=>?_) ?_
  ·obtain⟨k0,k1⟩:=tm m l hm.1 ω;obtain⟨k2,k3⟩:=tm (m * 7 + 3) l ω ω;have q0:0≤m.tdiv l:=Int.tdiv_nonneg hm.1 ω;have q1:m.tdiv l≤m:=by
    rw[Zk hm.1];exact Int.ediv_le_self _ hm.1
   refine jl (v:=.slice a l cap) rfl ?_;refine jl (v:=.slice a l cap) rfl (jln ?_);refine NW ω ?_;refine T9 hf k0 k1 λqa x x0 x1 hqa=>?_
   refine hqa _ _ ?_;refine jl (v:=.slice a l cap) rfl (GX ⟨ω,ω⟩ (jad (jl (v:=.slice a l cap) rfl (jln (NW ω (T9 hf k2 k3 λqb y y0 y1 hqb=>?_))))));refine hqb _ _ ?_;refine GX ⟨ω,ω⟩ (jl (v:=.slice a l cap) rfl (jln (MX ω ⟨ω,ω⟩ (GX ⟨ω,ω⟩ ?_))));refine EP ?_ (Dk ?_)
   ·refine @jcv _ _ _ _ ⟨ω,ω⟩ (GX ⟨ω,ω⟩ ?_);refine Af (jl (v:=.slice a l cap) rfl jev) (Af (jl (v:=.slice a l cap) rfl jev) (Af (hqb _ _ jev) (Af (jl (v:=.slice a l cap) rfl jev) ?_)));refine @jcv _ _ _ _ ⟨ω,ω⟩ (GX ⟨ω,ω⟩ (jad (jad (jad ?_))));refine Af (jl (v:=.slice a l cap) rfl jev) ?_;exact hK _ _ _ ⟨rfl,rfl,_,ω,ω,rfl⟩
   ·refine @jcv _ _ _ _ ⟨ω,ω⟩ (GX ⟨ω,ω⟩ ?_);refine Af (jl (v:=.slice a l cap) rfl jev) (Af (jl (v:=.slice a l cap) rfl jev) (Af (hqa _ _ jev) (Af (jl (v:=.slice a l cap) rfl jev) ?_)));refine @jcv _ _ _ _ ⟨ω,ω⟩ (GX ⟨ω,ω⟩ (jad (jad (jad ?_))));refine Af (jl (v:=.slice a l cap) rfl jev) ?_;exact hK _ _ _ ⟨rfl,rfl,_,ω,ω,rfl⟩
  rintro e R1 D1 ⟨hR,hD,x,x0,x1,he⟩;subst hR;refine z_W ?_;have e1:x.tdiv 64 = x / 64:=Zk x0;refine MX δ (by rw[e1];constructor<;>omega) ?_;rw[e1];refine Ya ⟨x0,ω⟩ ⟨ω,ω⟩ λz z0 z1=>NW ω ?_
  obtain⟨t0,t1⟩:=tm z n z0 ω;exact fin _ t0 (.inl t1)
theorem jpk {R:RM} {D E:Chs} {rb:Nat} {v:Value} {n m:Int} {k:Value→M} (hb:Byt R v) (hm:0≤m∧m < 1000000000) [t:Tk D rb (rdO v m) E] (H:∀x,0≤x→(x < n∨x = 0)→J R ((rb,rdO v (m + 1)) :: E) (k (I x))) :
  J R D (CA P FM [Pt rb,I n] k):=by
 refine jc (A:=[(rb,rdO v m)]) (F:=E) (s:=⟨t.p⟩) (Wf hb hm) ?_;rintro _ _ _ _ ⟨rfl,rfl,x,rfl,x0,x1⟩;exact H x x0 x1
end Go.Lf
end
section
namespace Sm
variable {P:List (List Op)}
def thg (w:List Int) (a:Int):AU:=⟨a,wv w a,shp w a,seg w (a + 2) (shp w a).refs,seg w (a + 2 + (shp w a).refs) (shp w a).nums⟩
theorem J7 {n:Nat} {k:Nat} (h:n = 16 * k) (h0:2≤k) (h1:k≤12):BM n = true:=by
 subst h;simp only[BM,z_b,beq_iff_eq,z_d];omega
theorem Geo.wok {w:List Int} {t:List Rg} {B:Int→Prop} (G:Geo w t B):BM w.length = true:=by
 have h1:=G.len;exact J7 (k:=t.length) ω G.ok.n0 G.ok.n1
theorem Geo.fits {w:List Int} {t:List Rg} {B:Int→Prop} (G:Geo w t B) {a s:Int} (h:B a) (s0:1≤s) (s1:s≤sz w a):Sm.fits w.length a s = true:=by
 obtain⟨g1,g2,g3,g4,g5,g6,g7,g8⟩:=G.inn h;unfold Sm.fits;rw[G.wok,Bq ω,Bq ω];simp only[Z2,z_b,z_d,beq_iff_eq];omega
theorem Geo.thing {w:List Int} {t:List Rg} {B:Int→Prop} (G:Geo w t B) {a:Int} (h:B a):Ap w a = (thg w a,true):=by
 obtain⟨g1,g2,g3,g4,g5,g6,g7,g8⟩:=G.inn h;have e:w.getD (a.toNat + 1) 0 = wv w (a + 1):=by unfold wv gv;rw[show (a + 1).toNat = a.toNat + 1 from ω]
 unfold Ap;rw[if_pos (G.fits h ω ω),e];dsimp only;rw[show AF (AJ (wv w (a + 1))).1 = sz w a from rfl,(G.at_ a h).2.2,G.fits h ω (ZI _)];rfl
theorem Je {w:List Int} {t:List Rg} {B:Int→Prop} (G:Geo w t B) {r:Int} (r0:1≤r) (r1:r < t.length):∀(n:Nat) (a:Int),(a = (rv t r).top∨(B a∧a / 16 = r))→(rv t r).top - a≤2 * n→
  ∃l,As w n a (rv t r).top = some l∧(∀x∈l,B x.at_∧x = thg w x.at_)∧∀b,B b→b / 16 = r→a≤b→thg w b∈l:=by
 have T1:=(G.ok.row r r0 r1).t1;have T0:=(G.ok.row r r0 r1).t0;have below:∀b,B b→b / 16 = r→b < (rv t r).top:=λb hb hr=>by
  have g:=G.inn hb;rw[hr] at g;omega
 intro n;induction n with
 | zero=>
  intro a ha hn;have:¬ a < (rv t r).top:=ω
  unfold As;rw[if_neg this];exact⟨[],rfl,λx h=>(by cases h),λb hb hr hab=>by have:=below b hb hr;omega⟩
 | succ n ih=>
  intro a ha hn;unfold As;by_cases c:a < (rv t r).top
  ·have hB:B a∧a / 16 = r:=by rcases ha with h | h;omega;exact h
   obtain⟨g1,g2,g3,g4,g5,g6,g7,g8⟩:=G.inn hB.1;rw[hB.2] at g4;rw[if_pos c,G.thing hB.1];dsimp only;have es:AF (thg w a).sh = sz w a:=rfl;rw[es];rw[if_pos (by simpa using g4)];have nx:a + sz w a = (rv t r).top∨(B (a + sz w a)∧(a + sz w a) / 16 = r):=by
    by_cases h:a + sz w a = (rv t r).top
    ·exact .inl h
    ·right;rcases G.nx a hB.1 with h2 | h2
     ·rw[hB.2] at h2;exact absurd h2 h
     ·exact⟨h2,ω⟩
   obtain⟨l,e,h1,h2⟩:=ih (a + sz w a) nx ω;rw[e];refine⟨thg w a :: l,rfl,λx hx=>?_,λb hb hr hab=>?_⟩
   ·rcases Yx.1 hx with h | h
    ·subst h;exact⟨hB.1,rfl⟩
    ·exact h1 x h
   ·by_cases d:b = a
    ·subst d;simp
    ·have:=G.dj a b hB.1 hb ω;exact ZG _ (h2 b hb hr this)
  ·rw[if_neg c];exact⟨[],rfl,λx h=>(by cases h),λb hb hr hab=>by have:=below b hb hr;omega⟩
theorem KK {w:List Int} {t:List Rg} {B:Int→Prop} (G:Geo w t B):∀(l:List Rg) (r:Nat),1≤r→r + l.length = t.length→(∀k (h:k < l.length),l[k] = rv t (r + k:Nat))→
  ∃out,Be w r l = some out∧(∀x∈out,B x.at_∧x = thg w x.at_)∧∀b,B b→(r:Int)≤b / 16→thg w b∈out:=by
 have n1:=G.ok.n1;have len:=G.len;intro l;induction l with
 | nil=>
  intro r r0 hl _;refine⟨[],rfl,λx h=>(by cases h),λb hb hr=>?_⟩;have g:=G.inn hb;simp only[Zp] at hl;omega
 | cons x l ih=>
  intro r r0 hl hk;simp only[Yt] at hl;have hx:x = rv t r:=by have:=hk 0 σ;simpa using this
  have R:=G.ok.row r ω ω;have R0:=R.t0;have R1:=R.t1;have hb:=CO (r:=r) ω ω;obtain⟨a,e1,h1,h2⟩:=Je G (r:=r) ω ω 16 (16 * (r:Int)) (by
   rcases G.bs r ω ω with h | h
   ·exact .inl h.symm
   ·exact .inr ⟨h,ω⟩) ω
  obtain⟨b,e2,h3,h4⟩:=ih (r + 1) ω ω λk h=>by
   have:=hk (k + 1) (by simpa using h);rw[show r + 1 + k = r + (k + 1) from ω];exact this
  have e3:BN w r x.top = some a:=by
   unfold BN;rw[G.wok,hx,hb,if_pos (by simp only[Z2,z_b,z_d];omega)];exact e1
  refine⟨a ++ b,?_,λy hy=>?_,λy hy hr=>?_⟩
  ·unfold Be;rw[e3];simp only[];rw[e2]
  ·rcases ZB.1 hy with h | h
   ·exact h1 y h
   ·exact h3 y h
  ·by_cases d:y / 16 = r
   ·exact ZP _ (h2 y hy d ω)
   ·exact Za _ (h4 y hy ω)
structure Thn (w:List Int) (B:Int→Prop) (l:List AU):Prop where
 all:∀x∈l,B x.at_∧x = thg w x.at_
 has:∀a,B a→thg w a∈l
theorem Sa {s:Al} {B:Int→Prop} (G:Geo s.AA s.A0 B):∃l,BJ s = some l∧Thn s.AA B l:=by
 have n0:=G.ok.n0;obtain⟨l,e,h1,h2⟩:=KK G s.A0.tail 1 (z_n 1) (by simp;omega) λk h=>Hv h
 exact⟨l,e,h1,λa ha=>h2 a ha (by have:=G.inn ha;omega)⟩
theorem Thn.find {w:List Int} {B:Int→Prop} {l:List AU} (T:Thn w B l) {a:Int} (h:B a):BL l a = some (thg w a):=by
 unfold BL;cases hf:l.find? λt=>t.at_ == a with
 | none=>
  have:=List.find?_eq_none.1 hf _ (T.has a h);simp[thg] at this
 | some x=>
  have h1:=List.find?_some hf;have h2:=al hf;have h3:x.at_ = a:=by simpa using h1
  rw[(T.all x h2).2,h3]
theorem Thn.now {w:List Int} {B:Int→Prop} {l:List AU} (T:Thn w B l) {a:Int} (h:a≠0→B a):now l a = some (if a = 0 then 0 else wv w a):=by
 unfold Sm.now;by_cases c:a = 0
 ·rw[if_pos c,if_pos c]
 ·rw[if_neg c,if_neg c,T.find (h c)];rfl
theorem HC {α:Type} [DecidableEq α]:∀{xs ys:List α},xs.Nodup→(∀x∈xs,x∈ys)→xs.length≤ys.length:=by
 intro xs;induction xs with
 | nil=>intro ys _ _;simp
 | cons x r ih=>
  intro ys hn h;rw[Zj] at hn;have hx:=h x σ;have:=ih (ys:=ys.erase x) hn.2 λy hy=>by
   have hne:y≠x:=λc=>by subst c;exact hn.1 hy
   exact (List.mem_erase_of_ne hne).2 (h y (by simp[hy]))
  rw[List.length_erase_of_mem hx] at this;have:=List.length_pos_of_mem hx;simp;omega
section
variable {w:List Int} {B L:Int→Prop} {l:List AU}
structure Cur (w:List Int) (L:Int→Prop) (out:List Int):Prop where
 nd:out.Nodup
 cu:∀a∈out,L a∧wv w a = a
 nz:∀a∈out,a≠0
theorem Cur.put {out:List Int} (C:Cur w L out) {a:Int} (h:a≠0→L a∧wv w a = a):Cur w L (CZ out a)∧(∀b∈out,b∈CZ out a)∧(a≠0→a∈CZ out a)∧∃e,CZ out a = out ++ e:=by
 unfold CZ;by_cases c:a = 0∨a∈out
 ·rw[if_pos c];exact⟨C,λ_ h=>h,λh0=>by rcases c with c | c;exact absurd c h0;exact c,[],σ⟩
 ·rw[if_neg c];rw[not_or] at c;refine⟨⟨?_,λb hb=>?_,λb hb=>?_⟩,λb hb=>ZP _ hb,λ_=>σ,[a],rfl⟩
  ·rw[List.nodup_append];exact⟨C.nd,σ,λx hx y hy=>by simp only[Z8] at hy;subst hy;intro e;subst e;exact c.2 hx⟩
  ·rcases ZB.1 hb with hb | hb
   ·exact C.cu b hb
   ·simp only[Z8] at hb;subst hb;exact h c.1
  ·rcases ZB.1 hb with hb | hb
   ·exact C.nz b hb
   ·simp only[Z8] at hb;subst hb;exact c.1
theorem JF (T:Thn w B l) (lb:∀a,L a→B a) (hL:∀a,L a→L (wv w a)∧wv w (wv w a) = wv w a):∀(xs out:List Int),(∀a∈xs,a≠0→L a)→Cur w L out→∃out',Au l xs out = some out'∧Cur w L out'∧(∀b∈out,b∈out')∧(∀a∈xs,a≠0→wv w a≠0→wv w a∈out')∧∃e,out' = out ++ e:=by
 intro xs;induction xs with
 | nil=>intro out _ C;exact⟨out,rfl,C,λ_ h=>h,λa h=>(by cases h),[],σ⟩
 | cons x r ih=>
  intro out h C;unfold Au;rw[T.now λh0=>lb x (h x σ h0)];simp only[Yn,z_o];obtain⟨C1,s1,m1,e1,he1⟩:=C.put (a:=if x = 0 then 0 else wv w x) λh0=>by
   by_cases c:x = 0
   ·rw[if_pos c] at h0;exact absurd rfl h0
   ·rw[if_neg c];exact hL x (h x σ c)
  obtain⟨out',e2,C2,s2,m2,e3,he3⟩:=ih _ (λa ha=>h a (by simp[ha])) C1;refine⟨out',e2,C2,λb hb=>s2 b (s1 b hb),λa ha h0 hw=>?_,e1 ++ e3,by rw[he3,he1,Yr]⟩;rcases Yx.1 ha with ha | ha
  ·subst ha;rw[if_neg h0] at m1;exact s2 _ (by have:=m1 hw;rw[if_neg h0];exact this)
  ·exact m2 a ha h0 hw
theorem Lp (T:Thn w B l) (lb:∀a,L a→B a) (hL:∀a,L a→L (wv w a)∧wv w (wv w a) = wv w a):∀(ts:List Th) (out:List Int),(∀t∈ts,∀a∈t.AC,a≠0→L a)→Cur w L out→∃out',Dm l ts out = some out'∧Cur w L out'∧(∀b∈out,b∈out')∧(∀t∈ts,∀a∈t.AC,a≠0→wv w a≠0→wv w a∈out'):=by
 intro ts;induction ts with
 | nil=>intro out _ C;exact⟨out,rfl,C,λ_ h=>h,λt h=>(by cases h)⟩
 | cons t r ih=>
  intro out h C;unfold Dm;obtain⟨o1,e1,C1,s1,m1,_⟩:=JF T lb hL t.AC out (h t σ) C;rw[e1];simp only[Yn,z_o];obtain⟨o2,e2,C2,s2,m2⟩:=ih o1 (λu hu=>h u (by simp[hu])) C1;refine⟨o2,e2,C2,λb hb=>s2 b (s1 b hb),λu hu a ha h0 hw=>?_⟩;rcases Yx.1 hu with hu | hu
  ·subst hu;exact s2 _ (m1 a ha h0 hw)
  ·exact m2 u hu a ha h0 hw
theorem RV:∀(ps out:List Int),(∀a∈ps,L a∧wv w a = a)→Cur w L out→Cur w L (ps.foldl CZ out)∧(∀b∈out,b∈ps.foldl CZ out)∧(∀a∈ps,a≠0→a∈ps.foldl CZ out):=by
 intro ps;induction ps with
 | nil=>intro out _ C;exact⟨C,λ_ h=>h,λa h=>(by cases h)⟩
 | cons x r ih=>
  intro out h C;obtain⟨C1,s1,m1,_⟩:=C.put (a:=x) λ_=>h x σ
  obtain⟨C2,s2,m2⟩:=ih _ (λa ha=>h a (by simp[ha])) C1;refine⟨C2,λb hb=>s2 b (s1 b hb),λa ha h0=>?_⟩;rcases Yx.1 ha with ha | ha
  ·subst ha;exact s2 _ (m1 h0)
  ·exact m2 a ha h0
theorem N3 {w:List Int} {a n v:Int} (h0:0≤a) (h:v∈seg w a n):∃j,0≤j∧j < n∧wv w (a + j) = v:=by
 unfold seg at h;obtain⟨k,hk,e⟩:=ZF h;simp only[Z5,ZS] at hk;refine⟨k,ω,ω,?_⟩;rw[← e,aW,aX];unfold wv gv;rw[show (a + (k:Int)).toNat = a.toNat + k from ω,Ym,Yi ω];rfl
theorem LD (T:Thn w B l) (lb:∀a,L a→B a) (b16:∀a,B a→16≤a) (hL:∀a,L a→L (wv w a)∧wv w (wv w a) = wv w a) (rf:∀a j,L a→0≤j→j < (shp w a).refs→wv w (a + 2 + j)≠0→L (wv w (a + 2 + j))) :
  ∀(n i:Nat) (out:List Int),Cur w L out→l.length + 2≤i + n→i≤out.length→(∀k (h:k < out.length),k < i→∀v∈(thg w out[k]).refs,v≠0→wv w v≠0→wv w v∈out)→
  ∃out',BW l n i out = some out'∧Cur w L out'∧(∀b∈out,b∈out')∧∀a∈out',∀v∈(thg w a).refs,v≠0→wv w v≠0→wv w v∈out':=by
 intro n;induction n with
 | zero=>
  intro i out C hn hi _;exfalso;have:out.length≤(l.map AU.at_).length:=HC C.nd λa ha=>ZK.2 ⟨thg w a,T.has a (lb a (C.cu a ha).1),rfl⟩
  rw[Z1] at this;omega
 | succ n ih=>
  intro i out C hn hi hcl;unfold BW;by_cases c:i < out.length
  ·rw[Yi c];have hm:=C.cu out[i] (Yq c);simp only[Yn];rw[T.find (lb _ hm.1)];simp only[z_o];have h16:=b16 _ (lb _ hm.1);obtain⟨o1,e1,C1,s1,m1,e,he⟩:=JF T lb hL (thg w out[i]).refs out (λv hv h0=>by
    obtain⟨j,j0,j1,hj⟩:=N3 ω hv
    rw[← hj] at h0 ⊢
    exact rf _ j hm.1 j0 j1 h0) C
   rw[e1];simp only[z_o];have hlen:out.length≤o1.length:=by rw[he];simp
   obtain⟨o2,e2,C2,s2,m2⟩:=ih (i + 1) o1 C1 ω ω λk hk hki v hv h0 hw=>by
    have ek:o1[k] = out[k]'(ω):=by simp only[he];rw[aE]
    rw[ek] at hv;by_cases d:k = i
    ·subst d;exact m1 v hv h0 hw
    ·exact s1 _ (hcl k ω ω v hv h0 hw)
   exact⟨o2,e2,C2,λb hb=>s2 b (s1 b hb),m2⟩
  ·rw[Zd ω];refine⟨out,rfl,C,λ_ h=>h,λa ha v hv h0 hw=>?_⟩;obtain⟨k,hk,rfl⟩:=ZF ha;exact hcl k hk ω v hv h0 hw
theorem Pl {s:Al} {L B:Int→Prop} {l:List AU} (T:Thn s.AA B l) (lb:∀a,L a→B a) (b16:∀a,B a→16≤a) (hL:∀a,L a→L (wv s.AA a)∧wv s.AA (wv s.AA a) = wv s.AA a) (rf:∀a j,L a→0≤j→j < (shp s.AA a).refs→wv s.AA (a + 2 + j)≠0→L (wv s.AA (a + 2 + j)))
  (ht:∀t∈s.A6,∀a∈t.AC,a≠0→L a) (hp:∀a∈s.AG,L a∧wv s.AA a = a) :
  ∃out,DW s l = some out∧Cur s.AA L out∧(∀a∈out,∀v∈(thg s.AA a).refs,v≠0→wv s.AA v∈out)∧(∀t∈s.A6,∀a∈t.AC,a≠0→wv s.AA a∈out)∧(∀a∈s.AG,a∈out):=by
 have nz:∀a,L a→wv s.AA a≠0:=λa ha=>by have:=b16 _ (lb _ (hL a ha).1);omega
 unfold DW;obtain⟨o1,e1,C1,s1,m1⟩:=Lp T lb hL s.A6 [] ht ⟨σ,λa h=>(by cases h),λa h=>(by cases h)⟩;rw[e1];simp only[Yn,z_o];obtain⟨C2,s2,m2⟩:=RV s.AG o1 hp C1;obtain⟨o3,e3,C3,s3,m3⟩:=LD T lb b16 hL rf (l.length + 2) 0 _ C2 ω ω (λk _ h=>ω);refine⟨o3,e3,C3,λa ha v hv h0=>?_,λt h a ha h0=>s3 _ (s2 _ (m1 t h a ha h0 (nz a (ht t h a ha h0)))),λa ha=>s3 _ (m2 a ha (by have:=b16 a (lb a (hp a ha).1);omega))⟩;have hm:=(C3.cu a ha).1;have h16:=b16 _ (lb _ hm);obtain⟨j,j0,j1,hj⟩:=N3 ω hv;have hv2:=rf _ j hm j0 j1 (by rw[hj];exact h0);rw[hj] at hv2;exact m3 a ha v hv h0 (nz v hv2)
end
end Sm
end
section
namespace Sm
variable {P:List (List Op)}
theorem OF {l:List Int} {x:Int}:∀k,Ds l x k≤k∧(∀j,Ds l x k≤j→j < k→x < l.getD j 0)∧(0 < Ds l x k→¬ x < l.getD (Ds l x k - 1) 0):=by
 intro k;induction k with
 | zero=>exact⟨z_n 0,λj h h'=>ω,λh=>by simp[Ds] at h⟩
 | succ k ih=>
  unfold Ds;split
  ·obtain⟨h1,h2,h3⟩:=ih;refine⟨ω,λj hj hk=>?_,h3⟩;by_cases c:j = k
   ·subst c;assumption
   ·exact h2 j hj ω
  ·exact⟨z_n _,λj h h'=>ω,λ_=>by rw[Nat.add_sub_cancel];assumption⟩
theorem RZ {l:List Int} {x:Int} (h:l.Pairwise (· < ·)) (hx:x ∉ l):(GE l x).Pairwise (· < ·)∧∀y,y∈GE l x↔y = x∨y∈l:=by
 obtain⟨h1,h2,h3⟩:=OF (l:=l) (x:=x) l.length;unfold GE;dsimp only;generalize Ds l x l.length = p at h1 h2 h3;have gd:∀j (hj:j < l.length),l.getD j 0 = l[j]:=λj hj=>by rw[Ym,Yi hj];rfl
 have hpw:=List.pairwise_iff_getElem.1 h;constructor
 ·rw[List.pairwise_append];refine⟨h.sublist (List.take_sublist p l),?_,?_⟩
  ·rw[aL];refine⟨λy hy=>?_,h.sublist (List.drop_sublist p l)⟩;obtain⟨k,hk,rfl⟩:=ZF hy;simp only[ZS] at hk;rw[aX,← gd (p + k) ω];exact h2 _ ω ω
  ·intro a ha b hb;obtain⟨i,hi,rfl⟩:=ZF ha;simp only[Z5] at hi;rw[aW];have hax:l[i] < x:=by
    have h4:=h3 ω;rw[gd (p - 1) ω] at h4;have h5:l[i]≤l[p - 1]'(ω):=by
     by_cases c:i = p - 1
     ·subst c;exact ZI _
     ·have:=hpw i (p - 1) ω ω ω;omega
    have h6:l[i]≠x:=λc=>hx (c▸Yq ω)
    omega
   rcases Yx.1 hb with hb | hb
   ·rw[hb];exact hax
   ·obtain⟨k,hk,rfl⟩:=ZF hb;simp only[ZS] at hk;rw[aX,← gd (p + k) ω];have:=h2 (p + k) ω ω;omega
 ·intro y;have:y∈l↔y∈l.take p∨y∈l.drop p:=by rw[← ZB,aJ]
  rw[ZB,Yx,this];constructor
  ·rintro (h | h | h)
   ·exact .inr (.inl h)
   ·exact .inl h
   ·exact .inr (.inr h)
  ·rintro (h | h | h)
   ·exact .inr (.inl h)
   ·exact .inl h
   ·exact .inr (.inr h)
theorem Cx {l:List Int} (h:l.Nodup):(Aq l).Pairwise (· < ·)∧∀y,y∈Aq l↔y∈l:=by
 have:∀(l acc:List Int),l.Nodup→acc.Pairwise (· < ·)→(∀x∈l,x ∉ acc)→(l.foldl GE acc).Pairwise (· < ·)∧∀y,y∈l.foldl GE acc↔y∈l∨y∈acc:=by
  intro l;induction l with
  | nil=>intro acc _ h _;exact⟨h,λy=>σ⟩
  | cons x r ih=>
   intro acc hn h hd;rw[Zj] at hn;obtain⟨i1,i2⟩:=RZ h (hd x σ);obtain⟨j1,j2⟩:=ih (GE acc x) hn.2 i1 λy hy hm=>by
    rcases (i2 y).1 hm with c | c
    ·subst c;exact hn.1 hy
    ·exact hd y (by simp[hy]) c
   refine⟨j1,λy=>?_⟩;rw[aZ,j2 y,i2 y,Yx];constructor
   ·rintro (h | h | h)
    ·exact .inl (.inr h)
    ·exact .inl (.inl h)
    ·exact .inr h
   ·rintro ((h | h) | h)
    ·exact .inr (.inl h)
    ·exact .inl h
    ·exact .inr (.inr h)
 obtain⟨h1,h2⟩:=this l [] h List.Pairwise.nil (λ_ _ h=>by cases h);exact⟨h1,λy=>by rw[Aq,h2 y];simp⟩
theorem GB {w:List Int} {a v:Int} (h0:0≤a) (h1:a < w.length):wr w a v = some (AT w a v):=by unfold wr;rw[if_pos ⟨h0,h1⟩]
theorem Ot:∀(vs w:List Int) (a:Int),0≤a→a + vs.length≤w.length→∃w',wrs w a vs = some w'∧w'.length = w.length∧∀x,0≤x→(x < a∨a + vs.length≤x)→wv w' x = wv w x:=by
 intro vs;induction vs with
 | nil=>intro w a _ _;exact⟨w,rfl,rfl,λ_ _ _=>rfl⟩
 | cons v r ih=>
  intro w a h0 h1;simp only[Yt] at h1;unfold wrs;rw[GB h0 ω];simp only[Yn,z_o];obtain⟨w',e,hl,hw⟩:=ih (AT w a v) (a + 1) ω (by simp;omega);refine⟨w',e,by rw[hl];simp,λx x0 hx=>?_⟩;simp only[Yt] at hx;rw[hw x x0 ω,Cb h0 ω x0,if_neg ω]
theorem Gl {w:List Int} {a n:Int} (h0:0≤a) (hn:0≤n) (h1:a + n≤w.length):((seg w a n).length:Int) = n:=by
 unfold seg;simp only[Z5,ZS];omega
def Hd (w W:List Int) (f:Int→Shp) (b:Int):Prop:=wv w b = b∧wv w (b + 1) = AZ (f b)
theorem L7 (w:List Int) (a:Int):BP (shp w a) = true:=by
 have:=FP w a;simp[BP];omega
section
variable {s:Al} {B0:Int→Prop}
theorem MM (G:Geo s.AA s.A0 B0):∀(l:List AU) (w:List Int) (t:List Rg),(∀x∈l,B0 x.at_∧x = thg s.AA x.at_)→w.length = s.AA.length→t.length = s.A0.length→
  ∃w' t',stay s l w t = some (w',t')∧w'.length = s.AA.length∧t'.length = s.A0.length∧
   (∀b,B0 b→Ao s.AG (b / 16) = true→(thg s.AA b∈l∨Hd w s.AA (shp s.AA) b)→Hd w' s.AA (shp s.AA) b)∧
   (∀b j,B0 b→0≤j→j < (shp s.AA b).refs→wv w' (b + 2 + j) = wv w (b + 2 + j))∧
   (∀x,0≤x→Ao s.AG (x / 16) = false→wv w' x = wv w x)∧
   (∀r:Int,0≤r→rv t' r = if Ao s.AG r = true∧∃x∈l,x.at_ / 16 = r then ⟨3,-1,(rv s.A0 r).top,(rv s.A0 r).top,0⟩ else rv t r):=by
 intro l;induction l with
 | nil=>
  intro w t _ hw ht;refine⟨w,t,rfl,hw,ht,λb _ _ h=>?_,λ_ _ _ _ _=>rfl,λ_ _ _=>rfl,λr _=>by rw[if_neg (by rintro⟨_,x,hx,_⟩;cases hx)]⟩;rcases h with h | h
  ·cases h
  ·exact h
 | cons x l ih=>
  intro w t hx hw ht;obtain⟨hB,he⟩:=hx x σ;have hxl:∀y∈l,B0 y.at_∧y = thg s.AA y.at_:=λy hy=>hx y (by simp[hy])
  obtain⟨g1,g2,g3,g4,g5,g6,g7,g8⟩:=G.inn hB;have sb:=FP s.AA x.at_;have hsh:x.sh = shp s.AA x.at_:=by rw[he];rfl
  have hrf:((x.refs.length:Nat):Int) = (shp s.AA x.at_).refs:=by
   rw[he];exact Gl (by show 0≤x.at_ + 2;omega) ω (by show x.at_ + 2 + (shp s.AA x.at_).refs≤_;omega)
  have hnm:((x.nums.length:Nat):Int) = (shp s.AA x.at_).nums:=by
   rw[he];exact Gl (by show 0≤x.at_ + 2 + (shp s.AA x.at_).refs;omega) ω (by show x.at_ + 2 + (shp s.AA x.at_).refs + (shp s.AA x.at_).nums≤_;omega)
  unfold stay;dsimp only;rw[Bq ω];by_cases hh:Ao s.AG (x.at_ / 16) = true
  ·rw[if_pos hh,GB ω ω];simp only[Yn,z_o];rw[GB ω (by simp;omega)];simp only[z_o];obtain⟨w3,e3,l3,h3⟩:=Ot x.nums (AT (AT w x.at_ x.at_) (x.at_ + 1) (AZ x.sh)) (x.at_ + 2 + x.refs.length) ω (by simp;omega);rw[e3];simp only[z_o];rw[DB ω g3,DB (l:=t) ω ω];simp only[z_o];simp only[DG] at l3;obtain⟨w',t',e,hl,htl,k1,k2,k3,k4⟩:=ih w3 (AT t (x.at_ / 16) ⟨3,-1,(rv s.A0 (x.at_ / 16)).top,(rv s.A0 (x.at_ / 16)).top,0⟩) hxl ω (by simpa using ht);have w3v:∀y,0≤y→(y < x.at_ + 2 + x.refs.length∨x.at_ + 2 + x.refs.length + x.nums.length≤y)→wv w3 y = if y = x.at_ + 1 then AZ x.sh else if y = x.at_ then x.at_ else wv w y:=λy y0 hy=>by
    rw[h3 y y0 hy,Cb ω (by simp;omega) y0];split
    ·rfl
    ·rw[Cb ω ω y0]
   refine⟨w',t',e,hl,htl,λb hb hbh h=>?_,λb j hb j0 j1=>?_,λy y0 hy=>?_,λr r0=>?_⟩
   ·refine k1 b hb hbh ?_;by_cases c:b = x.at_
    ·right;subst c;refine⟨?_,?_⟩
     ·rw[w3v _ ω ω,if_neg ω,if_pos rfl]
     ·rw[w3v _ ω ω,if_pos rfl,hsh]
    ·rcases h with h | h
     ·rcases Yx.1 h with h | h
      ·exact absurd (by rw[← h];rfl) c
      ·exact .inl h
     ·right;have gb:=G.inn hb;have s1:∀k,0≤k→k < sz s.AA x.at_→b≠x.at_ + k:=λk k0 k1 hk=>c (sep G hb hB (k:=0) (l:=k) ω ω k0 k1 ω).1
      have s2:∀k,0≤k→k < sz s.AA x.at_→b + 1≠x.at_ + k:=λk k0 k1 hk=>c (sep G hb hB (k:=1) (l:=k) ω ω k0 k1 ω).1
      refine⟨?_,?_⟩
      ·rw[w3v b ω (by
        have:=s1 (b - x.at_)
        omega),if_neg (by have:=s1 1 ω ω;omega),if_neg c]
       exact h.1
      ·rw[w3v (b + 1) ω (by
        have:=s2 (b + 1 - x.at_)
        omega),if_neg ω,if_neg (by have:=s2 0 ω ω;omega)]
       exact h.2
   ·rw[k2 b j hb j0 j1];have gb:=G.inn hb;have sbb:=FP s.AA b;have s1:∀k,0≤k→k < sz s.AA x.at_→b + 2 + j = x.at_ + k→b = x.at_∧2 + j = k:=λk k0 k1 hk=>sep G hb hB (k:=2 + j) (l:=k) ω ω k0 k1 ω
    rw[w3v _ ω ?_,if_neg ?_,if_neg ?_]
    ·intro h;have:=s1 0 ω ω ω;omega
    ·intro h;have:=s1 1 ω ω ω;omega
    ·by_cases c:x.at_ + 2 + x.refs.length≤b + 2 + j∧b + 2 + j < x.at_ + 2 + x.refs.length + x.nums.length
     ·exfalso;have:=s1 (b + 2 + j - x.at_) ω ω ω;have e1:=this.1;subst e1;omega
     ·omega
   ·rw[k3 y y0 hy];have hne:y / 16≠x.at_ / 16:=λc=>by rw[c,hh] at hy;cases hy
    rw[w3v y y0 ω,if_neg ω,if_neg ω]
   ·rw[k4 r r0,DS ω ω r0];by_cases c:r = x.at_ / 16
    ·subst c;rw[if_pos rfl,if_pos (show Ao s.AG (x.at_ / 16) = true∧∃y∈x :: l,y.at_ / 16 = x.at_ / 16 from ⟨hh,x,aK,rfl⟩)];split<;>rfl
    ·rw[if_neg c];by_cases d:Ao s.AG r = true∧∃y∈l,y.at_ / 16 = r
     ·rw[if_pos d,if_pos ⟨d.1,by obtain⟨y,hy,hr⟩:=d.2;exact⟨y,by simp[hy],hr⟩⟩]
     ·rw[if_neg d,if_neg (by
       rintro⟨d1,y,hy,hr⟩
       rcases Yx.1 hy with hy | hy
       ·subst hy;exact c hr.symm
       ·exact d ⟨d1,y,hy,hr⟩)]
  ·rw[if_neg hh];obtain⟨w',t',e,hl,htl,k1,k2,k3,k4⟩:=ih w t hxl hw ht;refine⟨w',t',e,hl,htl,λb hb hbh h=>k1 b hb hbh ?_,k2,k3,λr r0=>?_⟩
   ·rcases h with h | h
    ·rcases Yx.1 h with h | h
     ·exfalso;have:b = x.at_:=by rw[← h];rfl
      subst this;exact hh hbh
     ·exact .inl h
    ·exact .inr h
   ·rw[k4 r r0];by_cases d:Ao s.AG r = true∧∃y∈l,y.at_ / 16 = r
    ·rw[if_pos d,if_pos ⟨d.1,by obtain⟨y,hy,hr⟩:=d.2;exact⟨y,by simp[hy],hr⟩⟩]
    ·rw[if_neg d,if_neg (by
      rintro⟨d1,y,hy,hr⟩
      rcases Yx.1 hy with hy | hy
      ·subst hy;rw[hr] at hh;exact hh d1
      ·exact d ⟨d1,y,hy,hr⟩)]
end
end Sm
end
section
namespace Sm
variable {P:List (List Op)}
structure Lw (f:Int→Shp) (t:List Rg) (B:Int→Prop):Prop where
 ok:TOk t
 at_:∀a,B a→16≤a∧a + AF (f a)≤(rv t (a / 16)).top∧BP (f a) = true
 nx:∀a,B a→a + AF (f a) = (rv t (a / 16)).top∨B (a + AF (f a))
 bs:∀r:Int,1≤r→r < t.length→(rv t r).top = 16 * r∨B (16 * r)
 dj:∀a b,B a→B b→a < b→a + AF (f a)≤b
theorem Ec {s:Shp} (h:BP s = true):2≤AF s∧AF s≤10∧AF s = 2 + s.refs + s.nums∧0≤s.refs∧0≤s.nums:=by
 have hb:=h;simp only[BP,z_b,z_d] at hb;rw[Jt ω];omega
theorem Lw.inn {f:Int→Shp} {t:List Rg} {B:Int→Prop} (G:Lw f t B) {a:Int} (h:B a):16≤a∧1≤a / 16∧a / 16 < t.length∧a + AF (f a)≤(rv t (a / 16)).top∧(rv t (a / 16)).top≤16 * (a / 16) + 16∧2≤AF (f a)∧AF (f a)≤10∧a + AF (f a)≤16 * t.length:=by
 obtain⟨h1,h2,h3⟩:=G.at_ a h;have hs:=Ec h3;by_cases c:a / 16 < t.length
 ·have:=(G.ok.row (a / 16) ω c).t1;exact⟨h1,ω,c,h2,this,ω,ω,ω⟩
 ·rw[DU ω ω] at h2;simp only[DO] at h2;omega
theorem Lw.add {f:Int→Shp} {t:List Rg} {B:Int→Prop} (G:Lw f t B) {r d:Int} {sh:Shp} (r0:1≤r) (r1:r < t.length) (hd:(rv t r).top = d) (ho:(rv t r).AV = -1) (hs:BP sh = true) (fit:d + AF sh≤16 * r + 16) :
  Lw (λx=>if x = d then sh else f x) (AT t r { rv t r with kind:=3,top:=d + AF sh,BE:=d + AF sh }) (λb=>B b∨b = d)∧¬ B d∧d / 16 = r:=by
 have R:=G.ok.row r r0 r1;have t0:=R.t0;have n:=Ec hs;have ed:d / 16 = r:=ω
 have nb:∀b,B b→b / 16 = r→b + AF (f b)≤d:=λb hb hr=>by
  have:=(G.at_ b hb).2.1;rw[hr,hd] at this;exact this
 have nd:¬ B d:=λh=>by
  have h1:=nb d h ed;have h2:=Ec (G.at_ d h).2.2;omega
 have fb:∀b,B b→(if b = d then sh else f b) = f b:=λb hb=>if_neg (show ¬ b = d from λc=>nd (c▸hb))
 have e:∀q,0≤q→(rv (AT t r { rv t r with kind:=3,top:=d + AF sh,BE:=d + AF sh }) q).top = if q = r then d + AF sh else (rv t q).top:=λq q0=>by
  rw[DS ω r1 q0];split
  ·rfl
  ·rfl
 refine⟨⟨?_,?_,?_,?_,?_⟩,nd,ed⟩
 ·refine TOk.set G.ok r0 r1 ⟨σ,σ,?_,fit,?_,ZI _,R.l0,?_,λh=>by simp at h,by simp[ho],R.o0,R.o1⟩ λs _ _ _ h=>by simp[ho] at h
  ·show 16 * r≤d + AF sh;omega
  ·show 16 * r≤d + AF sh;omega
  ·have:=R.l1;show (rv t r).AO≤d + AF sh - 16 * r;omega
 ·rintro b (hb | hb)
  ·obtain⟨a1,a2,a3⟩:=G.at_ b hb;simp only[fb b hb];refine⟨a1,?_,a3⟩;rw[e _ ω];split
   ·have:=nb b hb (by assumption);omega
   ·exact a2
  ·subst hb;simp only[if_true];refine⟨ω,?_,hs⟩;rw[e _ ω,if_pos ed];omega
 ·rintro b (hb | hb)
  ·have a1:=(G.at_ b hb).1;simp only[fb b hb];rw[e _ ω];rcases G.nx b hb with c | c
   ·split
    ·rename_i c2;rw[c2,hd] at c;exact .inr (.inr c)
    ·exact .inl c
   ·exact .inr (.inl c)
  ·subst hb;left;simp only[if_true];rw[e _ ω,if_pos ed]
 ·intro q q0 q1;simp only[DG] at q1;rw[e q ω];rcases G.bs q q0 q1 with c | c
  ·split
   ·rename_i c2;subst c2;right;right;omega
   ·exact .inl c
  ·exact .inr (.inl c)
 ·rintro a b (ha | ha) (hb | hb) hab
  ·simp only[fb a ha];exact G.dj a b ha hb hab
  ·subst hb;simp only[fb a ha];by_cases c:a / 16 = r
   ·exact nb a ha c
   ·have:=G.inn ha;omega
  ·subst ha;simp only[if_true];by_cases c:b / 16 = r
   ·have h1:=nb b hb c;have h2:=Ec (G.at_ b hb).2.2;omega
   ·omega
  ·omega
theorem PD {AG:List Int} {t:List Rg} {size R:Int} (T:TOk t) (s0:2≤size) (s1:size≤10) (hR:Ao AG R = false) (R1:R < t.length) (fit:(rv t R).top + size≤16 * R + 16):∀(n:Nat) (r:Int),1≤r→r≤R→R - r < n→
  ∃r',Er AG t size n r = some r'∧r≤r'∧r'≤R∧Ao AG r' = false∧(rv t r').top + size≤16 * r' + 16:=by
 have n1:=T.n1;intro n;induction n with
 | zero=>intro r _ _ h;omega
 | succ n ih=>
  intro r r0 r1 hn;unfold Er;have RR:=T.row r r0 ω;have t0:=RR.t0;have t1:=RR.t1;by_cases hh:Ao AG r = true
  ·rw[if_pos hh];have:r≠R:=λc=>by rw[c,hR] at hh;cases hh
   obtain⟨r',e,h1,h2,h3⟩:=ih (r + 1) ω ω ω;exact⟨r',e,ω,h2,h3⟩
  ·rw[if_neg hh,DB ω ω];simp only[Yn,z_o];rw[BV ω ω,CO ω ω];simp only[z_o];by_cases c:16 * r + 16 < (rv t r).top + size
   ·rw[if_pos c];have:r≠R:=λc2=>by rw[c2] at c;omega
    obtain⟨r',e,h1,h2,h3⟩:=ih (r + 1) ω ω ω;exact⟨r',e,ω,h2,h3⟩
   ·rw[if_neg c];exact⟨r,rfl,ZI r,r1,by simpa using hh,ω⟩
theorem Jm {AG:List Int} {l:List AU} {W:List Int} {T0:List Rg} {B0:Int→Prop} (T:Thn W B0 l) (G0:Geo W T0 B0):∀(la:List Int) (t:List Rg) (r:Int) (to:List Int) (f:Int→Shp) (B:Int→Prop),
  (∀a∈la,B0 a)→la.Pairwise (· < ·)→Lw f t B→t.length = T0.length→1≤r→(∀q:Int,1≤q→q < t.length→(rv t q).AV = -1)→(∀q:Int,0≤q→(rv t q).kind≠4)→(∀q:Int,r < q→q < t.length→Ao AG q = false→(rv t q).top = 16 * q)→
  (∀a∈la,Ao AG (a / 16) = false→r≤a / 16∧(r = a / 16→(rv t r).top≤a))→(∀a∈la,Ao AG (a / 16) = true→B a∧f a = shp W a)→
  ∃t' to' f' B',slide AG l la t r to = some (t',to ++ to')∧to'.length = la.length∧Lw f' t' B'∧t'.length = t.length∧(∀q:Int,0≤q→(rv t' q).kind≠4)∧(∀b,B b→B' b∧f' b = f b)∧(∀b,B' b→B b∨(b∈to'∧Ao AG (b / 16) = false))∧
   (∀p∈la.zip to',B' p.2∧f' p.2 = shp W p.1∧(Ao AG (p.1 / 16) = true→p.2 = p.1)):=by
 intro la;induction la with
 | nil=>
  intro t r to f B _ _ G _ _ _ nf _ _ _;exact⟨t,[],f,B,by simp[slide],rfl,G,rfl,nf,λb h=>⟨h,rfl⟩,λb h=>.inl h,λp h=>(by simp at h)⟩
 | cons a la ih=>
  intro t r to f B hB hpw G hl r0 ho nf h1 h3 h4;rw[aL] at hpw;have hBa:=hB a σ;obtain⟨g1,g2,g3,g4,g5,g6,g7,g8⟩:=G0.inn hBa;have n1:=G.ok.n1;unfold slide;rw[T.find hBa];simp only[Yn,z_o];have es:AF (thg W a).sh = sz W a:=rfl;rw[es,Bq ω];cases hh:Ao AG (a / 16) with
  | true=>
   rw[if_pos rfl];obtain⟨hb,hf⟩:=h4 a σ hh;obtain⟨t',to',f',B',e,k1,k2,k3,k4,k5,k6,k7⟩:=ih t r (to ++ [a]) f B (λb hb=>hB b (by simp[hb])) hpw.2 G hl r0 ho nf h1 (λb hb=>h3 b (by simp[hb])) (λb hb=>h4 b (by simp[hb]));refine⟨t',a :: to',f',B',by rw[e];simp,by simp[k1],k2,k3,k4,k5,λb hb=>?_,λp hp=>?_⟩
   ·rcases k6 b hb with h | h
    ·exact .inl h
    ·exact .inr ⟨by simp[h.1],h.2⟩
   ·rw[aT] at hp;rcases Yx.1 hp with hp | hp
    ·subst hp;exact⟨(k5 a hb).1,by rw[(k5 a hb).2,hf],λ_=>rfl⟩
    ·exact k7 p hp
  | false=>
   rw[if_neg δ];obtain⟨q1,q2⟩:=h3 a σ hh;have fitR:(rv t (a / 16)).top + sz W a≤16 * (a / 16) + 16:=by
    by_cases c:r = a / 16
    ·have:=q2 c;rw[← c];rw[← c] at g4 g5;omega
    ·have:=h1 (a / 16) ω ω hh;omega
   obtain⟨r',e1,p1,p2,p3,p4⟩:=PD (size:=sz W a) G.ok ω ω hh ω fitR (t.length + 2) r r0 q1 ω;rw[e1];simp only[z_o];have R:=G.ok.row r' ω ω;have t0:=R.t0;rw[DB ω ω];simp only[z_o];rw[BV ω ω];simp only[z_o];have hsz:AF (shp W a) = sz W a:=rfl;obtain⟨G2,nd,ed⟩:=G.add (r:=r') (sh:=shp W a) ω ω rfl (ho r' ω ω) (L7 W a) (by rw[hsz];exact p4);rw[hsz] at G2;have tle:(rv t r').top≤a∨r' < a / 16:=by
    by_cases c:r' = a / 16
    ·left;by_cases c2:r = r'
     ·subst c2;exact q2 c
     ·have:=h1 r' ω ω p3;omega
    ·right;omega
   have et:∀q,0≤q→rv (AT t r' { rv t r' with kind:=3,top:=(rv t r').top + sz W a,BE:=(rv t r').top + sz W a }) q = if q = r' then { rv t r' with kind:=3,top:=(rv t r').top + sz W a,BE:=(rv t r').top + sz W a } else rv t q:=λq q0=>DS ω ω q0
   obtain⟨t',to',f',B',e,k1,k2,k3,k4,k5,k6,k7⟩:=ih _ r' (to ++ [(rv t r').top]) _ _ (λb hb=>hB b (by simp[hb])) hpw.2 G2 (by simpa using hl) ω (λq q0 q1=>by
     rw[et q ω];split
     ·exact ho r' ω ω
     ·exact ho q q0 (by simpa using q1)) (λq q0=>by
     rw[et q q0];split
     ·simp
     ·exact nf q q0) (λq q0 q1 hq=>by
     rw[et q ω,if_neg ω]
     exact h1 q ω (by simpa using q1) hq) (λb hb hbh=>by
     have hBb:=hB b (by simp[hb])
     have hab:=hpw.1 b hb
     have hdj:=G0.dj a b hBa hBb hab
     refine⟨ω,λhr=>?_⟩
     rw[et r' ω,if_pos rfl]
     show (rv t r').top + sz W a≤b
     rcases tle with h | h
     ·omega
     ·omega) (λb hb hbh=>by
     obtain⟨c1,c2⟩:=h4 b (by simp[hb]) hbh
     refine⟨.inl c1,?_⟩
     have:b≠(rv t r').top:=λc=>nd (c▸c1)
     simp only[if_neg this];exact c2)
   refine⟨t',(rv t r').top :: to',f',B',by rw[e];simp,by simp[k1],k2,by rw[k3];simp,k4,λb hb=>?_,λb hb=>?_,λp hp=>?_⟩
   ·obtain⟨c1,c2⟩:=k5 b (.inl hb);refine⟨c1,?_⟩;have:b≠(rv t r').top:=λc=>nd (c▸hb)
    rw[c2];simp only[if_neg this]
   ·rcases k6 b hb with (h | h) | h
    ·exact .inl h
    ·exact .inr ⟨by simp[h],by rw[h,ed];exact p3⟩
    ·exact .inr ⟨by simp[h.1],h.2⟩
   ·rw[aT] at hp;rcases Yx.1 hp with hp | hp
    ·subst hp;obtain⟨c1,c2⟩:=k5 (rv t r').top (.inr rfl);refine⟨c1,by rw[c2];simp,λh=>by rw[hh] at h;cases h⟩
    ·exact k7 p hp
theorem Cv {l:List Int} {n:Int}:(n∈l→0≤Bl l n∧Bl l n < l.length)∧(n ∉ l→Bl l n = -1):=by
 unfold Bl;constructor
 ·intro h;rw[if_pos h];have:=ad h;omega
 ·intro h;rw[if_neg h]
theorem Qa {l:List AU} {AO to:List Int} (hlen:to.length = AO.length):∀(vs w:List Int) (a:Int),(∀v∈vs,∃u,now l v = some u)→0≤a→a + vs.length≤w.length→
  ∃w',FC l AO to w a vs = some w'∧w'.length = w.length∧(∀x,0≤x→(x < a∨a + vs.length≤x)→wv w' x = wv w x)∧(∀x,a≤x→x < a + vs.length→wv w' x = wv w x∨wv w' x∈to):=by
 intro vs;induction vs with
 | nil=>intro w a _ _ _;exact⟨w,rfl,rfl,λ_ _ _=>rfl,λx h h'=>by simp at h';omega⟩
 | cons v r ih=>
  intro w a hv h0 h1;simp only[Yt] at h1;obtain⟨u,hu⟩:=hv v σ;unfold FC;rw[hu];simp only[Yn,z_o];have step:∀w1:List Int,w1.length = w.length→(∀x,0≤x→x≠a→wv w1 x = wv w x)→(wv w1 a = wv w a∨wv w1 a∈to)→∃w',FC l AO to w1 (a + 1) r = some w'∧w'.length = w.length∧(∀x,0≤x→(x < a∨a + (v :: r).length≤x)→wv w' x = wv w x)∧(∀x,a≤x→x < a + (v :: r).length→wv w' x = wv w x∨wv w' x∈to):=λw1 hl1 e1 e2=>by
   obtain⟨w',e,hl,k1,k2⟩:=ih w1 (a + 1) (λu hu=>hv u (by simp[hu])) ω ω;refine⟨w',e,ω,λx x0 hx=>?_,λx x0 hx=>?_⟩
   ·simp only[Yt] at hx;rw[k1 x x0 ω,e1 x x0 ω]
   ·simp only[Yt] at hx;by_cases c:x = a
    ·subst c;rw[k1 x h0 ω];exact e2
    ·rcases k2 x ω ω with h | h
     ·left;rw[h,e1 x ω c]
     ·exact .inr h
  by_cases c:0≤Bl AO u
  ·rw[if_pos c];have hm:u∈AO:=Classical.byContradiction λh=>by have:=Cv.2 h;omega
   have hp:=(Cv (l:=AO)).1 hm;obtain⟨d,hd,hdm⟩:=Fo (l:=to) (i:=Bl AO u) ⟨hp.1,by rw[hlen];exact hp.2⟩;rw[hd];simp only[z_o];rw[GB h0 ω];simp only[z_o];refine step _ σ (λx x0 hx=>by rw[Cb h0 ω x0,if_neg hx]) (.inr ?_);rw[Cb h0 ω h0,if_pos rfl];exact hdm
  ·rw[if_neg c];simp only[z_o];exact step w rfl (λ_ _ _=>rfl) (.inl rfl)
end Sm
end
section
namespace Sm
variable {P:List (List Op)}
theorem Q3 {l:List AU} {AO to W:List Int} {T0 t' : List Rg} {B0 B' : Int→Prop} {f:Int→Shp} (T:Thn W B0 l) (G0:Geo W T0 B0) (G:Lw f t' B') (hlen:to.length = AO.length):∀(la ld w:List Int),la.length = ld.length→
  (∀p∈la.zip ld,B' p.2∧f p.2 = shp W p.1∧B0 p.1∧∀v∈(thg W p.1).refs,∃u,now l v = some u)→(w.length:Int) = 16 * t'.length→(∀b j,B' b→0≤j→j < (f b).refs→wv w (b + 2 + j) = 0∨wv w (b + 2 + j)∈to)→
  ∃w',FU l AO to la ld w = some w'∧w'.length = w.length∧(∀b j,B' b→0≤j→j < (f b).refs→wv w' (b + 2 + j) = 0∨wv w' (b + 2 + j)∈to)∧(∀b,B' b→Hd w W f b→Hd w' W f b)∧(∀d∈ld,Hd w' W f d):=by
 intro la;induction la with
 | nil=>
  intro ld w hl _ _ rf;cases ld with
  | nil=>exact⟨w,rfl,rfl,rf,λ_ _ h=>h,λd h=>(by cases h)⟩
  | cons _ _=>simp at hl
 | cons a la ih=>
  intro ld w hl hp wl rf;cases ld with
  | nil=>simp at hl
  | cons d ld=>
   rw[aT] at hp;obtain⟨hB,hf,hB0,hv⟩:=hp (a,d) σ;simp only at hB hf hB0 hv;obtain⟨g1,g2,g3,g4,g5,g6,g7,g8⟩:=G.inn hB;have o1:=Ec (G.at_ d hB).2.2;have i0:=G0.inn hB0;have sb:=FP W a;have hrl:(((thg W a).refs.length:Nat):Int) = (f d).refs:=by
    rw[hf];exact Gl ω ω ω
   have hnl:(((thg W a).nums.length:Nat):Int) = (f d).nums:=by
    rw[hf];exact Gl ω ω ω
   unfold FU;rw[T.find hB0];simp only[Yn,z_o];rw[GB ω ω];simp only[z_o];rw[GB ω (by simp;omega)];simp only[z_o];have esh:(thg W a).sh = f d:=by rw[hf];rfl
   rw[esh];obtain⟨w3,e3,l3,k3,m3⟩:=Qa (l:=l) (AO:=AO) hlen (thg W a).refs (AT (AT w d d) (d + 1) (AZ (f d))) (d + 2) hv ω (by simp;omega);rw[e3];simp only[z_o];simp only[DG] at l3;obtain⟨w4,e4,l4,k4⟩:=Ot (thg W a).nums w3 (d + 2 + (thg W a).refs.length) ω ω;rw[e4];simp only[z_o];have v2:∀x,0≤x→wv (AT (AT w d d) (d + 1) (AZ (f d))) x = if x = d + 1 then AZ (f d) else if x = d then d else wv w x:=λx x0=>by
    rw[Cb ω (by simp;omega) x0];split
    ·rfl
    ·rw[Cb ω ω x0]
   have out:∀x,0≤x→(x < d∨d + AF (f d)≤x)→wv w4 x = wv w x:=λx x0 hx=>by
    rw[k4 x x0 ω,k3 x x0 ω,v2 x x0,if_neg ω,if_neg ω]
   have hd:Hd w4 W f d:=by
    refine⟨?_,?_⟩
    ·rw[k4 d ω ω,k3 d ω ω,v2 d ω,if_neg ω,if_pos rfl]
    ·rw[k4 _ ω ω,k3 _ ω ω,v2 _ ω,if_pos rfl]
   have apart:∀b k,B' b→b≠d→0≤k→k < AF (f b)→b + k < d∨d + AF (f d)≤b + k:=λb k hb hne k0 k1=>by
    rcases Int.lt_trichotomy b d with h | h | h
    ·have:=G.dj b d hb hB h;omega
    ·exact absurd h hne
    ·have:=G.dj d b hB hb h;omega
   have rf4:∀b j,B' b→0≤j→j < (f b).refs→wv w4 (b + 2 + j) = 0∨wv w4 (b + 2 + j)∈to:=λb j hb j0 j1=>by
    have gb:=G.inn hb;have ob:=Ec (G.at_ b hb).2.2;by_cases c:b = d
    ·subst c;rw[k4 _ ω ω];rcases m3 (b + 2 + j) ω ω with h | h
     ·rw[h,v2 _ ω,if_neg ω,if_neg ω];exact rf b j hb j0 j1
     ·exact .inr h
    ·have:=apart b (2 + j) hb c ω ω;rw[out _ ω ω];exact rf b j hb j0 j1
   obtain⟨w',e,hl',q1,q2,q3⟩:=ih ld w4 (by simpa using hl) (λp hp'=>hp p (by simp[hp'])) ω rf4;refine⟨w',e,ω,q1,λb hb h=>q2 b hb ?_,λb hb=>?_⟩
   ·by_cases c:b = d
    ·subst c;exact hd
    ·have gb:=G.inn hb;have a0:=apart b 0 hb c ω ω;have a1:=apart b 1 hb c ω ω;refine⟨?_,?_⟩
     ·rw[out b ω ω];exact h.1
     ·rw[out _ ω ω];exact h.2
   ·rcases Yx.1 hb with h | h
    ·subst h;exact q2 b hB hd
    ·exact q3 b h
theorem Lu {l:List AU} {AO to:List Int} (hlen:to.length = AO.length):∀(xs:List Int),(∀a∈xs,∃u,now l a = some u)→∃ys,Cw l AO to xs = some ys∧ys.length = xs.length∧∀y∈ys,y = 0∨y∈to:=by
 intro xs;induction xs with
 | nil=>intro _;exact⟨[],rfl,rfl,λy h=>(by cases h)⟩
 | cons a r ih=>
  intro h;obtain⟨u,hu⟩:=h a σ;obtain⟨ys,e,hl,hm⟩:=ih λb hb=>h b (by simp[hb])
  unfold Cw;rw[hu,e];simp only[Yn,z_o];by_cases c:Bl AO u < 0
  ·rw[if_pos c];refine⟨_,rfl,by simp[hl],λy hy=>?_⟩;rcases Yx.1 hy with hy | hy
   ·exact .inl hy
   ·exact hm y hy
  ·rw[if_neg c];have hmem:u∈AO:=Classical.byContradiction λh=>by have:=Cv.2 h;omega
   have hp:=(Cv (l:=AO)).1 hmem;obtain⟨d,hd,hdm⟩:=Fo (l:=to) (i:=Bl AO u) ⟨hp.1,by rw[hlen];exact hp.2⟩;rw[hd];refine⟨_,rfl,by simp[hl],λy hy=>?_⟩;rcases Yx.1 hy with hy | hy
   ·subst hy;exact .inr hdm
   ·exact hm y hy
theorem Iy {l:List AU} {AO to:List Int} (hlen:to.length = AO.length):∀(ts:List Th),(∀t∈ts,∀a∈t.AC,∃u,now l a = some u)→∃ys,DT l AO to ts = some ys∧ys.length = ts.length∧∀y∈ys,∃t∈ts,y.next = t.next∧y.AC.length = t.AC.length∧∀a∈y.AC,a = 0∨a∈to:=by
 intro ts;induction ts with
 | nil=>intro _;exact⟨[],rfl,rfl,λy h=>(by cases h)⟩
 | cons t r ih=>
  intro h;obtain⟨rs,e1,l1,m1⟩:=Lu (l:=l) hlen t.AC (h t σ);obtain⟨ys,e,hl,hm⟩:=ih λb hb=>h b (by simp[hb])
  unfold DT;rw[e1,e];simp only[Yn,z_o];refine⟨_,rfl,by simp[hl],λy hy=>?_⟩;rcases Yx.1 hy with hy | hy
  ·subst hy;exact⟨t,σ,rfl,l1,m1⟩
  ·obtain⟨u,hu,h2⟩:=hm y hy;exact⟨u,by simp[hu],h2⟩
theorem FK {n:Int} (h0:2≤n) (h1:n≤12):((AW n).length:Int) = n∧rv (AW n) 0 = DO∧∀r:Int,1≤r→r < n→rv (AW n) r = DH r:=by
 unfold AW;rw[if_neg ω];refine⟨by simp;omega,rfl,λr r0 r1=>?_⟩;obtain⟨k,rfl⟩:∃k:Nat,r = ((k + 1:Nat):Int):=⟨r.toNat - 1,ω⟩;rw[rv,Fm (by simp;omega)];simp
theorem Mv {α β:Type} {la:List α} {lb:List β} (h:la.length = lb.length) {b:β} (hb:b∈lb):∃a,(a,b)∈la.zip lb:=by
 obtain⟨i,hi,rfl⟩:=ZF hb;exact⟨la[i],by rw[List.mem_iff_getElem];exact⟨i,by simp;omega,σ⟩⟩
theorem W8 {α β:Type} {la:List α} {lb:List β} (h:la.length = lb.length) {a:α} (ha:a∈la):∃b,(a,b)∈la.zip lb:=by
 obtain⟨i,hi,rfl⟩:=ZF ha;exact⟨lb[i],by rw[List.mem_iff_getElem];exact⟨i,by simp;omega,σ⟩⟩
def Sim.fulled (S:Sim) (s:Al):Sim:=
 { S with AA:=s.AA,A0:=s.A0,AK:=s.AK,Ad:=s.Ad,stop:=s.stop,full:=s.full,old:=s.old,AG:=s.AG,Aj:=s.Aj,BA:=s.BA,col:=Cd s.Ae 0,th:=s.A6.map λt=>thr0 t.AC t.next t.Ai }
section
variable {c:Nat} {S:Sim} {g:Gh}
theorem Vr (hc:c < 900000) (I:IG P S g) (B:Bd c S) (hcm:S.calm = true):∃s g',Ex S.view = some s∧IG P (S.fulled s) g'∧Bd (c + 1) (S.fulled s):=by
 have st:=I.still hcm;have H:=I.sh;have G:Geo S.AA S.A0 g.B:=H.g;have To:=G.ok;have n0:=To.n0;have n1:=To.n1;have len:=G.len;obtain⟨l,e1,T⟩:=Sa (s:=S.view) G;have T:Thn S.AA g.B l:=T;have hLn:∀a,g.L a→g.L (wv S.AA a)∧wv S.AA (wv S.AA a) = wv S.AA a:=λa ha=>by
  by_cases h:wv S.AA a = a
  ·rw[h];exact⟨ha,h⟩
  ·have hf:BZ S.A0 a:=Classical.byContradiction λhn=>h (H.st a (H.lb a ha) hn)
   obtain⟨f1,f2,_⟩:g.L (wv S.AA a)∧¬ BZ S.A0 (wv S.AA a)∧_:=H.fw a (H.lb a ha) hf h;exact⟨f1,H.st _ (H.lb _ f1) f2⟩
 have b16:∀a,g.B a→16≤a:=λa h=>(G.at_ a h).1
 have pinW:∀a∈S.AG,g.L a∧wv S.AA a = a:=λa h=>⟨(H.pl a h).1,H.st a (H.lb a (H.pl a h).1) (H.pl a h).2⟩
 have thv:∀t∈S.view.A6,∀a∈t.AC,a≠0→g.L a:=λt h a ha h0=>by
  obtain⟨u,hu,rfl⟩:=ZK.1 (show t∈S.th.map λt=>(⟨t.AC,t.next,t.pc != 0,t.Ai⟩:Th) from h);exact (st u hu).rt a ha h0
 obtain⟨out,e2,C,cl,rt,pn⟩:=Pl (s:=S.view) T H.lb b16 hLn H.rf thv pinW;obtain⟨sp,sm⟩:=Cx C.nd;have hlive:∀a∈Aq out,g.L a∧wv S.AA a = a:=λa h=>C.cu a ((sm a).1 h)
 obtain⟨tn0,tn1,tn2⟩:=FK (n:=S.A0.length) ω ω;have nowS:∀v,(v≠0→g.L v)→∃u,now l v = some u:=λv h=>⟨_,T.now λh0=>H.lb v (h h0)⟩
 obtain⟨w1,t1,e3,l1,tl1,s1,s2,s3,s4⟩:=MM (s:=S.view) (B0:=g.B) G l (List.replicate S.AA.length 0) (AW S.A0.length) T.all (by simp[Sim.view]) (by show (AW S.A0.length).length = S.A0.length;omega);have l1:w1.length = S.AA.length:=l1;have tl1:t1.length = S.A0.length:=tl1;have z0:∀x,wv (List.replicate S.AA.length 0) x = 0:=λx=>by
  unfold wv gv;rw[Ym,List.getElem?_replicate];split<;>rfl
 have t1r:∀r:Int,1≤r→r < S.A0.length→(rv t1 r = ⟨3,-1,(rv S.A0 r).top,(rv S.A0 r).top,0⟩∧Ao S.AG r = true∧∃x,g.B x∧x / 16 = r)∨(rv t1 r = ⟨1,-1,16 * r,16 * r,0⟩∧(Ao S.AG r = true→∀x,g.B x→x / 16≠r)):=λr r0 r1=>by
  rw[s4 r ω];by_cases h:Ao S.view.AG r = true∧∃x∈l,x.at_ / 16 = r
  ·left;rw[if_pos h];obtain⟨h1,x,hx,hr⟩:=h;exact⟨rfl,h1,x.at_,(T.all x hx).1,hr⟩
  ·right;rw[if_neg h,tn2 r r0 r1,(DC r0 ω).2];exact⟨rfl,λh1 x hx hr=>h ⟨h1,thg S.AA x,T.has x hx,hr⟩⟩
 have To1:TOk t1:=by
  refine⟨ω,ω,?_,λr r0 r1=>?_,λr q r0 r1 q0 q1 ho _=>?_⟩
  ·rw[s4 0 ω,if_neg,tn1];rintro⟨_,x,hx,h⟩;have:=b16 _ (T.all x hx).1;omega
  ·have R:=To.row r r0 ω;rcases t1r r r0 ω with ⟨h,_⟩ | ⟨h,_⟩
   ·rw[h];exact⟨σ,σ,R.t0,R.t1,R.t0,ZI _,ZI 0,by show 0≤(rv S.A0 r).top - 16 * r;have:=R.t0;omega,λh=>by simp at h,σ,σ,σ⟩
   ·rw[h];exact⟨σ,σ,ZI _,by show 16 * r≤16 * r + 16;omega,ZI _,ZI _,ZI 0,by show 0≤16 * r - 16 * r;omega,λ_=>rfl,σ,σ,σ⟩
  ·rcases t1r r r0 ω with ⟨h,_⟩ | ⟨h,_⟩<;>rw[h] at ho<;>simp at ho
 have kept:∀b,(g.B b∧Ao S.AG (b / 16) = true)→(rv t1 (b / 16)).top = (rv S.A0 (b / 16)).top:=λb hb=>by
  have i:=G.inn hb.1;rcases t1r (b / 16) i.2.1 i.2.2.1 with ⟨h,_⟩ | ⟨_,h⟩
  ·rw[h]
  ·exact absurd rfl (h hb.2 b hb.1)
 have G1:Lw (shp S.AA) t1 (λb=>g.B b∧Ao S.AG (b / 16) = true):=by
  refine⟨To1,λa ha=>?_,λa ha=>?_,λr r0 r1=>?_,λa b ha hb h=>G.dj a b ha.1 hb.1 h⟩
  ·rw[kept a ha];obtain⟨h1,h2,_⟩:=G.at_ a ha.1;exact⟨h1,h2,L7 S.AA a⟩
  ·rw[kept a ha];have i:=G.inn ha.1;have es:AF (shp S.AA a) = sz S.AA a:=rfl;rw[es];by_cases h0:a + sz S.AA a = (rv S.A0 (a / 16)).top
   ·exact .inl h0
   ·right;rcases G.nx a ha.1 with h | h
    ·exact absurd h h0
    ·exact⟨h,by rw[show (a + sz S.AA a) / 16 = a / 16 from ω];exact ha.2⟩
  ·rcases t1r r r0 ω with ⟨h,h2,_⟩ | ⟨h,_⟩
   ·rw[h];rcases G.bs r r0 ω with h3 | h3
    ·exact .inl h3
    ·exact .inr ⟨h3,by rw[show 16 * r / 16 = r from ω];exact h2⟩
   ·rw[h];exact .inl rfl
 have t1f:∀q:Int,1≤q→q < S.A0.length→Ao S.AG q = false→(rv t1 q).top = 16 * q:=λq q0 q1 hq=>by
  rcases t1r q q0 q1 with ⟨_,h,_⟩ | ⟨h,_⟩
  ·rw[hq] at h;cases h
  ·rw[h]
 obtain⟨t2,to,f,B',e4,k1,G2,k3,k4,k5,k6,k7⟩:=Jm (AG:=S.AG) T G (Aq out) t1 1 [] (shp S.AA) _ (λa h=>H.lb a (hlive a h).1) sp G1 tl1 (ZI 1)
  (λq q0 q1=>by rcases t1r q q0 ω with ⟨h,_⟩ | ⟨h,_⟩<;>rw[h])
  (λq q0=>by
   by_cases c1:q < S.A0.length
   ·by_cases c2:1≤q
    ·rcases t1r q c2 c1 with ⟨h,_⟩ | ⟨h,_⟩<;>rw[h]<;>simp
    ·rw[show q = 0 from ω,To1.e];simp[DO]
   ·rw[DU q0 ω];simp[DO])
  (λq q0 q1 hq=>t1f q ω ω hq)
  (λa ha hq=>by
   have i:=G.inn (H.lb a (hlive a ha).1)
   refine⟨i.2.1,λh1=>?_⟩
   rw[t1f 1 ω ω (by rw[h1];exact hq)];omega)
  (λa ha hq=>⟨⟨H.lb a (hlive a ha).1,hq⟩,rfl⟩)
 simp only[List.nil_append] at e4;have tl2:t2.length = S.A0.length:=by rw[k3,tl1]
 have bk:∀b,B' b→(g.B b∧Ao S.AG (b / 16) = true∧f b = shp S.AA b)∨(b∈to∧Ao S.AG (b / 16) = false):=λb hb=>by
  rcases k6 b hb with h | h
  ·exact .inl ⟨h.1,h.2,(k5 b h).2⟩
  ·exact .inr h
 have rf1:∀b j,B' b→0≤j→j < (f b).refs→wv w1 (b + 2 + j) = 0∨wv w1 (b + 2 + j)∈to:=λb j hb j0 j1=>by
  left;have i:=G2.inn hb;have ob:=Ec (G2.at_ b hb).2.2;rcases bk b hb with ⟨h1,h2,h3⟩ | ⟨h1,h2⟩
  ·rw[h3] at j1;rw[s2 b j h1 j0 j1];exact z0 _
  ·rw[s3 (b + 2 + j) ω (by rw[show (b + 2 + j) / 16 = b / 16 from ω];exact h2)];exact z0 _
 obtain⟨w2,e5,l2,r2,h2,d2⟩:=Q3 (AO:=Aq out) (to:=to) T G G2 k1 (Aq out) to w1 k1.symm (λp hp=>by
   obtain⟨q1,q2,_⟩:=k7 p hp
   have hm:p.1∈Aq out:=(aC hp).1
   have hL:=(hlive p.1 hm).1
   have h16:=b16 _ (H.lb _ hL)
   refine⟨q1,q2,H.lb _ hL,λv hv=>nowS v λh0=>?_⟩
   obtain⟨j,j0,j1,hj⟩:=N3 ω hv
   rw[← hj] at h0 ⊢
   exact H.rf p.1 j hL j0 j1 h0) ω rf1
 have Hall:∀b,B' b→Hd w2 S.AA f b:=λb hb=>by
  rcases bk b hb with ⟨h1,h2',h3⟩ | ⟨h1,_⟩
  ·refine h2 b hb ?_;have:=s1 b h1 h2' (.inl (T.has b h1));exact⟨this.1,by rw[h3];exact this.2⟩
  ·exact d2 b h1
 have toB:∀d∈to,B' d:=λd hd=>by
  obtain⟨a,ha⟩:=Mv k1.symm hd;exact (k7 (a,d) ha).1
 obtain⟨ths,e6,l6,m6⟩:=Iy (l:=l) (AO:=Aq out) (to:=to) k1 S.view.A6 (λt ht a ha=>nowS a λh0=>thv t ht a ha h0);have hfu:Cf S.BA 1 = some (S.BA + 1):=BV (by have:=B.fu.1;omega) (by have:=B.fu.2;omega);have eW:∀b,B' b→shp w2 b = f b∧(AJ (wv w2 (b + 1))).2 = true:=λb hb=>by
  have h:=(Hall b hb).2;have:=Ea (G2.at_ b hb).2.2;unfold shp;rw[h,this];exact⟨rfl,rfl⟩
 have eZ:∀b,B' b→sz w2 b = AF (f b):=λb hb=>by unfold sz;rw[(eW b hb).1]
 have GF:Geo w2 t2 B':=⟨by rw[l2,l1,tl2];exact len,G2.ok,λa ha=>by
   obtain⟨h1,h2,_⟩:=G2.at_ a ha
   exact⟨h1,by rw[eZ a ha];exact h2,(eW a ha).2⟩,λa ha=>by rw[eZ a ha];exact G2.nx a ha,G2.bs,λa b ha hb h=>by rw[eZ a ha];exact G2.dj a b ha hb h⟩
 have nf:∀a,¬ BZ t2 a:=λa hf=>k4 (a / 16) (by have:=hf.1;omega) hf.2
 have hfs:Ex S.view = some ⟨w2,t2,List.replicate S.AA.length false,0,false,false,S.col.Ae,0,ths,[],S.AG,S.Aj,S.BA + 1⟩:=by
  unfold Ex;rw[e1];simp only[Zi,Yn];rw[e2];simp only[z_o];rw[show S.view.AA = S.AA from rfl,show S.view.A0 = S.A0 from rfl,show S.view.AG = S.AG from rfl,show S.view.BA = S.BA from rfl];have e3' : stay S.view l (List.replicate S.AA.length 0) (AW S.A0.length) = some (w1,t1):=e3;rw[e3'];simp only[z_o];rw[e4];simp only[z_o];rw[e5];simp only[z_o];rw[e6];simp only[z_o];rw[hfu];simp only[z_o];rw[show w2.length = S.AA.length from l2.trans l1];rfl
 refine⟨_,⟨B',(·∈to),g.q,g.r0⟩,hfs,I.mk' (S':=S.fulled ⟨w2,t2,List.replicate S.AA.length false,0,false,false,S.col.Ae,0,ths,[],S.AG,S.Aj,S.BA + 1⟩) rfl ?_ ?_ (λt ht=>?_) (λh=>absurd (show (0:Int) = 1 from h) δ) (λh=>absurd (show (0:Int) = 2 from h) δ) (λh=>absurd (show (0:Int) = 3 from h) δ) (λh=>by cases h),?_⟩
 ·show (ths.map _).length = _;rw[Z1,l6];simp[Sim.view]
 ·refine⟨GF,toB,λa j h j0 j1 hn=>?_,λa h _=>(Hall a h).1,λa _ hf=>absurd hf (nf a),?_,λa _ h=>?_,by show (0:Int)≤0∧(0:Int)≤3;decide,λ_ r r0=>k4 r r0,λh=>absurd (show (2:Int)≤0 from h) δ,λa h=>⟨?_,nf a⟩,λa _ hf=>absurd hf (nf a),λh=>absurd (show (1:Int)≤0 from h) δ,λh=>absurd (show (0:Int) = 3 from h) δ,λh=>absurd (show (0:Int) = 1 from h) δ⟩
  ·have j1:j < (shp w2 a).refs:=j1;rw[(eW a (toB a h)).1] at j1;rcases r2 a j (toB a h) j0 j1 with h3 | h3
   ·exact absurd h3 hn
   ·exact h3
  ·show (List.replicate S.AA.length false).length = w2.length;rw[Yy,l2,l1]
  ·have h:mv (List.replicate S.AA.length false) a = true:=h;rw[NH] at h;cases h
  ·have ha:a∈Aq out:=(sm a).2 (pn a h);obtain⟨d,hd⟩:=W8 k1.symm ha;have hheld:Ao S.AG (a / 16) = true:=by
    unfold Ao;rw[List.any_eq_true];exact⟨a,h,by rw[Bq (by have:=b16 a (H.lb a (pinW a h).1);omega)];simp⟩
   have:=(k7 (a,d) hd).2.2 hheld;simp only at this;subst this;exact (aC hd).2
 ·obtain⟨y,hy,rfl⟩:=ZK.1 (show t∈ths.map λt=>thr0 t.AC t.next t.Ai from ht);obtain⟨u,hu,q1,q2,q3⟩:=m6 y hy;obtain⟨v,hv,rfl⟩:=ZK.1 (show u∈S.th.map λt=>(⟨t.AC,t.next,t.pc != 0,t.Ai⟩:Th) from hu);have s:=st v hv;refine⟨rfl,rfl,rfl,by show 0≤y.next;rw[q1];exact s.nx,by show y.AC.length≤8;rw[q2];exact s.rl,λa ha h0=>?_⟩;rcases q3 a ha with h | h
  ·exact absurd h h0
  ·exact h
 ·have h2:=Ks (List.replicate S.AA.length false);rw[Yy] at h2;have hwl:=I.wl;refine⟨by have:=B.ev;show S.ev.length≤c + 1;omega,Nat.zero_le _,by have:=B.cy;show 0≤S.Aj∧S.Aj≤((c + 1:Nat):Int);omega,by have:=B.fu;show 0≤S.BA + 1∧S.BA + 1≤((c + 1:Nat):Int);omega,?_,B.pn⟩;show ([]:List Int).length + ([]:List Int).length + 5 * (List.replicate S.AA.length false).countP (λb=>!b) + (if (0:Int) = 2 then _ else 0)≤3000 + (c + 1);rw[if_neg δ];simp only[Zp];omega
end
end Sm
end
section
namespace Sm
variable {P:List (List Op)}
section
variable {c:Nat} {S:Sim} {g:Gh}
theorem Te {n:Nat} (hc:c < 900000) (hn:S.Ad = 1→mu S < n) (I:IG P S g) (B:Bd c S) (hcm:S.calm = true) (hst:S.stop = true):∃S' g',S.pause n = some S'∧IG P S' g'∧Bd (c + 1) S':=by
 unfold Sim.pause;rw[I.szok rfl B hc,if_neg δ];by_cases hf:S.full = true
 ·rw[if_pos hf];obtain⟨s,g',e,I',B'⟩:=Vr hc I B hcm;simp only[Yn];rw[e];exact⟨_,g',rfl,I',B'⟩
 ·rw[if_neg hf];dsimp only;rcases I.wt hst (by simpa using hf) with ⟨h,h'⟩ | ⟨h,h'⟩ | ⟨h,h',hw⟩ | ⟨h,h',hw⟩
  ·rw[if_pos h'];obtain⟨g',I',B'⟩:=OG I B hcm h;exact⟨_,g',rfl,I',B'.mono (ZW c)⟩
  ·rw[if_neg ω,if_pos h'];obtain⟨S',g',e,I',B'⟩:=SH hc (hn h) I B hcm h;exact⟨S',g',e,I',B'⟩
  ·rw[if_neg ω,if_neg ω,if_pos h'];obtain⟨S',e,I',B'⟩:=S5 I B hcm h hw;exact⟨S',g,e,I',B'.mono (ZW c)⟩
  ·rw[if_neg ω,if_neg ω,if_neg ω];obtain⟨S',g',e,I',B'⟩:=Rj hc I B hcm h hw;exact⟨S',g',e,I',B'⟩
theorem NG {n:Nat} (hc:c < 900000) (hn:S.Ad = 1→mu S + 1 < n) (h2:1 < n) (I:IG P S g) (B:Bd c S):∃S' g',S.collector n = some S'∧IG P S' g'∧Bd (c + 1) S':=by
 unfold Sim.collector;by_cases hst:S.stop = true
 ·rw[if_pos hst];split
  ·exact Te hc (λh=>by have:=hn h;omega) I B (by assumption) hst
  ·exact⟨S,g,rfl,I,B.mono (ZW c)⟩
 ·rw[if_neg hst];by_cases h0:S.Ad = 0
  ·rw[if_pos h0];split
   ·refine⟨_,g,rfl,⟨I.pg,I.sh,I.n0,I.n1,I.pl,I.pp,I.ti,λh=>?_,λh=>?_,λh=>?_,(λ_ _=>.inl ⟨h0,rfl⟩),I.rs⟩,(have B':=B.mono (ZW c);⟨B'.ev,B'.old,B'.cy,B'.fu,B'.st,B'.pn⟩)⟩
    ·exact absurd (h0.symm.trans h) δ
    ·exact absurd (h0.symm.trans h) δ
    ·exact absurd (h0.symm.trans h) δ
   ·exact⟨S,g,rfl,I,B.mono (ZW c)⟩
  ·rw[if_neg h0];have hp:0≤S.Ad:=I.sh.ph.1;obtain⟨S',g',e,I',B'⟩:=Uw hc n { S with used:=false } g (I.usd false) (B.usd false) (by show 1≤S.Ad;omega) ω (by
    by_cases h1:S.Ad = 1
    ·exact .inr (.inr (.inl ⟨h1,hn h1⟩))
    ·exact .inr (.inr (.inr ⟨by show 2≤S.Ad;omega,h2⟩)))
   exact⟨S',g',e,I',B'.mono (ZW c)⟩
theorem Mj {p:Int} (hc:c + 5 < 900000) (I:IG P S g) (B:Bd c S):∃S' g',S.pick p = some S'∧IG P S' g'∧Bd (c + 5) S':=by
 unfold Sim.pick;by_cases h:0≤p∧p < S.th.length
 ·rw[if_pos h];exact SA hc (by unfold Sim.fuel;omega) I B h.1 h.2
 ·rw[if_neg h];split
  ·obtain⟨S',g',e,I',B'⟩:=NG (n:=S.fuel) ω (λh1=>by
    have C:=I.c1 h1
    have hr:Fu S.col≤4:=by
     unfold Fu
     split
     ·rename_i h
      obtain⟨_,_,p3,p4,_⟩:=C.p2 h
      have:=FP S.AA S.col.p
      have p3:S.col.sh = shp S.AA S.col.p:=p3
      rw[p3];omega
     ·omega
    have hu:=Ks S.AK
    have hml:S.AK.length = S.AA.length:=I.sh.ml
    unfold mu Sim.fuel
    omega) (by unfold Sim.fuel;omega) I B
   exact⟨S',g',e,I',B'.mono ω⟩
  ·split
   ·exact⟨_,g,rfl,⟨I.pg,I.sh,I.n0,I.n1,I.pl,I.pp,I.ti,λh=>(I.c1 h).col rfl rfl rfl rfl,λh=>(have C:=I.c2 h;⟨C.r0,C.r1,C.p0,C.p1,C.wk,C.pc⟩),λh=>(have C:=I.c3 h;⟨C.pc,C.r0,C.r1,C.p0,C.at_,C.f,C.v,C.w,C.u,C.cl⟩),I.wt,I.rs⟩,(have B' : Bd (c + 5) S:=B.mono ω;⟨B'.ev,B'.old,B'.cy,B'.fu,B'.st,B'.pn⟩)⟩
   ·exact⟨S,g,rfl,I,B.mono ω⟩
theorem Ov:∀(ps:List Int) (c:Nat) (S:Sim) (g:Gh),c + 5 * ps.length < 900000→IG P S g→Bd c S→∃S' g',Sim.picks ps S = some S'∧IG P S' g'∧Bd (c + 5 * ps.length) S':=by
 intro ps;induction ps with
 | nil=>intro c S g _ I B;exact⟨S,g,rfl,I,B⟩
 | cons p r ih=>
  intro c S g hc I B;simp only[Yt] at hc ⊢;obtain⟨S1,g1,e1,I1,B1⟩:=Mj (p:=p) ω I B;obtain⟨S2,g2,e2,I2,B2⟩:=ih (c + 5) S1 g1 ω I1 B1;unfold Sim.picks;rw[e1];simp only[Yn,z_o];exact⟨S2,g2,e2,I2,by rw[show c + 5 * (r.length + 1) = c + 5 + 5 * r.length from ω];exact B2⟩
theorem L2 {c:Cfg} {Aa:List (List Op)} (hc:Bf c = true) (hl:(Aa.length:Int) = c.A6) (hp:∀p∈Aa,p.length≤40):∃g,IG Aa (start c Aa) g∧Bd 0 (start c Aa):=by
 simp only[Bf,z_b,z_d] at hc;obtain⟨⟨⟨⟨⟨c1,c2⟩,c3⟩,c4⟩,c5⟩,c6⟩:=hc;obtain⟨tn0,tn1,tn2⟩:=FK (n:=c.AB) ω ω;have hw:(start c Aa).AA = put (List.replicate (c.AB.toNat * 16) 0) 16 [16,66,0,0,0,0,0,0]:=by
  unfold start;show (CP (List.replicate (c.AB.toNat * 16) 0) 16 Bx).1 = _;unfold CP;have hk:BM (List.replicate (c.AB.toNat * 16) (0:Int)).length = true:=J7 (k:=c.AB.toNat) (by simp;omega) ω ω;rw[if_pos]
  ·rfl
  ·unfold fits;rw[hk];have:(List.replicate (c.AB.toNat * 16) (0:Int)).length = c.AB.toNat * 16:=σ
   rw[this];simp only[Z2,z_b,z_d,beq_iff_eq];refine⟨⟨⟨⟨δ,δ⟩,δ⟩,ω⟩,δ⟩
 have wl:((start c Aa).AA.length:Int) = 16 * c.AB:=by
  rw[hw];unfold put;simp only[Yk,Z5,ZS,Yy,Yt,Zp];rw[show (16:Int).toNat = 16 from rfl];omega
 have wvs:∀k:Nat,k < 8→wv (start c Aa).AA (16 + k) = [16,66,0,0,0,0,0,0].getD k 0:=λk hk=>by
  rw[hw];unfold wv gv put;rw[show ((16:Int) + (k:Int)).toNat = 16 + k from ω,show (16:Int).toNat = 16 from rfl,Yr];have hl:(List.take 16 (List.replicate (c.AB.toNat * 16) (0:Int))).length = 16:=by simp;omega
  rw[Ym,Zy ω,hl,Zg (by simp;omega),Ym];congr 2;omega
 have tl:((start c Aa).A0.length:Int) = c.AB:=by
  show ((AT (AW c.AB) 1 _).length:Int) = _;rw[DG];exact tn0
 have tr:∀r:Int,0≤r→rv (start c Aa).A0 r = if r = 1 then ⟨3,-1,24,24,0⟩ else rv (AW c.AB) r:=λr r0=>DS δ ω r0
 have T:TOk (start c Aa).A0:=by
  refine⟨ω,ω,by rw[tr 0 δ,if_neg δ];exact tn1,λr r0 r1=>?_,λr s r0 r1 _ _ ho _=>?_⟩
  ·rw[tr r ω];split
   ·subst r;exact⟨δ,δ,δ,δ,δ,δ,δ,δ,δ,δ,δ,δ⟩
   ·rw[tn2 r r0 ω];exact (DC r0 ω).1
  ·rw[tr r ω] at ho;split at ho
   ·simp at ho
   ·rw[tn2 r r0 ω,(DC r0 ω).2] at ho;simp at ho
 have h17:wv (start c Aa).AA (16 + 1) = 66:=wvs 1 δ;have hsh:shp (start c Aa).AA 16 = ⟨4,2⟩:=by unfold shp;rw[h17];rfl
 have hsz:sz (start c Aa).AA 16 = 8:=by unfold sz;rw[hsh];rfl
 have h16:wv (start c Aa).AA 16 = 16:=wvs 0 δ;have nf:∀r:Int,0≤r→(rv (start c Aa).A0 r).kind≠4:=λr r0=>by
  rw[tr r r0];split
  ·simp
  ·by_cases h:r < c.AB
   ·by_cases h1:1≤r
    ·rw[tn2 r h1 h,(DC h1 ω).2];simp
    ·rw[show r = 0 from ω,tn1];simp[DO]
   ·rw[DU r0 ω];simp[DO]
 have nfr:∀a,¬ BZ (start c Aa).A0 a:=λa hf=>nf (a / 16) (by have:=hf.1;omega) hf.2
 have fm:∀a,mv (start c Aa).AK a = false:=λa=>NH
 have t1:(rv (start c Aa).A0 1).top = 24:=by rw[tr 1 δ,if_pos rfl]
 refine⟨⟨(· = 16),(· = 16),λ_=>0,λ_=>False⟩,⟨rfl,?_,?_,?_,?_,hp,λi t h=>?_,λh=>absurd (show (0:Int) = 1 from h) δ,λh=>absurd (show (0:Int) = 2 from h) δ,λh=>absurd (show (0:Int) = 3 from h) δ,(λh=>by cases h),⟨c5,c6⟩⟩,?_⟩
 ·refine⟨⟨by rw[wl,tl],T,?_,?_,?_,?_⟩,λa h=>h,?_,?_,λa _ hf=>absurd hf (nfr a),?_,λa _ h=>?_,by show (0:Int)≤0∧(0:Int)≤3;decide,λ_=>nf,λh=>absurd (show (2:Int)≤0 from h) δ,λa h=>(by cases h),λa _ hf=>absurd hf (nfr a),λh=>absurd (show (1:Int)≤0 from h) δ,λh=>absurd (show (0:Int) = 3 from h) δ,λh=>absurd (show (0:Int) = 1 from h) δ⟩
  ·rintro a rfl;refine⟨δ,?_,?_⟩
   ·rw[hsz,show (16:Int) / 16 = 1 from rfl,t1];decide
   ·rw[h17];rfl
  ·rintro a rfl;left;rw[hsz,show (16:Int) / 16 = 1 from rfl,t1];rfl
  ·intro r r0 r1;have r1:r < (start c Aa).A0.length:=r1;by_cases h:r = 1
   ·right;show 16 * r = 16;omega
   ·left;rw[tr r ω,if_neg h,tn2 r r0 ω,(DC r0 ω).2]
  ·rintro a b rfl rfl h;omega
  ·rintro a j rfl j0 j1 hn;exfalso;rw[hsh] at j1;simp only at j1;have:=wvs (2 + j.toNat) ω;rw[show (16:Int) + ((2 + j.toNat:Nat):Int) = 16 + 2 + j from ω] at this;apply hn;rw[this];have hj:j.toNat = 0∨j.toNat = 1∨j.toNat = 2∨j.toNat = 3:=ω
   rcases hj with h | h | h | h<;>rw[h]<;>rfl
  ·rintro a rfl _;exact h16
  ·show (List.replicate (c.AB.toNat * 16) false).length = (start c Aa).AA.length;rw[Yy];omega
  ·rw[fm] at h;cases h
 ·show 1≤(List.replicate c.A6.toNat _).length;rw[Yy];omega
 ·show (List.replicate c.A6.toNat _).length≤3;rw[Yy];omega
 ·show Aa.length = (List.replicate c.A6.toNat _).length;rw[Yy];omega
 ·have hm:=IJ h;have:t = thr0 [16] 0 0:=(ZT.1 (show t∈List.replicate c.A6.toNat (thr0 [16] 0 0) from hm)).2;subst this;exact⟨λa ha _=>by simpa [thr0] using ha,δ,δ,λ_ _ h=>absurd rfl h,.inl ⟨rfl,rfl,rfl⟩⟩
 ·have h2:=Ks (List.replicate (c.AB.toNat * 16) false);rw[Yy] at h2;refine⟨z_n 0,z_n 0,⟨ZI 0,ZI 0⟩,⟨ZI 0,ZI 0⟩,?_,Nat.zero_le _⟩;show 0 + 0 + 5 * (List.replicate (c.AB.toNat * 16) false).countP (λb=>!b) + (if (0:Int) = 2 then _ else 0)≤3000 + 0;rw[if_neg δ];omega
end
end Sm
end
section
namespace Go.Lf
open Go Sm
theorem RJ {P0:List (List Sm.Op)} {S:Sim} {gh:Gh} (I:IG P0 S gh):Pr S∧TOk S.A0:=by
 refine⟨⟨⟨by have:=I.rs.1;omega,by have:=I.rs.2;omega⟩,λa ha=>?_⟩,I.sh.g.ok⟩;have h1:=I.sh.pl a ha;have h2:=I.sh.g.inn (I.sh.lb a h1.1);have h3:=I.wl;obtain⟨h4,_,_,_,_,h5,h6,_⟩:=h2;have h5:a + sz S.AA a≤S.AA.length:=h5;have h6:2≤sz S.AA a:=h6;unfold AN;split<;>omega
theorem Y7 {P0:List (List Sm.Op)} {S:Sim} {gh:Gh} {c:Nat} (I:IG P0 S gh) (B:Bd c S) (hc:c < 900000):S.sz = true:=I.szok rfl B hc
theorem V2 {P0:List (List Sm.Op)} {p c:Nat} {S:Sim} {gh:Gh} {a:Int} (i0:IG P0 S gh) (B:Bd c S) (hc:c + 5 < 900000) (ha:inR a) :
  ∃S' gh',IG P0 S' gh'∧Bd (c + 5) S'∧S.pick a = some S'∧∀R g,Ok R S g→Fn P HO [Pt p,I a] R (Ab p S g) (D0 p S' λ_=>True):=by
 obtain⟨S',gh',e,I',B'⟩:=Mj (p:=a) hc i0 B;exact⟨S',gh',I',B',e,λR g hok=>UT hok ha (λR g S1 ok hp=>RG ok (RJ i0).1 (RJ i0).2 hp) e⟩
theorem Q0 {P0:List (List Sm.Op)}:∀(ps:List Int) (i c:Nat) (S:Sim) (gh:Gh),c + 5 * ps.length < 900000→IG P0 S gh→Bd c S→∀S1,Sim.picks (ps.take i) S = some S1→∃gh1,IG P0 S1 gh1:=by
 intro ps i c S gh hc I B S1 h;have hl:(ps.take i).length≤ps.length:=by simp;omega
 obtain⟨S2,g2,e2,I2,_⟩:=Ov (ps.take i) c S gh ω I B;rw[h] at e2;cases e2;exact⟨g2,I2⟩
theorem JA {c:Cfg} {Aa:List (List Sm.Op)} {picks:List Int} (h:Cq c Aa picks = true):Bf c = true∧(Aa.length:Int) = c.A6∧picks.length≤4000∧∀p∈Aa,p.length≤40:=by
 unfold Cq at h;simp only[z_b,z_d,ZC] at h;exact⟨h.1.1.1,h.1.1.2,h.1.2,h.2⟩
theorem WX {c0:Cfg} {Aa:List (List Sm.Op)} {picks:List Int} (hok:Cq c0 Aa picks = true) (ha:∀a∈picks,inR a) :
  ∃S' gh,IG Aa S' gh∧Bd 20000 S'∧Sim.picks picks (Sm.start c0 Aa) = some S'∧∀R pv kv,EY R pv Aa→BG R kv picks→Fn P FI [.agg #[I c0.AB,I c0.A6,I c0.AS],pv,kv] R [] (λv R' A=>∃p g rows thv A',Ok R' S' g∧Rw (Ct R') rows S'.view.A6∧SW 83 4 rows thv A'∧A = A' ++ Ab p S' g∧
   v = .tuple #[.agg (eSt S'.view (wS S' g) (tS S' g) (mS S' g) thv g.old g.AG).toArray,evV S' g]):=by
 obtain⟨h1,h2,h3,h4⟩:=JA hok;obtain⟨g0,I0,B0⟩:=L2 h1 h2 h4;obtain⟨S',gh,e,I',B'⟩:=Ov picks 0 _ g0 ω I0 B0;refine⟨S',gh,I',B'.mono ω,e,λR pv kv hp hk=>Ny hp hk hok ha e (Y7 I' B' ω) λi S hS p R g S1 ok hpz=>?_⟩;obtain⟨gh1,I1⟩:=Q0 picks i 0 _ g0 ω I0 B0 S hS;exact RG ok (RJ I1).1 (RJ I1).2 hpz
end Go.Lf
end
section
namespace Sm
def Rn (x:Int):Prop:=-9223372036854775808≤x∧x < 9223372036854775808
structure RT (t:Thr):Prop where
 r:∀a∈t.AC,Rn a
 h:Rn t.h
 g:Rn t.g
 k:Rn t.k
 u:Rn t.u
 v:Rn t.v
 w:Rn t.word
 d:Rn t.dst
structure RC (x:Col):Prop where
 w:Rn x.word
 d:Rn x.dst
structure RS (S:Sim):Prop where
 w:∀x∈S.AA,Rn x
 t:∀t∈S.th,RT t
 c:RC S.col
 o:∀p∈S.Aa,∀o∈p,Rn o.v
theorem Rn.zero:Rn 0:=by unfold Rn;omega
theorem Cj {α:Type} {l:List α} {i:Int} {x:α} (h:idx l i = some x):x∈l:=by
 unfold idx at h;split at h
 ·exact List.mem_of_getElem? h
 ·cases h
theorem Eu {α:Type} {l:List α} {i:Int} {x y:α} (h:y∈AT l i x):y∈l∨y = x:=Zm h
theorem RT.thr0 {AC:List Int} {n m:Int} (h:∀a∈AC,Rn a):RT (thr0 AC n m):=⟨h,Rn.zero,Rn.zero,Rn.zero,Rn.zero,Rn.zero,Rn.zero,Rn.zero⟩
theorem Rn.room {t t' : List Rg} {o z d:Int} (h:BX t o z = some (t',d)):Rn d:=by
 have hh:BT t = true∧0≤o∧o≤3∧1≤z∧z≤16:=by
  unfold BX at h;split at h
  ·rename_i hh;simp only[z_b,z_d] at hh;exact⟨hh.1.1.1.1,hh.1.1.1.2,hh.1.1.2,hh.1.2,hh.2⟩
  ·cases h
 obtain⟨h0,h1,h2,h3,h4⟩:=hh;rcases Fk (Bm.1 h0) h1 h2 h3 h4 with hn | ⟨t2,d2,he,hr⟩
 ·rw[hn] at h;cases h
 rw[he] at h;cases h;have:=hr.d0;have n1:=hr.ok.n1;by_cases c:d / 16 < t'.length
 ·unfold Rn;omega
 ·have:=hr.dk;rw[DU ω ω] at this;cases this
theorem Rn.shape {s:Shp}:Rn (AZ s):=by
 unfold AZ;split
 ·rename_i h;simp only[BP,z_b,z_d] at h;unfold Rn;omega
 ·unfold Rn;omega
section
variable {S S' : Sim} {i a v:Int}
theorem RS.rd (R:RS S) (h:S.read a = some (v,S')):Rn v∧RS S'∧S'.th = S.th∧S'.Aa = S.Aa∧S'.col = S.col:=by
 unfold Sim.read at h;split at h
 ·rename_i hv;cases h;exact⟨R.w _ (Cj hv),⟨R.w,R.t,R.c,R.o⟩,rfl,rfl,rfl⟩
 ·cases h
theorem RS.wt (R:RS S) (hv:Rn v) (h:S.write a v = some S'):RS S':=by
 unfold Sim.write at h;split at h
 ·cases h;exact⟨λx hx=>(Eu hx).elim (R.w x) λe=>e▸hv,R.t,R.c,R.o⟩
 ·cases h
theorem RS.st (R:RS S) {t:Thr} (ht:RT t):RS (S.setT i t):=⟨R.w,λx hx=>(Eu hx).elim (R.t x) λe=>e▸ht,R.c,R.o⟩
theorem RS.ev (R:RS S) {b:Int} (h:S.event i a b = some S'):RS S':=by
 unfold Sim.event at h;split at h
 ·cases h
 split at h
 ·rename_i ht;split at h
  ·cases h;exact⟨R.w,λx hx=>(Eu hx).elim (R.t x) λe=>e▸RT.thr0 (R.t _ (Cj ht)).r,R.c,R.o⟩
  ·cases h
 ·cases h
theorem RS.pu (R:RS S) (ha:Rn a) (h:S.push i a = some S'):RS S':=by
 unfold Sim.push at h;split at h
 ·cases h
 split at h
 ·rename_i t ht;have T:=R.t _ (Cj ht);refine RS.ev (R.st ?_) h;exact⟨λx hx=>(ZB.1 hx).elim (T.r x) λe=>by rw[Z8.1 e];exact ha,T.h,T.g,T.k,T.u,T.v,T.w,T.d⟩
 ·cases h
theorem RS.bk (R:RS S) (h:S.back i = some S'):RS S':=by
 unfold Sim.back at h;split at h
 ·rename_i ht;cases h;exact⟨R.w,λx hx=>(Eu hx).elim (R.t x) λe=>e▸RT.thr0 (R.t _ (Cj ht)).r,R.c,R.o⟩
 ·cases h
theorem RS.tp (R:RS S) (h:S.top a v = some S'):RS S':=by
 unfold Sim.top at h;split at h
 ·split at h
  ·cases h;exact⟨R.w,R.t,R.c,R.o⟩
  ·cases h
 ·cases h
theorem RS.od (R:RS S) (h:S.oldV v = some S'):RS S':=by
 unfold Sim.oldV at h;split at h
 ·cases h
 ·cases h;split
  ·exact⟨R.w,R.t,R.c,R.o⟩
  ·exact R
theorem RS.op (R:RS S) {t:Thr} {o:Op} (h:S.opOf i t = some o):Rn o.v:=by
 unfold Sim.opOf at h;split at h
 ·rename_i hp;exact R.o _ (Cj hp) _ (Cj h)
 ·cases h
theorem RT.pc {t:Thr} (T:RT t) (n:Int):RT { t with pc:=n }:=⟨T.r,T.h,T.g,T.k,T.u,T.v,T.w,T.d⟩
theorem RT.hold {t:Thr} (T:RT t) (n:Int) (ha:Rn a):RT (Bj t n a):=by
 unfold Bj;split
 ·exact⟨T.r,ha,T.g,T.k,T.u,T.v,T.w,T.d⟩
 split
 ·exact⟨T.r,T.h,ha,T.k,T.u,T.v,T.w,T.d⟩
 split
 ·exact⟨T.r,T.h,T.g,ha,T.u,T.v,T.w,T.d⟩
 ·exact⟨T.r,T.h,T.g,T.k,T.u,ha,T.w,T.d⟩
theorem RS.begin_ (R:RS S) (h:S.begin_ i = some S'):RS S':=by
 unfold Sim.begin_ at h;obtain⟨t,ht,h⟩:=Yh.1 h;have T:=R.t _ (Cj ht);obtain⟨o,ho,h⟩:=Yh.1 h;split at h
 ·exact R.ev h
 dsimp only at h;split at h
 ·exact R.ev h
 split at h
 ·exact RS.ev (R.st (by exact⟨λx hx=>T.r x (ZO hx),T.h,T.g,T.k,T.u,T.v,T.w,T.d⟩)) h
 split at h
 ·obtain⟨b,hb,h⟩:=Yh.1 h;exact R.pu (T.r _ (Cj hb)) h
 split at h
 ·cases h;exact R.st (T.pc _)
 obtain⟨b,hb,h⟩:=Yh.1 h;have T1:RT { t with pc:=1,h:=b }:=⟨T.r,T.r _ (Cj hb),T.g,T.k,T.u,T.v,T.w,T.d⟩;obtain⟨t2,h2,h⟩:=Yh.1 h;have T2:RT t2:=by
  split at h2
  ·obtain⟨c,hc,h2⟩:=Yh.1 h2;cases h2;exact⟨T1.r,T1.h,T1.r _ (Cj hc),T1.k,T1.u,T1.v,T1.w,T1.d⟩
  ·cases h2;exact T1
 obtain⟨t3,h3,h⟩:=Yh.1 h;have T3:RT t3:=by
  split at h3
  ·obtain⟨c,hc,h3⟩:=Yh.1 h3;cases h3;exact⟨T2.r,T2.h,T2.g,T2.r _ (Cj hc),T2.u,T2.v,T2.w,T2.d⟩
  ·cases h3;exact T2
 cases h;exact R.st T3
theorem RS.resolve (R:RS S) (h:S.resolve i = some S'):RS S':=by
 unfold Sim.resolve at h;obtain⟨t,ht,h⟩:=Yh.1 h;have T:=R.t _ (Cj ht);split at h
 ·cases h
 dsimp only at h;obtain⟨f,hf,h⟩:=Yh.1 h;split at h
 ·cases h;exact R.st (T.pc _)
 obtain⟨⟨w,S1⟩,h1,h⟩:=Yh.1 h;obtain⟨hw,R1,e1,_⟩:=R.rd h1;dsimp only at h;split at h
 ·cases h;exact R1.st ⟨T.r,T.h,T.g,T.k,T.u,T.v,T.w,T.d⟩
 ·cases h;exact R1.st (T.hold _ hw)
theorem RS.copying (R:RS S) (h:S.copying i = some S'):RS S':=by
 unfold Sim.copying at h;obtain⟨t,ht,h⟩:=Yh.1 h;have T:=R.t _ (Cj ht);split at h
 ·obtain⟨b,hb,h⟩:=Yh.1 h;obtain⟨⟨w,S1⟩,h1,h⟩:=Yh.1 h;obtain⟨hw,R1,_⟩:=R.rd h1;dsimp only at h;split at h
  ·exact R1.bk h
  ·rename_i hr;cases h;exact RS.st (by exact⟨R1.w,R1.t,R1.c,R1.o⟩) (by exact⟨T.r,T.h,T.g,T.k,T.u,T.v,T.w,Rn.room hr⟩)
 split at h
 ·obtain⟨b,hb,h⟩:=Yh.1 h;obtain⟨⟨w,S1⟩,h1,h⟩:=Yh.1 h;obtain⟨hw,R1,_⟩:=R.rd h1;cases h;exact R1.st ⟨T.r,T.h,T.g,T.k,T.u,T.v,hw,T.d⟩
 split at h
 ·obtain⟨b,hb,h⟩:=Yh.1 h;obtain⟨S1,h1,h⟩:=Yh.1 h;have R1:=R.wt T.w h1;obtain⟨n,hn,h⟩:=Yh.1 h;cases h;exact R1.st ⟨T.r,T.h,T.g,T.k,T.u,T.v,T.w,T.d⟩
 split at h
 ·obtain⟨S1,h1,h⟩:=Yh.1 h;have R1:=R.wt T.d h1;cases h;exact R1.st (T.pc _)
 split at h
 ·split at h
  ·cases h
  obtain⟨⟨w,S1⟩,h1,h⟩:=Yh.1 h;obtain⟨hw,R1,_⟩:=R.rd h1;dsimp only at h;split at h
  ·obtain⟨S2,h2,h⟩:=Yh.1 h;obtain⟨S3,h3,h⟩:=Yh.1 h;cases h;exact ((R1.wt T.d h2).tp h3).st (T.hold _ T.d)
  ·cases h;exact R1.st (T.hold _ hw)
 ·cases h;exact R.st T
theorem RS.making (R:RS S) (h:S.making i = some S'):RS S':=by
 unfold Sim.making at h;obtain⟨t,ht,h⟩:=Yh.1 h;have T:=R.t _ (Cj ht);obtain⟨o,ho,h⟩:=Yh.1 h;split at h
 ·dsimp only at h;split at h
  ·split at h
   ·exact R.ev h
   ·exact R.bk h
  ·rename_i hr;cases h;exact RS.st (by exact⟨R.w,R.t,R.c,R.o⟩) (by exact⟨T.r,T.h,T.g,T.k,T.u,T.v,T.w,Rn.room hr⟩)
 split at h
 ·obtain⟨S1,h1,h⟩:=Yh.1 h;cases h;exact (R.wt T.d h1).st (T.pc _)
 obtain⟨⟨S1,t1⟩,h1,h⟩:=Yh.1 h;have H1:RS S1∧RT t1:=by
  split at h1
  ·obtain⟨b,hb,h1⟩:=Yh.1 h1;obtain⟨S2,h2,h1⟩:=Yh.1 h1;cases h1;exact⟨R.wt Rn.shape h2,T⟩
  split at h1
  ·obtain⟨b,hb,h1⟩:=Yh.1 h1;obtain⟨S2,h2,h1⟩:=Yh.1 h1;obtain⟨n,hn,h1⟩:=Yh.1 h1;cases h1;exact⟨R.wt Rn.zero h2,⟨T.r,T.h,T.g,T.k,T.u,T.v,T.w,T.d⟩⟩
  ·cases h1;exact⟨R,T⟩
 obtain⟨R1,T1⟩:=H1;dsimp only at h;split at h
 ·obtain⟨S2,h2,h⟩:=Yh.1 h;exact ((R1.st (T1.pc 33)).tp h2).pu T1.d h
 ·cases h;exact R1.st (T1.pc 33)
theorem RS.load (R:RS S) (hv:Rn v) (h:S.load i v = some S'):RS S':=by
 unfold Sim.load at h;obtain⟨t,ht,h⟩:=Yh.1 h;have T:=R.t _ (Cj ht);split at h
 ·exact R.pu T.v h
 obtain⟨f,hf,h⟩:=Yh.1 h;split at h
 ·exact R.pu hv h
 ·cases h;exact R.st ⟨T.r,T.h,T.g,T.k,hv,hv,T.w,T.d⟩
theorem RS.swap (R:RS S) (hv:Rn v) (h:S.swap i v = some S'):RS S':=by
 unfold Sim.swap at h;obtain⟨t,ht,h⟩:=Yh.1 h;have T:=R.t _ (Cj ht);split at h
 ·exact R.ev h
 dsimp only at h;obtain⟨f,hf,h⟩:=Yh.1 h;split at h
 ·cases h;exact R.st ⟨T.r,T.h,T.g,T.k,hv,hv,T.w,T.d⟩
 split at h
 ·exact R.ev h
 obtain⟨S1,h1,h⟩:=Yh.1 h;cases h;exact (R.od h1).st ⟨T.r,T.h,T.g,T.k,hv,T.v,T.w,T.d⟩
theorem RS.shape (R:RS S) (h:S.shape i = some S'):RS S':=by
 unfold Sim.shape at h;obtain⟨t,ht,h⟩:=Yh.1 h;have T:=R.t _ (Cj ht);split at h
 ·cases h
 obtain⟨o,ho,h⟩:=Yh.1 h;split at h
 ·exact R.ev h
 split at h
 ·split at h
  ·exact R.ev h
  ·exact RS.ev (by exact⟨R.w,R.t,R.c,R.o⟩) h
 obtain⟨b,hb,h⟩:=Yh.1 h;obtain⟨⟨w,S1⟩,h1,h⟩:=Yh.1 h;obtain⟨hw,R1,_⟩:=R.rd h1;dsimp only at h;split at h
 ·exact R1.ev h
 ·cases h;exact R1.st ⟨T.r,T.h,T.g,T.k,T.u,T.v,T.w,T.d⟩
theorem RS.field (R:RS S) (h:S.field i = some S'):RS S':=by
 unfold Sim.field at h;obtain⟨t,ht,h⟩:=Yh.1 h;have T:=R.t _ (Cj ht);obtain⟨o,ho,h⟩:=Yh.1 h;obtain⟨b1,hb1,h⟩:=Yh.1 h;obtain⟨ref,hb2,h⟩:=Yh.1 h;obtain⟨b3,hb3,h⟩:=Yh.1 h;obtain⟨num,hb4,h⟩:=Yh.1 h;split at h
 ·obtain⟨⟨w,S1⟩,h1,h⟩:=Yh.1 h;obtain⟨hw,R1,_⟩:=R.rd h1;exact R1.load hw h
 split at h
 ·obtain⟨⟨w,S1⟩,h1,h⟩:=Yh.1 h;obtain⟨hw,R1,_⟩:=R.rd h1;obtain⟨S2,h2,h⟩:=Yh.1 h;cases h;exact (R1.od h2).st (T.pc _)
 split at h
 ·obtain⟨S1,h1,h⟩:=Yh.1 h;exact (R.wt T.g h1).ev h
 split at h
 ·obtain⟨S1,h1,h⟩:=Yh.1 h;exact (R.wt (R.op ho) h1).ev h
 split at h
 ·obtain⟨⟨w,S1⟩,h1,h⟩:=Yh.1 h;obtain⟨hw,R1,_⟩:=R.rd h1;exact R1.ev h
 split at h
 ·obtain⟨⟨w,S1⟩,h1,h⟩:=Yh.1 h;obtain⟨hw,R1,_⟩:=R.rd h1;exact R1.swap hw h
 split at h
 ·obtain⟨⟨w,S1⟩,h1,h⟩:=Yh.1 h;obtain⟨hw,R1,_⟩:=R.rd h1;dsimp only at h;split at h
  ·obtain⟨S2,h2,h⟩:=Yh.1 h;exact (R1.wt T.k h2).ev h
  ·cases h;exact R1.st (T.pc _)
 split at h
 ·split at h
  ·cases h;exact R.st (T.pc _)
  ·obtain⟨⟨w,S1⟩,h1,h⟩:=Yh.1 h;obtain⟨hw,R1,_⟩:=R.rd h1;exact R1.swap hw h
 ·cases h;exact R
theorem RS.tstep (R:RS S) (h:S.tstep i = some S'):RS S':=by
 unfold Sim.tstep at h;obtain⟨t,ht,h⟩:=Yh.1 h;split at h
 ·exact R.resolve h
 split at h
 ·exact R.shape h
 split at h
 ·exact R.making h
 split at h
 ·exact R.copying h
 ·exact R.field h
theorem RS.tloop:∀(n:Nat) {S S' : Sim},RS S→Sim.tloop n S i = some S'→RS S'
 | 0,_,_,_,h=>by cases h
 | n + 1,S,S',R,h=>by
  unfold Sim.tloop at h;obtain⟨t,ht,h⟩:=Yh.1 h;split at h
  ·cases h;exact R
  ·obtain⟨S1,h1,h⟩:=Yh.1 h;exact RS.tloop n (R.tstep h1) h
theorem RS.thread {n:Nat} (R:RS S) (h:S.thread n i = some S'):RS S':=by
 unfold Sim.thread at h;obtain⟨t,ht,h⟩:=Yh.1 h;split at h
 ·split at h
  ·cases h;exact R
  ·obtain⟨p,hp,h⟩:=Yh.1 h;split at h
   ·exact R.begin_ h
   ·cases h;exact R
 ·exact RS.tloop n (by exact⟨R.w,R.t,R.c,R.o⟩) h
end
section
variable {S S' : Sim} {i a v:Int}
theorem RS.sc (R:RS S) {c:Col} (hc:RC c):RS (S.setC c):=⟨R.w,R.t,hc,R.o⟩
theorem RC.zero (a:Bool) (n:Int):RC (Cd a n):=⟨Rn.zero,Rn.zero⟩
theorem RS.mark (R:RS S) (h:S.mark = some S'):RS S':=by
 unfold Sim.mark at h;split at h
 ·cases h
 dsimp only at h;split at h
 ·split at h
  ·cases h;exact⟨R.w,R.t,⟨R.c.w,R.c.d⟩,R.o⟩
  ·cases h;exact⟨R.w,R.t,⟨R.c.w,R.c.d⟩,R.o⟩
 obtain⟨b,hb,h⟩:=Yh.1 h;obtain⟨row,hrow,h⟩:=Yh.1 h;obtain⟨c,hc,h⟩:=Yh.1 h;split at h
 ·obtain⟨p1,hp,h⟩:=Yh.1 h;obtain⟨⟨w,S1⟩,h1,h⟩:=Yh.1 h;obtain⟨hw,R1,_⟩:=RS.rd (by exact⟨R.w,R.t,R.c,R.o⟩) h1;dsimp only at h;obtain⟨lv,hl,h⟩:=Yh.1 h;cases h;exact⟨R1.w,R1.t,⟨R.c.w,R.c.d⟩,R1.o⟩
 ·cases h;exact⟨R.w,R.t,⟨R.c.w,R.c.d⟩,R.o⟩
theorem RS.look (R:RS S) (h:S.look = some S'):RS S':=by
 unfold Sim.look at h;split at h
 ·cases h
 dsimp only at h;obtain⟨b,hb,h⟩:=Yh.1 h;obtain⟨b2,hb2,h⟩:=Yh.1 h;obtain⟨⟨w,S1⟩,h1,h⟩:=Yh.1 h;obtain⟨hw,R1,_⟩:=R.rd h1;dsimp only at h;obtain⟨n,hn,h⟩:=Yh.1 h;cases h;exact⟨R1.w,R1.t,⟨R.c.w,R.c.d⟩,R1.o⟩
theorem RS.walk (R:RS S) (h:S.walk = some S'):RS S':=by
 unfold Sim.walk at h;dsimp only at h;obtain⟨⟨r,p⟩,hb,h⟩:=Yh.1 h;dsimp only at h;split at h
 ·cases h;exact⟨R.w,R.t,⟨R.c.w,R.c.d⟩,R.o⟩
 obtain⟨q,hq,h⟩:=Yh.1 h;obtain⟨⟨w,S1⟩,h1,h⟩:=Yh.1 h;obtain⟨hw,R1,_⟩:=R.rd h1;dsimp only at h;cases h;refine R1.sc ?_;split
 ·exact⟨R.c.w,R.c.d⟩
 ·exact⟨R.c.w,R.c.d⟩
theorem RS.carry (R:RS S) (h:S.carry = some S'):RS S':=by
 unfold Sim.carry at h;dsimp only at h;split at h
 ·obtain⟨b,hb,h⟩:=Yh.1 h;obtain⟨⟨w,S1⟩,h1,h⟩:=Yh.1 h;obtain⟨hw,R1,_⟩:=R.rd h1;dsimp only at h;split at h
  ·cases h;exact⟨R1.w,R1.t,R1.c,R1.o⟩
  ·rename_i hr;cases h;exact⟨R1.w,R1.t,⟨R.c.w,Rn.room hr⟩,R1.o⟩
 split at h
 ·obtain⟨b,hb,h⟩:=Yh.1 h;obtain⟨⟨w,S1⟩,h1,h⟩:=Yh.1 h;obtain⟨hw,R1,_⟩:=R.rd h1;cases h;exact R1.sc ⟨hw,R.c.d⟩
 split at h
 ·obtain⟨b,hb,h⟩:=Yh.1 h;obtain⟨S1,h1,h⟩:=Yh.1 h;have R1:=R.wt R.c.w h1;obtain⟨n,hn,h⟩:=Yh.1 h;cases h;exact R1.sc ⟨R.c.w,R.c.d⟩
 split at h
 ·obtain⟨S1,h1,h⟩:=Yh.1 h;have R1:=R.wt R.c.d h1;cases h;exact R1.sc ⟨R.c.w,R.c.d⟩
 split at h
 ·obtain⟨⟨w,S1⟩,h1,h⟩:=Yh.1 h;obtain⟨hw,R1,_⟩:=R.rd h1;dsimp only at h;obtain⟨S2,h2,h⟩:=Yh.1 h;have R2:RS S2:=by
   split at h2
   ·obtain⟨S3,h3,h2⟩:=Yh.1 h2;exact (R1.wt R.c.d h3).tp h2
   ·cases h2;exact R1
  cases h;exact R2.sc ⟨R.c.w,R.c.d⟩
 ·cases h;exact R
theorem RC.then_ {x y:Col} (hx:RC x) (h:GL x = some y):RC y:=by
 unfold GL at h;obtain⟨n,hn,h⟩:=Yh.1 h;cases h;exact⟨hx.w,hx.d⟩
theorem RS.renew (R:RS S) (h:S.renew = some S'):RS S':=by
 unfold Sim.renew at h;dsimp only at h;split at h
 ·obtain⟨⟨r,p⟩,hb,h⟩:=Yh.1 h;dsimp only at h;split at h
  ·cases h;exact⟨R.w,R.t,⟨R.c.w,R.c.d⟩,R.o⟩
  obtain⟨q,hq,h⟩:=Yh.1 h;obtain⟨⟨w,S1⟩,h1,h⟩:=Yh.1 h;obtain⟨hw,R1,_⟩:=R.rd h1;dsimp only at h;obtain⟨q2,hq2,h⟩:=Yh.1 h;obtain⟨row,hrow,h⟩:=Yh.1 h;obtain⟨go,hgo,h⟩:=Yh.1 h;cases h;refine R1.sc ?_;split
  ·exact⟨R.c.w,R.c.d⟩
  ·exact⟨R.c.w,R.c.d⟩
 split at h
 ·obtain⟨b,hb,h⟩:=Yh.1 h;obtain⟨b2,hb2,h⟩:=Yh.1 h;obtain⟨⟨w,S1⟩,h1,h⟩:=Yh.1 h;obtain⟨hw,R1,_⟩:=R.rd h1;dsimp only at h;obtain⟨f,hf,h⟩:=Yh.1 h;split at h
  ·cases h;exact R1.sc ⟨R.c.w,R.c.d⟩
  ·obtain⟨y,hy,h⟩:=Yh.1 h;cases h;exact R1.sc (RC.then_ (by exact⟨R.c.w,R.c.d⟩) hy)
 split at h
 ·obtain⟨⟨w,S1⟩,h1,h⟩:=Yh.1 h;obtain⟨hw,R1,_⟩:=R.rd h1;dsimp only at h;split at h
  ·obtain⟨y,hy,h⟩:=Yh.1 h;cases h;exact R1.sc (RC.then_ (by exact⟨hw,R.c.d⟩) hy)
  ·cases h;exact R1.sc ⟨hw,R.c.d⟩
 split at h
 ·obtain⟨b,hb,h⟩:=Yh.1 h;obtain⟨b2,hb2,h⟩:=Yh.1 h;obtain⟨⟨w,S1⟩,h1,h⟩:=Yh.1 h;obtain⟨hw,R1,_⟩:=R.rd h1;dsimp only at h;obtain⟨S2,h2,h⟩:=Yh.1 h;have R2:RS S2:=by
   split at h2
   ·exact R1.wt R.c.w h2
   ·cases h2;exact R1
  obtain⟨y,hy,h⟩:=Yh.1 h;cases h;exact R2.sc (RC.then_ R.c hy)
 ·cases h;exact R
theorem RS.work (R:RS S) (h:S.work = some S'):RS S':=by
 unfold Sim.work at h;split at h
 ·exact R.mark h
 split at h
 ·exact R.look h
 split at h
 ·exact R.walk h
 split at h
 ·exact R.carry h
 ·exact R.renew h
theorem RS.cloop:∀(n:Nat) {S S' : Sim},RS S→Sim.cloop n S = some S'→RS S'
 | 0,_,_,_,h=>by cases h
 | n + 1,S,S',R,h=>by
  unfold Sim.cloop at h;split at h
  ·obtain⟨S1,h1,h⟩:=Yh.1 h;exact RS.cloop n (R.work h1) h
  ·cases h;exact R
theorem RS.idle (R:RS S) (h:S.idle = some S'):RS S':=by
 unfold Sim.idle at h;obtain⟨n,hn,h⟩:=Yh.1 h;cases h;exact⟨R.w,R.t,RC.zero _ _,R.o⟩
theorem RS.drain:∀(n:Nat) {S S' : Sim},RS S→Sim.drain n S = some S'→RS S'
 | 0,_,_,_,h=>by cases h
 | n + 1,S,S',R,h=>by
  unfold Sim.drain at h;split at h
  ·cases h
  split at h
  ·dsimp only at h;split at h
   ·obtain⟨S1,h1,h⟩:=Yh.1 h;exact RS.drain n (R.look h1) h
   ·obtain⟨S1,h1,h⟩:=Yh.1 h;exact RS.drain n (R.mark h1) h
  ·cases h;exact R
theorem RS.choose {n:Nat} (R:RS S) (h:S.choose n = some S'):RS S':=by
 unfold Sim.choose at h;obtain⟨S1,h1,h⟩:=Yh.1 h;have R1:=RS.drain n R h1;dsimp only at h;obtain⟨t,ht,h⟩:=Yh.1 h;split at h
 ·exact RS.idle (by exact⟨R1.w,R1.t,R1.c,R1.o⟩) h
 ·cases h;exact⟨R1.w,R1.t,⟨Rn.zero,Rn.zero⟩,R1.o⟩
theorem RS.rootsF (R:RS S):∀{l l' : List Int},(∀a∈l,Rn a)→S.rootsF l = some l'→∀a∈l',Rn a
 | [],l',_,h=>by cases h;simp
 | a :: r,l',hl,h=>by
  unfold Sim.rootsF at h;obtain⟨f,hf,h⟩:=Yh.1 h;obtain⟨b,hb,h⟩:=Yh.1 h;obtain⟨l2,h2,h⟩:=Yh.1 h;cases h;have ih:=RS.rootsF R (λx hx=>hl x (by simp[hx])) h2;intro x hx;rcases Yx.1 hx with rfl | hx
  ·split at hb
   ·exact R.w _ (Cj hb)
   ·cases hb;exact hl _ σ
  ·exact ih x hx
theorem RS.thsF (R:RS S):∀{l l' : List Thr},(∀t∈l,RT t)→S.thsF l = some l'→∀t∈l',RT t
 | [],l',_,h=>by cases h;simp
 | t :: r,l',hl,h=>by
  unfold Sim.thsF at h;obtain⟨b,hb,h⟩:=Yh.1 h;obtain⟨l2,h2,h⟩:=Yh.1 h;cases h;have ih:=RS.thsF R (λx hx=>hl x (by simp[hx])) h2;have T:=hl t σ;intro x hx;rcases Yx.1 hx with rfl | hx
  ·exact⟨R.rootsF T.r hb,T.h,T.g,T.k,T.u,T.v,T.w,T.d⟩
  ·exact ih x hx
theorem RS.finish (R:RS S) (h:S.finish = some S'):RS S':=by
 unfold Sim.finish at h;obtain⟨th,h1,h⟩:=Yh.1 h;exact RS.idle (by exact⟨R.w,R.thsF R.t h1,R.c,R.o⟩) h
theorem RS.update (R:RS S) (h:S.update = some S'):RS S':=by
 unfold Sim.update at h;obtain⟨_,h1,h⟩:=Yh.1 h;cases h;exact⟨R.w,R.t,⟨Rn.zero,Rn.zero⟩,R.o⟩
end
def Rth (l:List AU):Prop:=∀x∈l,Rn x.at_∧∀n∈x.nums,Rn n
theorem Rn.at_ {w:List Int} {a:Int} (hw:∀x∈w,Rn x) (h:(Ap w a).2 = true):Rn (Ap w a).1.at_∧∀n∈(Ap w a).1.nums,Rn n:=by
 unfold Ap at h ⊢;split
 ·rename_i hf;rw[if_pos hf] at h;dsimp only at h ⊢;split
  ·refine⟨?_,λn hn=>hw n (aA (ZO hn))⟩;unfold fits BM at hf;simp only[z_b,z_d] at hf;show Rn a;unfold Rn;omega
  ·exact⟨Rn.zero,by simp[CM]⟩
 ·exact⟨Rn.zero,by simp[CM]⟩
theorem Rth.from_ {w:List Int} (hw:∀x∈w,Rn x):∀(n:Nat) {a t:Int} {l:List AU},As w n a t = some l→Rth l
 | 0,a,t,l,h=>by
  unfold As at h;split at h
  ·cases h
  ·cases h;intro x hx;cases hx
 | n + 1,a,t,l,h=>by
  unfold As at h;split at h
  ·dsimp only at h;split at h
   ·rename_i hc;split at h
    ·rename_i hr;cases h;intro x hx;rcases Yx.1 hx with rfl | hx
     ·exact Rn.at_ hw (by simp only[z_b] at hc;exact hc.1)
     ·exact Rth.from_ hw n hr x hx
    ·cases h
   ·cases h
  ·cases h;intro x hx;cases hx
theorem Rth.all {w:List Int} (hw:∀x∈w,Rn x):∀(t:List Rg) (r:Nat) {l:List AU},Be w r t = some l→Rth l
 | [],r,l,h=>by cases h;intro x hx;cases hx
 | x :: t,r,l,h=>by
  unfold Be at h;split at h
  ·cases h
  ·rename_i a ha;split at h
   ·cases h
   ·rename_i b hb;cases h;have h1:Rth a:=by
     unfold BN at ha;split at ha
     ·exact Rth.from_ hw _ ha
     ·cases ha
    have h2:=Rth.all hw t (r + 1) hb;intro y hy;exact (ZB.1 hy).elim (h1 y) (h2 y)
def Rw_ (w:List Int):Prop:=∀x∈w,Rn x
def Rtt (t:List Rg):Prop:=∀x∈t,Rn x.top
theorem Rw_.wr {w w' : List Int} {a v:Int} (R:Rw_ w) (hv:Rn v) (h:Sm.wr w a v = some w'):Rw_ w':=by
 unfold Sm.wr at h;split at h
 ·cases h;exact λx hx=>(Eu hx).elim (R x) λe=>e▸hv
 ·cases h
theorem Rw_.wrs:∀(l:List Int) {w w' : List Int} {a:Int},Rw_ w→(∀x∈l,Rn x)→Sm.wrs w a l = some w'→Rw_ w'
 | [],w,w',a,R,_,h=>by cases h;exact R
 | v :: l,w,w',a,R,hl,h=>by
  unfold Sm.wrs at h;obtain⟨w1,h1,h⟩:=Yh.1 h;exact Rw_.wrs l (R.wr (hl v σ) h1) (λx hx=>hl x (by simp[hx])) h
theorem Oo {l:List AU} {a:Int} {x:AU} (h:BL l a = some x):x∈l∧x.at_ = a:=by
 unfold BL at h;exact⟨al h,by simpa using List.find?_some h⟩
theorem Rw_.stay (s:Al) (hs:Rtt s.A0):∀(l:List AU) {w w' : List Int} {t t' : List Rg},Rth l→Rw_ w→Rtt t→Sm.stay s l w t = some (w',t')→Rw_ w'∧Rtt t'
 | [],w,w',t,t',_,R,T,h=>by cases h;exact⟨R,T⟩
 | x :: l,w,w',t,t',hl,R,T,h=>by
  unfold Sm.stay at h;dsimp only at h;have hl2:Rth l:=λy hy=>hl y (by simp[hy])
  obtain⟨q1,q2⟩:=hl x σ;split at h
  ·obtain⟨w1,h1,h⟩:=Yh.1 h;obtain⟨w2,h2,h⟩:=Yh.1 h;obtain⟨w3,h3,h⟩:=Yh.1 h;obtain⟨row,hr,h⟩:=Yh.1 h;obtain⟨_,_,h⟩:=Yh.1 h;refine Rw_.stay s hs l hl2 (Rw_.wrs _ ((R.wr q1 h1).wr Rn.shape h2) q2 h3) (λy hy=>?_) h;rcases Eu hy with hy | hy
   ·exact T y hy
   ·rw[hy];exact hs row (Cj hr)
  ·exact Rw_.stay s hs l hl2 R T h
theorem Vm {a b c:Int} (h:Cf a b = some c):Rn c:=by
 unfold Cf at h;split at h
 ·cases h;rename_i q;exact q
 ·cases h
theorem Rw_.slide (AG:List Int) {l:List AU} (hl:Rth l):∀(AO:List Int) {t t' : List Rg} {r:Int} {to to' : List Int},Rtt t→(∀d∈to,Rn d)→Sm.slide AG l AO t r to = some (t',to')→∀d∈to',Rn d
 | [],t,t',r,to,to',T,ht,h=>by cases h;exact ht
 | a :: AO,t,t',r,to,to',T,ht,h=>by
  unfold Sm.slide at h;obtain⟨x,hx,h⟩:=Yh.1 h;obtain⟨hm,he⟩:=Oo hx;dsimp only at h;split at h
  ·refine Rw_.slide AG hl AO T (λd hd=>?_) h;rcases ZB.1 hd with hd | hd
   ·exact ht d hd
   ·rw[Z8.1 hd,← he];exact (hl x hm).1
  obtain⟨r2,hr2,h⟩:=Yh.1 h;obtain⟨row,hrow,h⟩:=Yh.1 h;obtain⟨top,htop,h⟩:=Yh.1 h;refine Rw_.slide AG hl AO (λy hy=>(Eu hy).elim (T y) λe=>e▸Vm htop) (λd hd=>?_) h;rcases ZB.1 hd with hd | hd
  ·exact ht d hd
  ·rw[Z8.1 hd];exact T row (Cj hrow)
theorem Rw_.refs {l:List AU} {AO to:List Int} (ht:∀d∈to,Rn d):∀(r:List Int) {w w' : List Int} {a:Int},Rw_ w→FC l AO to w a r = some w'→Rw_ w'
 | [],w,w',a,R,h=>by cases h;exact R
 | v :: r,w,w',a,R,h=>by
  unfold FC at h;obtain⟨n,hn,h⟩:=Yh.1 h;dsimp only at h;obtain⟨w1,h1,h⟩:=Yh.1 h;refine Rw_.refs ht r ?_ h;split at h1
  ·obtain⟨d,hd,h1⟩:=Yh.1 h1;exact R.wr (ht d (Cj hd)) h1
  ·cases h1;exact R
theorem Rw_.move {l:List AU} (hl:Rth l) {AO to:List Int} (ht:∀d∈to,Rn d):∀(la ld:List Int) {w w' : List Int},Rw_ w→(∀d∈ld,Rn d)→FU l AO to la ld w = some w'→Rw_ w'
 | [],ld,w,w',R,_,h=>by unfold FU at h;cases h;exact R
 | a :: la,[],w,w',R,_,h=>by unfold FU at h;cases h;exact R
 | a :: la,d :: ld,w,w',R,hd,h=>by
  unfold FU at h;obtain⟨x,hx,h⟩:=Yh.1 h;obtain⟨w1,h1,h⟩:=Yh.1 h;obtain⟨w2,h2,h⟩:=Yh.1 h;obtain⟨w3,h3,h⟩:=Yh.1 h;obtain⟨w4,h4,h⟩:=Yh.1 h;have R2:=(R.wr (hd d σ) h1).wr Rn.shape h2;exact Rw_.move hl ht la ld (Rw_.wrs _ (Rw_.refs ht _ R2 h3) (hl x (Oo hx).1).2 h4) (λy hy=>hd y (by simp[hy])) h
theorem Rw_.AC {l:List AU} {AO to:List Int} (ht:∀d∈to,Rn d):∀(r:List Int) {r' : List Int},Cw l AO to r = some r'→∀a∈r',Rn a
 | [],r',h=>by cases h;simp
 | a :: r,r',h=>by
  unfold Cw at h;obtain⟨n,hn,h⟩:=Yh.1 h;dsimp only at h;obtain⟨b,hb,h⟩:=Yh.1 h;obtain⟨r2,h2,h⟩:=Yh.1 h;cases h;have ih:=Rw_.AC ht r h2;intro x hx;rcases Yx.1 hx with rfl | hx
  ·split at hb
   ·cases hb;exact Rn.zero
   ·exact ht _ (Cj hb)
  ·exact ih x hx
theorem Rw_.ths {l:List AU} {AO to:List Int} (ht:∀d∈to,Rn d):∀(r:List Th) {r' : List Th},DT l AO to r = some r'→∀t∈r',∀a∈t.AC,Rn a
 | [],r',h=>by cases h;simp
 | t :: r,r',h=>by
  unfold DT at h;obtain⟨ro,hro,h⟩:=Yh.1 h;obtain⟨r2,h2,h⟩:=Yh.1 h;cases h;have ih:=Rw_.ths ht r h2;intro x hx;rcases Yx.1 hx with rfl | hx
  ·exact Rw_.AC ht _ hro
  ·exact ih x hx
theorem Rtt.new (n:Int):Rtt (AW n):=by
 unfold AW;split
 ·intro x hx;cases hx
 ·intro x hx;rcases Yx.1 hx with rfl | hx
  ·exact Rn.zero
  ·obtain⟨k,hk,rfl⟩:=ZK.1 hx;show Rn (AH _);unfold AH;split
   ·exact Rn.zero
   ·unfold Rn;omega
theorem MV {s s' : Al} (hw:Rw_ s.AA) (ht:Rtt s.A0) (h:Ex s = some s'):Rw_ s'.AA∧∀t∈s'.A6,∀a∈t.AC,Rn a:=by
 unfold Ex at h;dsimp only at h;obtain⟨lv,h1,h⟩:=Yh.1 h;obtain⟨⟨w1,t1⟩,h2,h⟩:=Yh.1 h;obtain⟨⟨t2,to⟩,h3,h⟩:=Yh.1 h;obtain⟨w2,h4,h⟩:=Yh.1 h;obtain⟨th,h5,h⟩:=Yh.1 h;obtain⟨fu,h6,h⟩:=Yh.1 h;cases h;have hl:Rth ((BJ s).getD []):=by
  cases hs:BJ s with
  | none=>intro x hx;cases hx
  | some l=>exact Rth.all hw _ _ hs
 obtain⟨a1,a2⟩:=Rw_.stay s ht _ hl (λx hx=>by rw[(ZT.1 hx).2];exact Rn.zero) (Rtt.new _) h2;have a3:=Rw_.slide s.AG hl _ a2 (λd hd=>by cases hd) h3;exact⟨Rw_.move hl a3 _ _ a1 a3 h4,Rw_.ths a3 _ h5⟩
section
variable {S S' : Sim} {i a v:Int}
theorem RS.pause {n:Nat} (R:RS S) (T:Rtt S.A0) (h:S.pause n = some S'):RS S':=by
 unfold Sim.pause at h;split at h
 ·cases h
 split at h
 ·obtain⟨s,h1,h⟩:=Yh.1 h;cases h;obtain⟨a1,a2⟩:=MV (s:=S.view) R.w T h1;refine⟨a1,λt ht=>?_,RC.zero _ _,R.o⟩;obtain⟨t',ht',rfl⟩:=ZK.1 ht;exact RT.thr0 (a2 t' ht')
 dsimp only at h;have R1:RS { S with stop:=false }:=⟨R.w,R.t,R.c,R.o⟩;split at h
 ·cases h;exact⟨R.w,R.t,⟨Rn.zero,Rn.zero⟩,R.o⟩
 split at h
 ·exact R1.choose h
 split at h
 ·exact R1.update h
 ·exact R1.finish h
theorem RS.pick (R:RS S) (T:Rtt S.A0) {p:Int} (h:S.pick p = some S'):RS S':=by
 unfold Sim.pick at h;split at h
 ·exact R.thread h
 split at h
 ·unfold Sim.collector at h;split at h
  ·split at h
   ·exact R.pause T h
   ·cases h;exact R
  split at h
  ·split at h
   ·cases h;exact⟨R.w,R.t,⟨R.c.w,R.c.d⟩,R.o⟩
   ·cases h;exact R
  ·exact RS.cloop _ (by exact⟨R.w,R.t,R.c,R.o⟩) h
 split at h
 ·cases h;exact⟨R.w,R.t,⟨R.c.w,R.c.d⟩,R.o⟩
 ·cases h;exact R
theorem Vi {t:List Rg} (T:TOk t):Rtt t:=by
 intro x hx;obtain⟨k,hk,rfl⟩:=ZF hx;have n1:=T.n1;have e:rv t k = t[k]:=Fm hk;by_cases h0:k = 0
 ·subst h0;have h2:=T.e;rw[show (0:Int) = ((0:Nat):Int) from rfl,e] at h2;rw[h2];exact Rn.zero
 ·have r:=T.row k ω ω;rw[e] at r;have t0:=r.t0;have t1:=r.t1;unfold Rn;omega
theorem OS {P:List (List Op)}:∀(ps:List Int) (c:Nat) (S S' : Sim) (g:Gh),c + 5 * ps.length < 900000→IG P S g→Bd c S→RS S→Sim.picks ps S = some S'→RS S'
 | [],c,S,S',g,_,_,_,R,h=>by cases h;exact R
 | p :: r,c,S,S',g,hc,I,B,R,h=>by
  simp only[Yt] at hc;obtain⟨S1,g1,e1,I1,B1⟩:=Mj (p:=p) ω I B;unfold Sim.picks at h;obtain⟨S2,h2,h⟩:=Yh.1 h;rw[e1] at h2;cases h2;exact OS r (c + 5) _ S' g1 ω I1 B1 (R.pick (Vi I.sh.g.ok) e1) h
theorem U7 {c:Cfg} {Aa:List (List Op)} (ho:∀p∈Aa,∀o∈p,Rn o.v):RS (start c Aa):=by
 refine⟨?_,λt ht=>?_,RC.zero _ _,ho⟩
 ·show ∀x∈(CP (List.replicate (c.AB.toNat * 16) 0) 16 Bx).1,Rn x;unfold CP;split
  ·intro x hx;unfold put at hx;have hall' : AZ Bx = 66:=δ
   rw[hall'] at hx;simp only[ZB,Yx,Z8,List.not_mem_nil,or_false] at hx;rcases hx with (hx | (rfl | rfl) | hx) | hx
   ·rw[(ZT.1 (ZO hx)).2];exact Rn.zero
   ·unfold Rn;omega
   ·unfold Rn;omega
   ·rw[(ZT.1 hx).2];exact Rn.zero
   ·rw[(ZT.1 (aA hx)).2];exact Rn.zero
  ·intro x hx;cases hx
 ·rw[(ZT.1 ht).2];exact RT.thr0 (λa ha=>by rw[Z8.1 ha];unfold Rn;omega)
end
end Sm
end
