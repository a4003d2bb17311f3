/- A part of the proof of the given row: the walk of the law and of all that it calls. Conditions: none. -/
import Derived.Test.YtoajhnhjmhdfdaaGreatLK
set_option linter.unusedVariables false
set_option linter.unusedSimpArgs false
section
namespace Sm
variable {P:List (List Op)}
def thg (w:List Int) (a:Int):Am:=⟨a,wv w a,shp w a,seg w (a + 2) (shp w a).refs,seg w (a + 2 + (shp w a).refs) (shp w a).nums⟩
theorem IQ {n:Nat} {k:Nat} (h:n = 16 * k) (h0:2≤k) (h1:k≤12):By n = true:=by
 subst h;simp only[By,z_b,beq_iff_eq,z_d];omega
theorem Geo.wok {w:List Int} {t:List Rg} {B:Int→Prop} (G:Geo w t B):By w.length = true:=by
 have h1:=G.len;exact IQ (k:=t.length) (by omega) G.ok.n0 G.ok.n1
theorem Geo.fits {w:List Int} {t:List Rg} {B:Int→Prop} (G:Geo w t B) {a s:Int} (h:B a) (s0:1≤s) (s1:s≤sz w a):Sm.fits w.length a s = true:=by
 obtain⟨g1,g2,g3,g4,g5,g6,g7,g8⟩:=G.inn h;unfold Sm.fits;rw[G.wok,CS (by omega),CS (by omega)];simp only[Bool.true_and,z_b,z_d,beq_iff_eq];omega
theorem Geo.thing {w:List Int} {t:List Rg} {B:Int→Prop} (G:Geo w t B) {a:Int} (h:B a):BY w a = (thg w a,true):=by
 obtain⟨g1,g2,g3,g4,g5,g6,g7,g8⟩:=G.inn h;have e:w.getD (a.toNat + 1) 0 = wv w (a + 1):=by unfold wv gv;rw[show (a + 1).toNat = a.toNat + 1 from by omega]
 unfold BY;rw[if_pos (G.fits h (by omega) (by omega)),e];dsimp only;rw[show AC (AJ (wv w (a + 1))).1 = sz w a from rfl,(G.at_ a h).2.2,G.fits h (by omega) (Int.le_refl _)];rfl
theorem Ig {w:List Int} {t:List Rg} {B:Int→Prop} (G:Geo w t B) {r:Int} (r0:1≤r) (r1:r < t.length):∀(n:Nat) (a:Int),(a = (rv t r).top∨(B a∧a / 16 = r))→(rv t r).top - a≤2 * n→
  ∃l,BK w n a (rv t r).top = some l∧(∀x∈l,B x.at_∧x = thg w x.at_)∧∀b,B b→b / 16 = r→a≤b→thg w b∈l:=by
 have T1:=(G.ok.row r r0 r1).t1;have T0:=(G.ok.row r r0 r1).t0;have below:∀b,B b→b / 16 = r→b < (rv t r).top:=λb hb hr=>by
  have g:=G.inn hb;rw[hr] at g;omega
 intro n;induction n with
 | zero=>
  intro a ha hn;have:¬ a < (rv t r).top:=by omega
  unfold BK;rw[if_neg this];exact⟨[],rfl,λx h=>(by cases h),λb hb hr hab=>by have:=below b hb hr;omega⟩
 | succ n ih=>
  intro a ha hn;unfold BK;by_cases c:a < (rv t r).top
  ·have hB:B a∧a / 16 = r:=by rcases ha with h | h;omega;exact h
   obtain⟨g1,g2,g3,g4,g5,g6,g7,g8⟩:=G.inn hB.1;rw[hB.2] at g4;rw[if_pos c,G.thing hB.1];dsimp only;have es:AC (thg w a).sh = sz w a:=rfl;rw[es];rw[if_pos (by simpa using g4)];have nx:a + sz w a = (rv t r).top∨(B (a + sz w a)∧(a + sz w a) / 16 = r):=by
    by_cases h:a + sz w a = (rv t r).top
    ·exact .inl h
    ·right;rcases G.nx a hB.1 with h2 | h2
     ·rw[hB.2] at h2;exact absurd h2 h
     ·exact⟨h2,by omega⟩
   obtain⟨l,e,h1,h2⟩:=ih (a + sz w a) nx (by omega);rw[e];refine⟨thg w a :: l,rfl,λx hx=>?_,λb hb hr hab=>?_⟩
   ·rcases List.mem_cons.1 hx with h | h
    ·subst h;exact⟨hB.1,rfl⟩
    ·exact h1 x h
   ·by_cases d:b = a
    ·subst d;simp
    ·have:=G.dj a b hB.1 hb (by omega);exact List.mem_cons_of_mem _ (h2 b hb hr this)
  ·rw[if_neg c];exact⟨[],rfl,λx h=>(by cases h),λb hb hr hab=>by have:=below b hb hr;omega⟩
theorem JC {w:List Int} {t:List Rg} {B:Int→Prop} (G:Geo w t B):∀(l:List Rg) (r:Nat),1≤r→r + l.length = t.length→(∀k (h:k < l.length),l[k] = rv t (r + k:Nat))→
  ∃out,CC w r l = some out∧(∀x∈out,B x.at_∧x = thg w x.at_)∧∀b,B b→(r:Int)≤b / 16→thg w b∈out:=by
 have n1:=G.ok.n1;have len:=G.len;intro l;induction l with
 | nil=>
  intro r r0 hl _;refine⟨[],rfl,λx h=>(by cases h),λb hb hr=>?_⟩;have g:=G.inn hb;simp only[List.length_nil] at hl;omega
 | cons x l ih=>
  intro r r0 hl hk;simp only[List.length_cons] at hl;have hx:x = rv t r:=by have:=hk 0 (by simp);simpa using this
  have R:=G.ok.row r (by omega) (by omega);have R0:=R.t0;have R1:=R.t1;have hb:=CZ (r:=r) (by omega) (by omega);obtain⟨a,e1,h1,h2⟩:=Ig G (r:=r) (by omega) (by omega) 16 (16 * (r:Int)) (by
   rcases G.bs r (by omega) (by omega) with h | h
   ·exact .inl h.symm
   ·exact .inr ⟨h,by omega⟩) (by omega)
  obtain⟨b,e2,h3,h4⟩:=ih (r + 1) (by omega) (by omega) λk h=>by
   have:=hk (k + 1) (by simpa using h);rw[show r + 1 + k = r + (k + 1) from by omega];exact this
  have e3:Bv w r x.top = some a:=by
   unfold Bv;rw[G.wok,hx,hb,if_pos (by simp only[Bool.true_and,z_b,z_d];omega)];exact e1
  refine⟨a ++ b,?_,λy hy=>?_,λy hy hr=>?_⟩
  ·unfold CC;rw[e3];simp only[];rw[e2]
  ·rcases List.mem_append.1 hy with h | h
   ·exact h1 y h
   ·exact h3 y h
  ·by_cases d:y / 16 = r
   ·exact List.mem_append_left _ (h2 y hy d (by omega))
   ·exact List.mem_append_right _ (h4 y hy (by omega))
structure Thn (w:List Int) (B:Int→Prop) (l:List Am):Prop where
 all:∀x∈l,B x.at_∧x = thg w x.at_
 has:∀a,B a→thg w a∈l
theorem Qk {s:CL} {B:Int→Prop} (G:Geo s.A5 s.A0 B):∃l,C5 s = some l∧Thn s.A5 B l:=by
 have n0:=G.ok.n0;obtain⟨l,e,h1,h2⟩:=JC G s.A0.tail 1 (z_n 1) (by simp;omega) λk h=>HA h
 exact⟨l,e,h1,λa ha=>h2 a ha (by have:=G.inn ha;omega)⟩
theorem Thn.find {w:List Int} {B:Int→Prop} {l:List Am} (T:Thn w B l) {a:Int} (h:B a):Fl l a = some (thg w a):=by
 unfold Fl;cases hf:l.find? λt=>t.at_ == a with
 | none=>
  have:=List.find?_eq_none.1 hf _ (T.has a h);simp[thg] at this
 | some x=>
  have h1:=List.find?_some hf;have h2:=List.mem_of_find?_eq_some hf;have h3:x.at_ = a:=by simpa using h1
  rw[(T.all x h2).2,h3]
theorem Thn.now {w:List Int} {B:Int→Prop} {l:List Am} (T:Thn w B l) {a:Int} (h:a≠0→B a):now l a = some (if a = 0 then 0 else wv w a):=by
 unfold Sm.now;by_cases c:a = 0
 ·rw[if_pos c,if_pos c]
 ·rw[if_neg c,if_neg c,T.find (h c)];rfl
theorem Ky {α:Type} [DecidableEq α]:∀{xs ys:List α},xs.Nodup→(∀x∈xs,x∈ys)→xs.length≤ys.length:=by
 intro xs;induction xs with
 | nil=>intro ys _ _;simp
 | cons x r ih=>
  intro ys hn h;rw[List.nodup_cons] at hn;have hx:=h x (by simp);have:=ih (ys:=ys.erase x) hn.2 λy hy=>by
   have hne:y≠x:=λc=>by subst c;exact hn.1 hy
   exact (List.mem_erase_of_ne hne).2 (h y (by simp[hy]))
  rw[List.length_erase_of_mem hx] at this;have:=List.length_pos_of_mem hx;simp;omega
section
variable {w:List Int} {B L:Int→Prop} {l:List Am}
structure Cur (w:List Int) (L:Int→Prop) (out:List Int):Prop where
 nd:out.Nodup
 cu:∀a∈out,L a∧wv w a = a
 nz:∀a∈out,a≠0
theorem Cur.put {out:List Int} (C:Cur w L out) {a:Int} (h:a≠0→L a∧wv w a = a):Cur w L (DS out a)∧(∀b∈out,b∈DS out a)∧(a≠0→a∈DS out a)∧∃e,DS out a = out ++ e:=by
 unfold DS;by_cases c:a = 0∨a∈out
 ·rw[if_pos c];exact⟨C,λ_ h=>h,λh0=>by rcases c with c | c;exact absurd c h0;exact c,[],by simp⟩
 ·rw[if_neg c];rw[not_or] at c;refine⟨⟨?_,λb hb=>?_,λb hb=>?_⟩,λb hb=>List.mem_append_left _ hb,λ_=>by simp,[a],rfl⟩
  ·rw[List.nodup_append];exact⟨C.nd,by simp,λx hx y hy=>by simp only[List.mem_singleton] at hy;subst hy;intro e;subst e;exact c.2 hx⟩
  ·rcases List.mem_append.1 hb with hb | hb
   ·exact C.cu b hb
   ·simp only[List.mem_singleton] at hb;subst hb;exact h c.1
  ·rcases List.mem_append.1 hb with hb | hb
   ·exact C.nz b hb
   ·simp only[List.mem_singleton] at hb;subst hb;exact c.1
theorem Hr (T:Thn w B l) (lb:∀a,L a→B a) (hL:∀a,L a→L (wv w a)∧wv w (wv w a) = wv w a):∀(xs out:List Int),(∀a∈xs,a≠0→L a)→Cur w L out→∃out',Dl l xs out = some out'∧Cur w L out'∧(∀b∈out,b∈out')∧(∀a∈xs,a≠0→wv w a≠0→wv w a∈out')∧∃e,out' = out ++ e:=by
 intro xs;induction xs with
 | nil=>intro out _ C;exact⟨out,rfl,C,λ_ h=>h,λa h=>(by cases h),[],by simp⟩
 | cons x r ih=>
  intro out h C;unfold Dl;rw[T.now λh0=>lb x (h x (by simp) h0)];simp only[Option.bind_eq_bind,z_o];obtain⟨C1,s1,m1,e1,he1⟩:=C.put (a:=if x = 0 then 0 else wv w x) λh0=>by
   by_cases c:x = 0
   ·rw[if_pos c] at h0;exact absurd rfl h0
   ·rw[if_neg c];exact hL x (h x (by simp) c)
  obtain⟨out',e2,C2,s2,m2,e3,he3⟩:=ih _ (λa ha=>h a (by simp[ha])) C1;refine⟨out',e2,C2,λb hb=>s2 b (s1 b hb),λa ha h0 hw=>?_,e1 ++ e3,by rw[he3,he1,List.append_assoc]⟩;rcases List.mem_cons.1 ha with ha | ha
  ·subst ha;rw[if_neg h0] at m1;exact s2 _ (by have:=m1 hw;rw[if_neg h0];exact this)
  ·exact m2 a ha h0 hw
theorem Kx (T:Thn w B l) (lb:∀a,L a→B a) (hL:∀a,L a→L (wv w a)∧wv w (wv w a) = wv w a):∀(ts:List Th) (out:List Int),(∀t∈ts,∀a∈t.A7,a≠0→L a)→Cur w L out→∃out',Db l ts out = some out'∧Cur w L out'∧(∀b∈out,b∈out')∧(∀t∈ts,∀a∈t.A7,a≠0→wv w a≠0→wv w a∈out'):=by
 intro ts;induction ts with
 | nil=>intro out _ C;exact⟨out,rfl,C,λ_ h=>h,λt h=>(by cases h)⟩
 | cons t r ih=>
  intro out h C;unfold Db;obtain⟨o1,e1,C1,s1,m1,_⟩:=Hr T lb hL t.A7 out (h t (by simp)) C;rw[e1];simp only[Option.bind_eq_bind,z_o];obtain⟨o2,e2,C2,s2,m2⟩:=ih o1 (λu hu=>h u (by simp[hu])) C1;refine⟨o2,e2,C2,λb hb=>s2 b (s1 b hb),λu hu a ha h0 hw=>?_⟩;rcases List.mem_cons.1 hu with hu | hu
  ·subst hu;exact s2 _ (m1 a ha h0 hw)
  ·exact m2 u hu a ha h0 hw
theorem QD:∀(ps out:List Int),(∀a∈ps,L a∧wv w a = a)→Cur w L out→Cur w L (ps.foldl DS out)∧(∀b∈out,b∈ps.foldl DS out)∧(∀a∈ps,a≠0→a∈ps.foldl DS out):=by
 intro ps;induction ps with
 | nil=>intro out _ C;exact⟨C,λ_ h=>h,λa h=>(by cases h)⟩
 | cons x r ih=>
  intro out h C;obtain⟨C1,s1,m1,_⟩:=C.put (a:=x) λ_=>h x (by simp)
  obtain⟨C2,s2,m2⟩:=ih _ (λa ha=>h a (by simp[ha])) C1;refine⟨C2,λb hb=>s2 b (s1 b hb),λa ha h0=>?_⟩;rcases List.mem_cons.1 ha with ha | ha
  ·subst ha;exact s2 _ (m1 h0)
  ·exact m2 a ha h0
theorem Lp {w:List Int} {a n v:Int} (h0:0≤a) (h:v∈seg w a n):∃j,0≤j∧j < n∧wv w (a + j) = v:=by
 unfold seg at h;obtain⟨k,hk,e⟩:=List.getElem_of_mem h;simp only[List.length_take,List.length_drop] at hk;refine⟨k,by omega,by omega,?_⟩;rw[← e,List.getElem_take,List.getElem_drop];unfold wv gv;rw[show (a + (k:Int)).toNat = a.toNat + k from by omega,List.getD_eq_getElem?_getD,List.getElem?_eq_getElem (by omega)];rfl
theorem Jh (T:Thn w B l) (lb:∀a,L a→B a) (b16:∀a,B a→16≤a) (hL:∀a,L a→L (wv w a)∧wv w (wv w a) = wv w a) (rf:∀a j,L a→0≤j→j < (shp w a).refs→wv w (a + 2 + j)≠0→L (wv w (a + 2 + j))) :
  ∀(n i:Nat) (out:List Int),Cur w L out→l.length + 2≤i + n→i≤out.length→(∀k (h:k < out.length),k < i→∀v∈(thg w out[k]).refs,v≠0→wv w v≠0→wv w v∈out)→
  ∃out',DL l n i out = some out'∧Cur w L out'∧(∀b∈out,b∈out')∧∀a∈out',∀v∈(thg w a).refs,v≠0→wv w v≠0→wv w v∈out':=by
 intro n;induction n with
 | zero=>
  intro i out C hn hi _;exfalso;have:out.length≤(l.map Am.at_).length:=Ky C.nd λa ha=>List.mem_map.2 ⟨thg w a,T.has a (lb a (C.cu a ha).1),rfl⟩
  rw[List.length_map] at this;omega
 | succ n ih=>
  intro i out C hn hi hcl;unfold DL;by_cases c:i < out.length
  ·rw[List.getElem?_eq_getElem c];have hm:=C.cu out[i] (List.getElem_mem c);simp only[Option.bind_eq_bind];rw[T.find (lb _ hm.1)];simp only[z_o];have h16:=b16 _ (lb _ hm.1);obtain⟨o1,e1,C1,s1,m1,e,he⟩:=Hr T lb hL (thg w out[i]).refs out (λv hv h0=>by
    obtain⟨j,j0,j1,hj⟩:=Lp (by omega) hv
    rw[← hj] at h0 ⊢
    exact rf _ j hm.1 j0 j1 h0) C
   rw[e1];simp only[z_o];have hlen:out.length≤o1.length:=by rw[he];simp
   obtain⟨o2,e2,C2,s2,m2⟩:=ih (i + 1) o1 C1 (by omega) (by omega) λk hk hki v hv h0 hw=>by
    have ek:o1[k] = out[k]'(by omega):=by simp only[he];rw[List.getElem_append_left]
    rw[ek] at hv;by_cases d:k = i
    ·subst d;exact m1 v hv h0 hw
    ·exact s1 _ (hcl k (by omega) (by omega) v hv h0 hw)
   exact⟨o2,e2,C2,λb hb=>s2 b (s1 b hb),m2⟩
  ·rw[List.getElem?_eq_none (by omega)];refine⟨out,rfl,C,λ_ h=>h,λa ha v hv h0 hw=>?_⟩;obtain⟨k,hk,rfl⟩:=List.getElem_of_mem ha;exact hcl k hk (by omega) v hv h0 hw
theorem Oh {s:CL} {L B:Int→Prop} {l:List Am} (T:Thn s.A5 B l) (lb:∀a,L a→B a) (b16:∀a,B a→16≤a) (hL:∀a,L a→L (wv s.A5 a)∧wv s.A5 (wv s.A5 a) = wv s.A5 a) (rf:∀a j,L a→0≤j→j < (shp s.A5 a).refs→wv s.A5 (a + 2 + j)≠0→L (wv s.A5 (a + 2 + j)))
  (ht:∀t∈s.AB,∀a∈t.A7,a≠0→L a) (hp:∀a∈s.AQ,L a∧wv s.A5 a = a) :
  ∃out,Ec s l = some out∧Cur s.A5 L out∧(∀a∈out,∀v∈(thg s.A5 a).refs,v≠0→wv s.A5 v∈out)∧(∀t∈s.AB,∀a∈t.A7,a≠0→wv s.A5 a∈out)∧(∀a∈s.AQ,a∈out):=by
 have nz:∀a,L a→wv s.A5 a≠0:=λa ha=>by have:=b16 _ (lb _ (hL a ha).1);omega
 unfold Ec;obtain⟨o1,e1,C1,s1,m1⟩:=Kx T lb hL s.AB [] ht ⟨by simp,λa h=>(by cases h),λa h=>(by cases h)⟩;rw[e1];simp only[Option.bind_eq_bind,z_o];obtain⟨C2,s2,m2⟩:=QD s.AQ o1 hp C1;obtain⟨o3,e3,C3,s3,m3⟩:=Jh T lb b16 hL rf (l.length + 2) 0 _ C2 (by omega) (by omega) (λk _ h=>by omega);refine⟨o3,e3,C3,λa ha v hv h0=>?_,λt h a ha h0=>s3 _ (s2 _ (m1 t h a ha h0 (nz a (ht t h a ha h0)))),λa ha=>s3 _ (m2 a ha (by have:=b16 a (lb a (hp a ha).1);omega))⟩;have hm:=(C3.cu a ha).1;have h16:=b16 _ (lb _ hm);obtain⟨j,j0,j1,hj⟩:=Lp (by omega) hv;have hv2:=rf _ j hm j0 j1 (by rw[hj];exact h0);rw[hj] at hv2;exact m3 a ha v hv h0 (nz v hv2)
end
end Sm
end
section
namespace Sm
variable {P:List (List Op)}
theorem Mt {l:List Int} {x:Int}:∀k,DI l x k≤k∧(∀j,DI l x k≤j→j < k→x < l.getD j 0)∧(0 < DI l x k→¬ x < l.getD (DI l x k - 1) 0):=by
 intro k;induction k with
 | zero=>exact⟨z_n 0,λj h h'=>by omega,λh=>by simp[DI] at h⟩
 | succ k ih=>
  unfold DI;split
  ·obtain⟨h1,h2,h3⟩:=ih;refine⟨by omega,λj hj hk=>?_,h3⟩;by_cases c:j = k
   ·subst c;assumption
   ·exact h2 j hj (by omega)
  ·exact⟨z_n _,λj h h'=>by omega,λ_=>by rw[Nat.add_sub_cancel];assumption⟩
theorem Q2 {l:List Int} {x:Int} (h:l.Pairwise (· < ·)) (hx:x ∉ l):(Et l x).Pairwise (· < ·)∧∀y,y∈Et l x↔y = x∨y∈l:=by
 obtain⟨h1,h2,h3⟩:=Mt (l:=l) (x:=x) l.length;unfold Et;dsimp only;generalize DI l x l.length = p at h1 h2 h3;have gd:∀j (hj:j < l.length),l.getD j 0 = l[j]:=λj hj=>by rw[List.getD_eq_getElem?_getD,List.getElem?_eq_getElem hj];rfl
 have hpw:=List.pairwise_iff_getElem.1 h;constructor
 ·rw[List.pairwise_append];refine⟨h.sublist (List.take_sublist p l),?_,?_⟩
  ·rw[List.pairwise_cons];refine⟨λy hy=>?_,h.sublist (List.drop_sublist p l)⟩;obtain⟨k,hk,rfl⟩:=List.getElem_of_mem hy;simp only[List.length_drop] at hk;rw[List.getElem_drop,← gd (p + k) (by omega)];exact h2 _ (by omega) (by omega)
  ·intro a ha b hb;obtain⟨i,hi,rfl⟩:=List.getElem_of_mem ha;simp only[List.length_take] at hi;rw[List.getElem_take];have hax:l[i] < x:=by
    have h4:=h3 (by omega);rw[gd (p - 1) (by omega)] at h4;have h5:l[i]≤l[p - 1]'(by omega):=by
     by_cases c:i = p - 1
     ·subst c;exact Int.le_refl _
     ·have:=hpw i (p - 1) (by omega) (by omega) (by omega);omega
    have h6:l[i]≠x:=λc=>hx (c▸List.getElem_mem (by omega))
    omega
   rcases List.mem_cons.1 hb with hb | hb
   ·rw[hb];exact hax
   ·obtain⟨k,hk,rfl⟩:=List.getElem_of_mem hb;simp only[List.length_drop] at hk;rw[List.getElem_drop,← gd (p + k) (by omega)];have:=h2 (p + k) (by omega) (by omega);omega
 ·intro y;have:y∈l↔y∈l.take p∨y∈l.drop p:=by rw[← List.mem_append,List.take_append_drop]
  rw[List.mem_append,List.mem_cons,this];constructor
  ·rintro (h | h | h)
   ·exact .inr (.inl h)
   ·exact .inl h
   ·exact .inr (.inr h)
  ·rintro (h | h | h)
   ·exact .inr (.inl h)
   ·exact .inl h
   ·exact .inr (.inr h)
theorem Nf {l:List Int} (h:l.Nodup):(Cr l).Pairwise (· < ·)∧∀y,y∈Cr l↔y∈l:=by
 have:∀(l acc:List Int),l.Nodup→acc.Pairwise (· < ·)→(∀x∈l,x ∉ acc)→(l.foldl Et acc).Pairwise (· < ·)∧∀y,y∈l.foldl Et acc↔y∈l∨y∈acc:=by
  intro l;induction l with
  | nil=>intro acc _ h _;exact⟨h,λy=>by simp⟩
  | cons x r ih=>
   intro acc hn h hd;rw[List.nodup_cons] at hn;obtain⟨i1,i2⟩:=Q2 h (hd x (by simp));obtain⟨j1,j2⟩:=ih (Et acc x) hn.2 i1 λy hy hm=>by
    rcases (i2 y).1 hm with c | c
    ·subst c;exact hn.1 hy
    ·exact hd y (by simp[hy]) c
   refine⟨j1,λy=>?_⟩;rw[List.foldl_cons,j2 y,i2 y,List.mem_cons];constructor
   ·rintro (h | h | h)
    ·exact .inl (.inr h)
    ·exact .inl (.inl h)
    ·exact .inr h
   ·rintro ((h | h) | h)
    ·exact .inr (.inl h)
    ·exact .inl h
    ·exact .inr (.inr h)
 obtain⟨h1,h2⟩:=this l [] h List.Pairwise.nil (λ_ _ h=>by cases h);exact⟨h1,λy=>by rw[Cr,h2 y];simp⟩
theorem L8 {w:List Int} {a v:Int} (h0:0≤a) (h1:a < w.length):wr w a v = some (AT w a v):=by unfold wr;rw[if_pos ⟨h0,h1⟩]
theorem Nq:∀(vs w:List Int) (a:Int),0≤a→a + vs.length≤w.length→∃w',wrs w a vs = some w'∧w'.length = w.length∧∀x,0≤x→(x < a∨a + vs.length≤x)→wv w' x = wv w x:=by
 intro vs;induction vs with
 | nil=>intro w a _ _;exact⟨w,rfl,rfl,λ_ _ _=>rfl⟩
 | cons v r ih=>
  intro w a h0 h1;simp only[List.length_cons] at h1;unfold wrs;rw[L8 h0 (by omega)];simp only[Option.bind_eq_bind,z_o];obtain⟨w',e,hl,hw⟩:=ih (AT w a v) (a + 1) (by omega) (by simp;omega);refine⟨w',e,by rw[hl];simp,λx x0 hx=>?_⟩;simp only[List.length_cons] at hx;rw[hw x x0 (by omega),Cz h0 (by omega) x0,if_neg (by omega)]
theorem Iq {w:List Int} {a n:Int} (h0:0≤a) (hn:0≤n) (h1:a + n≤w.length):((seg w a n).length:Int) = n:=by
 unfold seg;simp only[List.length_take,List.length_drop];omega
def Hd (w W:List Int) (f:Int→Shp) (b:Int):Prop:=wv w b = b∧wv w (b + 1) = Ag (f b)
theorem Rk (w:List Int) (a:Int):Aw (shp w a) = true:=by
 have:=EC w a;simp[Aw];omega
section
variable {s:CL} {B0:Int→Prop}
theorem Ql (G:Geo s.A5 s.A0 B0):∀(l:List Am) (w:List Int) (t:List Rg),(∀x∈l,B0 x.at_∧x = thg s.A5 x.at_)→w.length = s.A5.length→t.length = s.A0.length→
  ∃w' t',stay s l w t = some (w',t')∧w'.length = s.A5.length∧t'.length = s.A0.length∧
   (∀b,B0 b→Bt s.AQ (b / 16) = true→(thg s.A5 b∈l∨Hd w s.A5 (shp s.A5) b)→Hd w' s.A5 (shp s.A5) b)∧
   (∀b j,B0 b→0≤j→j < (shp s.A5 b).refs→wv w' (b + 2 + j) = wv w (b + 2 + j))∧
   (∀x,0≤x→Bt s.AQ (x / 16) = false→wv w' x = wv w x)∧
   (∀r:Int,0≤r→rv t' r = if Bt s.AQ r = true∧∃x∈l,x.at_ / 16 = r then ⟨3,-1,(rv s.A0 r).top,(rv s.A0 r).top,0⟩ else rv t r):=by
 intro l;induction l with
 | nil=>
  intro w t _ hw ht;refine⟨w,t,rfl,hw,ht,λb _ _ h=>?_,λ_ _ _ _ _=>rfl,λ_ _ _=>rfl,λr _=>by rw[if_neg (by rintro⟨_,x,hx,_⟩;cases hx)]⟩;rcases h with h | h
  ·cases h
  ·exact h
 | cons x l ih=>
  intro w t hx hw ht;obtain⟨hB,he⟩:=hx x (by simp);have hxl:∀y∈l,B0 y.at_∧y = thg s.A5 y.at_:=λy hy=>hx y (by simp[hy])
  obtain⟨g1,g2,g3,g4,g5,g6,g7,g8⟩:=G.inn hB;have sb:=EC s.A5 x.at_;have hsh:x.sh = shp s.A5 x.at_:=by rw[he];rfl
  have hrf:((x.refs.length:Nat):Int) = (shp s.A5 x.at_).refs:=by
   rw[he];exact Iq (by show 0≤x.at_ + 2;omega) (by omega) (by show x.at_ + 2 + (shp s.A5 x.at_).refs≤_;omega)
  have hnm:((x.nums.length:Nat):Int) = (shp s.A5 x.at_).nums:=by
   rw[he];exact Iq (by show 0≤x.at_ + 2 + (shp s.A5 x.at_).refs;omega) (by omega) (by show x.at_ + 2 + (shp s.A5 x.at_).refs + (shp s.A5 x.at_).nums≤_;omega)
  unfold stay;dsimp only;rw[CS (by omega)];by_cases hh:Bt s.AQ (x.at_ / 16) = true
  ·rw[if_pos hh,L8 (by omega) (by omega)];simp only[Option.bind_eq_bind,z_o];rw[L8 (by omega) (by simp;omega)];simp only[z_o];obtain⟨w3,e3,l3,h3⟩:=Nq x.nums (AT (AT w x.at_ x.at_) (x.at_ + 1) (Ag x.sh)) (x.at_ + 2 + x.refs.length) (by omega) (by simp;omega);rw[e3];simp only[z_o];rw[CU (by omega) g3,CU (l:=t) (by omega) (by omega)];simp only[z_o];simp only[Cf] at l3;obtain⟨w',t',e,hl,htl,k1,k2,k3,k4⟩:=ih w3 (AT t (x.at_ / 16) ⟨3,-1,(rv s.A0 (x.at_ / 16)).top,(rv s.A0 (x.at_ / 16)).top,0⟩) hxl (by omega) (by simpa using ht);have w3v:∀y,0≤y→(y < x.at_ + 2 + x.refs.length∨x.at_ + 2 + x.refs.length + x.nums.length≤y)→wv w3 y = if y = x.at_ + 1 then Ag x.sh else if y = x.at_ then x.at_ else wv w y:=λy y0 hy=>by
    rw[h3 y y0 hy,Cz (by omega) (by simp;omega) y0];split
    ·rfl
    ·rw[Cz (by omega) (by omega) y0]
   refine⟨w',t',e,hl,htl,λb hb hbh h=>?_,λb j hb j0 j1=>?_,λy y0 hy=>?_,λr r0=>?_⟩
   ·refine k1 b hb hbh ?_;by_cases c:b = x.at_
    ·right;subst c;refine⟨?_,?_⟩
     ·rw[w3v _ (by omega) (by omega),if_neg (by omega),if_pos rfl]
     ·rw[w3v _ (by omega) (by omega),if_pos rfl,hsh]
    ·rcases h with h | h
     ·rcases List.mem_cons.1 h with h | h
      ·exact absurd (by rw[← h];rfl) c
      ·exact .inl h
     ·right;have gb:=G.inn hb;have s1:∀k,0≤k→k < sz s.A5 x.at_→b≠x.at_ + k:=λk k0 k1 hk=>c (sep G hb hB (k:=0) (l:=k) (by omega) (by omega) k0 k1 (by omega)).1
      have s2:∀k,0≤k→k < sz s.A5 x.at_→b + 1≠x.at_ + k:=λk k0 k1 hk=>c (sep G hb hB (k:=1) (l:=k) (by omega) (by omega) k0 k1 (by omega)).1
      refine⟨?_,?_⟩
      ·rw[w3v b (by omega) (by
        have:=s1 (b - x.at_)
        omega),if_neg (by have:=s1 1 (by omega) (by omega);omega),if_neg c]
       exact h.1
      ·rw[w3v (b + 1) (by omega) (by
        have:=s2 (b + 1 - x.at_)
        omega),if_neg (by omega),if_neg (by have:=s2 0 (by omega) (by omega);omega)]
       exact h.2
   ·rw[k2 b j hb j0 j1];have gb:=G.inn hb;have sbb:=EC s.A5 b;have s1:∀k,0≤k→k < sz s.A5 x.at_→b + 2 + j = x.at_ + k→b = x.at_∧2 + j = k:=λk k0 k1 hk=>sep G hb hB (k:=2 + j) (l:=k) (by omega) (by omega) k0 k1 (by omega)
    rw[w3v _ (by omega) ?_,if_neg ?_,if_neg ?_]
    ·intro h;have:=s1 0 (by omega) (by omega) (by omega);omega
    ·intro h;have:=s1 1 (by omega) (by omega) (by omega);omega
    ·by_cases c:x.at_ + 2 + x.refs.length≤b + 2 + j∧b + 2 + j < x.at_ + 2 + x.refs.length + x.nums.length
     ·exfalso;have:=s1 (b + 2 + j - x.at_) (by omega) (by omega) (by omega);have e1:=this.1;subst e1;omega
     ·omega
   ·rw[k3 y y0 hy];have hne:y / 16≠x.at_ / 16:=λc=>by rw[c,hh] at hy;cases hy
    rw[w3v y y0 (by omega),if_neg (by omega),if_neg (by omega)]
   ·rw[k4 r r0,DD (by omega) (by omega) r0];by_cases c:r = x.at_ / 16
    ·subst c;rw[if_pos rfl,if_pos (show Bt s.AQ (x.at_ / 16) = true∧∃y∈x :: l,y.at_ / 16 = x.at_ / 16 from ⟨hh,x,List.mem_cons_self,rfl⟩)];split<;>rfl
    ·rw[if_neg c];by_cases d:Bt s.AQ r = true∧∃y∈l,y.at_ / 16 = r
     ·rw[if_pos d,if_pos ⟨d.1,by obtain⟨y,hy,hr⟩:=d.2;exact⟨y,by simp[hy],hr⟩⟩]
     ·rw[if_neg d,if_neg (by
       rintro⟨d1,y,hy,hr⟩
       rcases List.mem_cons.1 hy with hy | hy
       ·subst hy;exact c hr.symm
       ·exact d ⟨d1,y,hy,hr⟩)]
  ·rw[if_neg hh];obtain⟨w',t',e,hl,htl,k1,k2,k3,k4⟩:=ih w t hxl hw ht;refine⟨w',t',e,hl,htl,λb hb hbh h=>k1 b hb hbh ?_,k2,k3,λr r0=>?_⟩
   ·rcases h with h | h
    ·rcases List.mem_cons.1 h with h | h
     ·exfalso;have:b = x.at_:=by rw[← h];rfl
      subst this;exact hh hbh
     ·exact .inl h
    ·exact .inr h
   ·rw[k4 r r0];by_cases d:Bt s.AQ r = true∧∃y∈l,y.at_ / 16 = r
    ·rw[if_pos d,if_pos ⟨d.1,by obtain⟨y,hy,hr⟩:=d.2;exact⟨y,by simp[hy],hr⟩⟩]
    ·rw[if_neg d,if_neg (by
      rintro⟨d1,y,hy,hr⟩
      rcases List.mem_cons.1 hy with hy | hy
      ·subst hy;rw[hr] at hh;exact hh d1
      ·exact d ⟨d1,y,hy,hr⟩)]
end
end Sm
end
section
namespace Sm
variable {P:List (List Op)}
structure MK (f:Int→Shp) (t:List Rg) (B:Int→Prop):Prop where
 ok:TOk t
 at_:∀a,B a→16≤a∧a + AC (f a)≤(rv t (a / 16)).top∧Aw (f a) = true
 nx:∀a,B a→a + AC (f a) = (rv t (a / 16)).top∨B (a + AC (f a))
 bs:∀r:Int,1≤r→r < t.length→(rv t r).top = 16 * r∨B (16 * r)
 dj:∀a b,B a→B b→a < b→a + AC (f a)≤b
theorem EZ {s:Shp} (h:Aw s = true):2≤AC s∧AC s≤10∧AC s = 2 + s.refs + s.nums∧0≤s.refs∧0≤s.nums:=by
 have hb:=h;simp only[Aw,z_b,z_d] at hb;rw[JD (by omega)];omega
theorem MK.inn {f:Int→Shp} {t:List Rg} {B:Int→Prop} (G:MK f t B) {a:Int} (h:B a):16≤a∧1≤a / 16∧a / 16 < t.length∧a + AC (f a)≤(rv t (a / 16)).top∧(rv t (a / 16)).top≤16 * (a / 16) + 16∧2≤AC (f a)∧AC (f a)≤10∧a + AC (f a)≤16 * t.length:=by
 obtain⟨h1,h2,h3⟩:=G.at_ a h;have hs:=EZ h3;by_cases c:a / 16 < t.length
 ·have:=(G.ok.row (a / 16) (by omega) c).t1;exact⟨h1,by omega,c,h2,this,by omega,by omega,by omega⟩
 ·rw[Cw (by omega) (by omega)] at h2;simp only[Cs] at h2;omega
theorem MK.add {f:Int→Shp} {t:List Rg} {B:Int→Prop} (G:MK f t B) {r d:Int} {sh:Shp} (r0:1≤r) (r1:r < t.length) (hd:(rv t r).top = d) (ho:(rv t r).AK = -1) (hs:Aw sh = true) (fit:d + AC sh≤16 * r + 16) :
  MK (λx=>if x = d then sh else f x) (AT t r { rv t r with kind:=3,top:=d + AC sh,Ah:=d + AC sh }) (λb=>B b∨b = d)∧¬ B d∧d / 16 = r:=by
 have R:=G.ok.row r r0 r1;have t0:=R.t0;have n:=EZ hs;have ed:d / 16 = r:=by omega
 have nb:∀b,B b→b / 16 = r→b + AC (f b)≤d:=λb hb hr=>by
  have:=(G.at_ b hb).2.1;rw[hr,hd] at this;exact this
 have nd:¬ B d:=λh=>by
  have h1:=nb d h ed;have h2:=EZ (G.at_ d h).2.2;omega
 have fb:∀b,B b→(if b = d then sh else f b) = f b:=λb hb=>if_neg (show ¬ b = d from λc=>nd (c▸hb))
 have e:∀q,0≤q→(rv (AT t r { rv t r with kind:=3,top:=d + AC sh,Ah:=d + AC sh }) q).top = if q = r then d + AC sh else (rv t q).top:=λq q0=>by
  rw[DD (by omega) r1 q0];split
  ·rfl
  ·rfl
 refine⟨⟨?_,?_,?_,?_,?_⟩,nd,ed⟩
 ·refine TOk.set G.ok r0 r1 ⟨by simp,by simp,?_,fit,?_,Int.le_refl _,R.l0,?_,λh=>by simp at h,by simp[ho],R.o0,R.o1⟩ λs _ _ _ h=>by simp[ho] at h
  ·show 16 * r≤d + AC sh;omega
  ·show 16 * r≤d + AC sh;omega
  ·have:=R.l1;show (rv t r).AF≤d + AC sh - 16 * r;omega
 ·rintro b (hb | hb)
  ·obtain⟨a1,a2,a3⟩:=G.at_ b hb;simp only[fb b hb];refine⟨a1,?_,a3⟩;rw[e _ (by omega)];split
   ·have:=nb b hb (by assumption);omega
   ·exact a2
  ·subst hb;simp only[if_true];refine⟨by omega,?_,hs⟩;rw[e _ (by omega),if_pos ed];omega
 ·rintro b (hb | hb)
  ·have a1:=(G.at_ b hb).1;simp only[fb b hb];rw[e _ (by omega)];rcases G.nx b hb with c | c
   ·split
    ·rename_i c2;rw[c2,hd] at c;exact .inr (.inr c)
    ·exact .inl c
   ·exact .inr (.inl c)
  ·subst hb;left;simp only[if_true];rw[e _ (by omega),if_pos ed]
 ·intro q q0 q1;simp only[Cf] at q1;rw[e q (by omega)];rcases G.bs q q0 q1 with c | c
  ·split
   ·rename_i c2;subst c2;right;right;omega
   ·exact .inl c
  ·exact .inr (.inl c)
 ·rintro a b (ha | ha) (hb | hb) hab
  ·simp only[fb a ha];exact G.dj a b ha hb hab
  ·subst hb;simp only[fb a ha];by_cases c:a / 16 = r
   ·exact nb a ha c
   ·have:=G.inn ha;omega
  ·subst ha;simp only[if_true];by_cases c:b / 16 = r
   ·have h1:=nb b hb c;have h2:=EZ (G.at_ b hb).2.2;omega
   ·omega
  ·omega
theorem OK {AQ:List Int} {t:List Rg} {size R:Int} (T:TOk t) (s0:2≤size) (s1:size≤10) (hR:Bt AQ R = false) (R1:R < t.length) (fit:(rv t R).top + size≤16 * R + 16):∀(n:Nat) (r:Int),1≤r→r≤R→R - r < n→
  ∃r',G5 AQ t size n r = some r'∧r≤r'∧r'≤R∧Bt AQ r' = false∧(rv t r').top + size≤16 * r' + 16:=by
 have n1:=T.n1;intro n;induction n with
 | zero=>intro r _ _ h;omega
 | succ n ih=>
  intro r r0 r1 hn;unfold G5;have RR:=T.row r r0 (by omega);have t0:=RR.t0;have t1:=RR.t1;by_cases hh:Bt AQ r = true
  ·rw[if_pos hh];have:r≠R:=λc=>by rw[c,hR] at hh;cases hh
   obtain⟨r',e,h1,h2,h3⟩:=ih (r + 1) (by omega) (by omega) (by omega);exact⟨r',e,by omega,h2,h3⟩
  ·rw[if_neg hh,CU (by omega) (by omega)];simp only[Option.bind_eq_bind,z_o];rw[BE (by omega) (by omega),CZ (by omega) (by omega)];simp only[z_o];by_cases c:16 * r + 16 < (rv t r).top + size
   ·rw[if_pos c];have:r≠R:=λc2=>by rw[c2] at c;omega
    obtain⟨r',e,h1,h2,h3⟩:=ih (r + 1) (by omega) (by omega) (by omega);exact⟨r',e,by omega,h2,h3⟩
   ·rw[if_neg c];exact⟨r,rfl,Int.le_refl r,r1,by simpa using hh,by omega⟩
theorem Od {AQ:List Int} {l:List Am} {W:List Int} {T0:List Rg} {B0:Int→Prop} (T:Thn W B0 l) (G0:Geo W T0 B0):∀(la:List Int) (t:List Rg) (r:Int) (to:List Int) (f:Int→Shp) (B:Int→Prop),
  (∀a∈la,B0 a)→la.Pairwise (· < ·)→MK f t B→t.length = T0.length→1≤r→(∀q:Int,1≤q→q < t.length→(rv t q).AK = -1)→(∀q:Int,0≤q→(rv t q).kind≠4)→(∀q:Int,r < q→q < t.length→Bt AQ q = false→(rv t q).top = 16 * q)→
  (∀a∈la,Bt AQ (a / 16) = false→r≤a / 16∧(r = a / 16→(rv t r).top≤a))→(∀a∈la,Bt AQ (a / 16) = true→B a∧f a = shp W a)→
  ∃t' to' f' B',slide AQ l la t r to = some (t',to ++ to')∧to'.length = la.length∧MK f' t' B'∧t'.length = t.length∧(∀q:Int,0≤q→(rv t' q).kind≠4)∧(∀b,B b→B' b∧f' b = f b)∧(∀b,B' b→B b∨(b∈to'∧Bt AQ (b / 16) = false))∧
   (∀p∈la.zip to',B' p.2∧f' p.2 = shp W p.1∧(Bt AQ (p.1 / 16) = true→p.2 = p.1)):=by
 intro la;induction la with
 | nil=>
  intro t r to f B _ _ G _ _ _ nf _ _ _;exact⟨t,[],f,B,by simp[slide],rfl,G,rfl,nf,λb h=>⟨h,rfl⟩,λb h=>.inl h,λp h=>(by simp at h)⟩
 | cons a la ih=>
  intro t r to f B hB hpw G hl r0 ho nf h1 h3 h4;rw[List.pairwise_cons] at hpw;have hBa:=hB a (by simp);obtain⟨g1,g2,g3,g4,g5,g6,g7,g8⟩:=G0.inn hBa;have n1:=G.ok.n1;unfold slide;rw[T.find hBa];simp only[Option.bind_eq_bind,z_o];have es:AC (thg W a).sh = sz W a:=rfl;rw[es,CS (by omega)];cases hh:Bt AQ (a / 16) with
  | true=>
   rw[if_pos rfl];obtain⟨hb,hf⟩:=h4 a (by simp) hh;obtain⟨t',to',f',B',e,k1,k2,k3,k4,k5,k6,k7⟩:=ih t r (to ++ [a]) f B (λb hb=>hB b (by simp[hb])) hpw.2 G hl r0 ho nf h1 (λb hb=>h3 b (by simp[hb])) (λb hb=>h4 b (by simp[hb]));refine⟨t',a :: to',f',B',by rw[e];simp,by simp[k1],k2,k3,k4,k5,λb hb=>?_,λp hp=>?_⟩
   ·rcases k6 b hb with h | h
    ·exact .inl h
    ·exact .inr ⟨by simp[h.1],h.2⟩
   ·rw[List.zip_cons_cons] at hp;rcases List.mem_cons.1 hp with hp | hp
    ·subst hp;exact⟨(k5 a hb).1,by rw[(k5 a hb).2,hf],λ_=>rfl⟩
    ·exact k7 p hp
  | false=>
   rw[if_neg (by decide)];obtain⟨q1,q2⟩:=h3 a (by simp) hh;have fitR:(rv t (a / 16)).top + sz W a≤16 * (a / 16) + 16:=by
    by_cases c:r = a / 16
    ·have:=q2 c;rw[← c];rw[← c] at g4 g5;omega
    ·have:=h1 (a / 16) (by omega) (by omega) hh;omega
   obtain⟨r',e1,p1,p2,p3,p4⟩:=OK (size:=sz W a) G.ok (by omega) (by omega) hh (by omega) fitR (t.length + 2) r r0 q1 (by omega);rw[e1];simp only[z_o];have R:=G.ok.row r' (by omega) (by omega);have t0:=R.t0;rw[CU (by omega) (by omega)];simp only[z_o];rw[BE (by omega) (by omega)];simp only[z_o];have hsz:AC (shp W a) = sz W a:=rfl;obtain⟨G2,nd,ed⟩:=G.add (r:=r') (sh:=shp W a) (by omega) (by omega) rfl (ho r' (by omega) (by omega)) (Rk W a) (by rw[hsz];exact p4);rw[hsz] at G2;have tle:(rv t r').top≤a∨r' < a / 16:=by
    by_cases c:r' = a / 16
    ·left;by_cases c2:r = r'
     ·subst c2;exact q2 c
     ·have:=h1 r' (by omega) (by omega) p3;omega
    ·right;omega
   have et:∀q,0≤q→rv (AT t r' { rv t r' with kind:=3,top:=(rv t r').top + sz W a,Ah:=(rv t r').top + sz W a }) q = if q = r' then { rv t r' with kind:=3,top:=(rv t r').top + sz W a,Ah:=(rv t r').top + sz W a } else rv t q:=λq q0=>DD (by omega) (by omega) q0
   obtain⟨t',to',f',B',e,k1,k2,k3,k4,k5,k6,k7⟩:=ih _ r' (to ++ [(rv t r').top]) _ _ (λb hb=>hB b (by simp[hb])) hpw.2 G2 (by simpa using hl) (by omega) (λq q0 q1=>by
     rw[et q (by omega)];split
     ·exact ho r' (by omega) (by omega)
     ·exact ho q q0 (by simpa using q1)) (λq q0=>by
     rw[et q q0];split
     ·simp
     ·exact nf q q0) (λq q0 q1 hq=>by
     rw[et q (by omega),if_neg (by omega)]
     exact h1 q (by omega) (by simpa using q1) hq) (λb hb hbh=>by
     have hBb:=hB b (by simp[hb])
     have hab:=hpw.1 b hb
     have hdj:=G0.dj a b hBa hBb hab
     refine⟨by omega,λhr=>?_⟩
     rw[et r' (by omega),if_pos rfl]
     show (rv t r').top + sz W a≤b
     rcases tle with h | h
     ·omega
     ·omega) (λb hb hbh=>by
     obtain⟨c1,c2⟩:=h4 b (by simp[hb]) hbh
     refine⟨.inl c1,?_⟩
     have:b≠(rv t r').top:=λc=>nd (c▸c1)
     simp only[if_neg this];exact c2)
   refine⟨t',(rv t r').top :: to',f',B',by rw[e];simp,by simp[k1],k2,by rw[k3];simp,k4,λb hb=>?_,λb hb=>?_,λp hp=>?_⟩
   ·obtain⟨c1,c2⟩:=k5 b (.inl hb);refine⟨c1,?_⟩;have:b≠(rv t r').top:=λc=>nd (c▸hb)
    rw[c2];simp only[if_neg this]
   ·rcases k6 b hb with (h | h) | h
    ·exact .inl h
    ·exact .inr ⟨by simp[h],by rw[h,ed];exact p3⟩
    ·exact .inr ⟨by simp[h.1],h.2⟩
   ·rw[List.zip_cons_cons] at hp;rcases List.mem_cons.1 hp with hp | hp
    ·subst hp;obtain⟨c1,c2⟩:=k5 (rv t r').top (.inr rfl);refine⟨c1,by rw[c2];simp,λh=>by rw[hh] at h;cases h⟩
    ·exact k7 p hp
theorem Dj {l:List Int} {n:Int}:(n∈l→0≤Bf l n∧Bf l n < l.length)∧(n ∉ l→Bf l n = -1):=by
 unfold Bf;constructor
 ·intro h;rw[if_pos h];have:=List.idxOf_lt_length_of_mem h;omega
 ·intro h;rw[if_neg h]
theorem OZ {l:List Am} {AF to:List Int} (hlen:to.length = AF.length):∀(vs w:List Int) (a:Int),(∀v∈vs,∃u,now l v = some u)→0≤a→a + vs.length≤w.length→
  ∃w',Ft l AF to w a vs = some w'∧w'.length = w.length∧(∀x,0≤x→(x < a∨a + vs.length≤x)→wv w' x = wv w x)∧(∀x,a≤x→x < a + vs.length→wv w' x = wv w x∨wv w' x∈to):=by
 intro vs;induction vs with
 | nil=>intro w a _ _ _;exact⟨w,rfl,rfl,λ_ _ _=>rfl,λx h h'=>by simp at h';omega⟩
 | cons v r ih=>
  intro w a hv h0 h1;simp only[List.length_cons] at h1;obtain⟨u,hu⟩:=hv v (by simp);unfold Ft;rw[hu];simp only[Option.bind_eq_bind,z_o];have step:∀w1:List Int,w1.length = w.length→(∀x,0≤x→x≠a→wv w1 x = wv w x)→(wv w1 a = wv w a∨wv w1 a∈to)→∃w',Ft l AF to w1 (a + 1) r = some w'∧w'.length = w.length∧(∀x,0≤x→(x < a∨a + (v :: r).length≤x)→wv w' x = wv w x)∧(∀x,a≤x→x < a + (v :: r).length→wv w' x = wv w x∨wv w' x∈to):=λw1 hl1 e1 e2=>by
   obtain⟨w',e,hl,k1,k2⟩:=ih w1 (a + 1) (λu hu=>hv u (by simp[hu])) (by omega) (by omega);refine⟨w',e,by omega,λx x0 hx=>?_,λx x0 hx=>?_⟩
   ·simp only[List.length_cons] at hx;rw[k1 x x0 (by omega),e1 x x0 (by omega)]
   ·simp only[List.length_cons] at hx;by_cases c:x = a
    ·subst c;rw[k1 x h0 (by omega)];exact e2
    ·rcases k2 x (by omega) (by omega) with h | h
     ·left;rw[h,e1 x (by omega) c]
     ·exact .inr h
  by_cases c:0≤Bf AF u
  ·rw[if_pos c];have hm:u∈AF:=Classical.byContradiction λh=>by have:=Dj.2 h;omega
   have hp:=(Dj (l:=AF)).1 hm;obtain⟨d,hd,hdm⟩:=ET (l:=to) (i:=Bf AF u) ⟨hp.1,by rw[hlen];exact hp.2⟩;rw[hd];simp only[z_o];rw[L8 h0 (by omega)];simp only[z_o];refine step _ (by simp) (λx x0 hx=>by rw[Cz h0 (by omega) x0,if_neg hx]) (.inr ?_);rw[Cz h0 (by omega) h0,if_pos rfl];exact hdm
  ·rw[if_neg c];simp only[z_o];exact step w rfl (λ_ _ _=>rfl) (.inl rfl)
end Sm
end
section
namespace Sm
variable {P:List (List Op)}
theorem OH {l:List Am} {AF to W:List Int} {T0 t' : List Rg} {B0 B' : Int→Prop} {f:Int→Shp} (T:Thn W B0 l) (G0:Geo W T0 B0) (G:MK f t' B') (hlen:to.length = AF.length):∀(la ld w:List Int),la.length = ld.length→
  (∀p∈la.zip ld,B' p.2∧f p.2 = shp W p.1∧B0 p.1∧∀v∈(thg W p.1).refs,∃u,now l v = some u)→(w.length:Int) = 16 * t'.length→(∀b j,B' b→0≤j→j < (f b).refs→wv w (b + 2 + j) = 0∨wv w (b + 2 + j)∈to)→
  ∃w',Ez l AF to la ld w = some w'∧w'.length = w.length∧(∀b j,B' b→0≤j→j < (f b).refs→wv w' (b + 2 + j) = 0∨wv w' (b + 2 + j)∈to)∧(∀b,B' b→Hd w W f b→Hd w' W f b)∧(∀d∈ld,Hd w' W f d):=by
 intro la;induction la with
 | nil=>
  intro ld w hl _ _ rf;cases ld with
  | nil=>exact⟨w,rfl,rfl,rf,λ_ _ h=>h,λd h=>(by cases h)⟩
  | cons _ _=>simp at hl
 | cons a la ih=>
  intro ld w hl hp wl rf;cases ld with
  | nil=>simp at hl
  | cons d ld=>
   rw[List.zip_cons_cons] at hp;obtain⟨hB,hf,hB0,hv⟩:=hp (a,d) (by simp);simp only at hB hf hB0 hv;obtain⟨g1,g2,g3,g4,g5,g6,g7,g8⟩:=G.inn hB;have o1:=EZ (G.at_ d hB).2.2;have i0:=G0.inn hB0;have sb:=EC W a;have hrl:(((thg W a).refs.length:Nat):Int) = (f d).refs:=by
    rw[hf];exact Iq (by omega) (by omega) (by omega)
   have hnl:(((thg W a).nums.length:Nat):Int) = (f d).nums:=by
    rw[hf];exact Iq (by omega) (by omega) (by omega)
   unfold Ez;rw[T.find hB0];simp only[Option.bind_eq_bind,z_o];rw[L8 (by omega) (by omega)];simp only[z_o];rw[L8 (by omega) (by simp;omega)];simp only[z_o];have esh:(thg W a).sh = f d:=by rw[hf];rfl
   rw[esh];obtain⟨w3,e3,l3,k3,m3⟩:=OZ (l:=l) (AF:=AF) hlen (thg W a).refs (AT (AT w d d) (d + 1) (Ag (f d))) (d + 2) hv (by omega) (by simp;omega);rw[e3];simp only[z_o];simp only[Cf] at l3;obtain⟨w4,e4,l4,k4⟩:=Nq (thg W a).nums w3 (d + 2 + (thg W a).refs.length) (by omega) (by omega);rw[e4];simp only[z_o];have v2:∀x,0≤x→wv (AT (AT w d d) (d + 1) (Ag (f d))) x = if x = d + 1 then Ag (f d) else if x = d then d else wv w x:=λx x0=>by
    rw[Cz (by omega) (by simp;omega) x0];split
    ·rfl
    ·rw[Cz (by omega) (by omega) x0]
   have out:∀x,0≤x→(x < d∨d + AC (f d)≤x)→wv w4 x = wv w x:=λx x0 hx=>by
    rw[k4 x x0 (by omega),k3 x x0 (by omega),v2 x x0,if_neg (by omega),if_neg (by omega)]
   have hd:Hd w4 W f d:=by
    refine⟨?_,?_⟩
    ·rw[k4 d (by omega) (by omega),k3 d (by omega) (by omega),v2 d (by omega),if_neg (by omega),if_pos rfl]
    ·rw[k4 _ (by omega) (by omega),k3 _ (by omega) (by omega),v2 _ (by omega),if_pos rfl]
   have apart:∀b k,B' b→b≠d→0≤k→k < AC (f b)→b + k < d∨d + AC (f d)≤b + k:=λb k hb hne k0 k1=>by
    rcases Int.lt_trichotomy b d with h | h | h
    ·have:=G.dj b d hb hB h;omega
    ·exact absurd h hne
    ·have:=G.dj d b hB hb h;omega
   have rf4:∀b j,B' b→0≤j→j < (f b).refs→wv w4 (b + 2 + j) = 0∨wv w4 (b + 2 + j)∈to:=λb j hb j0 j1=>by
    have gb:=G.inn hb;have ob:=EZ (G.at_ b hb).2.2;by_cases c:b = d
    ·subst c;rw[k4 _ (by omega) (by omega)];rcases m3 (b + 2 + j) (by omega) (by omega) with h | h
     ·rw[h,v2 _ (by omega),if_neg (by omega),if_neg (by omega)];exact rf b j hb j0 j1
     ·exact .inr h
    ·have:=apart b (2 + j) hb c (by omega) (by omega);rw[out _ (by omega) (by omega)];exact rf b j hb j0 j1
   obtain⟨w',e,hl',q1,q2,q3⟩:=ih ld w4 (by simpa using hl) (λp hp'=>hp p (by simp[hp'])) (by omega) rf4;refine⟨w',e,by omega,q1,λb hb h=>q2 b hb ?_,λb hb=>?_⟩
   ·by_cases c:b = d
    ·subst c;exact hd
    ·have gb:=G.inn hb;have a0:=apart b 0 hb c (by omega) (by omega);have a1:=apart b 1 hb c (by omega) (by omega);refine⟨?_,?_⟩
     ·rw[out b (by omega) (by omega)];exact h.1
     ·rw[out _ (by omega) (by omega)];exact h.2
   ·rcases List.mem_cons.1 hb with h | h
    ·subst h;exact q2 b hB hd
    ·exact q3 b h
theorem Kh {l:List Am} {AF to:List Int} (hlen:to.length = AF.length):∀(xs:List Int),(∀a∈xs,∃u,now l a = some u)→∃ys,Cm l AF to xs = some ys∧ys.length = xs.length∧∀y∈ys,y = 0∨y∈to:=by
 intro xs;induction xs with
 | nil=>intro _;exact⟨[],rfl,rfl,λy h=>(by cases h)⟩
 | cons a r ih=>
  intro h;obtain⟨u,hu⟩:=h a (by simp);obtain⟨ys,e,hl,hm⟩:=ih λb hb=>h b (by simp[hb])
  unfold Cm;rw[hu,e];simp only[Option.bind_eq_bind,z_o];by_cases c:Bf AF u < 0
  ·rw[if_pos c];refine⟨_,rfl,by simp[hl],λy hy=>?_⟩;rcases List.mem_cons.1 hy with hy | hy
   ·exact .inl hy
   ·exact hm y hy
  ·rw[if_neg c];have hmem:u∈AF:=Classical.byContradiction λh=>by have:=Dj.2 h;omega
   have hp:=(Dj (l:=AF)).1 hmem;obtain⟨d,hd,hdm⟩:=ET (l:=to) (i:=Bf AF u) ⟨hp.1,by rw[hlen];exact hp.2⟩;rw[hd];refine⟨_,rfl,by simp[hl],λy hy=>?_⟩;rcases List.mem_cons.1 hy with hy | hy
   ·subst hy;exact .inr hdm
   ·exact hm y hy
theorem N7 {l:List Am} {AF to:List Int} (hlen:to.length = AF.length):∀(ts:List Th),(∀t∈ts,∀a∈t.A7,∃u,now l a = some u)→∃ys,DH l AF to ts = some ys∧ys.length = ts.length∧∀y∈ys,∃t∈ts,y.next = t.next∧y.A7.length = t.A7.length∧∀a∈y.A7,a = 0∨a∈to:=by
 intro ts;induction ts with
 | nil=>intro _;exact⟨[],rfl,rfl,λy h=>(by cases h)⟩
 | cons t r ih=>
  intro h;obtain⟨rs,e1,l1,m1⟩:=Kh (l:=l) hlen t.A7 (h t (by simp));obtain⟨ys,e,hl,hm⟩:=ih λb hb=>h b (by simp[hb])
  unfold DH;rw[e1,e];simp only[Option.bind_eq_bind,z_o];refine⟨_,rfl,by simp[hl],λy hy=>?_⟩;rcases List.mem_cons.1 hy with hy | hy
  ·subst hy;exact⟨t,by simp,rfl,l1,m1⟩
  ·obtain⟨u,hu,h2⟩:=hm y hy;exact⟨u,by simp[hu],h2⟩
theorem Fa {n:Int} (h0:2≤n) (h1:n≤12):((AN n).length:Int) = n∧rv (AN n) 0 = Cs∧∀r:Int,1≤r→r < n→rv (AN n) r = DC r:=by
 unfold AN;rw[if_neg (by omega)];refine⟨by simp;omega,rfl,λr r0 r1=>?_⟩;obtain⟨k,rfl⟩:∃k:Nat,r = ((k + 1:Nat):Int):=⟨r.toNat - 1,by omega⟩;rw[rv,ES (by simp;omega)];simp
theorem Ss {α β:Type} {la:List α} {lb:List β} (h:la.length = lb.length) {b:β} (hb:b∈lb):∃a,(a,b)∈la.zip lb:=by
 obtain⟨i,hi,rfl⟩:=List.getElem_of_mem hb;exact⟨la[i],by rw[List.mem_iff_getElem];exact⟨i,by simp;omega,by simp⟩⟩
theorem TZ {α β:Type} {la:List α} {lb:List β} (h:la.length = lb.length) {a:α} (ha:a∈la):∃b,(a,b)∈la.zip lb:=by
 obtain⟨i,hi,rfl⟩:=List.getElem_of_mem ha;exact⟨lb[i],by rw[List.mem_iff_getElem];exact⟨i,by simp;omega,by simp⟩⟩
def Sim.fulled (S:Sim) (s:CL):Sim:=
 { S with A5:=s.A5,A0:=s.A0,AO:=s.AO,Aa:=s.Aa,stop:=s.stop,full:=s.full,old:=s.old,AQ:=s.AQ,Ap:=s.Ap,BQ:=s.BQ,col:=CB s.Ad 0,th:=s.AB.map λt=>thr0 t.A7 t.next t.BC }
section
variable {c:Nat} {S:Sim} {g:Gh}
theorem Su (hc:c < 900000) (I:IG P S g) (B:Bd c S) (hcm:S.calm = true):∃s g',Fm S.view = some s∧IG P (S.fulled s) g'∧Bd (c + 1) (S.fulled s):=by
 have st:=I.still hcm;have H:=I.sh;have G:Geo S.A5 S.A0 g.B:=H.g;have To:=G.ok;have n0:=To.n0;have n1:=To.n1;have len:=G.len;obtain⟨l,e1,T⟩:=Qk (s:=S.view) G;have T:Thn S.A5 g.B l:=T;have hLn:∀a,g.L a→g.L (wv S.A5 a)∧wv S.A5 (wv S.A5 a) = wv S.A5 a:=λa ha=>by
  by_cases h:wv S.A5 a = a
  ·rw[h];exact⟨ha,h⟩
  ·have hf:BF S.A0 a:=Classical.byContradiction λhn=>h (H.st a (H.lb a ha) hn)
   obtain⟨f1,f2,_⟩:g.L (wv S.A5 a)∧¬ BF S.A0 (wv S.A5 a)∧_:=H.fw a (H.lb a ha) hf h;exact⟨f1,H.st _ (H.lb _ f1) f2⟩
 have b16:∀a,g.B a→16≤a:=λa h=>(G.at_ a h).1
 have pinW:∀a∈S.AQ,g.L a∧wv S.A5 a = a:=λa h=>⟨(H.pl a h).1,H.st a (H.lb a (H.pl a h).1) (H.pl a h).2⟩
 have thv:∀t∈S.view.AB,∀a∈t.A7,a≠0→g.L a:=λt h a ha h0=>by
  obtain⟨u,hu,rfl⟩:=List.mem_map.1 (show t∈S.th.map λt=>(⟨t.A7,t.next,t.pc != 0,t.BC⟩:Th) from h);exact (st u hu).rt a ha h0
 obtain⟨out,e2,C,cl,rt,pn⟩:=Oh (s:=S.view) T H.lb b16 hLn H.rf thv pinW;obtain⟨sp,sm⟩:=Nf C.nd;have hlive:∀a∈Cr out,g.L a∧wv S.A5 a = a:=λa h=>C.cu a ((sm a).1 h)
 obtain⟨tn0,tn1,tn2⟩:=Fa (n:=S.A0.length) (by omega) (by omega);have nowS:∀v,(v≠0→g.L v)→∃u,now l v = some u:=λv h=>⟨_,T.now λh0=>H.lb v (h h0)⟩
 obtain⟨w1,t1,e3,l1,tl1,s1,s2,s3,s4⟩:=Ql (s:=S.view) (B0:=g.B) G l (List.replicate S.A5.length 0) (AN S.A0.length) T.all (by simp[Sim.view]) (by show (AN S.A0.length).length = S.A0.length;omega);have l1:w1.length = S.A5.length:=l1;have tl1:t1.length = S.A0.length:=tl1;have z0:∀x,wv (List.replicate S.A5.length 0) x = 0:=λx=>by
  unfold wv gv;rw[List.getD_eq_getElem?_getD,List.getElem?_replicate];split<;>rfl
 have t1r:∀r:Int,1≤r→r < S.A0.length→(rv t1 r = ⟨3,-1,(rv S.A0 r).top,(rv S.A0 r).top,0⟩∧Bt S.AQ r = true∧∃x,g.B x∧x / 16 = r)∨(rv t1 r = ⟨1,-1,16 * r,16 * r,0⟩∧(Bt S.AQ r = true→∀x,g.B x→x / 16≠r)):=λr r0 r1=>by
  rw[s4 r (by omega)];by_cases h:Bt S.view.AQ r = true∧∃x∈l,x.at_ / 16 = r
  ·left;rw[if_pos h];obtain⟨h1,x,hx,hr⟩:=h;exact⟨rfl,h1,x.at_,(T.all x hx).1,hr⟩
  ·right;rw[if_neg h,tn2 r r0 r1,(Cx r0 (by omega)).2];exact⟨rfl,λh1 x hx hr=>h ⟨h1,thg S.A5 x,T.has x hx,hr⟩⟩
 have To1:TOk t1:=by
  refine⟨by omega,by omega,?_,λr r0 r1=>?_,λr q r0 r1 q0 q1 ho _=>?_⟩
  ·rw[s4 0 (by omega),if_neg,tn1];rintro⟨_,x,hx,h⟩;have:=b16 _ (T.all x hx).1;omega
  ·have R:=To.row r r0 (by omega);rcases t1r r r0 (by omega) with ⟨h,_⟩ | ⟨h,_⟩
   ·rw[h];exact⟨by simp,by simp,R.t0,R.t1,R.t0,Int.le_refl _,Int.le_refl 0,by show 0≤(rv S.A0 r).top - 16 * r;have:=R.t0;omega,λh=>by simp at h,by simp,by simp,by simp⟩
   ·rw[h];exact⟨by simp,by simp,Int.le_refl _,by show 16 * r≤16 * r + 16;omega,Int.le_refl _,Int.le_refl _,Int.le_refl 0,by show 0≤16 * r - 16 * r;omega,λ_=>rfl,by simp,by simp,by simp⟩
  ·rcases t1r r r0 (by omega) with ⟨h,_⟩ | ⟨h,_⟩<;>rw[h] at ho<;>simp at ho
 have kept:∀b,(g.B b∧Bt S.AQ (b / 16) = true)→(rv t1 (b / 16)).top = (rv S.A0 (b / 16)).top:=λb hb=>by
  have i:=G.inn hb.1;rcases t1r (b / 16) i.2.1 i.2.2.1 with ⟨h,_⟩ | ⟨_,h⟩
  ·rw[h]
  ·exact absurd rfl (h hb.2 b hb.1)
 have G1:MK (shp S.A5) t1 (λb=>g.B b∧Bt S.AQ (b / 16) = true):=by
  refine⟨To1,λa ha=>?_,λa ha=>?_,λr r0 r1=>?_,λa b ha hb h=>G.dj a b ha.1 hb.1 h⟩
  ·rw[kept a ha];obtain⟨h1,h2,_⟩:=G.at_ a ha.1;exact⟨h1,h2,Rk S.A5 a⟩
  ·rw[kept a ha];have i:=G.inn ha.1;have es:AC (shp S.A5 a) = sz S.A5 a:=rfl;rw[es];by_cases h0:a + sz S.A5 a = (rv S.A0 (a / 16)).top
   ·exact .inl h0
   ·right;rcases G.nx a ha.1 with h | h
    ·exact absurd h h0
    ·exact⟨h,by rw[show (a + sz S.A5 a) / 16 = a / 16 from by omega];exact ha.2⟩
  ·rcases t1r r r0 (by omega) with ⟨h,h2,_⟩ | ⟨h,_⟩
   ·rw[h];rcases G.bs r r0 (by omega) with h3 | h3
    ·exact .inl h3
    ·exact .inr ⟨h3,by rw[show 16 * r / 16 = r from by omega];exact h2⟩
   ·rw[h];exact .inl rfl
 have t1f:∀q:Int,1≤q→q < S.A0.length→Bt S.AQ q = false→(rv t1 q).top = 16 * q:=λq q0 q1 hq=>by
  rcases t1r q q0 q1 with ⟨_,h,_⟩ | ⟨h,_⟩
  ·rw[hq] at h;cases h
  ·rw[h]
 obtain⟨t2,to,f,B',e4,k1,G2,k3,k4,k5,k6,k7⟩:=Od (AQ:=S.AQ) T G (Cr out) t1 1 [] (shp S.A5) _ (λa h=>H.lb a (hlive a h).1) sp G1 tl1 (Int.le_refl 1)
  (λq q0 q1=>by rcases t1r q q0 (by omega) with ⟨h,_⟩ | ⟨h,_⟩<;>rw[h])
  (λq q0=>by
   by_cases c1:q < S.A0.length
   ·by_cases c2:1≤q
    ·rcases t1r q c2 c1 with ⟨h,_⟩ | ⟨h,_⟩<;>rw[h]<;>simp
    ·rw[show q = 0 from by omega,To1.e];simp[Cs]
   ·rw[Cw q0 (by omega)];simp[Cs])
  (λq q0 q1 hq=>t1f q (by omega) (by omega) hq)
  (λa ha hq=>by
   have i:=G.inn (H.lb a (hlive a ha).1)
   refine⟨i.2.1,λh1=>?_⟩
   rw[t1f 1 (by omega) (by omega) (by rw[h1];exact hq)];omega)
  (λa ha hq=>⟨⟨H.lb a (hlive a ha).1,hq⟩,rfl⟩)
 simp only[List.nil_append] at e4;have tl2:t2.length = S.A0.length:=by rw[k3,tl1]
 have bk:∀b,B' b→(g.B b∧Bt S.AQ (b / 16) = true∧f b = shp S.A5 b)∨(b∈to∧Bt S.AQ (b / 16) = false):=λb hb=>by
  rcases k6 b hb with h | h
  ·exact .inl ⟨h.1,h.2,(k5 b h).2⟩
  ·exact .inr h
 have rf1:∀b j,B' b→0≤j→j < (f b).refs→wv w1 (b + 2 + j) = 0∨wv w1 (b + 2 + j)∈to:=λb j hb j0 j1=>by
  left;have i:=G2.inn hb;have ob:=EZ (G2.at_ b hb).2.2;rcases bk b hb with ⟨h1,h2,h3⟩ | ⟨h1,h2⟩
  ·rw[h3] at j1;rw[s2 b j h1 j0 j1];exact z0 _
  ·rw[s3 (b + 2 + j) (by omega) (by rw[show (b + 2 + j) / 16 = b / 16 from by omega];exact h2)];exact z0 _
 obtain⟨w2,e5,l2,r2,h2,d2⟩:=OH (AF:=Cr out) (to:=to) T G G2 k1 (Cr out) to w1 k1.symm (λp hp=>by
   obtain⟨q1,q2,_⟩:=k7 p hp
   have hm:p.1∈Cr out:=(List.of_mem_zip hp).1
   have hL:=(hlive p.1 hm).1
   have h16:=b16 _ (H.lb _ hL)
   refine⟨q1,q2,H.lb _ hL,λv hv=>nowS v λh0=>?_⟩
   obtain⟨j,j0,j1,hj⟩:=Lp (by omega) hv
   rw[← hj] at h0 ⊢
   exact H.rf p.1 j hL j0 j1 h0) (by omega) rf1
 have Hall:∀b,B' b→Hd w2 S.A5 f b:=λb hb=>by
  rcases bk b hb with ⟨h1,h2',h3⟩ | ⟨h1,_⟩
  ·refine h2 b hb ?_;have:=s1 b h1 h2' (.inl (T.has b h1));exact⟨this.1,by rw[h3];exact this.2⟩
  ·exact d2 b h1
 have toB:∀d∈to,B' d:=λd hd=>by
  obtain⟨a,ha⟩:=Ss k1.symm hd;exact (k7 (a,d) ha).1
 obtain⟨ths,e6,l6,m6⟩:=N7 (l:=l) (AF:=Cr out) (to:=to) k1 S.view.AB (λt ht a ha=>nowS a λh0=>thv t ht a ha h0);have hfu:CP S.BQ 1 = some (S.BQ + 1):=BE (by have:=B.fu.1;omega) (by have:=B.fu.2;omega);have eW:∀b,B' b→shp w2 b = f b∧(AJ (wv w2 (b + 1))).2 = true:=λb hb=>by
  have h:=(Hall b hb).2;have:=Ef (G2.at_ b hb).2.2;unfold shp;rw[h,this];exact⟨rfl,rfl⟩
 have eZ:∀b,B' b→sz w2 b = AC (f b):=λb hb=>by unfold sz;rw[(eW b hb).1]
 have GF:Geo w2 t2 B':=⟨by rw[l2,l1,tl2];exact len,G2.ok,λa ha=>by
   obtain⟨h1,h2,_⟩:=G2.at_ a ha
   exact⟨h1,by rw[eZ a ha];exact h2,(eW a ha).2⟩,λa ha=>by rw[eZ a ha];exact G2.nx a ha,G2.bs,λa b ha hb h=>by rw[eZ a ha];exact G2.dj a b ha hb h⟩
 have nf:∀a,¬ BF t2 a:=λa hf=>k4 (a / 16) (by have:=hf.1;omega) hf.2
 have hfs:Fm S.view = some ⟨w2,t2,List.replicate S.A5.length false,0,false,false,S.col.Ad,0,ths,[],S.AQ,S.Ap,S.BQ + 1⟩:=by
  unfold Fm;rw[e1];simp only[Option.getD_some,Option.bind_eq_bind];rw[e2];simp only[z_o];rw[show S.view.A5 = S.A5 from rfl,show S.view.A0 = S.A0 from rfl,show S.view.AQ = S.AQ from rfl,show S.view.BQ = S.BQ from rfl];have e3' : stay S.view l (List.replicate S.A5.length 0) (AN S.A0.length) = some (w1,t1):=e3;rw[e3'];simp only[z_o];rw[e4];simp only[z_o];rw[e5];simp only[z_o];rw[e6];simp only[z_o];rw[hfu];simp only[z_o];rw[show w2.length = S.A5.length from l2.trans l1];rfl
 refine⟨_,⟨B',(·∈to),g.q,g.r0⟩,hfs,I.mk' (S':=S.fulled ⟨w2,t2,List.replicate S.A5.length false,0,false,false,S.col.Ad,0,ths,[],S.AQ,S.Ap,S.BQ + 1⟩) rfl ?_ ?_ (λt ht=>?_) (λh=>absurd (show (0:Int) = 1 from h) (by decide)) (λh=>absurd (show (0:Int) = 2 from h) (by decide)) (λh=>absurd (show (0:Int) = 3 from h) (by decide)) (λh=>by cases h),?_⟩
 ·show (ths.map _).length = _;rw[List.length_map,l6];simp[Sim.view]
 ·refine⟨GF,toB,λa j h j0 j1 hn=>?_,λa h _=>(Hall a h).1,λa _ hf=>absurd hf (nf a),?_,λa _ h=>?_,by show (0:Int)≤0∧(0:Int)≤3;decide,λ_ r r0=>k4 r r0,λh=>absurd (show (2:Int)≤0 from h) (by decide),λa h=>⟨?_,nf a⟩,λa _ hf=>absurd hf (nf a),λh=>absurd (show (1:Int)≤0 from h) (by decide),λh=>absurd (show (0:Int) = 3 from h) (by decide),λh=>absurd (show (0:Int) = 1 from h) (by decide)⟩
  ·have j1:j < (shp w2 a).refs:=j1;rw[(eW a (toB a h)).1] at j1;rcases r2 a j (toB a h) j0 j1 with h3 | h3
   ·exact absurd h3 hn
   ·exact h3
  ·show (List.replicate S.A5.length false).length = w2.length;rw[List.length_replicate,l2,l1]
  ·have h:mv (List.replicate S.A5.length false) a = true:=h;rw[M8] at h;cases h
  ·have ha:a∈Cr out:=(sm a).2 (pn a h);obtain⟨d,hd⟩:=TZ k1.symm ha;have hheld:Bt S.AQ (a / 16) = true:=by
    unfold Bt;rw[List.any_eq_true];exact⟨a,h,by rw[CS (by have:=b16 a (H.lb a (pinW a h).1);omega)];simp⟩
   have:=(k7 (a,d) hd).2.2 hheld;simp only at this;subst this;exact (List.of_mem_zip hd).2
 ·obtain⟨y,hy,rfl⟩:=List.mem_map.1 (show t∈ths.map λt=>thr0 t.A7 t.next t.BC from ht);obtain⟨u,hu,q1,q2,q3⟩:=m6 y hy;obtain⟨v,hv,rfl⟩:=List.mem_map.1 (show u∈S.th.map λt=>(⟨t.A7,t.next,t.pc != 0,t.BC⟩:Th) from hu);have s:=st v hv;refine⟨rfl,rfl,rfl,by show 0≤y.next;rw[q1];exact s.nx,by show y.A7.length≤8;rw[q2];exact s.rl,λa ha h0=>?_⟩;rcases q3 a ha with h | h
  ·exact absurd h h0
  ·exact h
 ·have h2:=KT (List.replicate S.A5.length false);rw[List.length_replicate] at h2;have hwl:=I.wl;refine⟨by have:=B.ev;show S.ev.length≤c + 1;omega,Nat.zero_le _,by have:=B.cy;show 0≤S.Ap∧S.Ap≤((c + 1:Nat):Int);omega,by have:=B.fu;show 0≤S.BQ + 1∧S.BQ + 1≤((c + 1:Nat):Int);omega,?_,B.pn⟩;show ([]:List Int).length + ([]:List Int).length + 5 * (List.replicate S.A5.length false).countP (λb=>!b) + (if (0:Int) = 2 then _ else 0)≤3000 + (c + 1);rw[if_neg (by decide)];simp only[List.length_nil];omega
end
end Sm
end
section
namespace Sm
variable {P:List (List Op)}
section
variable {c:Nat} {S:Sim} {g:Gh}
theorem RK {n:Nat} (hc:c < 900000) (hn:S.Aa = 1→mu S < n) (I:IG P S g) (B:Bd c S) (hcm:S.calm = true) (hst:S.stop = true):∃S' g',S.pause n = some S'∧IG P S' g'∧Bd (c + 1) S':=by
 unfold Sim.pause;rw[I.szok rfl B hc,if_neg (by decide)];by_cases hf:S.full = true
 ·rw[if_pos hf];obtain⟨s,g',e,I',B'⟩:=Su hc I B hcm;simp only[Option.bind_eq_bind];rw[e];exact⟨_,g',rfl,I',B'⟩
 ·rw[if_neg hf];dsimp only;rcases I.wt hst (by simpa using hf) with ⟨h,h'⟩ | ⟨h,h'⟩ | ⟨h,h',hw⟩ | ⟨h,h',hw⟩
  ·rw[if_pos h'];obtain⟨g',I',B'⟩:=NQ I B hcm h;exact⟨_,g',rfl,I',B'.mono (Nat.le_succ c)⟩
  ·rw[if_neg (by omega),if_pos h'];obtain⟨S',g',e,I',B'⟩:=Q0 hc (hn h) I B hcm h;exact⟨S',g',e,I',B'⟩
  ·rw[if_neg (by omega),if_neg (by omega),if_pos h'];obtain⟨S',e,I',B'⟩:=QF I B hcm h hw;exact⟨S',g,e,I',B'.mono (Nat.le_succ c)⟩
  ·rw[if_neg (by omega),if_neg (by omega),if_neg (by omega)];obtain⟨S',g',e,I',B'⟩:=QM hc I B hcm h hw;exact⟨S',g',e,I',B'⟩
theorem MQ {n:Nat} (hc:c < 900000) (hn:S.Aa = 1→mu S + 1 < n) (h2:1 < n) (I:IG P S g) (B:Bd c S):∃S' g',S.collector n = some S'∧IG P S' g'∧Bd (c + 1) S':=by
 unfold Sim.collector;by_cases hst:S.stop = true
 ·rw[if_pos hst];split
  ·exact RK hc (λh=>by have:=hn h;omega) I B (by assumption) hst
  ·exact⟨S,g,rfl,I,B.mono (Nat.le_succ c)⟩
 ·rw[if_neg hst];by_cases h0:S.Aa = 0
  ·rw[if_pos h0];split
   ·refine⟨_,g,rfl,⟨I.pg,I.sh,I.n0,I.n1,I.pl,I.pp,I.ti,λh=>?_,λh=>?_,λh=>?_,(λ_ _=>.inl ⟨h0,rfl⟩),I.rs⟩,(have B':=B.mono (Nat.le_succ c);⟨B'.ev,B'.old,B'.cy,B'.fu,B'.st,B'.pn⟩)⟩
    ·exact absurd (h0.symm.trans h) (by decide)
    ·exact absurd (h0.symm.trans h) (by decide)
    ·exact absurd (h0.symm.trans h) (by decide)
   ·exact⟨S,g,rfl,I,B.mono (Nat.le_succ c)⟩
  ·rw[if_neg h0];have hp:0≤S.Aa:=I.sh.ph.1;obtain⟨S',g',e,I',B'⟩:=SC hc n { S with used:=false } g (I.usd false) (B.usd false) (by show 1≤S.Aa;omega) (by omega) (by
    by_cases h1:S.Aa = 1
    ·exact .inr (.inr (.inl ⟨h1,hn h1⟩))
    ·exact .inr (.inr (.inr ⟨by show 2≤S.Aa;omega,h2⟩)))
   exact⟨S',g',e,I',B'.mono (Nat.le_succ c)⟩
theorem Lm {p:Int} (hc:c + 5 < 900000) (I:IG P S g) (B:Bd c S):∃S' g',S.pick p = some S'∧IG P S' g'∧Bd (c + 5) S':=by
 unfold Sim.pick;by_cases h:0≤p∧p < S.th.length
 ·rw[if_pos h];exact QK hc (by unfold Sim.fuel;omega) I B h.1 h.2
 ·rw[if_neg h];split
  ·obtain⟨S',g',e,I',B'⟩:=MQ (n:=S.fuel) (by omega) (λh1=>by
    have C:=I.c1 h1
    have hr:Ee S.col≤4:=by
     unfold Ee
     split
     ·rename_i h
      obtain⟨_,_,p3,p4,_⟩:=C.p2 h
      have:=EC S.A5 S.col.p
      have p3:S.col.sh = shp S.A5 S.col.p:=p3
      rw[p3];omega
     ·omega
    have hu:=KT S.AO
    have hml:S.AO.length = S.A5.length:=I.sh.ml
    unfold mu Sim.fuel
    omega) (by unfold Sim.fuel;omega) I B
   exact⟨S',g',e,I',B'.mono (by omega)⟩
  ·split
   ·exact⟨_,g,rfl,⟨I.pg,I.sh,I.n0,I.n1,I.pl,I.pp,I.ti,λh=>(I.c1 h).col rfl rfl rfl rfl,λh=>(have C:=I.c2 h;⟨C.r0,C.r1,C.p0,C.p1,C.wk,C.pc⟩),λh=>(have C:=I.c3 h;⟨C.pc,C.r0,C.r1,C.p0,C.at_,C.f,C.v,C.w,C.u,C.cl⟩),I.wt,I.rs⟩,(have B' : Bd (c + 5) S:=B.mono (by omega);⟨B'.ev,B'.old,B'.cy,B'.fu,B'.st,B'.pn⟩)⟩
   ·exact⟨S,g,rfl,I,B.mono (by omega)⟩
theorem NN:∀(ps:List Int) (c:Nat) (S:Sim) (g:Gh),c + 5 * ps.length < 900000→IG P S g→Bd c S→∃S' g',Sim.picks ps S = some S'∧IG P S' g'∧Bd (c + 5 * ps.length) S':=by
 intro ps;induction ps with
 | nil=>intro c S g _ I B;exact⟨S,g,rfl,I,B⟩
 | cons p r ih=>
  intro c S g hc I B;simp only[List.length_cons] at hc ⊢;obtain⟨S1,g1,e1,I1,B1⟩:=Lm (p:=p) (by omega) I B;obtain⟨S2,g2,e2,I2,B2⟩:=ih (c + 5) S1 g1 (by omega) I1 B1;unfold Sim.picks;rw[e1];simp only[Option.bind_eq_bind,z_o];exact⟨S2,g2,e2,I2,by rw[show c + 5 * (r.length + 1) = c + 5 + 5 * r.length from by omega];exact B2⟩
theorem JW {c:Cfg} {AU:List (List Op)} (hc:BJ c = true) (hl:(AU.length:Int) = c.AB) (hp:∀p∈AU,p.length≤40):∃g,IG AU (start c AU) g∧Bd 0 (start c AU):=by
 simp only[BJ,z_b,z_d] at hc;obtain⟨⟨⟨⟨⟨c1,c2⟩,c3⟩,c4⟩,c5⟩,c6⟩:=hc;obtain⟨tn0,tn1,tn2⟩:=Fa (n:=c.A6) (by omega) (by omega);have hw:(start c AU).A5 = put (List.replicate (c.A6.toNat * 16) 0) 16 [16,66,0,0,0,0,0,0]:=by
  unfold start;show (Bx (List.replicate (c.A6.toNat * 16) 0) 16 Bi).1 = _;unfold Bx;have hk:By (List.replicate (c.A6.toNat * 16) (0:Int)).length = true:=IQ (k:=c.A6.toNat) (by simp;omega) (by omega) (by omega);rw[if_pos]
  ·rfl
  ·unfold fits;rw[hk];have:(List.replicate (c.A6.toNat * 16) (0:Int)).length = c.A6.toNat * 16:=by simp
   rw[this];simp only[Bool.true_and,z_b,z_d,beq_iff_eq];refine⟨⟨⟨⟨by decide,by decide⟩,by decide⟩,by omega⟩,by decide⟩
 have wl:((start c AU).A5.length:Int) = 16 * c.A6:=by
  rw[hw];unfold put;simp only[List.length_append,List.length_take,List.length_drop,List.length_replicate,List.length_cons,List.length_nil];rw[show (16:Int).toNat = 16 from rfl];omega
 have wvs:∀k:Nat,k < 8→wv (start c AU).A5 (16 + k) = [16,66,0,0,0,0,0,0].getD k 0:=λk hk=>by
  rw[hw];unfold wv gv put;rw[show ((16:Int) + (k:Int)).toNat = 16 + k from by omega,show (16:Int).toNat = 16 from rfl,List.append_assoc];have hl:(List.take 16 (List.replicate (c.A6.toNat * 16) (0:Int))).length = 16:=by simp;omega
  rw[List.getD_eq_getElem?_getD,List.getElem?_append_right (by omega),hl,List.getElem?_append_left (by simp;omega),List.getD_eq_getElem?_getD];congr 2;omega
 have tl:((start c AU).A0.length:Int) = c.A6:=by
  show ((AT (AN c.A6) 1 _).length:Int) = _;rw[Cf];exact tn0
 have tr:∀r:Int,0≤r→rv (start c AU).A0 r = if r = 1 then ⟨3,-1,24,24,0⟩ else rv (AN c.A6) r:=λr r0=>DD (by decide) (by omega) r0
 have T:TOk (start c AU).A0:=by
  refine⟨by omega,by omega,by rw[tr 0 (by decide),if_neg (by decide)];exact tn1,λr r0 r1=>?_,λr s r0 r1 _ _ ho _=>?_⟩
  ·rw[tr r (by omega)];split
   ·subst r;exact⟨by decide,by decide,by decide,by decide,by decide,by decide,by decide,by decide,by decide,by decide,by decide,by decide⟩
   ·rw[tn2 r r0 (by omega)];exact (Cx r0 (by omega)).1
  ·rw[tr r (by omega)] at ho;split at ho
   ·simp at ho
   ·rw[tn2 r r0 (by omega),(Cx r0 (by omega)).2] at ho;simp at ho
 have h17:wv (start c AU).A5 (16 + 1) = 66:=wvs 1 (by decide);have hsh:shp (start c AU).A5 16 = ⟨4,2⟩:=by unfold shp;rw[h17];rfl
 have hsz:sz (start c AU).A5 16 = 8:=by unfold sz;rw[hsh];rfl
 have h16:wv (start c AU).A5 16 = 16:=wvs 0 (by decide);have nf:∀r:Int,0≤r→(rv (start c AU).A0 r).kind≠4:=λr r0=>by
  rw[tr r r0];split
  ·simp
  ·by_cases h:r < c.A6
   ·by_cases h1:1≤r
    ·rw[tn2 r h1 h,(Cx h1 (by omega)).2];simp
    ·rw[show r = 0 from by omega,tn1];simp[Cs]
   ·rw[Cw r0 (by omega)];simp[Cs]
 have nfr:∀a,¬ BF (start c AU).A0 a:=λa hf=>nf (a / 16) (by have:=hf.1;omega) hf.2
 have fm:∀a,mv (start c AU).AO a = false:=λa=>M8
 have t1:(rv (start c AU).A0 1).top = 24:=by rw[tr 1 (by decide),if_pos rfl]
 refine⟨⟨(· = 16),(· = 16),λ_=>0,λ_=>False⟩,⟨rfl,?_,?_,?_,?_,hp,λi t h=>?_,λh=>absurd (show (0:Int) = 1 from h) (by decide),λh=>absurd (show (0:Int) = 2 from h) (by decide),λh=>absurd (show (0:Int) = 3 from h) (by decide),(λh=>by cases h),⟨c5,c6⟩⟩,?_⟩
 ·refine⟨⟨by rw[wl,tl],T,?_,?_,?_,?_⟩,λa h=>h,?_,?_,λa _ hf=>absurd hf (nfr a),?_,λa _ h=>?_,by show (0:Int)≤0∧(0:Int)≤3;decide,λ_=>nf,λh=>absurd (show (2:Int)≤0 from h) (by decide),λa h=>(by cases h),λa _ hf=>absurd hf (nfr a),λh=>absurd (show (1:Int)≤0 from h) (by decide),λh=>absurd (show (0:Int) = 3 from h) (by decide),λh=>absurd (show (0:Int) = 1 from h) (by decide)⟩
  ·rintro a rfl;refine⟨by decide,?_,?_⟩
   ·rw[hsz,show (16:Int) / 16 = 1 from rfl,t1];decide
   ·rw[h17];rfl
  ·rintro a rfl;left;rw[hsz,show (16:Int) / 16 = 1 from rfl,t1];rfl
  ·intro r r0 r1;have r1:r < (start c AU).A0.length:=r1;by_cases h:r = 1
   ·right;show 16 * r = 16;omega
   ·left;rw[tr r (by omega),if_neg h,tn2 r r0 (by omega),(Cx r0 (by omega)).2]
  ·rintro a b rfl rfl h;omega
  ·rintro a j rfl j0 j1 hn;exfalso;rw[hsh] at j1;simp only at j1;have:=wvs (2 + j.toNat) (by omega);rw[show (16:Int) + ((2 + j.toNat:Nat):Int) = 16 + 2 + j from by omega] at this;apply hn;rw[this];have hj:j.toNat = 0∨j.toNat = 1∨j.toNat = 2∨j.toNat = 3:=by omega
   rcases hj with h | h | h | h<;>rw[h]<;>rfl
  ·rintro a rfl _;exact h16
  ·show (List.replicate (c.A6.toNat * 16) false).length = (start c AU).A5.length;rw[List.length_replicate];omega
  ·rw[fm] at h;cases h
 ·show 1≤(List.replicate c.AB.toNat _).length;rw[List.length_replicate];omega
 ·show (List.replicate c.AB.toNat _).length≤3;rw[List.length_replicate];omega
 ·show AU.length = (List.replicate c.AB.toNat _).length;rw[List.length_replicate];omega
 ·have hm:=HF h;have:t = thr0 [16] 0 0:=(List.mem_replicate.1 (show t∈List.replicate c.AB.toNat (thr0 [16] 0 0) from hm)).2;subst this;exact⟨λa ha _=>by simpa [thr0] using ha,by decide,by decide,λ_ _ h=>absurd rfl h,.inl ⟨rfl,rfl,rfl⟩⟩
 ·have h2:=KT (List.replicate (c.A6.toNat * 16) false);rw[List.length_replicate] at h2;refine⟨z_n 0,z_n 0,⟨Int.le_refl 0,Int.le_refl 0⟩,⟨Int.le_refl 0,Int.le_refl 0⟩,?_,Nat.zero_le _⟩;show 0 + 0 + 5 * (List.replicate (c.A6.toNat * 16) false).countP (λb=>!b) + (if (0:Int) = 2 then _ else 0)≤3000 + 0;rw[if_neg (by decide)];omega
end
end Sm
end
section
namespace Go.Lf
open Go Sm
theorem PZ {P0:List (List Sm.Op)} {S:Sim} {gh:Gh} (I:IG P0 S gh):Pr S∧TOk S.A0:=by
 refine⟨⟨⟨by have:=I.rs.1;omega,by have:=I.rs.2;omega⟩,λa ha=>?_⟩,I.sh.g.ok⟩;have h1:=I.sh.pl a ha;have h2:=I.sh.g.inn (I.sh.lb a h1.1);have h3:=I.wl;obtain⟨h4,_,_,_,_,h5,h6,_⟩:=h2;have h5:a + sz S.A5 a≤S.A5.length:=h5;have h6:2≤sz S.A5 a:=h6;unfold AY;split<;>omega
theorem VH {P0:List (List Sm.Op)} {S:Sim} {gh:Gh} {c:Nat} (I:IG P0 S gh) (B:Bd c S) (hc:c < 900000):S.sz = true:=I.szok rfl B hc
theorem Tb {P0:List (List Sm.Op)} {p c:Nat} {S:Sim} {gh:Gh} {a:Int} (i0:IG P0 S gh) (B:Bd c S) (hc:c + 5 < 900000) (ha:inR a) :
  ∃S' gh',IG P0 S' gh'∧Bd (c + 5) S'∧S.pick a = some S'∧∀R g,Ok R S g→Fn P GA [.pointer (some ⟨p,0,none⟩),I a] R (AV p S g) (CT p S' λ_=>True):=by
 obtain⟨S',gh',e,I',B'⟩:=Lm (p:=a) hc i0 B;exact⟨S',gh',I',B',e,λR g hok=>Rj hok ha (λR g S1 ok hp=>PY ok (PZ i0).1 (PZ i0).2 hp) e⟩
theorem OA {P0:List (List Sm.Op)}:∀(ps:List Int) (i c:Nat) (S:Sim) (gh:Gh),c + 5 * ps.length < 900000→IG P0 S gh→Bd c S→∀S1,Sim.picks (ps.take i) S = some S1→∃gh1,IG P0 S1 gh1:=by
 intro ps i c S gh hc I B S1 h;have hl:(ps.take i).length≤ps.length:=by simp;omega
 obtain⟨S2,g2,e2,I2,_⟩:=NN (ps.take i) c S gh (by omega) I B;rw[h] at e2;cases e2;exact⟨g2,I2⟩
theorem I8 {c:Cfg} {AU:List (List Sm.Op)} {picks:List Int} (h:CK c AU picks = true):BJ c = true∧(AU.length:Int) = c.AB∧picks.length≤4000∧∀p∈AU,p.length≤40:=by
 unfold CK at h;simp only[z_b,z_d,List.all_eq_true] at h;exact⟨h.1.1.1,h.1.1.2,h.1.2,h.2⟩
theorem Uc {c0:Cfg} {AU:List (List Sm.Op)} {picks:List Int} (hok:CK c0 AU picks = true) (ha:∀a∈picks,inR a) :
  ∃S' gh,IG AU S' gh∧Bd 20000 S'∧Sim.picks picks (Sm.start c0 AU) = some S'∧∀R pv kv,Dg R pv AU→B9 R kv picks→Fn P EE [.agg #[I c0.A6,I c0.AB,I c0.AI],pv,kv] R [] (λv R' A=>∃p g rows thv A',Ok R' S' g∧Rw (CY R') rows S'.view.AB∧SW 78 4 rows thv A'∧A = A' ++ AV p S' g∧
   v = .tuple #[.agg (eSt S'.view (wS S' g) (tS S' g) (mS S' g) thv g.old g.AQ).toArray,evV S' g]):=by
 obtain⟨h1,h2,h3,h4⟩:=I8 hok;obtain⟨g0,I0,B0⟩:=JW h1 h2 h4;obtain⟨S',gh,e,I',B'⟩:=NN picks 0 _ g0 (by omega) I0 B0;refine⟨S',gh,I',B'.mono (by omega),e,λR pv kv hp hk=>MY hp hk hok ha e (VH I' B' (by omega)) λi S hS p R g S1 ok hpz=>?_⟩;obtain⟨gh1,I1⟩:=OA picks i 0 _ g0 (by omega) I0 B0 S hS;exact PY ok (PZ I1).1 (PZ I1).2 hpz
end Go.Lf
end
section
namespace Sm
def Rn (x:Int):Prop:=-9223372036854775808≤x∧x < 9223372036854775808
structure RT (t:Thr):Prop where
 r:∀a∈t.A7,Rn a
 h:Rn t.h
 g:Rn t.g
 k:Rn t.k
 u:Rn t.u
 v:Rn t.v
 w:Rn t.word
 d:Rn t.dst
structure RC (x:Col):Prop where
 w:Rn x.word
 d:Rn x.dst
structure RS (S:Sim):Prop where
 w:∀x∈S.A5,Rn x
 t:∀t∈S.th,RT t
 c:RC S.col
 o:∀p∈S.AU,∀o∈p,Rn o.v
theorem Rn.zero:Rn 0:=by unfold Rn;omega
theorem CE {α:Type} {l:List α} {i:Int} {x:α} (h:idx l i = some x):x∈l:=by
 unfold idx at h;split at h
 ·exact List.mem_of_getElem? h
 ·cases h
theorem Dn {α:Type} {l:List α} {i:Int} {x y:α} (h:y∈AT l i x):y∈l∨y = x:=List.mem_or_eq_of_mem_set h
theorem RT.thr0 {A7:List Int} {n m:Int} (h:∀a∈A7,Rn a):RT (thr0 A7 n m):=⟨h,Rn.zero,Rn.zero,Rn.zero,Rn.zero,Rn.zero,Rn.zero,Rn.zero⟩
theorem Rn.room {t t' : List Rg} {o z d:Int} (h:BB t o z = some (t',d)):Rn d:=by
 have hh:Ay t = true∧0≤o∧o≤3∧1≤z∧z≤16:=by
  unfold BB at h;split at h
  ·rename_i hh;simp only[z_b,z_d] at hh;exact⟨hh.1.1.1.1,hh.1.1.1.2,hh.1.1.2,hh.1.2,hh.2⟩
  ·cases h
 obtain⟨h0,h1,h2,h3,h4⟩:=hh;rcases EQ (BI.1 h0) h1 h2 h3 h4 with hn | ⟨t2,d2,he,hr⟩
 ·rw[hn] at h;cases h
 rw[he] at h;cases h;have:=hr.d0;have n1:=hr.ok.n1;by_cases c:d / 16 < t'.length
 ·unfold Rn;omega
 ·have:=hr.dk;rw[Cw (by omega) (by omega)] at this;cases this
theorem Rn.shape {s:Shp}:Rn (Ag s):=by
 unfold Ag;split
 ·rename_i h;simp only[Aw,z_b,z_d] at h;unfold Rn;omega
 ·unfold Rn;omega
section
variable {S S' : Sim} {i a v:Int}
theorem RS.rd (R:RS S) (h:S.read a = some (v,S')):Rn v∧RS S'∧S'.th = S.th∧S'.AU = S.AU∧S'.col = S.col:=by
 unfold Sim.read at h;split at h
 ·rename_i hv;cases h;exact⟨R.w _ (CE hv),⟨R.w,R.t,R.c,R.o⟩,rfl,rfl,rfl⟩
 ·cases h
theorem RS.wt (R:RS S) (hv:Rn v) (h:S.write a v = some S'):RS S':=by
 unfold Sim.write at h;split at h
 ·cases h;exact⟨λx hx=>(Dn hx).elim (R.w x) λe=>e▸hv,R.t,R.c,R.o⟩
 ·cases h
theorem RS.st (R:RS S) {t:Thr} (ht:RT t):RS (S.setT i t):=⟨R.w,λx hx=>(Dn hx).elim (R.t x) λe=>e▸ht,R.c,R.o⟩
theorem RS.ev (R:RS S) {b:Int} (h:S.event i a b = some S'):RS S':=by
 unfold Sim.event at h;split at h
 ·cases h
 split at h
 ·rename_i ht;split at h
  ·cases h;exact⟨R.w,λx hx=>(Dn hx).elim (R.t x) λe=>e▸RT.thr0 (R.t _ (CE ht)).r,R.c,R.o⟩
  ·cases h
 ·cases h
theorem RS.pu (R:RS S) (ha:Rn a) (h:S.push i a = some S'):RS S':=by
 unfold Sim.push at h;split at h
 ·cases h
 split at h
 ·rename_i t ht;have T:=R.t _ (CE ht);refine RS.ev (R.st ?_) h;exact⟨λx hx=>(List.mem_append.1 hx).elim (T.r x) λe=>by rw[List.mem_singleton.1 e];exact ha,T.h,T.g,T.k,T.u,T.v,T.w,T.d⟩
 ·cases h
theorem RS.bk (R:RS S) (h:S.back i = some S'):RS S':=by
 unfold Sim.back at h;split at h
 ·rename_i ht;cases h;exact⟨R.w,λx hx=>(Dn hx).elim (R.t x) λe=>e▸RT.thr0 (R.t _ (CE ht)).r,R.c,R.o⟩
 ·cases h
theorem RS.tp (R:RS S) (h:S.top a v = some S'):RS S':=by
 unfold Sim.top at h;split at h
 ·split at h
  ·cases h;exact⟨R.w,R.t,R.c,R.o⟩
  ·cases h
 ·cases h
theorem RS.od (R:RS S) (h:S.oldV v = some S'):RS S':=by
 unfold Sim.oldV at h;split at h
 ·cases h
 ·cases h;split
  ·exact⟨R.w,R.t,R.c,R.o⟩
  ·exact R
theorem RS.op (R:RS S) {t:Thr} {o:Op} (h:S.opOf i t = some o):Rn o.v:=by
 unfold Sim.opOf at h;split at h
 ·rename_i hp;exact R.o _ (CE hp) _ (CE h)
 ·cases h
theorem RT.pc {t:Thr} (T:RT t) (n:Int):RT { t with pc:=n }:=⟨T.r,T.h,T.g,T.k,T.u,T.v,T.w,T.d⟩
theorem RT.hold {t:Thr} (T:RT t) (n:Int) (ha:Rn a):RT (BN t n a):=by
 unfold BN;split
 ·exact⟨T.r,ha,T.g,T.k,T.u,T.v,T.w,T.d⟩
 split
 ·exact⟨T.r,T.h,ha,T.k,T.u,T.v,T.w,T.d⟩
 split
 ·exact⟨T.r,T.h,T.g,ha,T.u,T.v,T.w,T.d⟩
 ·exact⟨T.r,T.h,T.g,T.k,T.u,ha,T.w,T.d⟩
theorem RS.begin_ (R:RS S) (h:S.begin_ i = some S'):RS S':=by
 unfold Sim.begin_ at h;obtain⟨t,ht,h⟩:=Option.bind_eq_some_iff.1 h;have T:=R.t _ (CE ht);obtain⟨o,ho,h⟩:=Option.bind_eq_some_iff.1 h;split at h
 ·exact R.ev h
 dsimp only at h;split at h
 ·exact R.ev h
 split at h
 ·exact RS.ev (R.st (by exact⟨λx hx=>T.r x (List.mem_of_mem_take hx),T.h,T.g,T.k,T.u,T.v,T.w,T.d⟩)) h
 split at h
 ·obtain⟨b,hb,h⟩:=Option.bind_eq_some_iff.1 h;exact R.pu (T.r _ (CE hb)) h
 split at h
 ·cases h;exact R.st (T.pc _)
 obtain⟨b,hb,h⟩:=Option.bind_eq_some_iff.1 h;have T1:RT { t with pc:=1,h:=b }:=⟨T.r,T.r _ (CE hb),T.g,T.k,T.u,T.v,T.w,T.d⟩;obtain⟨t2,h2,h⟩:=Option.bind_eq_some_iff.1 h;have T2:RT t2:=by
  split at h2
  ·obtain⟨c,hc,h2⟩:=Option.bind_eq_some_iff.1 h2;cases h2;exact⟨T1.r,T1.h,T1.r _ (CE hc),T1.k,T1.u,T1.v,T1.w,T1.d⟩
  ·cases h2;exact T1
 obtain⟨t3,h3,h⟩:=Option.bind_eq_some_iff.1 h;have T3:RT t3:=by
  split at h3
  ·obtain⟨c,hc,h3⟩:=Option.bind_eq_some_iff.1 h3;cases h3;exact⟨T2.r,T2.h,T2.g,T2.r _ (CE hc),T2.u,T2.v,T2.w,T2.d⟩
  ·cases h3;exact T2
 cases h;exact R.st T3
theorem RS.resolve (R:RS S) (h:S.resolve i = some S'):RS S':=by
 unfold Sim.resolve at h;obtain⟨t,ht,h⟩:=Option.bind_eq_some_iff.1 h;have T:=R.t _ (CE ht);split at h
 ·cases h
 dsimp only at h;obtain⟨f,hf,h⟩:=Option.bind_eq_some_iff.1 h;split at h
 ·cases h;exact R.st (T.pc _)
 obtain⟨⟨w,S1⟩,h1,h⟩:=Option.bind_eq_some_iff.1 h;obtain⟨hw,R1,e1,_⟩:=R.rd h1;dsimp only at h;split at h
 ·cases h;exact R1.st ⟨T.r,T.h,T.g,T.k,T.u,T.v,T.w,T.d⟩
 ·cases h;exact R1.st (T.hold _ hw)
theorem RS.copying (R:RS S) (h:S.copying i = some S'):RS S':=by
 unfold Sim.copying at h;obtain⟨t,ht,h⟩:=Option.bind_eq_some_iff.1 h;have T:=R.t _ (CE ht);split at h
 ·obtain⟨b,hb,h⟩:=Option.bind_eq_some_iff.1 h;obtain⟨⟨w,S1⟩,h1,h⟩:=Option.bind_eq_some_iff.1 h;obtain⟨hw,R1,_⟩:=R.rd h1;dsimp only at h;split at h
  ·exact R1.bk h
  ·rename_i hr;cases h;exact RS.st (by exact⟨R1.w,R1.t,R1.c,R1.o⟩) (by exact⟨T.r,T.h,T.g,T.k,T.u,T.v,T.w,Rn.room hr⟩)
 split at h
 ·obtain⟨b,hb,h⟩:=Option.bind_eq_some_iff.1 h;obtain⟨⟨w,S1⟩,h1,h⟩:=Option.bind_eq_some_iff.1 h;obtain⟨hw,R1,_⟩:=R.rd h1;cases h;exact R1.st ⟨T.r,T.h,T.g,T.k,T.u,T.v,hw,T.d⟩
 split at h
 ·obtain⟨b,hb,h⟩:=Option.bind_eq_some_iff.1 h;obtain⟨S1,h1,h⟩:=Option.bind_eq_some_iff.1 h;have R1:=R.wt T.w h1;obtain⟨n,hn,h⟩:=Option.bind_eq_some_iff.1 h;cases h;exact R1.st ⟨T.r,T.h,T.g,T.k,T.u,T.v,T.w,T.d⟩
 split at h
 ·obtain⟨S1,h1,h⟩:=Option.bind_eq_some_iff.1 h;have R1:=R.wt T.d h1;cases h;exact R1.st (T.pc _)
 split at h
 ·split at h
  ·cases h
  obtain⟨⟨w,S1⟩,h1,h⟩:=Option.bind_eq_some_iff.1 h;obtain⟨hw,R1,_⟩:=R.rd h1;dsimp only at h;split at h
  ·obtain⟨S2,h2,h⟩:=Option.bind_eq_some_iff.1 h;obtain⟨S3,h3,h⟩:=Option.bind_eq_some_iff.1 h;cases h;exact ((R1.wt T.d h2).tp h3).st (T.hold _ T.d)
  ·cases h;exact R1.st (T.hold _ hw)
 ·cases h;exact R.st T
theorem RS.making (R:RS S) (h:S.making i = some S'):RS S':=by
 unfold Sim.making at h;obtain⟨t,ht,h⟩:=Option.bind_eq_some_iff.1 h;have T:=R.t _ (CE ht);obtain⟨o,ho,h⟩:=Option.bind_eq_some_iff.1 h;split at h
 ·dsimp only at h;split at h
  ·split at h
   ·exact R.ev h
   ·exact R.bk h
  ·rename_i hr;cases h;exact RS.st (by exact⟨R.w,R.t,R.c,R.o⟩) (by exact⟨T.r,T.h,T.g,T.k,T.u,T.v,T.w,Rn.room hr⟩)
 split at h
 ·obtain⟨S1,h1,h⟩:=Option.bind_eq_some_iff.1 h;cases h;exact (R.wt T.d h1).st (T.pc _)
 obtain⟨⟨S1,t1⟩,h1,h⟩:=Option.bind_eq_some_iff.1 h;have H1:RS S1∧RT t1:=by
  split at h1
  ·obtain⟨b,hb,h1⟩:=Option.bind_eq_some_iff.1 h1;obtain⟨S2,h2,h1⟩:=Option.bind_eq_some_iff.1 h1;cases h1;exact⟨R.wt Rn.shape h2,T⟩
  split at h1
  ·obtain⟨b,hb,h1⟩:=Option.bind_eq_some_iff.1 h1;obtain⟨S2,h2,h1⟩:=Option.bind_eq_some_iff.1 h1;obtain⟨n,hn,h1⟩:=Option.bind_eq_some_iff.1 h1;cases h1;exact⟨R.wt Rn.zero h2,⟨T.r,T.h,T.g,T.k,T.u,T.v,T.w,T.d⟩⟩
  ·cases h1;exact⟨R,T⟩
 obtain⟨R1,T1⟩:=H1;dsimp only at h;split at h
 ·obtain⟨S2,h2,h⟩:=Option.bind_eq_some_iff.1 h;exact ((R1.st (T1.pc 33)).tp h2).pu T1.d h
 ·cases h;exact R1.st (T1.pc 33)
theorem RS.load (R:RS S) (hv:Rn v) (h:S.load i v = some S'):RS S':=by
 unfold Sim.load at h;obtain⟨t,ht,h⟩:=Option.bind_eq_some_iff.1 h;have T:=R.t _ (CE ht);split at h
 ·exact R.pu T.v h
 obtain⟨f,hf,h⟩:=Option.bind_eq_some_iff.1 h;split at h
 ·exact R.pu hv h
 ·cases h;exact R.st ⟨T.r,T.h,T.g,T.k,hv,hv,T.w,T.d⟩
theorem RS.swap (R:RS S) (hv:Rn v) (h:S.swap i v = some S'):RS S':=by
 unfold Sim.swap at h;obtain⟨t,ht,h⟩:=Option.bind_eq_some_iff.1 h;have T:=R.t _ (CE ht);split at h
 ·exact R.ev h
 dsimp only at h;obtain⟨f,hf,h⟩:=Option.bind_eq_some_iff.1 h;split at h
 ·cases h;exact R.st ⟨T.r,T.h,T.g,T.k,hv,hv,T.w,T.d⟩
 split at h
 ·exact R.ev h
 obtain⟨S1,h1,h⟩:=Option.bind_eq_some_iff.1 h;cases h;exact (R.od h1).st ⟨T.r,T.h,T.g,T.k,hv,T.v,T.w,T.d⟩
theorem RS.shape (R:RS S) (h:S.shape i = some S'):RS S':=by
 unfold Sim.shape at h;obtain⟨t,ht,h⟩:=Option.bind_eq_some_iff.1 h;have T:=R.t _ (CE ht);split at h
 ·cases h
 obtain⟨o,ho,h⟩:=Option.bind_eq_some_iff.1 h;split at h
 ·exact R.ev h
 split at h
 ·split at h
  ·exact R.ev h
  ·exact RS.ev (by exact⟨R.w,R.t,R.c,R.o⟩) h
 obtain⟨b,hb,h⟩:=Option.bind_eq_some_iff.1 h;obtain⟨⟨w,S1⟩,h1,h⟩:=Option.bind_eq_some_iff.1 h;obtain⟨hw,R1,_⟩:=R.rd h1;dsimp only at h;split at h
 ·exact R1.ev h
 ·cases h;exact R1.st ⟨T.r,T.h,T.g,T.k,T.u,T.v,T.w,T.d⟩
theorem RS.field (R:RS S) (h:S.field i = some S'):RS S':=by
 unfold Sim.field at h;obtain⟨t,ht,h⟩:=Option.bind_eq_some_iff.1 h;have T:=R.t _ (CE ht);obtain⟨o,ho,h⟩:=Option.bind_eq_some_iff.1 h;obtain⟨b1,hb1,h⟩:=Option.bind_eq_some_iff.1 h;obtain⟨ref,hb2,h⟩:=Option.bind_eq_some_iff.1 h;obtain⟨b3,hb3,h⟩:=Option.bind_eq_some_iff.1 h;obtain⟨num,hb4,h⟩:=Option.bind_eq_some_iff.1 h;split at h
 ·obtain⟨⟨w,S1⟩,h1,h⟩:=Option.bind_eq_some_iff.1 h;obtain⟨hw,R1,_⟩:=R.rd h1;exact R1.load hw h
 split at h
 ·obtain⟨⟨w,S1⟩,h1,h⟩:=Option.bind_eq_some_iff.1 h;obtain⟨hw,R1,_⟩:=R.rd h1;obtain⟨S2,h2,h⟩:=Option.bind_eq_some_iff.1 h;cases h;exact (R1.od h2).st (T.pc _)
 split at h
 ·obtain⟨S1,h1,h⟩:=Option.bind_eq_some_iff.1 h;exact (R.wt T.g h1).ev h
 split at h
 ·obtain⟨S1,h1,h⟩:=Option.bind_eq_some_iff.1 h;exact (R.wt (R.op ho) h1).ev h
 split at h
 ·obtain⟨⟨w,S1⟩,h1,h⟩:=Option.bind_eq_some_iff.1 h;obtain⟨hw,R1,_⟩:=R.rd h1;exact R1.ev h
 split at h
 ·obtain⟨⟨w,S1⟩,h1,h⟩:=Option.bind_eq_some_iff.1 h;obtain⟨hw,R1,_⟩:=R.rd h1;exact R1.swap hw h
 split at h
 ·obtain⟨⟨w,S1⟩,h1,h⟩:=Option.bind_eq_some_iff.1 h;obtain⟨hw,R1,_⟩:=R.rd h1;dsimp only at h;split at h
  ·obtain⟨S2,h2,h⟩:=Option.bind_eq_some_iff.1 h;exact (R1.wt T.k h2).ev h
  ·cases h;exact R1.st (T.pc _)
 split at h
 ·split at h
  ·cases h;exact R.st (T.pc _)
  ·obtain⟨⟨w,S1⟩,h1,h⟩:=Option.bind_eq_some_iff.1 h;obtain⟨hw,R1,_⟩:=R.rd h1;exact R1.swap hw h
 ·cases h;exact R
theorem RS.tstep (R:RS S) (h:S.tstep i = some S'):RS S':=by
 unfold Sim.tstep at h;obtain⟨t,ht,h⟩:=Option.bind_eq_some_iff.1 h;split at h
 ·exact R.resolve h
 split at h
 ·exact R.shape h
 split at h
 ·exact R.making h
 split at h
 ·exact R.copying h
 ·exact R.field h
theorem RS.tloop:∀(n:Nat) {S S' : Sim},RS S→Sim.tloop n S i = some S'→RS S'
 | 0,_,_,_,h=>by cases h
 | n + 1,S,S',R,h=>by
  unfold Sim.tloop at h;obtain⟨t,ht,h⟩:=Option.bind_eq_some_iff.1 h;split at h
  ·cases h;exact R
  ·obtain⟨S1,h1,h⟩:=Option.bind_eq_some_iff.1 h;exact RS.tloop n (R.tstep h1) h
theorem RS.thread {n:Nat} (R:RS S) (h:S.thread n i = some S'):RS S':=by
 unfold Sim.thread at h;obtain⟨t,ht,h⟩:=Option.bind_eq_some_iff.1 h;split at h
 ·split at h
  ·cases h;exact R
  ·obtain⟨p,hp,h⟩:=Option.bind_eq_some_iff.1 h;split at h
   ·exact R.begin_ h
   ·cases h;exact R
 ·exact RS.tloop n (by exact⟨R.w,R.t,R.c,R.o⟩) h
end
end Sm
end
section
namespace Sm
section
variable {S S' : Sim} {i a v:Int}
theorem RS.sc (R:RS S) {c:Col} (hc:RC c):RS (S.setC c):=⟨R.w,R.t,hc,R.o⟩
theorem RC.zero (a:Bool) (n:Int):RC (CB a n):=⟨Rn.zero,Rn.zero⟩
theorem RS.mark (R:RS S) (h:S.mark = some S'):RS S':=by
 unfold Sim.mark at h;split at h
 ·cases h
 dsimp only at h;split at h
 ·split at h
  ·cases h;exact⟨R.w,R.t,⟨R.c.w,R.c.d⟩,R.o⟩
  ·cases h;exact⟨R.w,R.t,⟨R.c.w,R.c.d⟩,R.o⟩
 obtain⟨b,hb,h⟩:=Option.bind_eq_some_iff.1 h;obtain⟨row,hrow,h⟩:=Option.bind_eq_some_iff.1 h;obtain⟨c,hc,h⟩:=Option.bind_eq_some_iff.1 h;split at h
 ·obtain⟨p1,hp,h⟩:=Option.bind_eq_some_iff.1 h;obtain⟨⟨w,S1⟩,h1,h⟩:=Option.bind_eq_some_iff.1 h;obtain⟨hw,R1,_⟩:=RS.rd (by exact⟨R.w,R.t,R.c,R.o⟩) h1;dsimp only at h;obtain⟨lv,hl,h⟩:=Option.bind_eq_some_iff.1 h;cases h;exact⟨R1.w,R1.t,⟨R.c.w,R.c.d⟩,R1.o⟩
 ·cases h;exact⟨R.w,R.t,⟨R.c.w,R.c.d⟩,R.o⟩
theorem RS.look (R:RS S) (h:S.look = some S'):RS S':=by
 unfold Sim.look at h;split at h
 ·cases h
 dsimp only at h;obtain⟨b,hb,h⟩:=Option.bind_eq_some_iff.1 h;obtain⟨b2,hb2,h⟩:=Option.bind_eq_some_iff.1 h;obtain⟨⟨w,S1⟩,h1,h⟩:=Option.bind_eq_some_iff.1 h;obtain⟨hw,R1,_⟩:=R.rd h1;dsimp only at h;obtain⟨n,hn,h⟩:=Option.bind_eq_some_iff.1 h;cases h;exact⟨R1.w,R1.t,⟨R.c.w,R.c.d⟩,R1.o⟩
theorem RS.walk (R:RS S) (h:S.walk = some S'):RS S':=by
 unfold Sim.walk at h;dsimp only at h;obtain⟨⟨r,p⟩,hb,h⟩:=Option.bind_eq_some_iff.1 h;dsimp only at h;split at h
 ·cases h;exact⟨R.w,R.t,⟨R.c.w,R.c.d⟩,R.o⟩
 obtain⟨q,hq,h⟩:=Option.bind_eq_some_iff.1 h;obtain⟨⟨w,S1⟩,h1,h⟩:=Option.bind_eq_some_iff.1 h;obtain⟨hw,R1,_⟩:=R.rd h1;dsimp only at h;cases h;refine R1.sc ?_;split
 ·exact⟨R.c.w,R.c.d⟩
 ·exact⟨R.c.w,R.c.d⟩
theorem RS.carry (R:RS S) (h:S.carry = some S'):RS S':=by
 unfold Sim.carry at h;dsimp only at h;split at h
 ·obtain⟨b,hb,h⟩:=Option.bind_eq_some_iff.1 h;obtain⟨⟨w,S1⟩,h1,h⟩:=Option.bind_eq_some_iff.1 h;obtain⟨hw,R1,_⟩:=R.rd h1;dsimp only at h;split at h
  ·cases h;exact⟨R1.w,R1.t,R1.c,R1.o⟩
  ·rename_i hr;cases h;exact⟨R1.w,R1.t,⟨R.c.w,Rn.room hr⟩,R1.o⟩
 split at h
 ·obtain⟨b,hb,h⟩:=Option.bind_eq_some_iff.1 h;obtain⟨⟨w,S1⟩,h1,h⟩:=Option.bind_eq_some_iff.1 h;obtain⟨hw,R1,_⟩:=R.rd h1;cases h;exact R1.sc ⟨hw,R.c.d⟩
 split at h
 ·obtain⟨b,hb,h⟩:=Option.bind_eq_some_iff.1 h;obtain⟨S1,h1,h⟩:=Option.bind_eq_some_iff.1 h;have R1:=R.wt R.c.w h1;obtain⟨n,hn,h⟩:=Option.bind_eq_some_iff.1 h;cases h;exact R1.sc ⟨R.c.w,R.c.d⟩
 split at h
 ·obtain⟨S1,h1,h⟩:=Option.bind_eq_some_iff.1 h;have R1:=R.wt R.c.d h1;cases h;exact R1.sc ⟨R.c.w,R.c.d⟩
 split at h
 ·obtain⟨⟨w,S1⟩,h1,h⟩:=Option.bind_eq_some_iff.1 h;obtain⟨hw,R1,_⟩:=R.rd h1;dsimp only at h;obtain⟨S2,h2,h⟩:=Option.bind_eq_some_iff.1 h;have R2:RS S2:=by
   split at h2
   ·obtain⟨S3,h3,h2⟩:=Option.bind_eq_some_iff.1 h2;exact (R1.wt R.c.d h3).tp h2
   ·cases h2;exact R1
  cases h;exact R2.sc ⟨R.c.w,R.c.d⟩
 ·cases h;exact R
theorem RC.then_ {x y:Col} (hx:RC x) (h:FA x = some y):RC y:=by
 unfold FA at h;obtain⟨n,hn,h⟩:=Option.bind_eq_some_iff.1 h;cases h;exact⟨hx.w,hx.d⟩
theorem RS.renew (R:RS S) (h:S.renew = some S'):RS S':=by
 unfold Sim.renew at h;dsimp only at h;split at h
 ·obtain⟨⟨r,p⟩,hb,h⟩:=Option.bind_eq_some_iff.1 h;dsimp only at h;split at h
  ·cases h;exact⟨R.w,R.t,⟨R.c.w,R.c.d⟩,R.o⟩
  obtain⟨q,hq,h⟩:=Option.bind_eq_some_iff.1 h;obtain⟨⟨w,S1⟩,h1,h⟩:=Option.bind_eq_some_iff.1 h;obtain⟨hw,R1,_⟩:=R.rd h1;dsimp only at h;obtain⟨q2,hq2,h⟩:=Option.bind_eq_some_iff.1 h;obtain⟨row,hrow,h⟩:=Option.bind_eq_some_iff.1 h;obtain⟨go,hgo,h⟩:=Option.bind_eq_some_iff.1 h;cases h;refine R1.sc ?_;split
  ·exact⟨R.c.w,R.c.d⟩
  ·exact⟨R.c.w,R.c.d⟩
 split at h
 ·obtain⟨b,hb,h⟩:=Option.bind_eq_some_iff.1 h;obtain⟨b2,hb2,h⟩:=Option.bind_eq_some_iff.1 h;obtain⟨⟨w,S1⟩,h1,h⟩:=Option.bind_eq_some_iff.1 h;obtain⟨hw,R1,_⟩:=R.rd h1;dsimp only at h;obtain⟨f,hf,h⟩:=Option.bind_eq_some_iff.1 h;split at h
  ·cases h;exact R1.sc ⟨R.c.w,R.c.d⟩
  ·obtain⟨y,hy,h⟩:=Option.bind_eq_some_iff.1 h;cases h;exact R1.sc (RC.then_ (by exact⟨R.c.w,R.c.d⟩) hy)
 split at h
 ·obtain⟨⟨w,S1⟩,h1,h⟩:=Option.bind_eq_some_iff.1 h;obtain⟨hw,R1,_⟩:=R.rd h1;dsimp only at h;split at h
  ·obtain⟨y,hy,h⟩:=Option.bind_eq_some_iff.1 h;cases h;exact R1.sc (RC.then_ (by exact⟨hw,R.c.d⟩) hy)
  ·cases h;exact R1.sc ⟨hw,R.c.d⟩
 split at h
 ·obtain⟨b,hb,h⟩:=Option.bind_eq_some_iff.1 h;obtain⟨b2,hb2,h⟩:=Option.bind_eq_some_iff.1 h;obtain⟨⟨w,S1⟩,h1,h⟩:=Option.bind_eq_some_iff.1 h;obtain⟨hw,R1,_⟩:=R.rd h1;dsimp only at h;obtain⟨S2,h2,h⟩:=Option.bind_eq_some_iff.1 h;have R2:RS S2:=by
   split at h2
   ·exact R1.wt R.c.w h2
   ·cases h2;exact R1
  obtain⟨y,hy,h⟩:=Option.bind_eq_some_iff.1 h;cases h;exact R2.sc (RC.then_ R.c hy)
 ·cases h;exact R
theorem RS.work (R:RS S) (h:S.work = some S'):RS S':=by
 unfold Sim.work at h;split at h
 ·exact R.mark h
 split at h
 ·exact R.look h
 split at h
 ·exact R.walk h
 split at h
 ·exact R.carry h
 ·exact R.renew h
theorem RS.cloop:∀(n:Nat) {S S' : Sim},RS S→Sim.cloop n S = some S'→RS S'
 | 0,_,_,_,h=>by cases h
 | n + 1,S,S',R,h=>by
  unfold Sim.cloop at h;split at h
  ·obtain⟨S1,h1,h⟩:=Option.bind_eq_some_iff.1 h;exact RS.cloop n (R.work h1) h
  ·cases h;exact R
theorem RS.idle (R:RS S) (h:S.idle = some S'):RS S':=by
 unfold Sim.idle at h;obtain⟨n,hn,h⟩:=Option.bind_eq_some_iff.1 h;cases h;exact⟨R.w,R.t,RC.zero _ _,R.o⟩
theorem RS.drain:∀(n:Nat) {S S' : Sim},RS S→Sim.drain n S = some S'→RS S'
 | 0,_,_,_,h=>by cases h
 | n + 1,S,S',R,h=>by
  unfold Sim.drain at h;split at h
  ·cases h
  split at h
  ·dsimp only at h;split at h
   ·obtain⟨S1,h1,h⟩:=Option.bind_eq_some_iff.1 h;exact RS.drain n (R.look h1) h
   ·obtain⟨S1,h1,h⟩:=Option.bind_eq_some_iff.1 h;exact RS.drain n (R.mark h1) h
  ·cases h;exact R
theorem RS.choose {n:Nat} (R:RS S) (h:S.choose n = some S'):RS S':=by
 unfold Sim.choose at h;obtain⟨S1,h1,h⟩:=Option.bind_eq_some_iff.1 h;have R1:=RS.drain n R h1;dsimp only at h;obtain⟨t,ht,h⟩:=Option.bind_eq_some_iff.1 h;split at h
 ·exact RS.idle (by exact⟨R1.w,R1.t,R1.c,R1.o⟩) h
 ·cases h;exact⟨R1.w,R1.t,⟨Rn.zero,Rn.zero⟩,R1.o⟩
theorem RS.rootsF (R:RS S):∀{l l' : List Int},(∀a∈l,Rn a)→S.rootsF l = some l'→∀a∈l',Rn a
 | [],l',_,h=>by cases h;simp
 | a :: r,l',hl,h=>by
  unfold Sim.rootsF at h;obtain⟨f,hf,h⟩:=Option.bind_eq_some_iff.1 h;obtain⟨b,hb,h⟩:=Option.bind_eq_some_iff.1 h;obtain⟨l2,h2,h⟩:=Option.bind_eq_some_iff.1 h;cases h;have ih:=RS.rootsF R (λx hx=>hl x (by simp[hx])) h2;intro x hx;rcases List.mem_cons.1 hx with rfl | hx
  ·split at hb
   ·exact R.w _ (CE hb)
   ·cases hb;exact hl _ (by simp)
  ·exact ih x hx
theorem RS.thsF (R:RS S):∀{l l' : List Thr},(∀t∈l,RT t)→S.thsF l = some l'→∀t∈l',RT t
 | [],l',_,h=>by cases h;simp
 | t :: r,l',hl,h=>by
  unfold Sim.thsF at h;obtain⟨b,hb,h⟩:=Option.bind_eq_some_iff.1 h;obtain⟨l2,h2,h⟩:=Option.bind_eq_some_iff.1 h;cases h;have ih:=RS.thsF R (λx hx=>hl x (by simp[hx])) h2;have T:=hl t (by simp);intro x hx;rcases List.mem_cons.1 hx with rfl | hx
  ·exact⟨R.rootsF T.r hb,T.h,T.g,T.k,T.u,T.v,T.w,T.d⟩
  ·exact ih x hx
theorem RS.finish (R:RS S) (h:S.finish = some S'):RS S':=by
 unfold Sim.finish at h;obtain⟨th,h1,h⟩:=Option.bind_eq_some_iff.1 h;exact RS.idle (by exact⟨R.w,R.thsF R.t h1,R.c,R.o⟩) h
theorem RS.update (R:RS S) (h:S.update = some S'):RS S':=by
 unfold Sim.update at h;obtain⟨_,h1,h⟩:=Option.bind_eq_some_iff.1 h;cases h;exact⟨R.w,R.t,⟨Rn.zero,Rn.zero⟩,R.o⟩
end
def Rth (l:List Am):Prop:=∀x∈l,Rn x.at_∧∀n∈x.nums,Rn n
theorem Rn.at_ {w:List Int} {a:Int} (hw:∀x∈w,Rn x) (h:(BY w a).2 = true):Rn (BY w a).1.at_∧∀n∈(BY w a).1.nums,Rn n:=by
 unfold BY at h ⊢;split
 ·rename_i hf;rw[if_pos hf] at h;dsimp only at h ⊢;split
  ·refine⟨?_,λn hn=>hw n (List.mem_of_mem_drop (List.mem_of_mem_take hn))⟩;unfold fits By at hf;simp only[z_b,z_d] at hf;show Rn a;unfold Rn;omega
  ·exact⟨Rn.zero,by simp[DG]⟩
 ·exact⟨Rn.zero,by simp[DG]⟩
theorem Rth.from_ {w:List Int} (hw:∀x∈w,Rn x):∀(n:Nat) {a t:Int} {l:List Am},BK w n a t = some l→Rth l
 | 0,a,t,l,h=>by
  unfold BK at h;split at h
  ·cases h
  ·cases h;intro x hx;cases hx
 | n + 1,a,t,l,h=>by
  unfold BK at h;split at h
  ·dsimp only at h;split at h
   ·rename_i hc;split at h
    ·rename_i hr;cases h;intro x hx;rcases List.mem_cons.1 hx with rfl | hx
     ·exact Rn.at_ hw (by simp only[z_b] at hc;exact hc.1)
     ·exact Rth.from_ hw n hr x hx
    ·cases h
   ·cases h
  ·cases h;intro x hx;cases hx
theorem Rth.all {w:List Int} (hw:∀x∈w,Rn x):∀(t:List Rg) (r:Nat) {l:List Am},CC w r t = some l→Rth l
 | [],r,l,h=>by cases h;intro x hx;cases hx
 | x :: t,r,l,h=>by
  unfold CC at h;split at h
  ·cases h
  ·rename_i a ha;split at h
   ·cases h
   ·rename_i b hb;cases h;have h1:Rth a:=by
     unfold Bv at ha;split at ha
     ·exact Rth.from_ hw _ ha
     ·cases ha
    have h2:=Rth.all hw t (r + 1) hb;intro y hy;exact (List.mem_append.1 hy).elim (h1 y) (h2 y)
def Rw_ (w:List Int):Prop:=∀x∈w,Rn x
def Rtt (t:List Rg):Prop:=∀x∈t,Rn x.top
theorem Rw_.wr {w w' : List Int} {a v:Int} (R:Rw_ w) (hv:Rn v) (h:Sm.wr w a v = some w'):Rw_ w':=by
 unfold Sm.wr at h;split at h
 ·cases h;exact λx hx=>(Dn hx).elim (R x) λe=>e▸hv
 ·cases h
theorem Rw_.wrs:∀(l:List Int) {w w' : List Int} {a:Int},Rw_ w→(∀x∈l,Rn x)→Sm.wrs w a l = some w'→Rw_ w'
 | [],w,w',a,R,_,h=>by cases h;exact R
 | v :: l,w,w',a,R,hl,h=>by
  unfold Sm.wrs at h;obtain⟨w1,h1,h⟩:=Option.bind_eq_some_iff.1 h;exact Rw_.wrs l (R.wr (hl v (by simp)) h1) (λx hx=>hl x (by simp[hx])) h
theorem Nt {l:List Am} {a:Int} {x:Am} (h:Fl l a = some x):x∈l∧x.at_ = a:=by
 unfold Fl at h;exact⟨List.mem_of_find?_eq_some h,by simpa using List.find?_some h⟩
theorem Rw_.stay (s:CL) (hs:Rtt s.A0):∀(l:List Am) {w w' : List Int} {t t' : List Rg},Rth l→Rw_ w→Rtt t→Sm.stay s l w t = some (w',t')→Rw_ w'∧Rtt t'
 | [],w,w',t,t',_,R,T,h=>by cases h;exact⟨R,T⟩
 | x :: l,w,w',t,t',hl,R,T,h=>by
  unfold Sm.stay at h;dsimp only at h;have hl2:Rth l:=λy hy=>hl y (by simp[hy])
  obtain⟨q1,q2⟩:=hl x (by simp);split at h
  ·obtain⟨w1,h1,h⟩:=Option.bind_eq_some_iff.1 h;obtain⟨w2,h2,h⟩:=Option.bind_eq_some_iff.1 h;obtain⟨w3,h3,h⟩:=Option.bind_eq_some_iff.1 h;obtain⟨row,hr,h⟩:=Option.bind_eq_some_iff.1 h;obtain⟨_,_,h⟩:=Option.bind_eq_some_iff.1 h;refine Rw_.stay s hs l hl2 (Rw_.wrs _ ((R.wr q1 h1).wr Rn.shape h2) q2 h3) (λy hy=>?_) h;rcases Dn hy with hy | hy
   ·exact T y hy
   ·rw[hy];exact hs row (CE hr)
  ·exact Rw_.stay s hs l hl2 R T h
theorem Tr {a b c:Int} (h:CP a b = some c):Rn c:=by
 unfold CP at h;split at h
 ·cases h;rename_i q;exact q
 ·cases h
theorem Rw_.slide (AQ:List Int) {l:List Am} (hl:Rth l):∀(AF:List Int) {t t' : List Rg} {r:Int} {to to' : List Int},Rtt t→(∀d∈to,Rn d)→Sm.slide AQ l AF t r to = some (t',to')→∀d∈to',Rn d
 | [],t,t',r,to,to',T,ht,h=>by cases h;exact ht
 | a :: AF,t,t',r,to,to',T,ht,h=>by
  unfold Sm.slide at h;obtain⟨x,hx,h⟩:=Option.bind_eq_some_iff.1 h;obtain⟨hm,he⟩:=Nt hx;dsimp only at h;split at h
  ·refine Rw_.slide AQ hl AF T (λd hd=>?_) h;rcases List.mem_append.1 hd with hd | hd
   ·exact ht d hd
   ·rw[List.mem_singleton.1 hd,← he];exact (hl x hm).1
  obtain⟨r2,hr2,h⟩:=Option.bind_eq_some_iff.1 h;obtain⟨row,hrow,h⟩:=Option.bind_eq_some_iff.1 h;obtain⟨top,htop,h⟩:=Option.bind_eq_some_iff.1 h;refine Rw_.slide AQ hl AF (λy hy=>(Dn hy).elim (T y) λe=>e▸Tr htop) (λd hd=>?_) h;rcases List.mem_append.1 hd with hd | hd
  ·exact ht d hd
  ·rw[List.mem_singleton.1 hd];exact T row (CE hrow)
theorem Rw_.refs {l:List Am} {AF to:List Int} (ht:∀d∈to,Rn d):∀(r:List Int) {w w' : List Int} {a:Int},Rw_ w→Ft l AF to w a r = some w'→Rw_ w'
 | [],w,w',a,R,h=>by cases h;exact R
 | v :: r,w,w',a,R,h=>by
  unfold Ft at h;obtain⟨n,hn,h⟩:=Option.bind_eq_some_iff.1 h;dsimp only at h;obtain⟨w1,h1,h⟩:=Option.bind_eq_some_iff.1 h;refine Rw_.refs ht r ?_ h;split at h1
  ·obtain⟨d,hd,h1⟩:=Option.bind_eq_some_iff.1 h1;exact R.wr (ht d (CE hd)) h1
  ·cases h1;exact R
theorem Rw_.move {l:List Am} (hl:Rth l) {AF to:List Int} (ht:∀d∈to,Rn d):∀(la ld:List Int) {w w' : List Int},Rw_ w→(∀d∈ld,Rn d)→Ez l AF to la ld w = some w'→Rw_ w'
 | [],ld,w,w',R,_,h=>by unfold Ez at h;cases h;exact R
 | a :: la,[],w,w',R,_,h=>by unfold Ez at h;cases h;exact R
 | a :: la,d :: ld,w,w',R,hd,h=>by
  unfold Ez at h;obtain⟨x,hx,h⟩:=Option.bind_eq_some_iff.1 h;obtain⟨w1,h1,h⟩:=Option.bind_eq_some_iff.1 h;obtain⟨w2,h2,h⟩:=Option.bind_eq_some_iff.1 h;obtain⟨w3,h3,h⟩:=Option.bind_eq_some_iff.1 h;obtain⟨w4,h4,h⟩:=Option.bind_eq_some_iff.1 h;have R2:=(R.wr (hd d (by simp)) h1).wr Rn.shape h2;exact Rw_.move hl ht la ld (Rw_.wrs _ (Rw_.refs ht _ R2 h3) (hl x (Nt hx).1).2 h4) (λy hy=>hd y (by simp[hy])) h
theorem Rw_.A7 {l:List Am} {AF to:List Int} (ht:∀d∈to,Rn d):∀(r:List Int) {r' : List Int},Cm l AF to r = some r'→∀a∈r',Rn a
 | [],r',h=>by cases h;simp
 | a :: r,r',h=>by
  unfold Cm at h;obtain⟨n,hn,h⟩:=Option.bind_eq_some_iff.1 h;dsimp only at h;obtain⟨b,hb,h⟩:=Option.bind_eq_some_iff.1 h;obtain⟨r2,h2,h⟩:=Option.bind_eq_some_iff.1 h;cases h;have ih:=Rw_.A7 ht r h2;intro x hx;rcases List.mem_cons.1 hx with rfl | hx
  ·split at hb
   ·cases hb;exact Rn.zero
   ·exact ht _ (CE hb)
  ·exact ih x hx
theorem Rw_.ths {l:List Am} {AF to:List Int} (ht:∀d∈to,Rn d):∀(r:List Th) {r' : List Th},DH l AF to r = some r'→∀t∈r',∀a∈t.A7,Rn a
 | [],r',h=>by cases h;simp
 | t :: r,r',h=>by
  unfold DH at h;obtain⟨ro,hro,h⟩:=Option.bind_eq_some_iff.1 h;obtain⟨r2,h2,h⟩:=Option.bind_eq_some_iff.1 h;cases h;have ih:=Rw_.ths ht r h2;intro x hx;rcases List.mem_cons.1 hx with rfl | hx
  ·exact Rw_.A7 ht _ hro
  ·exact ih x hx
theorem Rtt.new (n:Int):Rtt (AN n):=by
 unfold AN;split
 ·intro x hx;cases hx
 ·intro x hx;rcases List.mem_cons.1 hx with rfl | hx
  ·exact Rn.zero
  ·obtain⟨k,hk,rfl⟩:=List.mem_map.1 hx;show Rn (AG _);unfold AG;split
   ·exact Rn.zero
   ·unfold Rn;omega
theorem Sx {s s' : CL} (hw:Rw_ s.A5) (ht:Rtt s.A0) (h:Fm s = some s'):Rw_ s'.A5∧∀t∈s'.AB,∀a∈t.A7,Rn a:=by
 unfold Fm at h;dsimp only at h;obtain⟨lv,h1,h⟩:=Option.bind_eq_some_iff.1 h;obtain⟨⟨w1,t1⟩,h2,h⟩:=Option.bind_eq_some_iff.1 h;obtain⟨⟨t2,to⟩,h3,h⟩:=Option.bind_eq_some_iff.1 h;obtain⟨w2,h4,h⟩:=Option.bind_eq_some_iff.1 h;obtain⟨th,h5,h⟩:=Option.bind_eq_some_iff.1 h;obtain⟨fu,h6,h⟩:=Option.bind_eq_some_iff.1 h;cases h;have hl:Rth ((C5 s).getD []):=by
  cases hs:C5 s with
  | none=>intro x hx;cases hx
  | some l=>exact Rth.all hw _ _ hs
 obtain⟨a1,a2⟩:=Rw_.stay s ht _ hl (λx hx=>by rw[(List.mem_replicate.1 hx).2];exact Rn.zero) (Rtt.new _) h2;have a3:=Rw_.slide s.AQ hl _ a2 (λd hd=>by cases hd) h3;exact⟨Rw_.move hl a3 _ _ a1 a3 h4,Rw_.ths a3 _ h5⟩
section
variable {S S' : Sim} {i a v:Int}
theorem RS.pause {n:Nat} (R:RS S) (T:Rtt S.A0) (h:S.pause n = some S'):RS S':=by
 unfold Sim.pause at h;split at h
 ·cases h
 split at h
 ·obtain⟨s,h1,h⟩:=Option.bind_eq_some_iff.1 h;cases h;obtain⟨a1,a2⟩:=Sx (s:=S.view) R.w T h1;refine⟨a1,λt ht=>?_,RC.zero _ _,R.o⟩;obtain⟨t',ht',rfl⟩:=List.mem_map.1 ht;exact RT.thr0 (a2 t' ht')
 dsimp only at h;have R1:RS { S with stop:=false }:=⟨R.w,R.t,R.c,R.o⟩;split at h
 ·cases h;exact⟨R.w,R.t,⟨Rn.zero,Rn.zero⟩,R.o⟩
 split at h
 ·exact R1.choose h
 split at h
 ·exact R1.update h
 ·exact R1.finish h
theorem RS.pick (R:RS S) (T:Rtt S.A0) {p:Int} (h:S.pick p = some S'):RS S':=by
 unfold Sim.pick at h;split at h
 ·exact R.thread h
 split at h
 ·unfold Sim.collector at h;split at h
  ·split at h
   ·exact R.pause T h
   ·cases h;exact R
  split at h
  ·split at h
   ·cases h;exact⟨R.w,R.t,⟨R.c.w,R.c.d⟩,R.o⟩
   ·cases h;exact R
  ·exact RS.cloop _ (by exact⟨R.w,R.t,R.c,R.o⟩) h
 split at h
 ·cases h;exact⟨R.w,R.t,⟨R.c.w,R.c.d⟩,R.o⟩
 ·cases h;exact R
theorem TQ {t:List Rg} (T:TOk t):Rtt t:=by
 intro x hx;obtain⟨k,hk,rfl⟩:=List.getElem_of_mem hx;have n1:=T.n1;have e:rv t k = t[k]:=ES hk;by_cases h0:k = 0
 ·subst h0;have h2:=T.e;rw[show (0:Int) = ((0:Nat):Int) from rfl,e] at h2;rw[h2];exact Rn.zero
 ·have r:=T.row k (by omega) (by omega);rw[e] at r;have t0:=r.t0;have t1:=r.t1;unfold Rn;omega
theorem N8 {P:List (List Op)}:∀(ps:List Int) (c:Nat) (S S' : Sim) (g:Gh),c + 5 * ps.length < 900000→IG P S g→Bd c S→RS S→Sim.picks ps S = some S'→RS S'
 | [],c,S,S',g,_,_,_,R,h=>by cases h;exact R
 | p :: r,c,S,S',g,hc,I,B,R,h=>by
  simp only[List.length_cons] at hc;obtain⟨S1,g1,e1,I1,B1⟩:=Lm (p:=p) (by omega) I B;unfold Sim.picks at h;obtain⟨S2,h2,h⟩:=Option.bind_eq_some_iff.1 h;rw[e1] at h2;cases h2;exact N8 r (c + 5) _ S' g1 (by omega) I1 B1 (R.pick (TQ I.sh.g.ok) e1) h
theorem Qy {c:Cfg} {AU:List (List Op)} (ho:∀p∈AU,∀o∈p,Rn o.v):RS (start c AU):=by
 refine⟨?_,λt ht=>?_,RC.zero _ _,ho⟩
 ·show ∀x∈(Bx (List.replicate (c.A6.toNat * 16) 0) 16 Bi).1,Rn x;unfold Bx;split
  ·intro x hx;unfold put at hx;have hall' : Ag Bi = 66:=by decide
   rw[hall'] at hx;simp only[List.mem_append,List.mem_cons,List.mem_singleton,List.not_mem_nil,or_false] at hx;rcases hx with (hx | (rfl | rfl) | hx) | hx
   ·rw[(List.mem_replicate.1 (List.mem_of_mem_take hx)).2];exact Rn.zero
   ·unfold Rn;omega
   ·unfold Rn;omega
   ·rw[(List.mem_replicate.1 hx).2];exact Rn.zero
   ·rw[(List.mem_replicate.1 (List.mem_of_mem_drop hx)).2];exact Rn.zero
  ·intro x hx;cases hx
 ·rw[(List.mem_replicate.1 ht).2];exact RT.thr0 (λa ha=>by rw[List.mem_singleton.1 ha];unfold Rn;omega)
end
end Sm
end
