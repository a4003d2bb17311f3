/- A part of the proof of the given row. Conditions: none. -/
import Derived.Test.YthfhnheigfoioaaGreatFE
set_option linter.unusedVariables false
set_option linter.unusedSimpArgs false
set_option maxRecDepth 100000
section
namespace Sm
variable {P:List (List Op)}
theorem bj {x:X} {o src d word:Int} {t' : List Rg} (H:Sh x) (y:x.L src) (G:Be x.t src) (D:x.ph = 2) (P:UT x.t o (sz x.w src) t' d) :
  Sh { x with t:=t' }/\Kp o x { x with t:=t' }/\Cp { x with t:=t' } o src d (sz x.w src) 1 word 21:=by
 obtain⟨A,K,O⟩:=room H P;have g:=H.g.inn (H.lb _ y);refine⟨A,K,⟨δ,y,K.frm.2 G,D,λ_=>rfl,λ_=>O,λ_=>Z,λ_=>Z,λ_ j N Q=>Z,λh=>absurd h δ,λh=>absurd h δ,λh=>absurd h δ⟩⟩
theorem cT {x:X} {o src d size i word:Int} (c:Cp x o src d size i word 21):Cp x o src d size i (wv x.w (src + i)) 22:=
 ⟨δ,c.ls,c.fs,c.p2,λ_=>c.sz δ,λ_=>c.ow δ,λ_=>c.i0 δ,λ_=>c.i1 δ,λ_=>c.cp δ,λ_=>rfl,λh=>absurd h δ,λh=>absurd h δ⟩
theorem cI {x:X} {o src d size i word:Int} (H:Sh x) (c:Cp x o src d size i word 22):Sh { x with w:=AU x.w (d + i) word }/\Kp o x { x with w:=AU x.w (d + i) word }/\Cp { x with w:=AU x.w (d + i) word } o src d size (i + 1) word (if i + 1 = size then 23 else 21):=by
 have O:=c.ow δ;have T:=c.i0 δ;have W:=c.i1 (.inr rfl);obtain⟨N,K⟩:=Xx (z:=d + i) (v:=word) H O Z Z;have g:=H.g.inn (H.lb _ c.ls);have Q:=c.sz δ;have wl:=O.wl H.g;have d0:=O.d0;have e:∀u,0<=u->wv (AU x.w (d + i) word) u = if u = d + i then word else wv x.w u:=λu R=>Cn Z Z R
 have A:∀j,0<=j->j < sz x.w src->wv (AU x.w (d + i) word) (src + j) = wv x.w (src + j):=λj y G=>by
  rw[e _ Z,if_neg (O.sep H.g Z Z (H.lb _ c.ls) y G)]
 refine⟨N,K,?_⟩;have D:∀q:Int,(q = 21\/q = 23)->(q = 23->i + 1 = size)->(q = 21->i + 1≠size)->Cp { x with w:=AU x.w (d + i) word } o src d size (i + 1) word q:=λq hq h5 h6=>by
  refine⟨Z,c.ls,c.fs,c.p2,λ_=>?_,λ_=>⟨O.d0,O.k,O.o,O.top,O.fit⟩,λ_=>Z,λh=>Z,λ_ j y G=>?_,λh=>Z,λh=>Z,λh=>Z⟩
  .show size = sz (AU x.w (d + i) word) src;rw[Hm (A 1 Z Z)];exact Q
  .show wv (AU x.w (d + i) word) (d + j) = wv (AU x.w (d + i) word) (src + j);rw[A j Z Z,e _ Z];by_cases h:j = i
   .subst h;rw[if_pos rfl];exact c.wd rfl
   .rw[if_neg Z];exact c.cp δ j y Z
 split
 .exact D 23 (.inr rfl) (λ_=>by assumption) (λh=>absurd h δ)
 .exact D 21 (.inl rfl) (λh=>absurd h δ) (λ_=>by assumption)
theorem cB {x:X} {o src d size i word:Int} (H:Sh x) (c:Cp x o src d size i word 23):Sh { x with w:=AU x.w d d }/\Kp o x { x with w:=AU x.w d d }/\Cp { x with w:=AU x.w d d } o src d size i word 24:=by
 have O:=c.ow δ;have G:=c.i0 δ;have N:=c.dn δ;obtain⟨Q,K⟩:=Xx (z:=d) (v:=d) H O Z Z;have g:=H.g.inn (H.lb _ c.ls);have R:=c.sz δ;have wl:=O.wl H.g;have d0:=O.d0;have e:∀u,0<=u->wv (AU x.w d d) u = if u = d then d else wv x.w u:=λu T=>Cn Z Z T
 have D:∀j,0<=j->j < sz x.w src->wv (AU x.w d d) (src + j) = wv x.w (src + j):=λj y A=>by
  rw[e _ Z,if_neg (O.sep H.g Z Z (H.lb _ c.ls) y A)]
 refine⟨Q,K,⟨δ,c.ls,c.fs,c.p2,λ_=>?_,λ_=>⟨O.d0,O.k,O.o,O.top,O.fit⟩,λ_=>G,λh=>absurd h δ,λ_ j y A=>?_,λh=>absurd h δ,λ_=>N,λ_=>?_⟩⟩
 .show size = sz (AU x.w d d) src;rw[Hm (D 1 Z Z)];exact R
 .show wv (AU x.w d d) (d + j) = wv (AU x.w d d) (src + j);rw[D j Z Z,e _ Z,if_neg Z];exact c.cp δ j y A
 .show wv (AU x.w d d) d = d;rw[e _ Z,if_pos rfl]
theorem cP {x:X} {o src d size i word:Int} (H:Sh x) (c:Cp x o src d size i word 24) (T:wv x.w src = src) :
  Sh { x.pub d size with w:=AU x.w src d }/\Kp o x { x.pub d size with w:=AU x.w src d }/\¬ Be (x.pub d size).t d/\16<=d/\d≠src:=by
 have O:=c.ow δ;have h1:=c.i0 δ;have h2:=c.dn δ;have g:=H.g.inn (H.lb _ c.ls);have R:=c.sz δ;have d0:=O.d0;have sb:=G8 x.w src;have y:wv x.w (d + 1) = wv x.w (src + 1):=c.cp δ 1 δ Z;have Q:sz x.w d = size:=by
  unfold sz;rw[EI (a:=d) (w:=x.w) (w':=x.w) rfl];have:shp x.w d = shp x.w src:=by unfold shp;rw[y]
  rw[this];exact R.symm
 have N:shp x.w d = shp x.w src:=by unfold shp;rw[y]
 have nd:d≠src:=by
  intro h;have:=O.sep H.g (z:=d) Z Z (H.lb _ c.ls) (k:=0) Z Z;omega
 obtain⟨P,K⟩:=pub H O Q (by rw[y];exact (H.g.at_ _ (H.lb _ c.ls)).2.2) (c.hd rfl) (λj W A=>by
  rw[N] at A
  rw[show d + 2 + j = d + (2 + j) from Z,c.cp δ (2 + j) Z Z,show src + (2 + j) = src + 2 + j from Z]
  exact H.rf src j c.ls W A) (λh=>absurd h (by rw[c.p2];decide))
 have nf:¬ Be (x.pub d size).t d:=λh=>by
  have:=(K.frm.1 h).2;rw[O.k] at this;cases this
 obtain⟨G,D⟩:=fwd (o:=o) (x:=x.pub d size) P (K.l _ c.ls) (K.frm.2 c.fs) T (.inr rfl) nf y (by rw[K.ph,c.p2];decide);exact⟨G,K.trans D H P,nf,d0,nd⟩
theorem Tt {c:Nat} {S:Sim} {g:Gh} {i:Int} {t:Thr} {o:Op} (I:IG P S g) (B:Bd c S) (H:idx S.th i = some t) (ho:S.opOf i t = some o) (b:Bs (xof S g) o t t.ret) (r:I8 t.ret) (e:Bx t t.ret = t.src) (cp:Cp (xof S g) i t.src t.dst t.size t.i t.word t.pc):Out P c i t.pc (S.copying i):=by
 have T:=I.ti i t H;have p:=cp.p;have G:t.pc≠0:=Z
 have b0:=I.wl;obtain⟨a1,a2,a3,a4,a5,a6⟩:=I.in_ cp.ls;obtain⟨i0,i1,_⟩:=G4 t H;have a9:=I.n1;have B1:Bd c { S with used:=true }:=⟨B.ev,B.old,B.cy,B.fu,B.st,B.pn⟩;unfold Sim.copying;rw[H];simp only[di,z_o];by_cases a0:t.pc = 20
 .rw[if_pos a0,BV Z Z];simp only[z_o];rw[CZ Z Z];simp only[z_o];have es:AH (AT (wv S.AC (t.src + 1))).1 = sz S.AC t.src:=rfl;rw[es];rcases GG (o:=i) (size:=sz S.AC t.src) I.sh.g.ok Z Z Z Z with h | ⟨t',d,h,P⟩
  .have h' : BZ S.AA i (sz S.AC t.src) = none:=h;simp only[h'];obtain⟨S',R,D,A,y⟩:=RW (S1:={ S with used:=true }) I B1 H I.sh (Kp.refl i _) ⟨rfl,rfl,rfl,rfl,rfl,rfl,λ_ _=>rfl⟩;exact⟨S',g,R,D,A.mono (fF c),.inr ⟨_,y,.inl rfl⟩⟩
  .have h' : BZ S.AA i (sz S.AC t.src) = some (t',d):=h;simp only[h'];obtain⟨R,K,C⟩:=bj (word:=t.word) I.sh cp.ls cp.fs cp.p2 P;obtain⟨D,A,y⟩:=Cy (S1:={ S with used:=true,AA:=t' }) (g':=g) (t':={ t with size:=sz S.AC t.src,dst:=d,i:=1,pc:=21 }) I (c:=c) ⟨B.ev,B.old,B.cy,B.fu,B.st,B.pn⟩ H R K ⟨rfl,rfl,rfl,rfl,rfl,rfl,P.AJ⟩
    (T.upd K rfl rfl G ho (.cp ((b.stable I.sh K).eqv rfl rfl rfl rfl rfl rfl) r (by show Bx _ t.ret = t.src;rw[<- e];rfl) C))
   exact⟨_,g,rfl,D,A.mono (fF c),.inl rfl⟩
 rw[if_neg a0];have j0:=cp.i0 Z;have hs:=cp.sz Z;have O:=cp.ow Z;have ow:=O.wl I.sh.g;have d0:=O.d0;simp only at hs ow;by_cases N:t.pc = 21
 .rw[if_pos N];have j1:=cp.i1 (.inl N);rw[BV Z Z];simp only[z_o];rw[CZ Z Z];simp only[z_o];rw[N] at cp;obtain⟨D,A,y⟩:=Cy (S1:={ S with used:=true }) (t':={ t with word:=wv S.AC (t.src + t.i),pc:=22 }) I B1 H I.sh (Kp.refl i _) ⟨rfl,rfl,rfl,rfl,rfl,rfl,λ_ _=>rfl⟩
   (T.upd (Kp.refl i _) rfl rfl G ho (.cp (b.eqv rfl rfl rfl rfl rfl rfl) r (by show Bx _ t.ret = t.src;rw[<- e];rfl) (cT cp)))
  exact⟨_,g,rfl,D,A.mono (fF c),.inl rfl⟩
 rw[if_neg N];by_cases Q:t.pc = 22
 .rw[if_pos Q];have j1:=cp.i1 (.inr Q);rw[BV Z Z];simp only[z_o];rw[DK Z Z];simp only[z_o];rw[BV Z Z];simp only[z_o];rw[Q] at cp;obtain⟨R,K,C⟩:=cI I.sh cp;obtain⟨D,A,y⟩:=Cy (S1:={ S with used:=true,AC:=AU S.AC (t.dst + t.i) t.word }) (g':=g) (t':={ t with i:=t.i + 1,pc:=if t.i + 1 = t.size then 23 else 21 }) I (c:=c) ⟨B.ev,B.old,B.cy,B.fu,B.st,B.pn⟩ H R K ⟨rfl,rfl,rfl,rfl,rfl,rfl,λ_ _=>rfl⟩
   (T.upd K rfl rfl G ho (.cp ((b.stable I.sh K).eqv rfl rfl rfl rfl rfl rfl) r (by show Bx _ t.ret = t.src;rw[<- e];rfl) C))
  exact⟨_,g,rfl,D,A.mono (fF c),.inl rfl⟩
 rw[if_neg Q];by_cases W:t.pc = 23
 .rw[if_pos W];rw[DK Z Z];simp only[z_o];rw[W] at cp;obtain⟨R,K,C⟩:=cB I.sh cp;obtain⟨D,A,y⟩:=Cy (S1:={ S with used:=true,AC:=AU S.AC t.dst t.dst }) (g':=g) (t':={ t with pc:=24 }) I (c:=c) ⟨B.ev,B.old,B.cy,B.fu,B.st,B.pn⟩ H R K ⟨rfl,rfl,rfl,rfl,rfl,rfl,λ_ _=>rfl⟩
   (T.upd K rfl rfl G ho (.cp ((b.stable I.sh K).eqv rfl rfl rfl rfl rfl rfl) r (by show Bx _ t.ret = t.src;rw[<- e];rfl) C))
  exact⟨_,g,rfl,D,A.mono (fF c),.inl rfl⟩
 rw[if_neg W,if_pos Z,if_neg (by have:=r.le;omega)];have a8:t.pc = 24:=Z
 rw[a8] at cp;rw[CZ Z Z];simp only[z_o];by_cases hw:wv S.AC t.src = t.src
 .rw[if_pos hw,DK (by show (0:Int)<=_;omega) (by show _ < (S.AC.length:Int);omega)];simp only[z_o];obtain⟨R,K,nf,_,_⟩:=cP I.sh cp hw;have a7:Sim.top { S with used:=true,AC:=AU S.AC t.src t.dst } t.dst t.size = some { S with used:=true,AC:=AU S.AC t.src t.dst,AA:=AU S.AA (t.dst / 16) { rv S.AA (t.dst / 16) with top:=t.dst + t.size } }:=by
   unfold Sim.top;rw[Bc Z];show (match idx S.AA (t.dst / 16) with | some x=>_ | none=>_) = _;rw[Cz Z O.inn];simp only[];rw[BV Z Z]
  simp only[a7,z_o];have j:=Jw t t.ret t.dst;obtain⟨D,A,y⟩:=Cy (S1:={ S with used:=true,AC:=AU S.AC t.src t.dst,AA:=AU S.AA (t.dst / 16) { rv S.AA (t.dst / 16) with top:=t.dst + t.size } }) (g':={ g with B:=λa=>g.B a\/a = t.dst,L:=λa=>g.L a\/a = t.dst }) (t':=C7 t t.ret t.dst) I (c:=c) ⟨B.ev,B.old,B.cy,B.fu,B.st,B.pn⟩ H R K ⟨rfl,rfl,rfl,rfl,rfl,rfl,λq q0=>by
    show (rv (AU S.AA (t.dst / 16) _) q).AJ = _
    rw[DV Z O.inn q0];split
    .subst q;rfl
    .rfl⟩
   (by
    have:S.opOf i (C7 t t.ret t.dst) = S.opOf i t:=by unfold Sim.opOf;rw[j.2.1]
    rw[this]
    exact T.upd K j.1 j.2.1 G ho (.bs (by rw[j.2.2];exact (b.stable I.sh K).hold r (.inr rfl) Z nf)))
  exact⟨_,_,rfl,D,A.mono (fF c),.inl rfl⟩
 .rw[if_neg hw];obtain⟨f1,f2,_⟩:g.L (wv S.AC t.src)/\¬ Be S.AA (wv S.AC t.src)/\_:=I.sh.fw _ (I.sh.lb _ cp.ls) cp.fs hw;have j:=Jw t t.ret (wv S.AC t.src);obtain⟨D,A,y⟩:=Cy (S1:={ S with used:=true }) (t':=C7 t t.ret (wv S.AC t.src)) I B1 H I.sh (Kp.refl i _) ⟨rfl,rfl,rfl,rfl,rfl,rfl,λ_ _=>rfl⟩
   (by
    have:S.opOf i (C7 t t.ret (wv S.AC t.src)) = S.opOf i t:=by unfold Sim.opOf;rw[j.2.1]
    rw[this]
    exact T.upd (Kp.refl i _) j.1 j.2.1 G ho (.bs (by rw[j.2.2];exact b.hold r f1 (by have:=I.in_ f1;omega) f2)))
  exact⟨_,g,rfl,D,A.mono (fF c),.inl rfl⟩
end Sm
end
section
namespace Sm
variable {P:List (List Op)}
theorem Eb {s:Shp} (h:BN s = true):AT (AZ s) = (s,true):=by
 have hb:=h;simp only[BN,z_b,z_d] at hb;unfold AZ AT;rw[if_pos h];have j:(16 * s.refs + s.nums) / 16 = s.refs:=Z
 have x:(16 * s.refs + s.nums) % 16 = s.nums:=Z
 rw[if_pos Z,j,x]
theorem ao {x:X} {o dst size:Int} {s:Shp} (H:Sh x) (O:Ow x o dst size) (ok:BN s = true) (G:size = AH s) (hd:wv x.w dst = dst) (sp:wv x.w (dst + 1) = AZ s) (K:∀j,2<=j->j < size->wv x.w (dst + j) = 0) :
  Sh (x.pub dst size)/\Kp o x (x.pub dst size):=by
 have e:shp x.w dst = s:=by unfold shp;rw[sp,Eb ok]
 have N:=G8 x.w dst;have D:sz x.w dst = size:=by unfold sz;rw[e,G]
 have z:∀j,0<=j->j < (shp x.w dst).refs->wv x.w (dst + 2 + j) = 0:=λj y A=>by
  have:=K (2 + j) Z Z;rwa [<- Int.add_assoc] at this
 refine pub H O D (by rw[sp,Eb ok]) hd (λj y A h=>absurd (z j y A) h) (λ_ j y A=>?_);rw[z j y A];intro h;have:=h.2;rw[show (0:Int) / 16 = 0 from rfl,H.g.ok.e] at this;cases this
theorem PN {α:Type} {l:List α} {i:Int} {t:α} (h:idx l i = some t):0<=i/\i < l.length:=by
 obtain⟨h0,j,_⟩:=G4 t h;exact⟨h0,j⟩
theorem XR {S:Sim} {a n:Int} (h0:16<=a) (j:a / 16 < S.AA.length) (x:-1000000<=a + n) (y:a + n<=1000000):S.top a n = some { S with AA:=AU S.AA (a / 16) { rv S.AA (a / 16) with top:=a + n } }:=by
 unfold Sim.top;rw[Bc Z,Cz Z j];simp only[];rw[BV x y]
theorem ci {c:Nat} {S S1:Sim} {g:Gh} {i:Int} {t t' : Thr} {o:Op} (hc:c < 900000) (I:IG P S g) (B:Bd c S1) (G:idx S.th i = some t) (H:S.opOf i t = some o) (hk:o.kind = 1) (N:t.pc≠0) (x:Sh (xof S1 g)) (K:Kp i (xof S g) (xof S1 g)) (E:BI S S1)
  (O:Ow (xof S1 g) i t.dst t.size) (ok:BN o.sh = true) (hs:t.size = AH o.sh) (hd:wv S1.AC t.dst = t.dst) (sp:wv S1.AC (t.dst + 1) = AZ o.sh) (hz:∀j,2<=j->j < t.size->wv S1.AC (t.dst + j) = 0)
  (Q:t'.AD = t.AD) (A : t'.next = t.next) (y:t'.dst = t.dst) (R:t'.size = t.size) :
  ∃D,((S1.setT i t').top t'.dst t'.size >>= λS=>S.push i t'.dst) = some D/\(∃g',IG P D g')/\Bd (c + 1) D/\idx D.th i = some (thr0 (t.AD ++ [t.dst]) (t.next + 1) 0):=by
 have T:=I.ti i t G;have hn:=I.next G H;have fit:=O.fit;have d0:=O.d0;have inn:t.dst / 16 < S1.AA.length:=O.inn;have n1:=x.g.ok.n1;simp only at n1;have hl:=T.r8 o H N (.inl hk);have sb:2<=t.size/\t.size<=10:=by
  have hb:=ok;simp only[BN,z_b,z_d] at hb;rw[hs,NP Z];omega
 rw[y,R,XR d0 (by exact inn) Z Z];simp only[di,z_o];obtain⟨h1,K1⟩:=ao x O ok hs hd sp hz;have B2:Bd c { S1 with AA:=AU S1.AA (t.dst / 16) { rv S1.AA (t.dst / 16) with top:=t.dst + t.size } }:=⟨B.ev,B.old,B.cy,B.fu,B.st,B.pn⟩;rw[U5 (t:=t') ?_ (by rw[Q];omega) ?_ (by rw[A];exact hn)]
 .obtain⟨I',B',W⟩:=Gn (ans:=0) (code:=0) (S1:={ S1 with AA:=AU S1.AA (t.dst / 16) { rv S1.AA (t.dst / 16) with top:=t.dst + t.size } }) (g':={ g with B:=λa=>g.B a\/a = t.dst,L:=λa=>g.L a\/a = t.dst }) I B2 G H h1 (K.trans K1 I.sh x) ⟨E.th,E.col,E.AQ,E.pc_,E.stop,E.full,λq q0=>by
    rw[<- E.AJ q q0]
    show (rv (AU S1.AA (t.dst / 16) _) q).AJ = _
    rw[DV Z inn q0];split
    .subst q;rfl
    .rfl⟩ (t.AD ++ [t.dst]) (λa h h0=>by
     rcases eI.1 h with h | h
     .exact .inl (K.l a (T.rt a h h0))
     .simp only[dz] at h;exact .inr h) (by simp;omega)
  refine⟨_,?_,⟨_,I'⟩,B',W⟩;unfold Sim.evd Sim.setT;simp only[Jn,Q,A]
 .refine Xj (c:=c) ⟨B.ev,B.old,B.cy,B.fu,B.st,B.pn⟩ hc λu hu=>?_
  rcases fg (show u∈AU S1.th i t' from hu) with h | h
  .rw[E.th] at h;have:=I.AD u h;omega
  .rw[h,Q];omega
 .show idx (AU S1.th i t') i = _;rw[E.th];exact GR G
theorem W4 {c:Nat} {S:Sim} {g:Gh} {i:Int} {t:Thr} {o:Op} (hc:c < 900000) (I:IG P S g) (B:Bd c S) (H:idx S.th i = some t) (W:S.opOf i t = some o) (m:Mg (xof S g) i o t):Out P c i t.pc (S.making i):=by
 have T:=I.ti i t H;have p:=m.p;have G:t.pc≠0:=Z
 have a5:=I.wl;obtain⟨i0,i1⟩:=PN H;have a4:=I.n1;have sb:2<=AH o.sh/\AH o.sh<=10:=by
  have hb:=m.sh;simp only[BN,z_b,z_d] at hb;rw[NP Z];omega
 unfold Sim.making;rw[H];simp only[di,z_o];rw[W];simp only[z_o];by_cases a0:t.pc = 30
 .rw[if_pos a0];rcases GG (o:=i) (size:=AH o.sh) I.sh.g.ok Z Z Z Z with h | ⟨t',d,h,P⟩
  .have h' : BZ S.AA i (AH o.sh) = none:=h;simp only[h'];split
   .rw[F4 (I.szok rfl B hc) H (I.next H W)];obtain⟨D,A,x⟩:=Gn (ans:=0) (code:=6) I B H W I.sh (Kp.refl i _) (BI.refl S) t.AD T.rt T.rl;exact⟨_,g,rfl,D,A,.inr ⟨_,x,.inl rfl⟩⟩
   .obtain⟨S',N,D,A,x⟩:=RW I B H I.sh (Kp.refl i _) (BI.refl S);exact⟨S',g,N,D,A.mono (fF c),.inr ⟨_,x,.inl rfl⟩⟩
  .have h' : BZ S.AA i (AH o.sh) = some (t',d):=h;simp only[h'];obtain⟨N,K,O⟩:=room I.sh P;obtain⟨D,A,x⟩:=Cy (S1:={ S with AA:=t' }) (g':=g) (t':={ t with size:=AH o.sh,dst:=d,i:=2,pc:=31 }) I (c:=c) ⟨B.ev,B.old,B.cy,B.fu,B.st,B.pn⟩ H N K ⟨rfl,rfl,rfl,rfl,rfl,rfl,P.AJ⟩
    (T.upd K rfl rfl G W (.mg ⟨V,m.k,m.sh,λ_=>rfl,λ_=>O,λ_ _=>rfl,V,V,V,V⟩))
   refine⟨_,g,rfl,D,A.mono (fF c),.inr ⟨_,x,.inr ?_⟩⟩;rw[a0];show rk 31 < rk 30;decide
 rw[if_neg a0];have hs:=m.sz Z;have O:=m.ow Z;have ow:t.dst + t.size<=S.AC.length:=O.wl I.sh.g;have d0:=O.d0;by_cases a1:t.pc = 31
 .rw[if_pos a1,DK Z Z];simp only[z_o];obtain⟨N,K⟩:=Xx (z:=t.dst) (v:=t.dst) I.sh O Z Z;obtain⟨D,A,x⟩:=Cy (S1:={ S with used:=true,AC:=AU S.AC t.dst t.dst }) (g':=g) (t':={ t with pc:=32 }) I (c:=c) ⟨B.ev,B.old,B.cy,B.fu,B.st,B.pn⟩ H N K ⟨rfl,rfl,rfl,rfl,rfl,rfl,λ_ _=>rfl⟩
   (T.upd K rfl rfl G W (.mg ⟨V,m.k,m.sh,λ_=>hs,λ_=>⟨O.d0,O.k,O.o,O.top,O.fit⟩,λ_ _=>m.i2 Z Z,V,λ_=>by
    show wv (AU S.AC t.dst t.dst) t.dst = t.dst
    rw[Cn Z Z Z,if_pos rfl],V,V⟩))
  exact⟨_,g,rfl,D,A.mono (fF c),.inl rfl⟩
 rw[if_neg a1];by_cases a2:t.pc = 32
 .have hi:=m.i2 Z Z;have hd:wv S.AC t.dst = t.dst:=m.hd Z;rw[if_pos a2,BV Z Z];simp only[z_o];rw[DK Z Z];simp only[z_o];obtain⟨N,K⟩:=Xx (z:=t.dst + 1) (v:=AZ o.sh) I.sh O Z Z;have e:∀u,0<=u->wv (AU S.AC (t.dst + 1) (AZ o.sh)) u = if u = t.dst + 1 then AZ o.sh else wv S.AC u:=λu hu=>Cn Z Z hu
  have Q : wv (AU S.AC (t.dst + 1) (AZ o.sh)) t.dst = t.dst:=by rw[e _ Z,if_neg Z];exact hd
  have R : wv (AU S.AC (t.dst + 1) (AZ o.sh)) (t.dst + 1) = AZ o.sh:=by rw[e _ Z,if_pos rfl]
  have O' : Ow (xof { S with used:=true,AC:=AU S.AC (t.dst + 1) (AZ o.sh) } g) i t.dst t.size:=⟨O.d0,O.k,O.o,O.top,O.fit⟩;split
  .rename_i y;have y:t.i = t.size:=y;obtain⟨S',e1,⟨g',D⟩,A,x⟩:=ci (S1:={ S with used:=true,AC:=AU S.AC (t.dst + 1) (AZ o.sh) }) (t':={ t with pc:=33 }) hc I ⟨B.ev,B.old,B.cy,B.fu,B.st,B.pn⟩ H W m.k G N K ⟨rfl,rfl,rfl,rfl,rfl,rfl,λ_ _=>rfl⟩ O' m.sh hs Q R (λj j0 j1=>Z) rfl rfl rfl rfl;exact⟨S',g',e1,D,A,.inr ⟨_,x,.inl rfl⟩⟩
  .rename_i y;have y:t.i≠t.size:=y;obtain⟨D,A,x⟩:=Cy (S1:={ S with used:=true,AC:=AU S.AC (t.dst + 1) (AZ o.sh) }) (g':=g) (t':={ t with pc:=33 }) I (c:=c) ⟨B.ev,B.old,B.cy,B.fu,B.st,B.pn⟩ H N K ⟨rfl,rfl,rfl,rfl,rfl,rfl,λ_ _=>rfl⟩
    (T.upd K rfl rfl G W (.mg ⟨V,m.k,m.sh,λ_=>hs,λ_=>O',λ_ h=>absurd h V,λ_=>⟨by show 2<=t.i;omega,by show t.i < t.size;omega⟩,λ_=>Q,λ_=>R,λ_ j j0 j1=>by have j1:j < t.i:=j1;omega⟩))
   exact⟨_,g,rfl,D,A.mono (fF c),.inl rfl⟩
 .have a3:t.pc = 33:=Z
  have hi:=m.i3 a3;have hd:wv S.AC t.dst = t.dst:=m.hd Z;have sp:wv S.AC (t.dst + 1) = AZ o.sh:=m.sp Z;have z:∀j,2<=j->j < t.i->wv S.AC (t.dst + j) = 0:=m.z Z;rw[if_neg a2,if_pos a3,BV Z Z];simp only[z_o];rw[DK Z Z];simp only[z_o];rw[BV Z Z];simp only[z_o];obtain⟨N,K⟩:=Xx (z:=t.dst + t.i) (v:=0) I.sh O Z Z;have e:∀u,0<=u->wv (AU S.AC (t.dst + t.i) 0) u = if u = t.dst + t.i then 0 else wv S.AC u:=λu hu=>Cn Z Z hu
  have Q : wv (AU S.AC (t.dst + t.i) 0) t.dst = t.dst:=by rw[e _ Z,if_neg Z];exact hd
  have R : wv (AU S.AC (t.dst + t.i) 0) (t.dst + 1) = AZ o.sh:=by rw[e _ Z,if_neg Z];exact sp
  have z' : ∀j,2<=j->j < t.i + 1->wv (AU S.AC (t.dst + t.i) 0) (t.dst + j) = 0:=λj j0 j1=>by
   rw[e _ Z];split
   .rfl
   .exact z j j0 Z
  have O' : Ow (xof { S with used:=true,AC:=AU S.AC (t.dst + t.i) 0 } g) i t.dst t.size:=⟨O.d0,O.k,O.o,O.top,O.fit⟩;split
  .rename_i y;have y:t.i + 1 = t.size:=y;obtain⟨S',e1,⟨g',D⟩,A,x⟩:=ci (S1:={ S with used:=true,AC:=AU S.AC (t.dst + t.i) 0 }) (t':={ t with i:=t.i + 1,pc:=33 }) hc I ⟨B.ev,B.old,B.cy,B.fu,B.st,B.pn⟩ H W m.k G N K ⟨rfl,rfl,rfl,rfl,rfl,rfl,λ_ _=>rfl⟩ O' m.sh hs Q R (λj j0 j1=>z' j j0 Z) rfl rfl rfl rfl;exact⟨S',g',e1,D,A,.inr ⟨_,x,.inl rfl⟩⟩
  .rename_i y;have y:t.i + 1≠t.size:=y;obtain⟨D,A,x⟩:=Cy (S1:={ S with used:=true,AC:=AU S.AC (t.dst + t.i) 0 }) (g':=g) (t':={ t with i:=t.i + 1,pc:=33 }) I (c:=c) ⟨B.ev,B.old,B.cy,B.fu,B.st,B.pn⟩ H N K ⟨rfl,rfl,rfl,rfl,rfl,rfl,λ_ _=>rfl⟩
    (T.upd K rfl rfl G W (.mg ⟨V,m.k,m.sh,λ_=>hs,λ_=>O',λ_ h=>absurd h V,λ_=>⟨by show 2<=t.i + 1;omega,by show t.i + 1 < t.size;omega⟩,λ_=>Q,λ_=>R,λ_ j j0 j1=>z' j j0 j1⟩))
   exact⟨_,g,rfl,D,A.mono (fF c),.inl rfl⟩
theorem UB {c:Nat} {S:Sim} {g:Gh} {i v:Int} (G:S.sz = true) (H:Sh (xof S g)) (B:Bd c S) (D:v≠0->g.L v) :
  ∃j,S.oldV v = some j/\Sh (xof j g)/\Kp i (xof S g) (xof j g)/\BI S j/\Bd (c + 1) j/\j.used = S.used/\j.AC = S.AC/\j.AA = S.AA/\j.Ac = S.Ac/\(S.Ac = 1->Lg (xof j g) v):=by
 unfold Sim.oldV;rw[G];simp only[hQ,eO,if_false];by_cases y:S.Ac = 1
 .by_cases h0:v = 0
  .rw[if_neg Z];exact⟨S,rfl,H,Kp.refl i _,BI.refl S,B.mono (fF c),rfl,rfl,rfl,rfl,λ_=>.inl h0⟩
  .rw[if_pos ⟨y,h0⟩];have M:=H.mp y;obtain⟨P,K⟩:=dM (o:=i) (l:=S.old ++ [v]) H (λu A=>by
    rcases eI.1 A with h | h
    .exact M.old u h
    .simp only[dz] at h;subst h;exact D h0) (λu A=>eT _ A)
   have x:=B.mono (fF c);refine⟨_,rfl,P,K,⟨rfl,rfl,rfl,rfl,rfl,rfl,λ_ _=>rfl⟩,⟨x.ev,?_,x.cy,x.fu,?_,x.pn⟩,rfl,rfl,rfl,rfl,λ_=>.inr (.inr (.inr (.inl (eu _ V))))⟩
   .have:=B.old;show (S.old ++ [v]).length<=c + 1;simp;omega
   .have:=B.st;show S.col.AR.length + (S.old ++ [v]).length + 5 * S.AQ.countP (λb=>!b) + (if S.col.pc = 2 then (S.col.sh.refs - S.col.i).toNat else 0)<=3000 + (c + 1);simp only[de,eK];omega
 .rw[if_neg Z];exact⟨S,rfl,H,Kp.refl i _,BI.refl S,B.mono (fF c),rfl,rfl,rfl,rfl,λh=>absurd h y⟩
end Sm
end
section
namespace Sm
variable {P:List (List Op)}
theorem IG.usd {S:Sim} {g:Gh} (I:IG P S g) (b:Bool):IG P { S with used:=b } g:=⟨I.pg,I.sh,I.n0,I.n1,I.pl,I.pp,I.ti,I.c1,I.c2,I.c3,I.wt,I.rs⟩
theorem Bd.usd {c:Nat} {S:Sim} (B:Bd c S) (b:Bool):Bd c { S with used:=b }:=⟨B.ev,B.old,B.cy,B.fu,B.st,B.pn⟩
def W0 (P:List (List Op)) (c:Nat) (r:Option Sim):Prop:=∃S' g',r = some S'/\IG P S' g'/\Bd (c + 1) S'/\S'.used = true
theorem W0.out {c:Nat} {i pc:Int} {r:Option Sim} (h:W0 P c r):Out P c i pc r:=by
 obtain⟨j,x,y,A,D,G⟩:=h;exact⟨j,x,y,A,D,.inl G⟩
section
variable {c:Nat} {S:Sim} {g:Gh} {i:Int} {t:Thr} {o:Op}
theorem FW (hc:c < 900000) (I:IG P S g) (B:Bd c S) (x:idx S.th i = some t) (A:S.opOf i t = some o) (ans code:Int):∃j,S.event i ans code = some j/\IG P j g/\Bd (c + 1) j/\idx j.th i = some (thr0 t.AD (t.next + 1) 0)/\j.used = S.used:=by
 rw[F4 (I.szok rfl B hc) x (I.next x A)];have T:=I.ti i t x;obtain⟨G,D,y⟩:=Gn (ans:=ans) (code:=code) I B x A I.sh (Kp.refl i _) (BI.refl S) t.AD T.rt T.rl;exact⟨_,rfl,G,D,y,rfl⟩
theorem PW (hc:c < 900000) (I:IG P S g) (B:Bd c S) (x:idx S.th i = some t) (A:S.opOf i t = some o) {a:Int} (H:a≠0->g.L a) (hl:t.AD.length < 8):∃j,S.push i a = some j/\IG P j g/\Bd (c + 1) j/\idx j.th i = some (thr0 (t.AD ++ [a]) (t.next + 1) 0)/\j.used = S.used:=by
 rw[U5 (I.szok rfl B hc) Z x (I.next x A)];have T:=I.ti i t x;obtain⟨G,D,y⟩:=Gn (ans:=0) (code:=0) I B x A I.sh (Kp.refl i _) (BI.refl S) (t.AD ++ [a]) (λb h h0=>by
  rcases eI.1 h with h | h
  .exact T.rt b h h0
  .simp only[dz] at h;subst h;exact H h0) (by simp;omega)
 exact⟨_,rfl,G,D,y,rfl⟩
theorem ZD {v:Int} (hc:c < 900000) (I:IG P S g) (B:Bd c S) (x:idx S.th i = some t) (y:S.opOf i t = some o) (b:Bs (xof S g) o t t.pc) (hp:t.pc = 5\/t.pc = 12) (O:v≠0->g.L v) (N:S.used = true):W0 P c (S.load i v):=by
 have T:=I.ti i t x;have j:t.pc≠0:=Z
 have Q:o.kind = 2:=b.k5 Z;have hl:=T.r8 o y j (.inr Q);unfold Sim.load;rw[x];simp only[di,z_o];split
 .rename_i h;obtain⟨A,D,G,H,_,K⟩:=PW (a:=t.v) hc I B x y (b.v Z Z) hl;exact⟨A,g,D,G,H,by rw[K,N]⟩
 .obtain⟨d,hd,a0⟩:=I.frm O;rw[hd];simp only[z_o];cases d with
  | false=>
   rw[if_pos τ];obtain⟨A,D,G,H,_,K⟩:=PW (a:=v) hc I B x y O hl;exact⟨A,g,D,G,H,by rw[K,N]⟩
  | true=>
   rw[if_neg V];have b1:Bs (xof S g) o { t with u:=v,v:=v } 11:=⟨δ,b.k,b.h,b.g,b.kk,b.h0,λ_=>b.nh Z,λ_=>b.ng Z,λ_=>b.nk Z,λ_=>b.s Z,λ_=>b.f Z,λ_=>Q,λh=>absurd h δ,λh=>absurd h δ,λh=>absurd h δ,λh=>absurd h δ,λh=>absurd h δ,λh=>absurd h δ,λ_ _=>O,λh=>absurd h δ,λh=>absurd h δ⟩;obtain⟨W,R,_⟩:=Cy (t':={ t with u:=v,v:=v,pc:=11 }) I B x I.sh (Kp.refl i _) (BI.refl S) (T.upd (Kp.refl i _) rfl rfl j y (.bs (b1.eqv rfl rfl rfl rfl rfl rfl)));exact⟨_,g,rfl,W,R.mono (fF c),N⟩
theorem U4 {w:List Int} {t:List Rg} {B:Int->Prop} (G:Geo w t B) {v:Int} (h:Be t v):v≠0:=by
 intro c;subst c;have:=h.2;rw[show (0:Int) / 16 = 0 from rfl,G.ok.e] at this;cases this
theorem IG.ph2 {v:Int} (I:IG P S g) (h:Be S.AA v):S.Ac = 2\/S.Ac = 3:=by
 have j:0<=S.Ac/\S.Ac<=3:=I.sh.ph;by_cases c:S.Ac<=1
 .exact absurd h.2 (I.sh.nf c (v / 16) (by have:=h.1;omega))
 .omega
theorem UW {v:Int} (hc:c < 900000) (I:IG P S g) (B:Bd c S) (x:idx S.th i = some t) (A:S.opOf i t = some o) (b:Bs (xof S g) o t t.pc) (hp:t.pc = 10\/t.pc = 16) (hv:v≠0->g.L v) (D:S.used = true):W0 P c (S.swap i v):=by
 have T:=I.ti i t x;have y:t.pc≠0:=Z
 have hk:o.kind = 7:=b.k10 Z;unfold Sim.swap;rw[x];simp only[di,z_o];split
 .obtain⟨N,Q,R,W,_,h5⟩:=FW hc I B x A 0 0;exact⟨N,g,Q,R,W,by rw[h5,D]⟩
 .obtain⟨d,hd,a0⟩:=I.frm hv;rw[hd];simp only[z_o];cases d with
  | true=>
   have hf:Be S.AA v:=a0.1 rfl;rw[if_pos rfl];have O:Bs (xof S g) o { t with u:=v,v:=v } 15:=⟨δ,b.k,b.h,b.g,b.kk,b.h0,λ_=>b.nh Z,λ_=>b.ng Z,λ_=>b.nk Z,λ_=>b.s Z,λ_=>b.f Z,λh=>absurd h δ,λh=>absurd h δ,λh=>absurd h δ,λh=>absurd h δ,λ_=>hk,λh=>absurd h δ,λh=>absurd h δ,λ_ _=>hv,λh=>absurd h δ,λ_=>by show S.Ac≠1;have:=I.ph2 hf;omega⟩;obtain⟨H,G,_⟩:=Cy (t':={ t with u:=v,v:=v,pc:=15 }) I B x I.sh (Kp.refl i _) (BI.refl S) (T.upd (Kp.refl i _) rfl rfl y A (.bs (O.eqv rfl rfl rfl rfl rfl rfl)));exact⟨_,g,rfl,H,G.mono (fF c),D⟩
  | false=>
   rw[if_neg δ];split
   .obtain⟨N,Q,R,W,_,h5⟩:=FW hc I B x A 0 0;exact⟨N,g,Q,R,W,by rw[h5,D]⟩
   .obtain⟨S1,e1,H1,K,E1,B1,u1,w1,t1,p1,l1⟩:=UB (i:=i) (I.szok rfl B hc) I.sh B hv;rw[e1];simp only[z_o];have j:=b.stable I.sh K;have O:Bs (xof S1 g) o { t with u:=v } 14:=⟨δ,j.k,j.h,j.g,j.kk,j.h0,λ_=>j.nh Z,λ_=>j.ng Z,λ_=>j.nk Z,λ_=>j.s Z,λ_=>j.f Z,λh=>absurd h δ,λh=>absurd h δ,λh=>absurd h δ,λh=>absurd h δ,λ_=>hk,λh=>absurd h δ,λ_ hp=>l1 (by rw[<- p1];exact hp),λ_ h=>absurd rfl h,λh=>absurd h δ,λh=>absurd h δ⟩;obtain⟨H,G,_⟩:=Cy (t':={ t with u:=v,pc:=14 }) I B1 x H1 K E1 (T.upd K rfl rfl y A (.bs (O.eqv rfl rfl rfl rfl rfl rfl)));exact⟨_,g,rfl,H,G,by show S1.used = true;rw[u1,D]⟩
theorem Z9 {AI l:List Int} {kind a:Int} (h:Ga AI kind a = some l) (x:AI.length<=8):l.length<=8/\∀v∈l,v∈AI\/v = a:=by
 unfold Ga at h;split at h
 .split at h
  .cases h
  .cases h;refine⟨by simp;omega,λv j=>?_⟩;simpa using j
 .split at h
  .cases h;refine⟨by simp;omega,λv j=>.inl ?_⟩;rcases eI.1 j with h | h
   .exact ec h
   .exact gH h
  .cases h
theorem Xm (hc:c < 900000) (I:IG P S g) (B:Bd c S) (y:idx S.th i = some t) (A:S.opOf i t = some o) (b:Bs (xof S g) o t t.pc) (hp:t.pc = 4):Out P c i t.pc (S.shape i):=by
 have T:=I.ti i t y;have a7:t.pc≠0:=Z
 have hk:=b.k;unfold Sim.shape;rw[y];simp only[di,z_o];rw[I.szok rfl B hc,if_neg δ,A];simp only[z_o];split
 .obtain⟨G,H,N,O,Q,_⟩:=FW hc I B y A (one (t.h == t.g)) 0;exact⟨G,g,H,N,O,.inr ⟨_,Q,.inl rfl⟩⟩
 .rename_i k6;split
  .rename_i k10;split
   .obtain⟨G,H,N,O,Q,_⟩:=FW hc I B y A 0 7;exact⟨G,g,H,N,O,.inr ⟨_,Q,.inl rfl⟩⟩
   .rename_i AI D;obtain⟨q1,q2⟩:=Z9 D B.pn;obtain⟨P,K⟩:=dS (o:=i) (l:=AI) I.sh λv hv=>by
     rcases q2 v hv with h | h
     .exact I.sh.pl v h
     .subst h;exact⟨b.h (b.h0 k6),b.nh Z⟩
    have B1:Bd c { S with AI:=AI }:=⟨B.ev,B.old,B.cy,B.fu,B.st,q1⟩;rw[F4 (S:={ S with AI:=AI }) (I.szok rfl B1 hc) y (I.next y A)];obtain⟨I',B',a9⟩:=Gn (ans:=0) (code:=0) (S1:={ S with AI:=AI }) I B1 y A P K ⟨rfl,rfl,rfl,rfl,rfl,rfl,λ_ _=>rfl⟩ t.AD T.rt T.rl;exact⟨_,g,rfl,I',B',.inr ⟨_,a9,.inl rfl⟩⟩
  .rename_i k10;have hh:=b.h0 k6;obtain⟨a1,a2,a3,a4,a5,a6⟩:=I.in_ (b.h hh);have b0:=I.wl;rw[BV Z Z];simp only[z_o];rw[CZ Z Z];simp only[z_o];have es:(AT (wv S.AC (t.h + 1))).1 = shp S.AC t.h:=rfl;rw[es];split
   .obtain⟨G,H,N,O,Q,W⟩:=FW (S:={ S with used:=true }) hc (I.usd true) (B.usd true) y A 0 4;exact⟨G,g,H,N,O,.inl W⟩
   .rename_i x;have sb:=G8 S.AC t.h;have x:Hq o (shp S.AC t.h).refs (shp S.AC t.h).nums = true:=by simpa using x
    have R:0<=o.f/\(o.kind = 4\/o.kind = 5->o.f < (shp S.AC t.h).nums)/\(o.kind≠4->o.kind≠5->o.f < (shp S.AC t.h).refs):=by
     unfold Hq at x;split at x
     .rename_i j;simp only[eN,beq_iff_eq] at j;simp only[z_b,z_d] at x;exact⟨x.1,λ_=>x.2,λQ W=>by rcases j with h | h<;>contradiction⟩
     .rename_i j;simp only[eN,beq_iff_eq,not_or] at j;simp only[z_b,z_d] at x;exact⟨x.1,λh=>by rcases h with h | h<;>simp[h] at j,λ_ _=>x.2⟩
    have go:∀q:Int,(q = 5\/q = 6\/q = 7\/q = 8\/q = 9\/q = 10)->(q = 5->o.kind = 2)->(q = 6\/q = 7->o.kind = 3)->(q = 8->o.kind = 4)->(q = 9->o.kind = 5)->(q = 10->o.kind = 7)->(q = 7->S.Ac≠1)->
      W0 P c (some (({ S with used:=true }:Sim).setT i { t with sh:=shp S.AC t.h,pc:=q })):=λq hq W h6 h8 h9 a0 h7=>by
     have b1:Bs (xof S g) o { t with sh:=shp S.AC t.h } q:=⟨Z,b.k,b.h,b.g,b.kk,b.h0,λ_=>b.nh Z,λ_=>b.ng Z,λ_=>b.nk Z,λ_=>⟨rfl,hh⟩,λ_=>R,λh=>W Z,λh=>h6 Z,h8,h9,λh=>a0 Z,λh a8=>absurd a8 (h7 h),λh=>Z,λh=>Z,λh=>Z,λh=>Z⟩;obtain⟨I',B',_⟩:=Cy (S1:={ S with used:=true }) (t':={ t with sh:=shp S.AC t.h,pc:=q }) I (B.usd true) y I.sh (Kp.refl i _) ⟨rfl,rfl,rfl,rfl,rfl,rfl,λ_ _=>rfl⟩ (T.upd (Kp.refl i _) rfl rfl a7 A (.bs (b1.eqv rfl rfl rfl rfl rfl rfl)));exact⟨_,g,rfl,I',B'.mono (fF c),rfl⟩
    refine W0.out ?_;by_cases k2:o.kind = 2
    .rw[if_pos k2];exact go 5 Z (λ_=>k2) Z Z Z Z Z
    rw[if_neg k2];by_cases k3:o.kind = 3
    .rw[if_pos k3];split
     .exact go 6 Z Z (λ_=>k3) Z Z Z Z
     .rename_i h;exact go 7 Z Z (λ_=>k3) Z Z Z (λ_=>h)
    rw[if_neg k3];by_cases k4:o.kind = 4
    .rw[if_pos k4];exact go 8 Z Z Z (λ_=>k4) Z Z Z
    rw[if_neg k4];by_cases k5:o.kind = 5
    .rw[if_pos k5];exact go 9 Z Z Z Z (λ_=>k5) Z Z
    rw[if_neg k5,if_pos Z];exact go 10 Z Z Z Z Z (λ_=>Z) Z
end
end Sm
end
section
namespace Sm
variable {P:List (List Op)}
section
variable {c:Nat} {S:Sim} {g:Gh} {i:Int} {t:Thr} {o:Op}
theorem YB (hc:c < 900000) (I:IG P S g) (B:Bd c S) (x:idx S.th i = some t) (H:S.opOf i t = some o) (b:Bs (xof S g) o t t.pc) (hp:5<=t.pc) (b7:t.pc≠11) (b8:t.pc≠15):Out P c i t.pc (S.field i):=by
 have T:=I.ti i t x;have b4:t.pc≠0:=Z
 have c0:=I.wl;have b9:=b.p;obtain⟨j,hh⟩:=b.s hp;have hL:=b.h hh;have hN:=b.nh Z;obtain⟨a1,a2,a3,a4,a5,a6⟩:=I.in_ hL;have sb:=G8 S.AC t.h;simp only at j;obtain⟨f0,fn,fr⟩:=b.f hp;have y : o.kind≠4->o.kind≠5->o.f < (shp S.AC t.h).refs:=λh h'=>by rw[<- j];exact fr h h'
 have b3 : o.kind = 4\/o.kind = 5->o.f < (shp S.AC t.h).nums:=λh=>by rw[<- j];exact fn h
 have B1:=B.usd true;have I1:=I.usd true;have a7:o.kind≠4->o.kind≠5->wv S.AC (t.h + 2 + o.f)≠0->g.L (wv S.AC (t.h + 2 + o.f)):=λh h'=>I.sh.rf t.h o.f hL f0 (y h h')
 have o1:o.f < 5:=by
  by_cases k:o.kind = 4\/o.kind = 5
  .have:=b3 k;omega
  .have:=y (λh=>k (.inl h)) (λh=>k (.inr h));omega
 have a0:({ S with used:=true }:Sim).opOf i t = some o:=H;unfold Sim.field;rw[x];simp only[di,z_o];rw[H];simp only[z_o];rw[BV Z Z];simp only[z_o];rw[BV Z Z];simp only[z_o];rw[BV (by rw[j];omega) (by rw[j];omega)];simp only[z_o];rw[BV (by rw[j];omega) (by rw[j];omega)];simp only[z_o];by_cases c5:t.pc = 5\/t.pc = 12
 .have Q:=b.k5 Z;have R:=y Z Z;rw[if_pos c5,CZ Z Z];simp only[z_o];exact (ZD hc I1 B1 x a0 b c5 (a7 Z Z) rfl).out
 rw[if_neg c5];by_cases c6:t.pc = 6
 .have Q:=b.k6 Z;have R:=y Z Z;rw[if_pos c6,CZ Z Z];simp only[z_o];obtain⟨S1,e1,H1,K1,E1,b5,u1,w1,t1,p1,l1⟩:=UB (i:=i) (I1.szok rfl B1 hc) I1.sh B1 (a7 Z Z);rw[e1];simp only[z_o];have O:=b.stable I.sh K1;have b1:Bs (xof S1 g) o t 7:=⟨δ,O.k,O.h,O.g,O.kk,O.h0,λ_=>O.nh Z,λ_=>O.ng Z,λ_=>O.nk Z,λ_=>O.s Z,λ_=>O.f Z,λh=>absurd h δ,λ_=>Q,λh=>absurd h δ,λh=>absurd h δ,λh=>absurd h δ,λ_ A W=>by
    have N : S.Ac = 1:=by rw[<- p1];exact A
    rw[K1.tma (show (0:Int)<=t.h by omega)] at W
    rcases (I.sh.mp N).un t.h o.f hL W f0 R with h | h
    .have:=l1 N
     rw[show (xof S1 g).q (t.h + 2 + o.f) = wv S.AC (t.h + 2 + o.f) from h.symm]
     exact this
    .exact K1.lg N _ h,λh=>absurd h δ,λh=>absurd h δ,λh=>absurd h δ,λh=>absurd h δ⟩
  obtain⟨G,D,_⟩:=Cy (t':={ t with pc:=7 }) I b5 x H1 K1 ⟨E1.th,E1.col,E1.AQ,E1.pc_,E1.stop,E1.full,E1.AJ⟩ (T.upd K1 rfl rfl b4 H (.bs (b1.eqv rfl rfl rfl rfl rfl rfl)));exact⟨_,g,rfl,G,D,.inl u1⟩
 rw[if_neg c6];by_cases c7:t.pc = 7
 .have Q:=b.k6 Z;have R:=y Z Z;rw[if_pos c7,DK Z Z];simp only[z_o];obtain⟨P,K⟩:=ref (o:=i) (v:=t.g) I.sh hL hN f0 R b.g (b.l7 c7) (λ_=>b.ng Z);have B2:Bd c { S with used:=true,AC:=AU S.AC (t.h + 2 + o.f) t.g }:=⟨B.ev,B.old,B.cy,B.fu,B.st,B.pn⟩;rw[F4 (S:={ S with used:=true,AC:=AU S.AC (t.h + 2 + o.f) t.g }) (I.szok rfl B2 hc) x (I.next x H)];obtain⟨G,D,_⟩:=Gn (ans:=0) (code:=0) (S1:={ S with used:=true,AC:=AU S.AC (t.h + 2 + o.f) t.g }) I B2 x H P K ⟨rfl,rfl,rfl,rfl,rfl,rfl,λ_ _=>rfl⟩ t.AD T.rt T.rl;exact⟨_,g,rfl,G,D,.inl rfl⟩
 rw[if_neg c7];by_cases c8:t.pc = 8
 .have Q:=b.k8 c8;have R:=b3 (.inl Q);have e:t.h + 2 + t.sh.refs + o.f = t.h + (2 + (shp S.AC t.h).refs + o.f):=by rw[j];omega
  rw[if_pos c8,e,DK Z Z];simp only[z_o];obtain⟨P,K⟩:=num (o:=i) (v:=o.v) (k:=2 + (shp S.AC t.h).refs + o.f) I.sh hL hN (by show 2 + (shp S.AC t.h).refs<=_;omega) (by show _ < Sm.sz S.AC t.h;omega);have B2:Bd c { S with used:=true,AC:=AU S.AC (t.h + (2 + (shp S.AC t.h).refs + o.f)) o.v }:=⟨B.ev,B.old,B.cy,B.fu,B.st,B.pn⟩;rw[F4 (S:={ S with used:=true,AC:=AU S.AC (t.h + (2 + (shp S.AC t.h).refs + o.f)) o.v }) (I.szok rfl B2 hc) x (I.next x H)];obtain⟨G,D,_⟩:=Gn (ans:=0) (code:=0) (S1:={ S with used:=true,AC:=AU S.AC (t.h + (2 + (shp S.AC t.h).refs + o.f)) o.v }) I B2 x H P K ⟨rfl,rfl,rfl,rfl,rfl,rfl,λ_ _=>rfl⟩ t.AD T.rt T.rl;exact⟨_,g,rfl,G,D,.inl rfl⟩
 rw[if_neg c8];by_cases c9:t.pc = 9
 .have Q:=b.k9 c9;have R:=b3 (.inr Q);rw[if_pos c9,CZ (by rw[j];omega) (by rw[j];omega)];simp only[z_o];obtain⟨S',h1,h2,h3,h4,h5⟩:=FW (S:={ S with used:=true }) hc I1 B1 x a0 (wv S.AC (t.h + 2 + t.sh.refs + o.f)) 0;exact⟨S',g,h1,h2,h3,.inl h5⟩
 rw[if_neg c9];have Q:o.kind = 7:=b.k10 Z;have R:=y Z Z;by_cases a8:t.pc = 10
 .rw[if_pos a8,CZ Z Z];simp only[z_o];exact (UW hc I1 B1 x a0 b (.inl a8) (a7 Z Z) rfl).out
 rw[if_neg a8];by_cases a9:t.pc = 14
 .rw[if_pos a9,CZ Z Z];simp only[z_o];split
  .rename_i hu;rw[DK (S:={ S with used:=true }) Z (by show _ < (S.AC.length:Int);omega)];simp only[z_o];obtain⟨P,K⟩:=ref (o:=i) (v:=t.k) I.sh hL hN f0 R b.kk (λA W=>by
    rcases (I.sh.mp A).un t.h o.f hL W f0 R with h | h
    .have:=b.l14 a9 A
     rw[show (xof S g).q (t.h + 2 + o.f) = wv S.AC (t.h + 2 + o.f) from h.symm,hu]
     exact this
    .exact h) (λ_=>b.nk Z)
   have B2:Bd c { S with used:=true,AC:=AU S.AC (t.h + 2 + o.f) t.k }:=⟨B.ev,B.old,B.cy,B.fu,B.st,B.pn⟩;rw[F4 (S:={ S with used:=true,AC:=AU S.AC (t.h + 2 + o.f) t.k }) (I.szok rfl B2 hc) x (I.next x H)];obtain⟨G,D,_⟩:=Gn (ans:=1) (code:=0) (S1:={ S with used:=true,AC:=AU S.AC (t.h + 2 + o.f) t.k }) I B2 x H P K ⟨rfl,rfl,rfl,rfl,rfl,rfl,λ_ _=>rfl⟩ t.AD T.rt T.rl;exact⟨_,g,rfl,G,D,.inl rfl⟩
  .have b1:Bs (xof S g) o t 10:=⟨δ,b.k,b.h,b.g,b.kk,b.h0,λ_=>b.nh Z,λ_=>b.ng Z,λ_=>b.nk Z,λ_=>b.s Z,λ_=>b.f Z,λh=>absurd h δ,λh=>absurd h δ,λh=>absurd h δ,λh=>absurd h δ,λ_=>Q,λh=>absurd h δ,λh=>absurd h δ,λh=>absurd h δ,λh=>absurd h δ,λh=>absurd h δ⟩;obtain⟨G,D,_⟩:=Cy (S1:={ S with used:=true }) (t':={ t with pc:=10 }) I B1 x I.sh (Kp.refl i _) ⟨rfl,rfl,rfl,rfl,rfl,rfl,λ_ _=>rfl⟩ (T.upd (Kp.refl i _) rfl rfl b4 H (.bs (b1.eqv rfl rfl rfl rfl rfl rfl)));exact⟨_,g,rfl,G,D.mono (fF c),.inl rfl⟩
 rw[if_neg a9,if_pos Z];have b2:t.pc = 16:=Z
 split
 .have b1:Bs (xof S g) o t 14:=⟨δ,b.k,b.h,b.g,b.kk,b.h0,λ_=>b.nh Z,λ_=>b.ng Z,λ_=>b.nk Z,λ_=>b.s Z,λ_=>b.f Z,λh=>absurd h δ,λh=>absurd h δ,λh=>absurd h δ,λh=>absurd h δ,λ_=>Q,λh=>absurd h δ,λ_ A=>absurd A (b.p15 (.inr b2)),λ_ h=>absurd rfl h,λh=>absurd h δ,λh=>absurd h δ⟩;obtain⟨G,D,b6⟩:=Cy (t':={ t with pc:=14 }) I B x I.sh (Kp.refl i _) (BI.refl S) (T.upd (Kp.refl i _) rfl rfl b4 H (.bs (b1.eqv rfl rfl rfl rfl rfl rfl)));refine⟨_,g,rfl,G,D.mono (fF c),.inr ⟨_,b6,.inr ?_⟩⟩;rw[b2];show rk 14 < rk 16;decide
 .rw[CZ Z Z];simp only[z_o];exact (UW hc I1 B1 x a0 b (.inr b2) (a7 Z Z) rfl).out
theorem XZ (hc:c < 900000) (I:IG P S g) (B:Bd c S) (j:idx S.th i = some t) (G:t.pc≠0):Out P c i t.pc (S.tstep i):=by
 have T:=I.ti i t j;rcases T.run with ⟨h,_⟩ | ⟨o,x,r⟩
 .exact absurd h G
 unfold Sim.tstep;rw[j];simp only[di,z_o];cases r with
 | bs b=>
  have A:=b.p;by_cases c1:t.pc<=3\/t.pc = 11\/t.pc = 15
  .rw[if_pos c1];exact SZ I B j x b (by unfold I8;omega)
  rw[if_neg c1];by_cases y:t.pc = 4
  .rw[if_pos y];exact Xm hc I B j x b y
  rw[if_neg y,if_neg Z,if_neg Z];exact YB hc I B j x b Z Z Z
 | cp b r e cp=>
  have D:=cp.p;rw[if_neg Z,if_neg Z,if_neg Z,if_pos Z];exact Tt I B j x b r e cp
 | mg m=>
  have H:=m.p;rw[if_neg Z,if_neg Z,if_pos Z];exact W4 hc I B j x m
theorem Y6:∀(n c:Nat) (S:Sim) (g:Gh) (t:Thr),c + n < 900000->IG P S g->Bd c S->idx S.th i = some t->(t.pc = 0\/S.used = true\/rk t.pc < n)->∀m,n < m->∃x K,S.tloop m i = some x/\IG P x K/\Bd (c + n) x:=by
 intro n;induction n with
 | zero=>
  intro c S g t hc I B D O m hm;obtain⟨m,rfl⟩:∃k,m = k + 1:=⟨m - 1,Z⟩;refine⟨S,g,?_,I,B⟩;unfold Sim.tloop;rw[D];simp only[di,z_o];rw[if_pos];rcases O with h | h | h
  .exact .inr h
  .exact .inl h
  .omega
 | succ n ih=>
  intro c S g t hc I B D O m hm;obtain⟨m,rfl⟩:∃k,m = k + 1:=⟨m - 1,Z⟩;unfold Sim.tloop;rw[D];simp only[di,z_o];by_cases A:S.used = true\/t.pc = 0
  .rw[if_pos A];exact⟨S,g,rfl,I,B.mono Z⟩
  .rw[if_neg A];obtain⟨x,K,h1,G,R,hn⟩:=XZ Z I B D (λh=>A (.inr h));rw[h1];simp only[z_o];have a0 : rk t.pc < n + 1:=by
    rcases O with h | h | h
    .exact absurd (.inr h) A
    .exact absurd (.inl h) A
    .exact h
   have hlen:=(PN D);have Q : ∃j,idx x.th i = some j/\(j.pc = 0\/x.used = true\/rk j.pc < n):=by
    rcases hn with h | ⟨j,y,N⟩
    .have:∃j,idx x.th i = some j:=by
      have e1:=G.pl;have H:=I.pl;rw[G.pg] at e1;rw[I.pg] at H;exact⟨_,Ox (d:=t) hlen.1 Z⟩
     obtain⟨j,y⟩:=this;exact⟨j,y,.inr (.inl h)⟩
    .exact⟨j,y,N.imp id λh=>.inr Z⟩
   obtain⟨j,y,N⟩:=Q;obtain⟨S2,g2,H,W,T⟩:=ih (c + 1) x K j Z G R y N m Z;exact⟨S2,g2,H,W,T.mono Z⟩
end
end Sm
end
section
namespace Sm
variable {P:List (List Op)}
theorem RD {o:Op} {AD:List Int} (ok:Tr o = true) (h:Dk o AD 0 = 0) :
  (o.kind≠1->o.kind≠8->0<=o.a/\o.a < AD.length)/\(o.kind = 3\/o.kind = 6\/o.kind = 7->0<=o.b/\o.b < AD.length)/\(o.kind = 7->0<=o.c/\o.c < AD.length)/\
  (o.kind≠1->o.kind≠6->o.kind≠8->o.kind≠9->(idx AD o.a).getD 0≠0)/\(o.kind = 1\/o.kind = 2\/o.kind = 9->AD.length≠8):=by
 have j:1<=o.kind/\o.kind<=11:=by
  simp only[Tr,z_b,z_d] at ok;exact ok.1
 unfold Dk at h;have hc:o.kind = 1\/o.kind = 2\/o.kind = 3\/o.kind = 4\/o.kind = 5\/o.kind = 6\/o.kind = 7\/o.kind = 8\/o.kind = 9\/o.kind = 10\/o.kind = 11:=Z
 rcases hc with k | k | k | k | k | k | k | k | k | k | k<;>simp only[k] at h ⊢<;>simp[Ee,hnd] at h ⊢
 all_goals (first | omega | skip)
section
variable {c:Nat} {S:Sim} {g:Gh} {i:Int} {t:Thr} {o:Op}
theorem J7 {α:Type} {l:List α} {i:Int} {a:α} (h:idx l i = some a):a∈l:=by
 unfold idx at h;split at h
 .exact List.mem_of_getElem? h
 .cases h
theorem GX {α:Type} {l:List α} {i:Int} (h:0<=i/\i < l.length):∃a,idx l i = some a/\a∈l:=by
 obtain⟨h0,j⟩:=h;have:idx l i = some (l[i.toNat]'(Z)):=by unfold idx;rw[if_pos h0,dY]
 exact⟨_,this,J7 this⟩
theorem YH (hc:c < 900000) (I:IG P S g) (B:Bd c S) (A:idx S.th i = some t) (D:S.opOf i t = some o) (hp:t.pc = 0):∃j W,S.begin_ i = some j/\IG P j W/\Bd (c + 1) j:=by
 have T:=I.ti i t A;have K:t.g = 0/\t.k = 0:=by
  rcases T.run with h | ⟨o',h,r⟩
  .exact h.2
  .exfalso;cases r with
   | bs b=>have:=b.p;omega
   | cp _ _ _ cp=>have:=cp.p;omega
   | mg m=>have:=m.p;omega
 have ev:∀code,∃j W,S.event i 0 code = some j/\IG P j W/\Bd (c + 1) j:=λcode=>by
  obtain⟨j,h1,O,h3,_⟩:=FW hc I B A D 0 code;exact⟨j,g,h1,O,h3⟩
 unfold Sim.begin_;rw[A];simp only[di,z_o];rw[D];simp only[z_o];split
 .exact ev 1
 rename_i y;have y:Tr o = true:=by simpa using y
 split
 .exact ev _
 rename_i x;have x:Dk o t.AD 0 = 0:=by simpa using x
 have hk:1<=o.kind/\o.kind<=11:=by
  simp only[Tr,z_b,z_d] at y;exact y.1
 obtain⟨fa,fb,fc,fz,f8⟩:=RD y x;have rl:=T.rl;have hL:∀(a:Int) (r:Int),idx t.AD a = some r->r≠0->g.L r:=λa r h h0=>T.rt r (J7 h) h0
 split
 .rename_i k8;have hz:=I.szok rfl B hc;have a6:(S.setT i { t with AD:=t.AD.take (t.AD.length - 1) }).sz = true:=by
   refine Xj (c:=c) ⟨B.ev,B.old,B.cy,B.fu,B.st,B.pn⟩ hc λu hu=>?_
   rcases fg (show u∈AU S.th i _ from hu) with h | h
   .have:=I.AD u h;omega
   .rw[h];simp;omega
  rw[F4 a6 (GR A) (by have:=I.next A D;exact this)];obtain⟨R,Q,_⟩:=Gn (ans:=0) (code:=0) I B A D I.sh (Kp.refl i _) (BI.refl S) (t.AD.take (t.AD.length - 1)) (λa h=>T.rt a (ec h)) (by simp;omega);refine⟨_,g,?_,R,Q⟩;unfold Sim.evd Sim.setT;simp only[Jn]
 split
 .rename_i k8 k9;obtain⟨a,ha,H⟩:=GX (fa Z Z);rw[ha];simp only[z_o];obtain⟨j,h1,O,h3,_⟩:=PW hc I B A D (a:=a) (T.rt a H) (by have:=f8 Z;omega);exact⟨j,g,h1,O,h3⟩
 split
 .rename_i k8 k9 k1;obtain⟨R,Q,_⟩:=Cy (t':={ t with pc:=30 }) I B A I.sh (Kp.refl i _) (BI.refl S)
   ⟨T.rt,T.rl,T.nx,λo' h' _ _=>by have:=f8 Z;show t.AD.length < 8;omega,.inr ⟨o,D,.mg ⟨V,k1,by
    simp only[Tr,z_b,eN,k1] at y
    simpa using y.2,V,V,V,V,V,V,V⟩⟩⟩
  exact⟨_,g,rfl,R,Q.mono (fF c)⟩
 rename_i k8 k9 k1;obtain⟨a,ha,H⟩:=GX (fa k1 k8);have a2:o.kind≠6->a≠0:=λk6=>by
  have:=fz k1 k6 k8 k9;rw[ha] at this;exact this
 rw[ha];simp only[z_o];have G:∀(N kk:Int),(N≠0->g.L N)->(kk≠0->g.L kk)->∃j W,some (S.setT i { t with pc:=1,h:=a,g:=N,k:=kk }) = some j/\IG P j W/\Bd (c + 1) j:=λN kk hg a4=>by
  have b1:Bs (xof S g) o { t with pc:=1,h:=a,g:=N,k:=kk } 1:=⟨δ,⟨Z,Z,Z,Z⟩,T.rt a H,hg,a4,a2,λh=>absurd h δ,λh=>absurd h δ,λh=>absurd h δ,λh=>absurd h δ,λh=>absurd h δ,λh=>absurd h δ,λh=>absurd h δ,λh=>absurd h δ,λh=>absurd h δ,λh=>absurd h δ,λh=>absurd h δ,λh=>absurd h δ,λh=>absurd h δ,λh=>absurd h δ,λh=>absurd h δ⟩;obtain⟨R,Q,_⟩:=Cy (t':={ t with pc:=1,h:=a,g:=N,k:=kk }) I B A I.sh (Kp.refl i _) (BI.refl S)
   ⟨T.rt,T.rl,T.nx,λo' h' _ a1=>by
    have:o' = o:=by
     have O:S.opOf i t = some o':=h'
     rw[D] at O;cases O;rfl
    subst this
    have:=f8 Z;show t.AD.length < 8;omega,.inr ⟨o,D,.bs b1⟩⟩
  exact⟨_,g,rfl,R,Q.mono (fF c)⟩
 by_cases hb:o.kind = 3\/o.kind = 6\/o.kind = 7
 .obtain⟨b,a3,a0⟩:=GX (fb hb);rw[if_pos hb,a3];simp only[z_o];by_cases h7:o.kind = 7
  .obtain⟨k,a1,a5⟩:=GX (fc h7);rw[if_pos h7,a1];simp only[z_o];exact G b k (T.rt b a0) (T.rt k a5)
  .rw[if_neg h7];simp only[z_o];exact G b t.k (T.rt b a0) (λh=>absurd K.2 h)
 .rw[if_neg hb];simp only[z_o];rw[if_neg Z];simp only[z_o];exact G t.g t.k (λh=>absurd K.1 h) (λh=>absurd K.2 h)
theorem cM (pc:Int):rk pc<=4:=by
 unfold rk;split<;>(try split)<;>(try split)<;>(try split)<;>(try split)<;>(try split)<;>(try split)<;>(try split)<;>decide
theorem VC {n:Nat} (hc:c + 5 < 900000) (R:5 < n) (I:IG P S g) (B:Bd c S) (h0:0<=i) (H:i < S.th.length):∃j A,S.thread n i = some j/\IG P j A/\Bd (c + 5) j:=by
 obtain⟨t,y,_⟩:=GX ⟨h0,H⟩;have T:=I.ti i t y;unfold Sim.thread;rw[y];simp only[di,z_o];split
 .rename_i K;split
  .exact⟨S,g,rfl,I,B.mono Z⟩
  .obtain⟨p,x,a0⟩:=GX (l:=S.Aa) (i:=i) ⟨h0,by rw[I.pl];exact H⟩;rw[x];simp only[z_o];split
   .rename_i D;obtain⟨o,G,_⟩:=GX ⟨T.nx,D⟩;have W:S.opOf i t = some o:=by unfold Sim.opOf;rw[x];exact G
    obtain⟨j,A,N,O,Q⟩:=YH Z I B y W K;exact⟨j,A,N,O,Q.mono Z⟩
   .exact⟨S,g,rfl,I,B.mono Z⟩
 .rename_i K;exact Y6 5 c { S with used:=false } g t Z (I.usd false) (B.usd false) y (.inr (.inr (by have:=cM t.pc;omega))) n R
end
end Sm
end
section
namespace Sm
variable {P:List (List Op)}
theorem VR {f:Nat->Bool} {n:Nat} (h:∀k,f k = true->k < n):∀N,(List.range N).countP f<=n:=by
 have:∀N,(List.range N).countP f<=min N n:=by
  intro N;induction N with
  | zero=>simp
  | succ N j=>
   rw[List.range_succ,List.countP_append,List.countP_singleton];split
   .have:=h N (by assumption);omega
   .omega
 intro N;have:=this N;omega
theorem SG {f q:Nat->Bool} {lo s:Nat} (h:∀k,q k = (f k || (decide (lo<=k) && decide (k < lo + s)))) (hd:∀k,lo<=k->k < lo + s->f k = false):∀N,(List.range N).countP q = (List.range N).countP f + (min (lo + s) N - lo):=by
 intro N;induction N with
 | zero=>simp
 | succ N j=>
  rw[List.range_succ,List.countP_append,List.countP_append,List.countP_singleton,List.countP_singleton,j,h N];by_cases c:lo<=N/\N < lo + s
  .rw[hd N c.1 c.2];simp[c.1,c.2];omega
  .cases x:f N
   .have:(decide (lo<=N) && decide (N < lo + s)) = false:=by simp;omega
    rw[this];simp;omega
   .simp;omega
open Classical in
theorem bF {x y:X} (H:Sh x) (N:y.w = x.w) (A : ∀b,0<=b->mv y.m b = true->x.L b) {r:Int} (h0:1<=r) (G:r < x.t.length):(cnt y r:Int)<=(rv x.t r).top - 16 * r:=by
 have R:=H.g.ok.row r h0 G;have:cnt y r<=((rv x.t r).top - 16 * r).toNat:=by
  unfold cnt;rw[N];rw[show (List.range 16).countP _ = (List.range 16).countP (λ(k:Nat)=>decide (k < 16/\∃a,0<=a/\mv y.m a = true/\a<=16 * r + (k:Int)/\16 * r + (k:Int) < a + sz x.w a)) from List.countP_congr λk j=>by
   have:=fV.1 j
   simp[this]]
  refine VR (λk j=>?_) 16;obtain⟨O,a,D,K,Q,T⟩:=z_f j;have:=H.g.inn (H.lb a (A a D K));have e:a / 16 = r:=Z
  rw[e] at this;omega
 have:=R.t0;omega
open Classical in
theorem QD {x y:X} (H:Sh x) {a:Int} (hL:x.L a) (hm:mv x.m a = false) (hy:y.m = AU x.m a true) (hw:y.w = x.w) (r:Int) (h0:1<=r) (W:r < x.t.length) :
  (cnt y r:Int) = cnt x r + (if r = a / 16 then sz x.w a else 0):=by
 have g:=H.g.inn (H.lb a hL);have a0:=H.ml;have N:∀b,0<=b->mv y.m b = if b = a then true else mv x.m b:=λb hb=>by rw[hy];exact Tl Z Z hb
 by_cases R:r = a / 16
 .rw[if_pos R];have t1:=(H.g.ok.row r h0 W).t1;rw[<- R] at g;have T:∀k:Nat,k < 16->((∃b,0<=b/\mv y.m b = true/\b<=16 * r + (k:Int)/\16 * r + (k:Int) < b + sz y.w b)↔((∃b,0<=b/\mv x.m b = true/\b<=16 * r + (k:Int)/\16 * r + (k:Int) < b + sz x.w b)\/((a - 16 * r).toNat<=k/\k < (a - 16 * r).toNat + (sz x.w a).toNat))):=λk K=>by
   rw[hw];constructor
   .rintro⟨b,j,hb,A,D⟩;rw[N b j] at hb;by_cases c:b = a
    .subst c;right;omega
    .rw[if_neg c] at hb;exact .inl ⟨b,j,hb,A,D⟩
   .rintro (⟨b,j,hb,A,D⟩ | h)
    .refine⟨b,j,?_,A,D⟩;rw[N b j];split
     .rfl
     .exact hb
    .exact⟨a,Z,by rw[N a Z,if_pos rfl],Z,Z⟩
  have O:∀k:Nat,(a - 16 * r).toNat<=k->k < (a - 16 * r).toNat + (sz x.w a).toNat->¬ ∃b,0<=b/\mv x.m b = true/\b<=16 * r + (k:Int)/\16 * r + (k:Int) < b + sz x.w b:=λk k1 k2=>by
   rintro⟨b,j,hb,A,D⟩;obtain⟨Q,_⟩:=sep H.g (a:=a) (b:=b) (k:=16 * r + k - a) (l:=16 * r + k - b) (H.lb a hL) (H.lb b (H.mt b j hb).1) Z Z Z Z Z;subst Q;rw[hm] at hb;cases hb
  have Q:cnt y r = (List.range 16).countP (λ(k:Nat)=>decide (k < 16/\∃b,0<=b/\mv y.m b = true/\b<=16 * r + (k:Int)/\16 * r + (k:Int) < b + sz y.w b)):=List.countP_congr λk K=>by
   have:=fV.1 K;simp[this]
  have e2:cnt x r = (List.range 16).countP (λ(k:Nat)=>decide (k < 16/\∃b,0<=b/\mv x.m b = true/\b<=16 * r + (k:Int)/\16 * r + (k:Int) < b + sz x.w b)):=List.countP_congr λk K=>by
   have:=fV.1 K;simp[this]
  rw[Q,e2,SG (lo:=(a - 16 * r).toNat) (s:=(sz x.w a).toNat) (f:=λ(k:Nat)=>decide (k < 16/\∃b,0<=b/\mv x.m b = true/\b<=16 * r + (k:Int)/\16 * r + (k:Int) < b + sz x.w b)) (λk=>?_) (λk k1 k2=>?_) 16]
  .omega
  .by_cases G:k < 16
   .have:=T k G;simp only[G,true_and];rw[fL];simp only[z_d,eN,z_b];exact this
   .rw[fL];simp only[z_d,eN,z_b];omega
  .have:=O k k1 k2;exact decide_eq_false λh=>this h.2
 .rw[if_neg R,Int.add_zero];congr 1;refine List.countP_congr λk K=>?_
  have G:=fV.1 K;simp only[z_d];rw[hw];have t1:=(H.g.ok.row r h0 W).t1;constructor
  .rintro⟨b,j,hb,A,D⟩;rw[N b j] at hb;by_cases c:b = a
   .subst c;omega
   .rw[if_neg c] at hb;exact⟨b,j,hb,A,D⟩
  .rintro⟨b,j,hb,A,D⟩;refine⟨b,j,?_,A,D⟩;rw[N b j];split
   .rfl
   .exact hb
theorem Y4 {p:Int} {x:X} {sk' old' : List Int} (H:Sh x) (D:∀v∈sk',x.L v) (y:∀v∈old',x.L v) (hl:∀v,(v∈x.sk\/v∈x.old)->Lg { x with sk:=sk',old:=old' } v):Sh { x with sk:=sk',old:=old' }/\Kp p x { x with sk:=sk',old:=old' }:=by
 have lg:∀v,Lg x v->Lg { x with sk:=sk',old:=old' } v:=λv h=>by
  rcases h with h | h | h | h | h
  .exact .inl h
  .exact .inr (.inl h)
  .exact hl v (.inl h)
  .exact hl v (.inr h)
  .exact .inr (.inr (.inr (.inr h)))
 refine⟨⟨H.g,H.lb,H.rf,H.st,H.fw,H.ml,H.mt,H.ph,H.nf,H.lm,H.pl,H.fm,H.nb,H.af,λA=>?_⟩,?_⟩
 .have M:=H.mp A;exact⟨D,y,M.mn,λa h=>⟨(M.l0 a h).1,(M.l0 a h).2.1,lg _ (M.l0 a h).2.2⟩,M.ql,λa j h G K N=>(M.un a j h G K N).imp id (lg _),M.cov⟩
 .exact⟨rfl,rfl,rfl,λ_ h=>h,λ_ h=>h,λ_ h _=>h,λ_ _=>Iff.rfl,λ_ _=>rfl,λ_ _ h _=>⟨⟨h,rfl,rfl⟩,λ_ _ _=>rfl⟩,λ_ _=>rfl,λ_ _ _ _ _ _=>rfl,λ_ _ _=>rfl,λ_=>lg,rfl,λ_ _ _ h _ _ _ _=>⟨h,rfl⟩⟩
theorem cJ {p:Int} {x:X} {a:Int} {sk' : List Int} (H:Sh x) (a3:x.ph = 1) (hL:x.L a) (ht:a < x.tm a) (hm:mv x.m a = false) (hs:∀v∈x.sk,v∈sk'\/v = a) (a4 : ∀v∈sk',v∈x.sk) :
  Sh { x with m:=AU x.m a true,t:=AU x.t (a / 16) { rv x.t (a / 16) with AJ:=(rv x.t (a / 16)).AJ + sz x.w a },sk:=sk' }/\
  Kp p x { x with m:=AU x.m a true,t:=AU x.t (a / 16) { rv x.t (a / 16) with AJ:=(rv x.t (a / 16)).AJ + sz x.w a },sk:=sk' }:=by
 obtain⟨g1,Q,G,g4,g5,g6,g7,g8⟩:=H.g.inn (H.lb a hL);have a2:=H.ml;have M:=H.mp a3;have W:∀b,0<=b->mv (AU x.m a true) b = if b = a then true else mv x.m b:=λb hb=>Tl Z Z hb
 have et:∀r,0<=r->rv (AU x.t (a / 16) { rv x.t (a / 16) with AJ:=(rv x.t (a / 16)).AJ + sz x.w a }) r = if r = a / 16 then { rv x.t (a / 16) with AJ:=(rv x.t (a / 16)).AJ + sz x.w a } else rv x.t r:=λr hr=>DV Z G hr
 have T:∀r,0<=r->(rv (AU x.t (a / 16) { rv x.t (a / 16) with AJ:=(rv x.t (a / 16)).AJ + sz x.w a }) r).kind = (rv x.t r).kind:=λr r0=>by
  rw[et r r0];split
  .subst r;rfl
  .rfl
 have es:∀r,0<=r->(rv (AU x.t (a / 16) { rv x.t (a / 16) with AJ:=(rv x.t (a / 16)).AJ + sz x.w a }) r).BH = (rv x.t r).BH:=λr r0=>by
  rw[et r r0];split
  .subst r;rfl
  .rfl
 have eo:∀r,0<=r->(rv (AU x.t (a / 16) { rv x.t (a / 16) with AJ:=(rv x.t (a / 16)).AJ + sz x.w a }) r).AX = (rv x.t r).AX:=λr r0=>by
  rw[et r r0];split
  .subst r;rfl
  .rfl
 have ep:∀r,0<=r->(rv (AU x.t (a / 16) { rv x.t (a / 16) with AJ:=(rv x.t (a / 16)).AJ + sz x.w a }) r).top = (rv x.t r).top:=λr r0=>by
  rw[et r r0];split
  .subst r;rfl
  .rfl
 have hf:∀b,Be (AU x.t (a / 16) { rv x.t (a / 16) with AJ:=(rv x.t (a / 16)).AJ + sz x.w a }) b↔Be x.t b:=λb=>⟨λh=>⟨h.1,by have:=h.1;have:=h.2;rw[T _ Z] at this;exact this⟩,λh=>⟨h.1,by have:=h.1;rw[T _ Z];exact h.2⟩⟩
 have tm:∀b,0<=b->X.tm { x with m:=AU x.m a true,t:=AU x.t (a / 16) { rv x.t (a / 16) with AJ:=(rv x.t (a / 16)).AJ + sz x.w a },sk:=sk' } b = x.tm b:=λb hb=>es (b / 16) Z
 have D:∀b,x.L b->0<=b:=λb h=>by have:=H.g.inn (H.lb b h);omega
 have B0:∀b,x.B b->0<=b:=λb h=>by have:=H.g.inn h;omega
 have lg:∀v,Lg x v->Lg { x with m:=AU x.m a true,t:=AU x.t (a / 16) { rv x.t (a / 16) with AJ:=(rv x.t (a / 16)).AJ + sz x.w a },sk:=sk' } v:=λv h=>by
  have ma:mv (AU x.m a true) a = true:=by rw[W a Z,if_pos rfl]
  rcases h with h | h | h | h | h
  .exact .inl h
  .by_cases c:0<=v
   .right;left;show mv (AU x.m a true) v = true;rw[W v c];split
    .rfl
    .exact h
   .right;left;show mv (AU x.m a true) v = true;unfold mv gv at h ⊢;unfold AU;rw[show v.toNat = 0 from Z] at h ⊢;rw[dZ] at h ⊢;rw[List.getElem?_set_ne Z];exact h
  .rcases hs v h with h | h
   .exact .inr (.inr (.inl h))
   .subst h;exact .inr (.inl ma)
  .exact .inr (.inr (.inr (.inl h)))
  .exact .inr (.inr (.inr (.inr ⟨h.1,by rw[tm v h.1];exact h.2⟩)))
 have len:(AU x.t (a / 16) { rv x.t (a / 16) with AJ:=(rv x.t (a / 16)).AJ + sz x.w a }).length = x.t.length:=V
 have R:=H.g.ok.row (a / 16) Q G;have a0:(rv x.t (a / 16)).AJ + sz x.w a<=(rv x.t (a / 16)).top - 16 * (a / 16):=by
  have e:=QD (y:={ x with m:=AU x.m a true }) H hL hm rfl rfl (a / 16) Q G;rw[if_pos rfl,<- M.cov (a / 16) Q G] at e;rw[<- e];refine bF (y:={ x with m:=AU x.m a true }) H rfl (λb O h=>?_) Q G;have h:mv (AU x.m a true) b = true:=h;rw[W b O] at h;by_cases c:b = a
  .subst c;exact hL
  .rw[if_neg c] at h;exact (H.mt b O h).1
 refine⟨⟨⟨by rw[len];exact H.g.len,?_,λb h=>?_,λb h=>?_,λr r0 r1=>?_,H.g.dj⟩,H.lb,H.rf,λb h hn=>H.st b h λc=>hn ((hf b).2 c),λb h K N=>?_,by simpa using a2,λb O h=>?_,H.ph,λhp r r0 hk=>H.nf hp r r0 (by rw[T r r0] at hk;exact hk),λhp=>absurd hp (by show ¬ 2<=x.ph;omega),λb h=>⟨(H.pl b h).1,λc=>(H.pl b h).2 ((hf b).1 c)⟩,λb h K=>?_,λh1 b h a5=>H.nb h1 b h (by rw[<- tm b (B0 b h)];exact a5),λh3=>absurd h3 (by show ¬ x.ph = 3;omega),λhp=>?_⟩,?_⟩
 .refine TOk.set H.g.ok Q G ⟨R.k0,R.k1,R.t0,R.t1,R.s0,R.s1,?_,a0,R.fr,R.ow,R.o0,R.o1⟩ λs s0 s1 N ho he=>N (H.g.ok.own s (a / 16) s0 s1 Q G (by rw[he];exact ho) he)
  have:=R.l0;show 0<=(rv x.t (a / 16)).AJ + sz x.w a;omega
 .rw[ep _ (by have:=B0 b h;omega)];exact H.g.at_ b h
 .rw[ep _ (by have:=B0 b h;omega)];exact H.g.nx b h
 .rw[ep r Z];exact H.g.bs r r0 (by rw[<- len];exact r1)
 .obtain⟨b1,b2,b3⟩:=H.fw b h ((hf b).1 K) N;exact⟨b1,λc=>b2 ((hf _).1 c),b3⟩
 .have h:mv (AU x.m a true) b = true:=h;rw[W b O] at h;rw[tm b O];by_cases c:b = a
  .subst c;exact⟨hL,ht⟩
  .rw[if_neg c] at h;exact H.mt b O h
 .show mv (AU x.m a true) b = true;rw[W b (D b h)];split
  .rfl
  .exact H.fm b h ((hf b).1 K)
 .refine⟨λv h=>M.sk v (a4 v h),M.old,λa6 h2 h3 b hb A=>M.mn a6 h2 (λc j hc a1 hy j0 j1 hq=>h3 c j hc (by rw[tm c (D c hc)];exact a1) hy j0 j1 hq) b hb (by rw[tm b (D b hb)] at A;exact A),λb h=>⟨(M.l0 b h).1,by rw[tm b (D b (M.l0 b h).1)];exact (M.l0 b h).2.1,lg _ (M.l0 b h).2.2⟩,λb j hb A j0 j1 hq=>?_,λb j hb A j0 j1=>(M.un b j hb (by rw[tm b (D b hb)] at A;exact A) j0 j1).imp id (lg _),λr r0 r1=>?_⟩
  .obtain⟨q1,q2⟩:=M.ql b j hb (by rw[tm b (D b hb)] at A;exact A) j0 j1 hq;exact⟨q1,by rw[tm _ (D _ q1)];exact q2⟩
  .have r1:r < x.t.length:=by rw[<- len];exact r1
   show (rv (AU x.t (a / 16) { rv x.t (a / 16) with AJ:=(rv x.t (a / 16)).AJ + sz x.w a }) r).AJ = _;refine Eq.trans ?_ (QD (y:={ x with m:=AU x.m a true,t:=AU x.t (a / 16) { rv x.t (a / 16) with AJ:=(rv x.t (a / 16)).AJ + sz x.w a },sk:=sk' }) H hL hm rfl rfl r r0 r1).symm;rw[et r Z];have:=M.cov r r0 r1;split
   .subst r;show (rv x.t (a / 16)).AJ + sz x.w a = _;omega
   .omega
 .exact⟨rfl,len,rfl,λ_ h=>h,λ_ h=>h,λ_ h _=>h,λr r0=>by rw[show (rv _ r).kind = (rv x.t r).kind from T r r0],es,λr r0 hk _=>⟨⟨by rw[show (rv _ r).kind = (rv x.t r).kind from T r r0];exact hk,eo r r0,ep r r0⟩,λ_ _ _=>rfl⟩,λ_ _=>rfl,λ_ _ _ _ _ _=>rfl,λ_ _ _=>rfl,λ_=>lg,rfl,λ_ _ _ h _ _ _ _=>⟨h,rfl⟩⟩
end Sm
end
section
namespace Sm
variable {P:List (List Op)}
theorem IG.cstep {S S' : Sim} {g g' : Gh} (I:IG P S g) (x:S'.th = S.th) (D:(S'.Aa,S'.c) = (S.Aa,S.c)) (H:Sh (xof S' g')) (K:Kp S.th.length (xof S g) (xof S' g')) (c1:S.Ac = 1->C1 (xof S' g') S'.col)
  (c2:S.Ac = 2->C2 (xof S' g') S.th.length S'.col) (c3:S.Ac = 3->C3 (xof S' g') S'.col) (wt:S'.stop = true->S'.full = false->Wt (xof S' g') S'.col.want):IG P S' g':=by
 have y:S'.Aa = S.Aa:=congrArg Prod.fst D;have G:S'.c = S.c:=congrArg Prod.snd D;have A:S'.Ac = S.Ac:=K.ph;refine⟨by rw[y];exact I.pg,H,by rw[x];exact I.n0,by rw[x];exact I.n1,by rw[x,y];exact I.pl,by rw[y];exact I.pp,λj u N=>?_,λh=>c1 (by rw[<- A];exact h),λh=>by rw[x];exact c2 (by rw[<- A];exact h),λh=>c3 (by rw[<- A];exact h),wt,by rw[G];exact I.rs⟩;rw[x] at N;have O:=PN N;have:S'.opOf j u = S.opOf j u:=by unfold Sim.opOf;rw[y]
 rw[this];exact (I.ti j u N).stable I.sh K Z
def Gk (c:Col):Nat:=if c.pc = 2 then (c.sh.refs - c.i).toNat else 0
def mu (S:Sim):Nat:=3 * S.old.length + 2 * S.col.AR.length + 14 * S.AQ.countP (λb=>!b) + 3 * Gk S.col
section
variable {c:Nat} {S:Sim} {g:Gh}
theorem Yf {l:List Bool} {a:Int} (h0:0<=a) (j:a < l.length) (h:mv l a = false):(AU l a true).countP (λb=>!b) + 1 = l.countP (λb=>!b):=by
 have e:l[a.toNat]'(Z) = false:=by
  have:=Gd (d:=false) (l:=l) (k:=a.toNat) Z;rw[<- this,show ((a.toNat:Nat):Int) = a from Z];exact h
 have x:0 < l.countP (λb=>!b):=List.countP_pos_iff.2 ⟨_,dc (by omega:a.toNat < l.length),by rw[e];rfl⟩;unfold AU;rw[List.countP_set (by omega:a.toNat < l.length),e];simp;omega
theorem C1.col {x:X} {c j : Col} (C:C1 x c) (h:j.pc = c.pc) (y:j.p = c.p) (D:j.sh = c.sh) (A:j.i = c.i):C1 x j:=by
 refine⟨by rw[h];exact C.pc,by rw[h,y,D,A];exact C.p2,?_⟩;rw[h,y,A];exact C.sc
theorem UH (hc:c < 900000) (I:IG P S g) (B:Bd c S) (A:S.Ac = 1) (hp:S.col.pc = 1):∃S',S.mark = some S'/\IG P S' g/\Bd c S'/\S'.Ac = 1/\(S'.AI = S.AI/\S'.th = S.th)/\S'.full = S.full/\((S'.stop = true/\S.col.AR = []/\S.old = [])\/(mu S' < mu S/\S'.stop = S.stop/\S'.col.want = S.col.want)):=by
 have M:=I.sh.mp A;have C:=I.c1 A;have hz:=I.szok rfl B hc;have a9:=I.wl;have N:∀{S' : Sim} {g'},Kp S.th.length (xof S g) (xof S' g')->S'.stop = S.stop->S'.full = S.full->S'.col.want = S.col.want->S'.stop = true->S'.full = false->Wt (xof S' g') S'.col.want:=λK e1 e2 e3 h h'=>by
  rw[e3];exact (I.wt (by rw[<- e1];exact h) (by rw[<- e2];exact h')).stable I.sh K
 unfold Sim.mark;rw[hz,if_neg δ];rcases List.eq_nil_or_concat S.col.AR with y | ⟨l,a,y⟩
 .rw[if_pos (by rw[y];rfl)];have a7:S.old = []\/∃a l,S.old = a :: l:=by cases S.old<;>simp
  rcases a7 with hold | ⟨a,l,hold⟩
  .refine⟨{ S with stop:=true,col:={ S.col with want:=2 } },by rw[hold],?_,⟨B.ev,B.old,B.cy,B.fu,B.st,B.pn⟩,A,⟨rfl,rfl⟩,rfl,.inl ⟨rfl,y,hold⟩⟩;exact I.cstep (g':=g) (S':={ S with stop:=true,col:={ S.col with want:=2 } }) rfl rfl I.sh (Kp.refl _ _) (λ_=>C.col rfl rfl rfl rfl) (λh=>Z) (λh=>Z) (λ_ _=>.inr (.inl ⟨A,rfl⟩))
  .obtain⟨H,K⟩:=Y4 (p:=S.th.length) (sk':=[a]) (old':=l) I.sh (λv x=>by
    simp only[dz] at x;subst x;exact M.old v (by show v∈S.old;rw[hold];simp)) (λv x=>M.old v (by show v∈S.old;rw[hold];simp[x])) (λv x=>by
    rcases x with x | x
    .have x:v∈S.col.AR:=x
     rw[y] at x;cases x
    .have x:v∈S.old:=x
     rw[hold] at x
     rcases du.1 x with h | h
     .exact .inr (.inr (.inl (by simp[h])))
     .exact .inr (.inr (.inr (.inl h))))
   have bs:=B.st;rw[y,hold] at bs;refine⟨{ S with old:=l,col:={ S.col with AR:=[a] } },by rw[hold],?_,⟨B.ev,?_,B.cy,B.fu,?_,B.pn⟩,A,⟨rfl,rfl⟩,rfl,.inr ⟨?_,rfl,rfl⟩⟩
   .exact I.cstep (g':=g) (S':={ S with old:=l,col:={ S.col with AR:=[a] } }) rfl rfl H K (λ_=>(C.stable I.sh K rfl A).col rfl rfl rfl rfl) (λh=>Z) (λh=>Z) (N K rfl rfl rfl)
   .have:=B.old;rw[hold] at this;simp at this;show l.length<=c;omega
   .show [a].length + l.length + 5 * S.AQ.countP (λb=>!b) + (if S.col.pc = 2 then (S.col.sh.refs - S.col.i).toNat else 0)<=3000 + c;simp only[fP,dl] at bs ⊢;omega
   .show 3 * l.length + 2 * [a].length + 14 * S.AQ.countP (λb=>!b) + 3 * Gk { S.col with AR:=[a] } < 3 * S.old.length + 2 * S.col.AR.length + 14 * S.AQ.countP (λb=>!b) + 3 * Gk S.col;rw[y,hold];have:Gk { S.col with AR:=[a] } = Gk S.col:=rfl;rw[this];simp;omega
 .rw[List.concat_eq_append] at y;rw[if_neg (by rw[y];simp)];simp only[di];have e1:S.col.AR.getLast? = some a:=by rw[y];simp
  have e2:S.col.AR.dropLast = l:=by rw[y];simp
  have hL:g.L a:=M.sk a (by show a∈S.col.AR;rw[y];simp);have O:∀v∈l,v∈S.col.AR:=λv x=>by rw[y];simp[x]
  have T:∀v∈S.col.AR,v∈l\/v = a:=λv x=>by rw[y] at x;simpa using x
  obtain⟨a1,a2,a3,a4,a5,a6⟩:=I.in_ hL;have a8:S.AQ.length = S.AC.length:=I.sh.ml;have bs:=B.st;rw[y,hp,if_neg δ] at bs;simp only[de,eK] at bs;have W:mu S = 3 * S.old.length + 2 * (l.length + 1) + 14 * S.AQ.countP (λb=>!b):=by
   unfold mu Gk;rw[y,hp,if_neg δ];simp
  rw[e1,e2];simp only[z_o];rw[Bc Z,Cz Z a3];simp only[z_o];have G:∀(b:a < (rv S.AA (a / 16)).BH->mv S.AQ a = true),∃S',some (S.setC { S.col with AR:=l }) = some S'/\IG P S' g/\Bd c S'/\S'.Ac = 1/\(S'.AI = S.AI/\S'.th = S.th)/\S'.full = S.full/\((S'.stop = true/\S.col.AR = []/\S.old = [])\/(mu S' < mu S/\S'.stop = S.stop/\S'.col.want = S.col.want)):=λb=>by
   obtain⟨H,K⟩:=Y4 (p:=S.th.length) (sk':=l) (old':=S.old) I.sh (λv x=>M.sk v (O v x)) M.old (λv x=>by
    rcases x with x | x
    .rcases T v x with h | h
     .exact .inr (.inr (.inl h))
     .subst h
      by_cases c:v < (rv S.AA (v / 16)).BH
      .exact .inr (.inl (b c))
      .exact .inr (.inr (.inr (.inr ⟨Z,by show (rv S.AA (v / 16)).BH<=v;omega⟩)))
    .exact .inr (.inr (.inr (.inl x))))
   refine⟨_,rfl,?_,⟨B.ev,B.old,B.cy,B.fu,?_,B.pn⟩,A,⟨rfl,rfl⟩,rfl,.inr ⟨?_,rfl,rfl⟩⟩
   .exact I.cstep (g':=g) (S':=S.setC { S.col with AR:=l }) rfl rfl H K (λ_=>(C.stable I.sh K rfl A).col rfl rfl rfl rfl) (λh=>Z) (λh=>Z) (N K rfl rfl rfl)
   .show l.length + S.old.length + 5 * S.AQ.countP (λb=>!b) + (if S.col.pc = 2 then (S.col.sh.refs - S.col.i).toNat else 0)<=3000 + c;rw[hp,if_neg δ];omega
   .rw[W];show 3 * S.old.length + 2 * l.length + 14 * S.AQ.countP (λb=>!b) + 3 * Gk { S.col with AR:=l } < _;have:Gk { S.col with AR:=l } = 0:=by unfold Gk;rw[if_neg (by show ¬ S.col.pc = 2;omega)]
    rw[this];omega
  by_cases D:a < (rv S.AA (a / 16)).BH
  .rw[if_pos D,Sy Z Z];simp only[z_o];cases hm:mv S.AQ a with
   | true=>
    simp only[hQ,eO,if_false];exact G λ_=>hm
   | false=>
    simp only[Bool.not_false,if_true];rw[BV Z Z];simp only[z_o];rw[CZ Z (by show _ < (S.AC.length:Int);omega)];simp only[z_o];obtain⟨H,K⟩:=cJ (p:=S.th.length) (sk':=l) I.sh A hL D hm T O;have R:=I.sh.g.ok.row (a / 16) a2 a3;have l0:=R.l0;have l1:=R.l1;have t0:=R.t1;have es:(AT (wv S.AC (a + 1))).1 = shp S.AC a:=rfl;have a0:AH (shp S.AC a) = sz S.AC a:=rfl;have sb:=G8 S.AC a;rw[es,a0,BV (by simp only at l0;omega) (by simp only at l0 l1 t0;omega)];simp only[z_o];have Q:(if (if 0 < (shp S.AC a).refs then 2 else S.col.pc) = 2 then ((shp S.AC a).refs - 0).toNat else 0)<=4:=by
     by_cases c:0 < (shp S.AC a).refs
     .rw[if_pos c,if_pos rfl];omega
     .rw[if_neg c,if_neg Z];omega
    have hu:=Yf (l:=S.AQ) (a:=a) Z Z hm;refine⟨_,rfl,?_,⟨B.ev,B.old,B.cy,B.fu,?_,B.pn⟩,A,⟨rfl,rfl⟩,rfl,.inr ⟨?_,rfl,rfl⟩⟩
    .refine I.cstep (g':=g) (S':={ S with used:=true,AQ:=AU S.AQ a true,AA:=AU S.AA (a / 16) { rv S.AA (a / 16) with AJ:=(rv S.AA (a / 16)).AJ + sz S.AC a },col:={ S.col with AR:=l,p:=a,i:=0,sh:=shp S.AC a,pc:=if 0 < (shp S.AC a).refs then 2 else S.col.pc } }) rfl rfl H K (λ_=>?_) (λh=>Z) (λh=>Z) (N K rfl rfl rfl);have em:∀b,0<=b->mv (AU S.AQ a true) b = if b = a then true else mv S.AQ b:=λb hb=>Tl Z Z hb
     refine⟨?_,λh=>?_,λb j b0 hb j0 j1=>?_⟩
     .show (if 0 < (shp S.AC a).refs then 2 else S.col.pc) = 1\/(if 0 < (shp S.AC a).refs then 2 else S.col.pc) = 2;split
      .exact .inr rfl
      .exact .inl hp
     .have h:(if 0 < (shp S.AC a).refs then 2 else S.col.pc) = 2:=h;refine⟨?_,by show 0<=a;omega,rfl,eQ 0,?_⟩
      .show mv (AU S.AQ a true) a = true;rw[em a Z,if_pos rfl]
      .show 0 < (shp S.AC a).refs;by_cases c:0 < (shp S.AC a).refs
       .exact c
       .rw[if_neg c] at h;omega
     .have hb:mv (AU S.AQ a true) b = true:=hb;rw[em b b0] at hb;by_cases c:b = a
      .subst c;left;have j1:j < (shp S.AC b).refs:=j1;refine⟨?_,rfl,j0⟩;show (if 0 < (shp S.AC b).refs then 2 else S.col.pc) = 2;rw[if_pos Z]
      .rw[if_neg c] at hb;right;rcases C.sc b j b0 hb j0 j1 with h | h
       .omega
       .exact K.lg A _ h
    .show l.length + S.old.length + 5 * (AU S.AQ a true).countP (λb=>!b) + (if (if 0 < (shp S.AC a).refs then 2 else S.col.pc) = 2 then ((shp S.AC a).refs - 0).toNat else 0)<=3000 + c;omega
    .rw[W];show 3 * S.old.length + 2 * l.length + 14 * (AU S.AQ a true).countP (λb=>!b) + 3 * Gk _ < _;have:Gk { S.col with AR:=l,p:=a,i:=0,sh:=shp S.AC a,pc:=if 0 < (shp S.AC a).refs then 2 else S.col.pc }<=4:=by
      unfold Gk;exact Q
     refine Nat.lt_of_le_of_lt (Nat.add_le_add_left (Nat.mul_le_mul_left 3 this) _) ?_;omega
  .rw[if_neg D];simp only[z_o,eO,if_false];exact G λh=>absurd h D
theorem U1 (hc:c < 900000) (I:IG P S g) (B:Bd c S) (D:S.Ac = 1) (A:S.col.pc = 2):∃S',S.look = some S'/\IG P S' g/\Bd c S'/\S'.Ac = 1/\(S'.AI = S.AI/\S'.th = S.th)/\S'.full = S.full/\S'.used = true/\mu S' < mu S/\S'.stop = S.stop/\S'.col.want = S.col.want:=by
 have M:=I.sh.mp D;have C:=I.c1 D;have hz:=I.szok rfl B hc;have a0:=I.wl;obtain⟨p1,p0,x,N,y⟩:=C.p2 A;obtain⟨O,R⟩:=I.sh.mt S.col.p p0 p1;obtain⟨a1,a2,a3,a4,a5,a6⟩:=I.in_ O;have sb:=G8 S.AC S.col.p;have x:S.col.sh = shp S.AC S.col.p:=x;rw[x] at y;unfold Sim.look;rw[hz,if_neg δ];simp only[di];rw[BV Z Z];simp only[z_o];rw[BV Z Z];simp only[z_o];rw[CZ Z Z];simp only[z_o];rw[BV Z Z];simp only[z_o];have hv:=I.sh.rf S.col.p S.col.i O N y;have Q:∀v∈S.col.AR,v∈(if wv S.AC (S.col.p + 2 + S.col.i)≠0 then S.col.AR ++ [wv S.AC (S.col.p + 2 + S.col.i)] else S.col.AR):=λv h=>by
  split
  .exact eT _ h
  .exact h
 obtain⟨H,K⟩:=Y4 (p:=S.th.length) (sk':=if wv S.AC (S.col.p + 2 + S.col.i)≠0 then S.col.AR ++ [wv S.AC (S.col.p + 2 + S.col.i)] else S.col.AR) (old':=S.old) I.sh (λv h=>by
  split at h
  .rcases eI.1 h with h | h
   .exact M.sk v h
   .simp only[dz] at h;subst h;exact hv (by assumption)
  .exact M.sk v h) M.old (λv h=>by
  rcases h with h | h
  .exact .inr (.inr (.inl (Q v h)))
  .exact .inr (.inr (.inr (.inl h))))
 have bs:=B.st;rw[A,if_pos rfl,x] at bs;have hlen:(if wv S.AC (S.col.p + 2 + S.col.i)≠0 then S.col.AR ++ [wv S.AC (S.col.p + 2 + S.col.i)] else S.col.AR).length<=S.col.AR.length + 1:=by split<;>simp
 have W:Gk { S.col with AR:=if wv S.AC (S.col.p + 2 + S.col.i)≠0 then S.col.AR ++ [wv S.AC (S.col.p + 2 + S.col.i)] else S.col.AR,i:=S.col.i + 1,pc:=if S.col.i + 1 = S.col.sh.refs then 1 else S.col.pc } + 1<=((shp S.AC S.col.p).refs - S.col.i).toNat:=by
  unfold Gk;show (if (if S.col.i + 1 = S.col.sh.refs then 1 else S.col.pc) = 2 then (S.col.sh.refs - (S.col.i + 1)).toNat else 0) + 1<=_;rw[x];by_cases c:S.col.i + 1 = (shp S.AC S.col.p).refs
  .rw[if_pos c,if_neg δ];omega
  .rw[if_neg c,if_pos A];omega
 refine⟨_,rfl,?_,⟨B.ev,B.old,B.cy,B.fu,?_,B.pn⟩,D,⟨rfl,rfl⟩,rfl,rfl,?_,rfl,rfl⟩
 .refine I.cstep (g':=g) (S':=({ S with used:=true }:Sim).setC { S.col with AR:=if wv S.AC (S.col.p + 2 + S.col.i)≠0 then S.col.AR ++ [wv S.AC (S.col.p + 2 + S.col.i)] else S.col.AR,i:=S.col.i + 1,pc:=if S.col.i + 1 = S.col.sh.refs then 1 else S.col.pc }) rfl rfl H K (λ_=>?_) (λh=>Z) (λh=>Z) (λh h'=>(I.wt h h').stable I.sh K);refine⟨?_,λh=>?_,λb j b0 hb j0 T=>?_⟩
  .show (if S.col.i + 1 = S.col.sh.refs then 1 else S.col.pc) = 1\/(if S.col.i + 1 = S.col.sh.refs then 1 else S.col.pc) = 2;split
   .exact .inl rfl
   .exact .inr A
  .have h:(if S.col.i + 1 = S.col.sh.refs then 1 else S.col.pc) = 2:=h;refine⟨p1,p0,x,by show 0<=S.col.i + 1;omega,?_⟩;show S.col.i + 1 < S.col.sh.refs;by_cases c:S.col.i + 1 = S.col.sh.refs
   .rw[if_pos c] at h;cases h
   .rw[x] at c ⊢;omega
  .have T:j < (shp S.AC b).refs:=T;rcases C.sc b j b0 hb j0 T with ⟨_,h2,h3⟩ | h
   .subst h2;by_cases c:j = S.col.i
    .subst c;right;rcases M.un S.col.p S.col.i O R N y with h | h
     .show Lg _ (g.q (S.col.p + 2 + S.col.i));have h:wv S.AC (S.col.p + 2 + S.col.i) = g.q (S.col.p + 2 + S.col.i):=h;rw[<- h];by_cases G:wv S.AC (S.col.p + 2 + S.col.i) = 0
      .exact .inl G
      .refine .inr (.inr (.inl ?_));show _∈(if wv S.AC (S.col.p + 2 + S.col.i)≠0 then S.col.AR ++ [wv S.AC (S.col.p + 2 + S.col.i)] else S.col.AR);rw[if_pos G];simp
     .exact K.lg D _ h
    .left;refine⟨?_,rfl,by show S.col.i + 1<=j;omega⟩;show (if S.col.i + 1 = S.col.sh.refs then 1 else S.col.pc) = 2;rw[if_neg (by rw[x];omega)];exact A
   .exact .inr (K.lg D _ h)
 .show (if wv S.AC (S.col.p + 2 + S.col.i)≠0 then S.col.AR ++ [wv S.AC (S.col.p + 2 + S.col.i)] else S.col.AR).length + S.old.length + 5 * S.AQ.countP (λb=>!b) + Gk { S.col with AR:=if wv S.AC (S.col.p + 2 + S.col.i)≠0 then S.col.AR ++ [wv S.AC (S.col.p + 2 + S.col.i)] else S.col.AR,i:=S.col.i + 1,pc:=if S.col.i + 1 = S.col.sh.refs then 1 else S.col.pc }<=3000 + c;omega
 .have e:mu S = 3 * S.old.length + 2 * S.col.AR.length + 14 * S.AQ.countP (λb=>!b) + 3 * ((shp S.AC S.col.p).refs - S.col.i).toNat:=by
   unfold mu Gk;rw[A,if_pos rfl,x]
  rw[e];show 3 * S.old.length + 2 * (if wv S.AC (S.col.p + 2 + S.col.i)≠0 then S.col.AR ++ [wv S.AC (S.col.p + 2 + S.col.i)] else S.col.AR).length + 14 * S.AQ.countP (λb=>!b) + 3 * Gk { S.col with AR:=if wv S.AC (S.col.p + 2 + S.col.i)≠0 then S.col.AR ++ [wv S.AC (S.col.p + 2 + S.col.i)] else S.col.AR,i:=S.col.i + 1,pc:=if S.col.i + 1 = S.col.sh.refs then 1 else S.col.pc } < _;omega
end
end Sm
end
section
namespace Sm
variable {P:List (List Op)}
theorem Rm {m:List Bool} {row:Rg}:∀(n:Nat) (p:Int),0<=p->row.top - p < n->0 < n->row.top<=m.length->∃q,KA m row n p = some q/\p<=q/\(row.kind = 4->q < row.top->mv m q = true)/\(row.kind = 4->∀a,p<=a->a < q->mv m a = false)/\(row.kind≠4->q = p)/\(q = p\/q<=row.top):=by
 intro n;induction n with
 | zero=>intro p _ _ h;omega
 | succ n K=>
  intro p p0 h _ G;unfold KA;by_cases c:row.kind = 4/\p < row.top
  .rw[if_pos c,Sy p0 Z];simp only[di,z_o];cases A:mv m p with
   | true=>
    simp only[if_true];exact⟨p,rfl,eQ p,λ_ _=>A,λ_ a y x=>Z,λ_=>rfl,.inl rfl⟩
   | false=>
    simp only[eO,if_false];obtain⟨q,e,y,x,D,N,O⟩:=K (p + 1) Z Z Z G;refine⟨q,e,Z,x,λj a Q hb=>?_,λj=>absurd c.1 j,.inr Z⟩;by_cases d:a = p
    .subst d;exact A
    .exact D j a Z hb
  .rw[if_neg c];exact⟨p,rfl,eQ p,λj H=>absurd ⟨j,H⟩ c,λ_ a y x=>Z,λ_=>rfl,.inl rfl⟩
theorem Pa {S:Sim} (T:TOk S.AA) (hl:(S.AC.length:Int) = 16 * S.AA.length) (a0:S.AQ.length = S.AC.length):∀(n:Nat) (r p:Int),1<=r->r<=S.AA.length->16 * r<=p->p<=16 * r + 16->S.AA.length - r < n->
  ∃j x,S.walkOut n r p = some (j,x)/\1<=j/\j<=S.AA.length/\16 * j<=x/\x<=16 * j + 16/\p<=x/\(∀a,Be S.AA a->p<=a->a < x->a < (rv S.AA (a / 16)).top->mv S.AQ a = false)/\(j < S.AA.length->(rv S.AA j).kind = 4/\x < (rv S.AA j).top/\mv S.AQ x = true):=by
 intro n;induction n with
 | zero=>intro r p _ _ _ _ h;omega
 | succ n ih=>
  intro r p r0 r1 p0 p1 hn;unfold Sim.walkOut;by_cases c:r < S.AA.length
  .have R:=T.row r r0 c;have R0:=R.t0;have R1:=R.t1;rw[if_pos c,Cz Z c];simp only[di,z_o];obtain⟨q,e,G,H,K,h4,h5⟩:=Rm (m:=S.AQ) (row:=rv S.AA r) 20 p Z Z Z Z;rw[e];simp only[z_o];have q1:q<=16 * r + 16:=Z
   by_cases d:(rv S.AA r).kind = 4/\q < (rv S.AA r).top
   .rw[if_pos d];refine⟨r,q,rfl,r0,r1,Z,q1,G,λa A y hb _=>K d.1 a y hb,λ_=>⟨d.1,d.2,H d.1 d.2⟩⟩
   .rw[if_neg d,show (r + 1) * 16 = 16 * (r + 1) from Z];obtain⟨j,x,e',g1,g2,g3,g4,g5,g6,g7⟩:=ih (r + 1) (16 * (r + 1)) Z Z Z Z Z;refine⟨j,x,e',g1,g2,g3,g4,Z,λa A y hb O=>?_,g7⟩;by_cases Q:16 * (r + 1)<=a
    .exact g6 a A Q hb O
    .have D:a / 16 = r:=Z
     rw[D] at O;have N:(rv S.AA r).kind = 4:=by have:=A.2;rw[D] at this;exact this
     by_cases W:a < q
     .exact K N a y W
     .exfalso;exact d ⟨N,Z⟩
  .rw[if_neg c];exact⟨r,p,rfl,r0,r1,p0,p1,eQ p,λa _ G H=>Z,λh=>absurd h c⟩
section
variable {c:Nat} {S:Sim} {g:Gh}
theorem Yj (I:IG P S g) (B:Bd c S) (D:S.Ac = 2) (T:S.col.pc = 5):∃S',S.walk = some S'/\IG P S' g/\Bd c S'/\S'.Ac = 2/\(S'.stop = true\/S'.used = true):=by
 have C:=I.c2 D;have a8:=I.wl;have hl:(S.AC.length:Int) = 16 * S.AA.length:=I.sh.g.len;have O:S.AQ.length = S.AC.length:=I.sh.ml;have a0:S.col.r<=S.AA.length:=C.r1;obtain⟨r,p,e,r0,r1,p0,p1,a7,R,N⟩:=Pa I.sh.g.ok hl O (S.AA.length + 2) S.col.r S.col.p C.r0 C.r1 C.p0 C.p1 (by have:=C.r0;omega);have G:∀a,g.L a->Be S.AA a->a < p->wv S.AC a≠a:=λa A y j=>by
  by_cases d:a < S.col.p
  .rcases C.wk a A y d with h | ⟨h,_⟩
   .exact h
   .exact absurd T h
  .exfalso;have h1:=R a y Z j (by have:=I.sh.g.inn (I.sh.lb a A);simp only at this;omega);have D:mv S.AQ a = true:=I.sh.fm a A y;rw[h1] at D;cases D
 unfold Sim.walk;simp only[di];rw[e];simp only[z_o];by_cases d:r = S.AA.length
 .rw[if_pos d];refine⟨_,rfl,?_,⟨B.ev,B.old,B.cy,B.fu,?_,B.pn⟩,D,.inl rfl⟩
  .refine I.cstep (g':=g) (S':={ S with stop:=true,col:={ S.col with r:=r,p:=p,want:=3 } }) rfl rfl I.sh (Kp.refl _ _) (λh=>Z) (λ_=>⟨r0,r1,p0,p1,λa A y j=>.inl (G a A y j),.inl T⟩) (λh=>Z) (λ_ _=>.inr (.inr (.inl ⟨D,rfl,λa A y=>?_⟩)));have:=I.in_ A;exact G a A y Z
  .exact B.st
 .rw[if_neg d];obtain⟨k4,pt,pm⟩:=N Z;obtain⟨hL,_⟩:=I.sh.mt p Z pm;obtain⟨a1,a2,a3,a4,a5,a6⟩:=I.in_ hL;have R1:=(I.sh.g.ok.row r r0 (by simp only;omega)).t1;simp only at R1;have er:p / 16 = r:=Z
  have y:Be S.AA p:=⟨Z,by rw[er];exact k4⟩;rw[BV Z Z];simp only[z_o];rw[CZ Z Z];simp only[z_o];have H:∀x : Col,(x = { S.col with r:=r,p:=p + 1 }/\wv S.AC p≠p)\/x = { S.col with r:=r,p:=p + 1,src:=p,pc:=20 }->IG P (({ S with used:=true }:Sim).setC x) g/\Bd c (({ S with used:=true }:Sim).setC x):=λx h=>by
   rcases h with ⟨rfl,Q⟩ | rfl
   .refine⟨I.cstep (g':=g) (S':=({ S with used:=true }:Sim).setC { S.col with r:=r,p:=p + 1 }) rfl rfl I.sh (Kp.refl _ _) (λh=>Z) (λ_=>⟨r0,r1,by show 16 * r<=p + 1;omega,by show p + 1<=16 * r + 16;omega,λa A y j=>.inl ?_,.inl T⟩) (λh=>Z) (λh K=>I.wt h K),⟨B.ev,B.old,B.cy,B.fu,B.st,B.pn⟩⟩;by_cases c2:a = p
    .subst c2;exact Q
    .exact G a A y (by have j:a < p + 1:=j;omega)
   .refine⟨I.cstep (g':=g) (S':=({ S with used:=true }:Sim).setC { S.col with r:=r,p:=p + 1,src:=p,pc:=20 }) rfl rfl I.sh (Kp.refl _ _) (λh=>Z) (λ_=>⟨r0,r1,by show 16 * r<=p + 1;omega,by show p + 1<=16 * r + 16;omega,λa A y j=>?_,.inr (Cp.start hL y D)⟩) (λh=>Z) (λh K=>I.wt h K),⟨B.ev,B.old,B.cy,B.fu,?_,B.pn⟩⟩
    .by_cases c2:a = p
     .right;exact⟨by show (20:Int)≠5;decide,c2⟩
     .left;exact G a A y (by have j:a < p + 1:=j;omega)
    .have:=B.st;show S.col.AR.length + S.old.length + 5 * S.AQ.countP (λb=>!b) + (if (20:Int) = 2 then _ else 0)<=3000 + c;rw[if_neg δ];omega
  split
  .obtain⟨k1,W⟩:=H _ (.inr rfl);exact⟨_,rfl,k1,W,D,.inr rfl⟩
  .obtain⟨k1,W⟩:=H _ (.inl ⟨rfl,by assumption⟩);exact⟨_,rfl,k1,W,D,.inr rfl⟩
theorem Xi (I:IG P S g) (B:Bd c S) (j:S.Ac = 2) (hp:S.col.pc≠5):∃S' g',S.carry = some S'/\IG P S' g'/\Bd c S'/\S'.Ac = 2/\(S'.stop = true\/S'.used = true):=by
 have C:=I.c2 j;have b1:=I.wl;have b0:=I.n1;rcases C.pc with h | cp
 .exact absurd h hp
 have p:=cp.p;obtain⟨a1,a2,a3,a4,a5,a6⟩:=I.in_ cp.ls;have D:=B.usd true;have bs:S.col.AR.length + S.old.length + 5 * S.AQ.countP (λb=>!b)<=3000 + c:=by have:=B.st;omega
 have wk:∀{y:X},Kp S.th.length (xof S g) y->∀a,y.L a->Be y.t a->a < S.col.p->a≠S.col.src->wv y.w a≠a:=λK a ha hf x a0=>by
  have hL:=K.lf a ha hf;rcases C.wk a hL (K.frm.1 hf) x with d | d
  .rw[K.fwd a (I.sh.lb _ hL) d];exact d
  .exact absurd d.2 a0
 have stay:∀{S1:Sim} {g' : Gh} {col' : Col},S1.th = S.th->(S1.Aa,S1.c) = (S.Aa,S.c)->S1.stop = S.stop->S1.full = S.full->Bd c S1->S1.col = S.col->S1.Ac = 2->Sh (xof (S1.setC col') g')->Kp S.th.length (xof S g) (xof (S1.setC col') g')->col'.r = S.col.r->col'.p = S.col.p->col'.AR = S.col.AR->col'.want = S.col.want->
   ((col'.src = S.col.src/\Cp (xof (S1.setC col') g') S.th.length col'.src col'.dst col'.size col'.i col'.word col'.pc)\/(col'.pc = 5/\wv S1.AC S.col.src≠S.col.src))->IG P (S1.setC col') g'/\Bd c (S1.setC col'):=λ{S1 g' col'} e1 e2 e3 e4 D e5 e6 H K q1 q2 q3 q4 hc=>by
  refine⟨I.cstep (g':=g') (S':=S1.setC col') e1 e2 H K (λh=>Z) (λ_=>?_) (λh=>Z) (λh h'=>?_),⟨D.ev,D.old,D.cy,D.fu,?_,D.pn⟩⟩
  .refine⟨by show 1<=col'.r;rw[q1];exact C.r0,by show col'.r<=_;rw[q1,K.tl];exact C.r1,by show 16 * col'.r<=col'.p;rw[q1,q2];exact C.p0,by show col'.p<=16 * col'.r + 16;rw[q1,q2];exact C.p1,λa ha hf x=>?_,?_⟩
   .have x:a < col'.p:=x;rw[q2] at x;by_cases c2:a = S.col.src
    .rcases hc with ⟨h1,Q⟩ | ⟨h1,Q⟩
     .right;have:=Q.p;exact⟨by show col'.pc≠5;omega,by show a = col'.src;rw[h1,c2]⟩
     .left;subst c2;exact Q
    .left;exact wk K a ha hf x c2
   .rcases hc with ⟨h1,Q⟩ | ⟨h1,Q⟩
    .exact .inr Q
    .exact .inl h1
  .show Wt (xof (S1.setC col') g') col'.want;rw[q4];exact (I.wt (by rw[<- e3];exact h) (by rw[<- e4];exact h')).stable I.sh K
  .have a9:col'.pc≠2:=by
    rcases hc with ⟨h1,Q⟩ | ⟨h1,Q⟩
    .have:=Q.p;omega
    .omega
   have:=D.st;show col'.AR.length + S1.old.length + 5 * S1.AQ.countP (λb=>!b) + (if col'.pc = 2 then _ else 0)<=3000 + c;rw[if_neg a9,q3,<- e5];omega
 unfold Sim.carry;by_cases a7:S.col.pc = 20
 .simp only[di];rw[if_pos a7,BV Z Z];simp only[z_o];rw[CZ Z Z];simp only[z_o];have es:AH (AT (wv S.AC (S.col.src + 1))).1 = sz S.AC S.col.src:=rfl;rw[es];rcases GG (o:=(S.th.length:Int)) (size:=sz S.AC S.col.src) I.sh.g.ok Z Z Z Z with h | ⟨t',d,h,R⟩
  .have h' : BZ S.AA S.th.length (sz S.AC S.col.src) = none:=h;simp only[h'];refine⟨_,g,rfl,I.cstep (g':=g) (S':={ S with used:=true,full:=true,stop:=true }) rfl rfl I.sh (Kp.refl _ _) (λh=>Z) (λ_=>C) (λh=>Z) (λ_ h=>by cases h),⟨B.ev,B.old,B.cy,B.fu,B.st,B.pn⟩,j,.inl rfl⟩
  .have h' : BZ S.AA S.th.length (sz S.AC S.col.src) = some (t',d):=h;simp only[h'];obtain⟨T,K,C'⟩:=bj (word:=S.col.word) I.sh cp.ls cp.fs cp.p2 R;obtain⟨k1,A⟩:=stay (S1:={ S with used:=true,AA:=t' }) (g':=g) (col':={ S.col with size:=sz S.AC S.col.src,dst:=d,i:=1,pc:=21 }) rfl rfl rfl rfl ⟨B.ev,B.old,B.cy,B.fu,B.st,B.pn⟩ rfl j T K rfl rfl rfl rfl (.inl ⟨rfl,C'⟩);exact⟨_,g,rfl,k1,A,j,.inr rfl⟩
 simp only[di];rw[if_neg a7];have j0:=cp.i0 Z;have hs:=cp.sz Z;have O:=cp.ow Z;have ow:=O.wl I.sh.g;have d0:=O.d0;simp only at hs ow;by_cases G:S.col.pc = 21
 .rw[if_pos G];have j1:=cp.i1 (.inl G);rw[BV Z Z];simp only[z_o];rw[CZ Z Z];simp only[z_o];rw[G] at cp;obtain⟨k1,A⟩:=stay (S1:={ S with used:=true }) (g':=g) (col':={ S.col with word:=wv S.AC (S.col.src + S.col.i),pc:=22 }) rfl rfl rfl rfl D rfl j I.sh (Kp.refl _ _) rfl rfl rfl rfl (.inl ⟨rfl,cT cp⟩);exact⟨_,g,rfl,k1,A,j,.inr rfl⟩
 rw[if_neg G];by_cases N:S.col.pc = 22
 .rw[if_pos N];have j1:=cp.i1 (.inr N);rw[BV Z Z];simp only[z_o];rw[DK Z Z];simp only[z_o];rw[BV Z Z];simp only[z_o];rw[N] at cp;obtain⟨T,K,C'⟩:=cI I.sh cp;obtain⟨k1,A⟩:=stay (S1:={ S with used:=true,AC:=AU S.AC (S.col.dst + S.col.i) S.col.word }) (g':=g) (col':={ S.col with i:=S.col.i + 1,pc:=if S.col.i + 1 = S.col.size then 23 else 21 }) rfl rfl rfl rfl ⟨B.ev,B.old,B.cy,B.fu,B.st,B.pn⟩ rfl j T K rfl rfl rfl rfl (.inl ⟨rfl,C'⟩);exact⟨_,g,rfl,k1,A,j,.inr rfl⟩
 rw[if_neg N];by_cases W:S.col.pc = 23
 .rw[if_pos W];rw[DK Z Z];simp only[z_o];rw[W] at cp;obtain⟨T,K,C'⟩:=cB I.sh cp;obtain⟨k1,A⟩:=stay (S1:={ S with used:=true,AC:=AU S.AC S.col.dst S.col.dst }) (g':=g) (col':={ S.col with pc:=24 }) rfl rfl rfl rfl ⟨B.ev,B.old,B.cy,B.fu,B.st,B.pn⟩ rfl j T K rfl rfl rfl rfl (.inl ⟨rfl,C'⟩);exact⟨_,g,rfl,k1,A,j,.inr rfl⟩
 rw[if_neg W,if_pos Z];have a8:S.col.pc = 24:=Z
 rw[a8] at cp;rw[CZ Z Z];simp only[z_o];by_cases hw:wv S.AC S.col.src = S.col.src
 .rw[if_pos hw,DK (S:={ S with used:=true }) Z (by show _ < (S.AC.length:Int);omega)];simp only[z_o];obtain⟨T,K,nf,_,a0⟩:=cP I.sh cp hw;have inn:S.col.dst / 16 < S.AA.length:=O.inn;rw[XR (S:={ S with used:=true,AC:=AU S.AC S.col.src S.col.dst }) Z inn Z Z];simp only[z_o];obtain⟨k1,A⟩:=stay (S1:={ S with used:=true,AC:=AU S.AC S.col.src S.col.dst,AA:=AU S.AA (S.col.dst / 16) { rv S.AA (S.col.dst / 16) with top:=S.col.dst + S.col.size } }) (g':={ g with B:=λa=>g.B a\/a = S.col.dst,L:=λa=>g.L a\/a = S.col.dst }) (col':={ S.col with pc:=5 }) rfl rfl rfl rfl ⟨B.ev,B.old,B.cy,B.fu,B.st,B.pn⟩ rfl j T K rfl rfl rfl rfl (.inr ⟨rfl,by
   show wv (AU S.AC S.col.src S.col.dst) S.col.src≠S.col.src
   rw[Cn Z Z Z,if_pos rfl];exact a0⟩)
  exact⟨_,_,rfl,k1,A,j,.inr rfl⟩
 .rw[if_neg hw];simp only[z_o];obtain⟨k1,A⟩:=stay (S1:={ S with used:=true }) (g':=g) (col':={ S.col with pc:=5 }) rfl rfl rfl rfl D rfl j I.sh (Kp.refl _ _) rfl rfl rfl rfl (.inr ⟨rfl,hw⟩);exact⟨_,g,rfl,k1,A,j,.inr rfl⟩
end
end Sm
end
section
namespace Sm
variable {P:List (List Op)}
theorem PS {S:Sim} (T:TOk S.AA):∀(n:Nat) (r p:Int),1<=r->r<=S.AA.length->16 * r<=p->S.AA.length - r < n->
  ∃j x,S.renewTo n r p = some (j,x)/\1<=j/\j<=S.AA.length/\16 * j<=x/\((j = r/\x = p)\/x = 16 * j)/\(j < S.AA.length->(rv S.AA j).kind≠4/\x < 16 * j + (rv S.AA j).AJ)/\(∀a:Int,p<=a->a < 16 * (a / 16) + (rv S.AA (a / 16)).AJ->(rv S.AA (a / 16)).kind≠4->x<=a):=by
 intro n;induction n with
 | zero=>intro r p _ _ _ h;omega
 | succ n ih=>
  intro r p r0 r1 p0 hn;have n1:=T.n1;unfold Sim.renewTo;by_cases c:r < S.AA.length
  .have R:=T.row r r0 c;have R0:=R.t0;have R1:=R.t1;have R2:=R.l0;have R3:=R.l1;rw[if_pos c,Cz Z c];simp only[di,z_o];rw[Br Z Z,BV Z Z];simp only[z_o];have y:((rv S.AA r).kind = 4\/16 * r + (rv S.AA r).AJ<=p)->∃j x,S.renewTo n (r + 1) ((r + 1) * 16) = some (j,x)/\1<=j/\j<=S.AA.length/\16 * j<=x/\((j = r/\x = p)\/x = 16 * j)/\(j < S.AA.length->(rv S.AA j).kind≠4/\x < 16 * j + (rv S.AA j).AJ)/\(∀a:Int,p<=a->a < 16 * (a / 16) + (rv S.AA (a / 16)).AJ->(rv S.AA (a / 16)).kind≠4->x<=a):=λhs=>by
    obtain⟨j,x,e,H,K,N,O,Q,W⟩:=ih (r + 1) ((r + 1) * 16) Z Z Z Z;refine⟨j,x,e,H,K,N,?_,Q,λa h1 D G=>W a ?_ D G⟩
    .rcases O with ⟨h1,D⟩ | h
     .right;omega
     .exact .inr h
    .by_cases d:a / 16 = r
     .rw[d] at D G;rcases hs with h | h
      .exact absurd h G
      .omega
     .omega
   by_cases A:(rv S.AA r).kind = 4
   .rw[if_pos A];simp only[z_o,if_true];exact y (.inl A)
   .rw[if_neg A];simp only[z_o,z_d];by_cases hl:16 * r + (rv S.AA r).AJ<=p
    .rw[if_pos hl];exact y (.inr hl)
    .rw[if_neg hl];exact⟨r,p,rfl,r0,r1,p0,.inl ⟨rfl,rfl⟩,λ_=>⟨A,Z⟩,λ_ h _ _=>h⟩
  .rw[if_neg c];exact⟨r,p,rfl,r0,r1,p0,.inl ⟨rfl,rfl⟩,λh=>absurd h c,λ_ h _ _=>h⟩
def Mz (x:Col):Col:={ x with i:=x.i + 1,pc:=if x.i + 1 = x.sh.refs then 6 else 7 }
theorem Ol {x:X} {c:Col} (C:C3 x c) (R:7<=c.pc) (W:¬ Be x.t (wv x.w (c.f + 2 + c.i))):C3 x (Mz c):=by
 obtain⟨H,K,D,f4,N,O⟩:=C.f R;have A:((Mz c).pc = 6/\c.i + 1 = c.sh.refs)\/((Mz c).pc = 7/\c.i + 1≠c.sh.refs):=by
  show ((if c.i + 1 = c.sh.refs then (6:Int) else 7) = 6/\_)\/((if c.i + 1 = c.sh.refs then (6:Int) else 7) = 7/\_);by_cases h:c.i + 1 = c.sh.refs
  .rw[if_pos h];exact .inl ⟨rfl,h⟩
  .rw[if_neg h];exact .inr ⟨rfl,h⟩
 refine⟨Z,C.r0,C.r1,C.p0,C.at_,λh=>?_,λh=>Z,λh=>Z,λh=>Z,λa j T y j0 j1 G=>?_⟩
 .refine⟨H,K,D,by show 0<=c.i + 1;omega,by show c.i + 1 < c.sh.refs;omega,O⟩
 .rcases C.cl a j T y j0 j1 G with h | ⟨h1,Q,h3⟩
  .exact .inl h
  .right;subst Q;have:j≠c.i:=λh=>by subst h;exact W G
   rw[D] at A N;refine⟨?_,rfl,by show c.i + 1<=j;omega⟩;omega
section
variable {c:Nat} {S:Sim} {g:Gh}
theorem PR {x:Col} (h0:0<=x.i) (j:x.i<=100):HG x = some (Mz x):=by
 unfold HG;simp only[di];rw[BV Z Z];rfl
theorem WI (I:IG P S g) (B:Bd c S) (h3:S.Ac = 3):∃S',S.renew = some S'/\IG P S' g/\Bd c S'/\S'.Ac = 3/\(S'.stop = true\/S'.used = true):=by
 have C:=I.c3 h3;have hwl:=I.wl;have cpc:=C.pc;have hl:(S.AC.length:Int) = 16 * S.AA.length:=I.sh.g.len;have hml:S.AQ.length = S.AC.length:=I.sh.ml;have cr1:S.col.r<=S.AA.length:=C.r1;have B1:=B.usd true;have bs:S.col.AR.length + S.old.length + 5 * S.AQ.countP (λb=>!b)<=3000 + c:=by have:=B.st;omega
 have fin:∀{S1:Sim} {col' : Col},S1.th = S.th->(S1.Aa,S1.c) = (S.Aa,S.c)->S1.stop = S.stop->S1.full = S.full->Bd c S1->S1.col = S.col->Sh (xof (S1.setC col') g)->Kp S.th.length (xof S g) (xof (S1.setC col') g)->col'.AR = S.col.AR->col'.want = S.col.want->C3 (xof (S1.setC col') g) col'->IG P (S1.setC col') g/\Bd c (S1.setC col'):=λ{S1 col'} e1 e2 e3 e4 B1 e5 H K q3 q4 hc=>by
  refine⟨I.cstep (g':=g) (S':=S1.setC col') e1 e2 H K (λh=>Z) (λh=>Z) (λ_=>hc) (λh h'=>?_),⟨B1.ev,B1.old,B1.cy,B1.fu,?_,B1.pn⟩⟩
  .show Wt (xof (S1.setC col') g) col'.want;rw[q4];exact (I.wt (by rw[<- e3];exact h) (by rw[<- e4];exact h')).stable I.sh K
  .have:=B1.st;have hp:=hc.pc;show col'.AR.length + S1.old.length + 5 * S1.AQ.countP (λb=>!b) + (if col'.pc = 2 then _ else 0)<=3000 + c;rw[if_neg Z,q3,<- e5];omega
 unfold Sim.renew;by_cases c6:S.col.pc = 6
 .simp only[di];rw[if_pos c6];obtain⟨r,p,e,r0,r1,p0,hrp,hat,hno⟩:=PS I.sh.g.ok (S.AA.length + 2) S.col.r S.col.p C.r0 cr1 C.p0 (by have:=C.r0;omega);rw[e];simp only[z_o];have cl0:∀a j,g.L a->¬ Be S.AA a->0<=j->j < (shp S.AC a).refs->Be S.AA (wv S.AC (a + 2 + j))->p<=a/\a < 16 * (a / 16) + (rv S.AA (a / 16)).AJ:=λa j ha hn j0 j1 hf=>by
   rcases C.cl a j ha hn j0 j1 hf with ⟨h1,h2⟩ | ⟨h1,_⟩
   .have ha0:=I.in_ ha;exact⟨hno a h1 h2 λh=>hn ⟨Z,h⟩,h2⟩
   .omega
  by_cases d:r = S.AA.length
  .rw[if_pos d];refine⟨_,rfl,?_,⟨B.ev,B.old,B.cy,B.fu,?_,B.pn⟩,h3,.inl rfl⟩
   .refine I.cstep (g':=g) (S':={ S with stop:=true,col:={ S.col with r:=r,p:=p,want:=0 } }) rfl rfl I.sh (Kp.refl _ _) (λh=>Z) (λh=>Z) (λ_=>⟨C.pc,r0,by show r<=S.AA.length;omega,p0,λh=>by have h:r < S.AA.length:=h;omega,λh=>by have h:7<=S.col.pc:=h;omega,λh=>by have h:8<=S.col.pc:=h;omega,λh=>by have h:S.col.pc = 9:=h;omega,λh=>by have h:8<=S.col.pc:=h;omega,λa j ha hn j0 j1 hf=>.inl (cl0 a j ha hn j0 j1 hf)⟩) (λ_ _=>.inr (.inr (.inr ⟨h3,rfl,λa j ha hn j0 j1 hf=>?_⟩)));have h1:=cl0 a j ha hn j0 j1 hf;have h2:=I.in_ ha;omega
   .exact B.st
  .rw[if_neg d];obtain⟨k4,pl⟩:=hat Z;have R:=I.sh.g.ok.row r r0 (by simp only;omega);have R1:=R.t1;have R3:=R.l1;simp only at R1 R3;have er:p / 16 = r:=Z
   have hB:g.B p:=by
    rcases hrp with ⟨h1,h2⟩ | h
    .subst h1 h2;exact C.at_ (by simp only;omega) (by unfold lim;exact pl)
    .rcases I.sh.g.bs r r0 (by simp only;omega) with h2 | h2
     .simp only at h2;omega
     .rw[h];exact h2
   obtain⟨a1,a2,a3,a4,a5,a6,a7,a8⟩:=I.sh.g.inn hB;simp only at a3 a4 a5 a6 a7 a8;have sb:=G8 S.AC p;have hnF:¬ Be S.AA p:=λh=>k4 (by have:=h.2;rw[er] at this;exact this)
   rw[BV Z Z];simp only[z_o];rw[CZ Z Z];simp only[z_o];have es:(AT (wv S.AC (p + 1))).1 = shp S.AC p:=rfl;have esz:AH (shp S.AC p) = sz S.AC p:=rfl;rw[es,esz,BV Z Z];simp only[z_o];rw[Cz Z Z];simp only[z_o];have at' : r < S.AA.length->p + sz S.AC p < 16 * r + (rv S.AA r).AJ->g.B (p + sz S.AC p):=λ_ hlt=>by
    rcases I.sh.g.nx p hB with h | h
    .simp only at h;rw[er] at h;omega
    .exact h
   have nxt:∀a,g.L a->p<=a->a≠p->p + sz S.AC p<=a:=λa ha h1 h2=>I.sh.g.dj p a hB (I.sh.lb a ha) Z
   have out:∀q:Int,(q = 7/\0 < (shp S.AC p).refs/\g.L p)\/(q = 6/\(∀j,g.L p->0<=j->j < (shp S.AC p).refs->False))->∃S',some (({ S with used:=true }:Sim).setC { S.col with r:=r,f:=p,sh:=shp S.AC p,p:=p + sz S.AC p,i:=0,pc:=q }) = some S'/\IG P S' g/\Bd c S'/\S'.Ac = 3/\(S'.stop = true\/S'.used = true):=λq hq=>by
    obtain⟨k1,k2⟩:=fin (S1:={ S with used:=true }) (col':={ S.col with r:=r,f:=p,sh:=shp S.AC p,p:=p + sz S.AC p,i:=0,pc:=q }) rfl rfl rfl rfl B1 rfl I.sh (Kp.refl _ _) rfl rfl ⟨by show 6<=q/\q<=9;omega,r0,r1,by show 16 * r<=p + sz S.AC p;omega,at',λh=>by
      rcases hq with ⟨_,h1,h2⟩ | ⟨h1,_⟩
      .exact⟨h2,hnF,rfl,eQ 0,h1,by show p < p + sz S.AC p;omega⟩
      .have h:7<=q:=h;omega,λh=>by have h:8<=q:=h;omega,λh=>by have h:q = 9:=h;omega,λh=>by have h:8<=q:=h;omega,λa j ha hn j0 j1 hf=>by
      obtain⟨h1,h2⟩:=cl0 a j ha hn j0 j1 hf
      by_cases d2:a = p
      .rcases hq with ⟨h3,_⟩ | ⟨_,h3⟩
       .exact .inr ⟨by show 7<=q;omega,d2,j0⟩
       .subst d2;exact (h3 j ha j0 j1).elim
      .exact .inl ⟨nxt a ha h1 d2,h2⟩⟩
    exact⟨_,rfl,k1,k2,h3,.inr rfl⟩
   by_cases hr:0 < (shp S.AC p).refs
   .rw[if_pos hr];by_cases ht:(rv S.AA r).BH<=p
    .rw[if_pos ht];simp only[z_o,if_true];exact out 7 (.inl ⟨rfl,hr,I.sh.nb (by show 1<=S.Ac;omega) p hB (by show (rv S.AA (p / 16)).BH<=p;rw[er];exact ht)⟩)
    .rw[if_neg ht,Sy Z Z];simp only[z_o];cases hm:mv S.AQ p with
     | true=>
      simp only[if_true];exact out 7 (.inl ⟨rfl,hr,(I.sh.mt p Z hm).1⟩)
     | false=>
      simp only[eO,if_false];have:=out 6 (.inr ⟨rfl,λj hL _ _=>by
       have:mv S.AQ p = true:=I.sh.lm (by show 2<=S.Ac;omega) p hL (by show p < (rv S.AA (p / 16)).BH;rw[er];omega)
       rw[hm] at this;cases this⟩)
      rw[<- c6] at this;exact this
   .rw[if_neg hr];simp only[z_o,eO,if_false];have:=out 6 (.inr ⟨rfl,λj _ j0 j1=>Z⟩);rw[<- c6] at this;exact this
 simp only[di];rw[if_neg c6];obtain⟨f1,f2,f3,f4,f5,f6⟩:=C.f Z;obtain⟨a1,a2,a3,a4,a5,a6⟩:=I.in_ f1;have sb:=G8 S.AC S.col.f;have f3:S.col.sh = shp S.AC S.col.f:=f3;have f5' : S.col.i < (shp S.AC S.col.f).refs:=by rw[<- f3];exact f5
 have hrf:=I.sh.rf S.col.f S.col.i f1 f4 f5';by_cases c7:S.col.pc = 7
 .rw[if_pos c7,BV Z Z];simp only[z_o];rw[BV Z Z];simp only[z_o];rw[CZ Z Z];simp only[z_o];obtain⟨d,hd,hdf⟩:=(I.usd true).frm hrf;rw[hd];simp only[z_o];cases d with
  | true=>
   have hf:Be S.AA (wv S.AC (S.col.f + 2 + S.col.i)):=hdf.1 rfl;rw[if_pos rfl];obtain⟨k1,k2⟩:=fin (S1:={ S with used:=true }) (col':={ S.col with v:=wv S.AC (S.col.f + 2 + S.col.i),pc:=8 }) rfl rfl rfl rfl B1 rfl I.sh (Kp.refl _ _) rfl rfl ⟨⟨by show (6:Int)<=8;decide,by show (8:Int)<=9;decide⟩,C.r0,C.r1,C.p0,C.at_,λ_=>⟨f1,f2,f3,f4,f5,f6⟩,λ_=>⟨hrf (U4 I.sh.g hf),hf⟩,λh=>absurd (show (8:Int) = 9 from h) δ,λ_ _=>rfl,λa j ha hn j0 j1 hff=>by
    rcases C.cl a j ha hn j0 j1 hff with h | ⟨_,h2,h3⟩
    .exact .inl h
    .exact .inr ⟨by show (7:Int)<=8;decide,h2,h3⟩⟩
   exact⟨_,rfl,k1,k2,h3,.inr rfl⟩
  | false=>
   rw[if_neg δ,PR (by exact f4) (by show S.col.i<=100;omega)];simp only[z_o];have C' : C3 (xof S g) { S.col with v:=wv S.AC (S.col.f + 2 + S.col.i) }:=⟨C.pc,C.r0,C.r1,C.p0,C.at_,C.f,λh=>by have h:8<=S.col.pc:=h;omega,λh=>by have h:S.col.pc = 9:=h;omega,λh=>by have h:8<=S.col.pc:=h;omega,C.cl⟩;obtain⟨k1,k2⟩:=fin (S1:={ S with used:=true }) (col':=Mz { S.col with v:=wv S.AC (S.col.f + 2 + S.col.i) }) rfl rfl rfl rfl B1 rfl I.sh (Kp.refl _ _) rfl rfl (Ol C' (by show 7<=S.col.pc;omega) λh=>by
    have:=hdf.2 h;cases this)
   exact⟨_,rfl,k1,k2,h3,.inr rfl⟩
 rw[if_neg c7];obtain⟨v1,v2⟩:=C.v Z;obtain⟨b1,b2,b3,b4,b5,b6⟩:=I.in_ v1;have hne:wv S.AC S.col.v≠S.col.v:=I.sh.af h3 _ v1 v2;by_cases c8:S.col.pc = 8
 .rw[if_pos c8,CZ Z Z];simp only[z_o];rw[if_neg hne];obtain⟨k1,k2⟩:=fin (S1:={ S with used:=true }) (col':={ S.col with word:=wv S.AC S.col.v,pc:=9 }) rfl rfl rfl rfl B1 rfl I.sh (Kp.refl _ _) rfl rfl ⟨⟨by show (6:Int)<=9;decide,by show (9:Int)<=9;decide⟩,C.r0,C.r1,C.p0,C.at_,λ_=>⟨f1,f2,f3,f4,f5,f6⟩,λ_=>⟨v1,v2⟩,λ_=>rfl,λ_=>C.u Z,λa j ha hn j0 j1 hff=>by
    rcases C.cl a j ha hn j0 j1 hff with h | ⟨_,h2,h3⟩
    .exact .inl h
    .exact .inr ⟨by show (7:Int)<=9;decide,h2,h3⟩⟩
  exact⟨_,rfl,k1,k2,h3,.inr rfl⟩
 rw[if_neg c8,if_pos Z,BV Z Z];have c9:S.col.pc = 9:=Z
 simp only[z_o];rw[BV Z Z];simp only[z_o];rw[CZ Z Z];simp only[z_o];have hw:S.col.word = wv S.AC S.col.v:=C.w c9;by_cases hv:wv S.AC (S.col.f + 2 + S.col.i) = S.col.v
 .rw[if_pos hv,DK (S:={ S with used:=true }) Z (by show _ < (S.AC.length:Int);omega)];simp only[z_o];rw[PR (by exact f4) (by show S.col.i<=100;omega)];simp only[z_o];obtain⟨w1,w2,_⟩:g.L (wv S.AC S.col.v)/\¬ Be S.AA (wv S.AC S.col.v)/\_:=I.sh.fw _ (I.sh.lb _ v1) v2 hne;obtain⟨H1,K⟩:=ref (o:=S.th.length) (v:=S.col.word) I.sh f1 f2 f4 f5' (λ_=>by rw[hw];exact w1) (λh=>absurd h (by show S.Ac≠1;omega)) (λ_=>by rw[hw];exact w2);have C':=C.stable I.sh K (λ_ _=>rfl) h3;obtain⟨k1,k2⟩:=fin (S1:={ S with used:=true,AC:=AU S.AC (S.col.f + 2 + S.col.i) S.col.word }) (col':=Mz S.col) rfl rfl rfl rfl ⟨B.ev,B.old,B.cy,B.fu,B.st,B.pn⟩ rfl H1 K rfl rfl (Ol C' Z λh=>by
   have h:Be S.AA (wv (AU S.AC (S.col.f + 2 + S.col.i) S.col.word) (S.col.f + 2 + S.col.i)):=h
   rw[Cn Z Z Z,if_pos rfl,hw] at h
   exact w2 h)
  exact⟨_,rfl,k1,k2,h3,.inr rfl⟩
 .rw[if_neg hv];simp only[z_o];rw[PR (by exact f4) (by show S.col.i<=100;omega)];simp only[z_o];obtain⟨k1,k2⟩:=fin (S1:={ S with used:=true }) (col':=Mz S.col) rfl rfl rfl rfl B1 rfl I.sh (Kp.refl _ _) rfl rfl (Ol C Z λh=>hv (C.u Z h));exact⟨_,rfl,k1,k2,h3,.inr rfl⟩
theorem Wr (hc:c < 900000):∀(n:Nat) (S:Sim) (g:Gh),IG P S g->Bd c S->1<=S.Ac->0 < n->(S.used = true\/S.stop = true\/(S.Ac = 1/\mu S + 1 < n)\/(2<=S.Ac/\1 < n))->∃j G,Sim.cloop n S = some j/\IG P j G/\Bd c j:=by
 intro n;induction n with
 | zero=>intro S g _ _ _ h;omega
 | succ n T=>
  intro S g I B h1 _ W;unfold Sim.cloop;by_cases H:S.used = true\/S.stop = true
  .rw[if_neg (by simp;intro h;rcases H with O | O;simp[O] at h;exact O)];exact⟨S,g,rfl,I,B⟩
  .have hu:S.used = false:=by cases h:S.used;rfl;exact absurd (.inl h) H
   have Q:S.stop = false:=by cases h:S.stop;rfl;exact absurd (.inr h) H
   rw[hu,Q];simp only[Bool.not_false,Bool.and_self,if_true,di];have hp:S.Ac<=3:=I.sh.ph.2;have W:(S.Ac = 1/\mu S + 1 < n + 1)\/(2<=S.Ac/\1 < n + 1):=by
    rcases W with h | h | h
    .exact absurd (.inl h) H
    .exact absurd (.inr h) H
    .exact h
   unfold Sim.work;by_cases p1:S.Ac = 1
   .have C:=I.c1 p1;by_cases c1:S.col.pc = 1
    .rw[if_pos ⟨p1,c1⟩];obtain⟨j,e,y,x,A,_,_,h⟩:=UH hc I B p1 c1;rw[e];simp only[z_o];refine T j g y x Z Z ?_;rcases h with h | h
     .exact .inr (.inl h.1)
     .exact .inr (.inr (.inl ⟨A,Z⟩))
    .rw[if_neg (λh=>c1 h.2),if_pos p1];have c2:S.col.pc = 2:=by rcases C.pc with h | h;exact absurd h c1;exact h
     obtain⟨j,e,y,x,A,_,_,R,_⟩:=U1 hc I B p1 c2;rw[e];simp only[z_o];exact T j g y x Z Z (.inl R)
   .rw[if_neg (λh=>p1 h.1),if_neg p1];have D:∀{j : Sim} {G},IG P j G->Bd c j->(j.Ac = 2\/j.Ac = 3)->(j.stop = true\/j.used = true)->∃N g2,Sim.cloop n j = some N/\IG P N g2/\Bd c N:=λ{j G} y x A h=>T j G y x Z Z (by
     rcases h with h | h
     .exact .inr (.inl h)
     .exact .inl h)
    by_cases p2:S.Ac = 2
    .by_cases K:S.col.pc = 5
     .rw[if_pos ⟨p2,K⟩];obtain⟨j,e,y,x,A,h⟩:=Yj I B p2 K;rw[e];simp only[z_o];exact D y x (.inl A) h
     .rw[if_neg (λh=>K h.2),if_pos p2];obtain⟨j,G,e,y,x,A,h⟩:=Xi I B p2 K;rw[e];simp only[z_o];exact D y x (.inl A) h
    .rw[if_neg (λh=>p2 h.1),if_neg p2];obtain⟨j,e,y,x,A,h⟩:=WI I B Z;rw[e];simp only[z_o];exact D y x (.inr A) h
theorem Wn (hc:c < 900000):∀(n:Nat) (S:Sim) (g:Gh),IG P S g->Bd c S->S.Ac = 1->mu S < n->∃j,Sim.drain n S = some j/\IG P j g/\Bd c j/\j.Ac = 1/\(j.AI = S.AI/\j.th = S.th)/\j.full = S.full/\j.stop = S.stop/\j.col.want = S.col.want/\j.col.AR = []/\j.old = []/\j.col.pc = 1:=by
 intro n;induction n with
 | zero=>intro S g _ _ _ h;omega
 | succ n ih=>
  intro S g I B G hn;have hz:=I.szok rfl B hc;have C:=I.c1 G;unfold Sim.drain;rw[hz,if_neg δ];by_cases x:0 < S.col.AR.length\/0 < S.old.length\/S.col.pc = 2
  .rw[if_pos x];simp only[di];by_cases c2:S.col.pc = 2
   .rw[if_pos c2];obtain⟨j,e,K,H,p',D,q2,_,hm,q3,q4⟩:=U1 hc I B G c2;rw[e];simp only[z_o];obtain⟨N,O,Q,R,T,y,W,g6,g7,g8⟩:=ih j g K H p' Z;exact⟨N,O,Q,R,T,⟨by rw[y.1,D.1],by rw[y.2,D.2]⟩,by rw[W,q2],by rw[g6,q3],by rw[g7,q4],g8⟩
   .rw[if_neg c2];have c1:S.col.pc = 1:=by rcases C.pc with h | h;exact h;exact absurd h c2
    obtain⟨j,e,K,H,p',D,q2,h⟩:=UH hc I B G c1;rw[e];simp only[z_o];rcases h with ⟨_,h2,h3⟩ | ⟨hm,q3,q4⟩
    .exfalso;rw[h2,h3] at x;simp at x;exact c2 x
    .obtain⟨N,O,Q,R,T,y,W,g6,g7,g8⟩:=ih j g K H p' Z;exact⟨N,O,Q,R,T,⟨by rw[y.1,D.1],by rw[y.2,D.2]⟩,by rw[W,q2],by rw[g6,q3],by rw[g7,q4],g8⟩
  .rw[if_neg x];have A:=x;rw[not_or,not_or] at A;refine⟨S,rfl,I,B,G,⟨rfl,rfl⟩,rfl,rfl,rfl,?_,?_,?_⟩
   .exact eV.1 Z
   .exact eV.1 Z
   .rcases C.pc with h | h
    .exact h
    .exact absurd h A.2.2
end
end Sm
end
section
namespace Sm
variable {P:List (List Op)}
theorem Geo.tab {w:List Int} {t t' : List Rg} {B A : Int->Prop} (G:Geo w t B) (T:TOk t') (hl:t'.length = t.length) (D:∀a,A a->B a)
  (h:∀r:Int,1<=r->r < t.length->((rv t' r).top = (rv t r).top/\∀a,B a->a / 16 = r->A a)\/((rv t' r).top = 16 * r/\∀a,A a->a / 16≠r)):Geo w t' A:=by
 have x:∀a,A a->(rv t' (a / 16)).top = (rv t (a / 16)).top/\∀b,B b->b / 16 = a / 16->A b:=λa j=>by
  have g:=G.inn (D a j);rcases h (a / 16) g.2.1 g.2.2.1 with y | ⟨_,H⟩
  .exact y
  .exact absurd rfl (H a j)
 refine⟨by rw[hl];exact G.len,T,λa j=>?_,λa j=>?_,λr r0 r1=>?_,λa b j hb=>G.dj a b (D a j) (D b hb)⟩
 .rw[(x a j).1];exact G.at_ a (D a j)
 .rw[(x a j).1];have g:=G.inn (D a j);rcases G.nx a (D a j) with y | y
  .exact .inl y
  .by_cases c:(a + sz w a) / 16 = a / 16
   .exact .inr ((x a j).2 _ y c)
   .left;omega
 .rw[hl] at r1;rcases h r r0 r1 with ⟨y,H⟩ | ⟨y,_⟩
  .rw[y];rcases G.bs r r0 r1 with K | K
   .exact .inl K
   .exact .inr (H _ K Z)
  .exact .inl y
theorem CW {f:Int->Rg->Rg} {t:List Rg}:(rows f t).length = t.length:=by simp[rows]
theorem Ep {f:Int->Rg->Rg} {t:List Rg} {r:Int} (h0:0<=r) (j:r < t.length):rv (rows f t) r = if r = 0 then rv t r else f r (rv t r):=by
 obtain⟨k,rfl⟩:∃k:Nat,r = k:=⟨r.toNat,Z⟩;rw[rv,Gd (by rw[CW];omega),rv,Gd Z];simp only[rows,hY];by_cases c:k = 0
 .rw[if_pos c,if_pos Z]
 .rw[if_neg c,if_neg Z]
theorem Pp {n:Nat} {a:Int}:mv (List.replicate n false) a = false:=by
 unfold mv gv;rw[dZ,List.getElem?_replicate];split<;>rfl
open Classical in
theorem Wz {x:X} (h:∀a,0<=a->mv x.m a = false) (r:Int):cnt x r = 0:=by
 unfold cnt;rw[List.countP_eq_zero];intro k _ A;obtain⟨a,y,j,_⟩:=z_f A;rw[h a y] at j;cases j
theorem TOk.rows {f:Int->Rg->Rg} {t:List Rg} (T:TOk t) (h:∀r x,LF r x->LF r (f r x)/\(f r x).AX = x.AX):TOk (rows f t):=by
 have e:∀r:Int,1<=r->r < t.length->rv (Sm.rows f t) r = f r (rv t r):=λr r0 r1=>by rw[Ep Z r1,if_neg Z]
 refine⟨by rw[CW];exact T.n0,by rw[CW];exact T.n1,?_,λr r0 r1=>?_,λr s r0 r1 s0 s1 j he=>?_⟩
 .have:=T.n0;rw[Ep Z Z,if_pos rfl];exact T.e
 .rw[CW] at r1;rw[e r r0 r1];exact (h r _ (T.row r r0 r1)).1
 .rw[CW] at r1 s1;rw[e r r0 r1] at j he;rw[e s s0 s1] at he;rw[(h r _ (T.row r r0 r1)).2] at j he;rw[(h s _ (T.row s s0 s1)).2] at he;exact T.own r s r0 r1 s0 s1 j he
structure Lv (L:Int->Prop) (t:Thr):Prop where
 pc:t.pc = 0
 g:t.g = 0
 k:t.k = 0
 nx:0<=t.next
 rl:t.AD.length<=8
 rt:∀a∈t.AD,a≠0->L a
theorem Lv.ti {x:X} {i:Int} {j:Option Op} {t:Thr} (s:Lv x.L t):TI x i j t:=⟨s.rt,s.rl,s.nx,λ_ _ h=>absurd s.pc h,.inl ⟨s.pc,s.g,s.k⟩⟩
theorem IG.still {S:Sim} {g:Gh} (I:IG P S g) (hc:S.calm = true):∀t∈S.th,Lv g.L t:=λt j=>by
 obtain⟨i,_,_,x⟩:=Ou j;have T:=I.ti i t x;have y:t.pc = 0:=by
  have:=eG.1 (show (S.th.all λt=>t.pc == 0) = true from hc) t j;simpa using this
 rcases T.run with h | ⟨o,_,r⟩
 .exact⟨y,h.2.1,h.2.2,T.nx,T.rl,T.rt⟩
 .exfalso;cases r with
  | bs b=>have:=b.p;omega
  | cp _ _ _ cp=>have:=cp.p;omega
  | mg m=>have:=m.p;omega
theorem IG.mk' {S S' : Sim} {g g' : Gh} (I:IG P S g) (x:(S'.Aa,S'.c) = (S.Aa,S.c)) (hl:S'.th.length = S.th.length) (A:Sh (xof S' g')) (D:∀t∈S'.th,Lv g'.L t) (c1:S'.Ac = 1->C1 (xof S' g') S'.col) (c2:S'.Ac = 2->C2 (xof S' g') S'.th.length S'.col)
  (c3:S'.Ac = 3->C3 (xof S' g') S'.col) (wt:S'.stop = true->S'.full = false->Wt (xof S' g') S'.col.want):IG P S' g':=
 have j:S'.Aa = S.Aa:=congrArg Prod.fst x;have y:S'.c = S.c:=congrArg Prod.snd x
 ⟨by rw[j];exact I.pg,A,by rw[hl];exact I.n0,by rw[hl];exact I.n1,by rw[hl,j];exact I.pl,by rw[j];exact I.pp,λi t h=>(D t (J7 h)).ti,c1,c2,c3,wt,by rw[y];exact I.rs⟩
inductive Rch (w:List Int) (r0:Int->Prop):Int->Prop
 | base {a:Int} (h:r0 a):Rch w r0 a
 | step {a j:Int} (h:Rch w r0 a) (j0:0<=j) (j1:j < (shp w a).refs) (hn:wv w (a + 2 + j)≠0):Rch w r0 (wv w (a + 2 + j))
section
variable {c:Nat} {S:Sim} {g:Gh}
theorem IG.nofrom (I:IG P S g) (h:S.Ac<=1) (a:Int):¬ Be S.AA a:=λj=>I.sh.nf h (a / 16) (by have:=j.1;omega) j.2
theorem N8 (l:List Bool):l.countP (λb=>!b)<=l.length:=List.countP_le_length
theorem Qp (I:IG P S g) (B:Bd c S) (hc:S.calm = true) (h0:S.Ac = 0):∃g',IG P (({ S with stop:=false }:Sim).snapshot) g'/\Bd c (({ S with stop:=false }:Sim).snapshot):=by
 have st:=I.still hc;have H:=I.sh;have g0:=H.g;have a1:=I.wl;have a0:S.AQ.length = S.AC.length:=H.ml
 let sk:List Int:=(S.th.flatMap λt=>t.AD.filter (·≠0)) ++ S.AI
 have O:∀a∈sk,g.L a:=λa ha=>by
  rcases eI.1 ha with h | h
  .obtain⟨t,A,h⟩:=gW.1 h;rw[fI] at h;exact (st t A).rt a h.1 (by simpa using h.2)
  .exact (H.pl a h).1
 have y:∀a,Rch S.AC (·∈sk) a->g.L a:=λa h=>by
  induction h with
  | base h=>exact O _ h
  | step h D G N Q=>exact H.rf _ _ Q D G N
 have T' : TOk (rows (λ_ x=>{ x with BH:=x.top,AJ:=0 }) S.AA):=TOk.rows g0.ok λr x R=>⟨⟨R.k0,R.k1,R.t0,R.t1,R.t0,eQ _,eQ 0,by show 0<=x.top - 16 * r;have:=R.t0;omega,R.fr,R.ow,R.o0,R.o1⟩,rfl⟩
 have W:∀r:Int,0<=r->r < S.AA.length->rv (rows (λ_ x=>{ x with BH:=x.top,AJ:=0 }) S.AA) r = if r = 0 then rv S.AA r else { rv S.AA r with BH:=(rv S.AA r).top,AJ:=0 }:=λr r0 r1=>Ep r0 r1
 have ek:∀r:Int,0<=r->(rv (rows (λ_ x=>{ x with BH:=x.top,AJ:=0 }) S.AA) r).kind = (rv S.AA r).kind:=λr r0=>by
  by_cases c:r < S.AA.length
  .rw[W r r0 c];split<;>rfl
  .rw[Dg r0 (by rw[CW];omega),Dg r0 Z]
 have tm:∀a,g.B a->(rv (rows (λ_ x=>{ x with BH:=x.top,AJ:=0 }) S.AA) (a / 16)).BH = (rv S.AA (a / 16)).top:=λa h=>by
  have i:=g0.inn h;rw[W _ Z i.2.2.1,if_neg Z]
 have T:∀a,g.B a->a < (rv (rows (λ_ x=>{ x with BH:=x.top,AJ:=0 }) S.AA) (a / 16)).BH:=λa h=>by
  have i:=g0.inn h;rw[tm a h];simp only at i;omega
 have nf:∀a,¬ Be (rows (λ_ x=>{ x with BH:=x.top,AJ:=0 }) S.AA) a:=λa K=>by
  have:=K.2;rw[ek _ (by have:=K.1;omega)] at this;exact I.nofrom Z a ⟨K.1,this⟩
 have f0:∀a,mv (List.replicate S.AQ.length false) a = false:=λa=>Pp
 refine⟨⟨g.B,Rch S.AC (·∈sk),λa=>wv S.AC a,(·∈sk)⟩,I.mk' (S':=({ S with stop:=false }:Sim).snapshot) rfl rfl ?_ (λt A=>?_) (λ_=>?_) (λh=>absurd (show (1:Int) = 2 from h) δ) (λh=>absurd (show (1:Int) = 3 from h) δ) (λh=>by cases h),?_⟩
 .refine⟨Geo.tab g0 T' (CW (f:=λ_ x=>{ x with BH:=x.top,AJ:=0 }) (t:=S.AA)) (λ_ h=>h) λr r0 r1=>.inl ⟨?_,λ_ h _=>h⟩,λa h=>H.lb a (y a h),λa j h D G N=>.step h D G N,λa h _=>H.st a h (I.nofrom Z a),λa _ K=>absurd K (nf a),by show (List.replicate S.AQ.length false).length = _;rw[dw];exact a0,λa _ h=>?_,by show (0:Int)<=1/\(1:Int)<=3;decide,λ_ r r0 hk=>?_,λh=>absurd (show (2:Int)<=1 from h) δ,λa h=>⟨.base (eu _ h),nf a⟩,λa _ K=>absurd K (nf a),λ_ a h A=>?_,λh=>absurd (show (1:Int) = 3 from h) δ,λ_=>?_⟩
  .show (rv (rows (λ_ x=>{ x with BH:=x.top,AJ:=0 }) S.AA) r).top = _;rw[W r Z r1,if_neg Z]
  .have h:mv (List.replicate S.AQ.length false) a = true:=h;rw[f0] at h;cases h
  .have hk:(rv (rows (λ_ x=>{ x with BH:=x.top,AJ:=0 }) S.AA) r).kind = 4:=hk;rw[ek r r0] at hk;exact H.nf (by show S.Ac<=1;omega) r r0 hk
  .have:=T a h;have A:(rv (rows (λ_ x=>{ x with BH:=x.top,AJ:=0 }) S.AA) (a / 16)).BH<=a:=A;omega
  .refine⟨λa h=>.base h,λa h=>(by cases h),λa2 h1 h2 a h _=>?_,λa h=>⟨.base h,T a (H.lb a (O a h)),.inr (.inr (.inl h))⟩,λa j h _ D G hq=>⟨.step h D G hq,T _ (H.lb _ (y _ (.step h D G hq)))⟩,λa j _ _ _ _=>.inl rfl,λr r0 r1=>?_⟩
   .induction h with
    | base h=>exact h1 _ h
    | step h D G N Q=>exact h2 _ _ h (T _ (H.lb _ (y _ h))) (Q (T _ (H.lb _ (y _ h)))) D G N
   .rw[Wz λa _=>f0 a];have r1:r < S.AA.length:=by
     have:r < (rows (λ_ x=>{ x with BH:=x.top,AJ:=0 }) S.AA).length:=r1;rw[CW] at this;exact this
    show (rv (rows (λ_ x=>{ x with BH:=x.top,AJ:=0 }) S.AA) r).AJ = _;rw[W r Z r1,if_neg Z];rfl
 .have s:=st t A;refine⟨s.pc,s.g,s.k,s.nx,s.rl,λa ha h0=>.base (eT _ (gW.2 ⟨t,A,fI.2 ⟨ha,by simpa using h0⟩⟩))⟩
 .refine⟨.inl rfl,λh=>absurd (show (1:Int) = 2 from h) δ,λa j _ h=>?_⟩;have h:mv (List.replicate S.AQ.length false) a = true:=h;rw[f0] at h;cases h
 .refine⟨B.ev,Nat.zero_le _,B.cy,B.fu,?_,B.pn⟩;have h1:sk.length<=8 * S.th.length + 8:=by
   have hp:=B.pn;have:(S.th.flatMap λt=>t.AD.filter (·≠0)).length<=8 * S.th.length:=by
    have hs:∀t∈S.th,t.AD.length<=8:=λt A=>(st t A).rl
    revert hs;induction S.th with
    | nil=>intro _;simp
    | cons t r Q=>
     intro hs;rw[List.flatMap_cons,de,dl];have h1:=Q λt A=>hs t (by simp[A])
     have h2:=hs t V;have h3:=gu (λx=>decide (x≠0)) t.AD;omega
   show ((S.th.flatMap λt=>t.AD.filter (·≠0)) ++ S.AI).length<=_;rw[de];omega
  have h2:=N8 (List.replicate S.AQ.length false);rw[dw] at h2;have h3:=I.n1;show sk.length + ([]:List Int).length + 5 * (List.replicate S.AQ.length false).countP (λb=>!b) + (if (1:Int) = 2 then _ else 0)<=3000 + c;rw[if_neg δ,fP];omega
theorem VD (I:IG P S g) (B:Bd c S) (hc:S.calm = true) (G:S.Ac = 2) (W:∀a,g.L a->Be S.AA a->wv S.AC a≠a):∃S',({ S with stop:=false }:Sim).update = some S'/\IG P S' g/\Bd c S':=by
 have st:=I.still hc;have H:=I.sh;have N:=H.g;have T:=N.ok;have n1:S.AA.length<=12:=T.n1;have Bv:(S.AA.all λx=>decide (-1000<=x.top) && decide (x.top<=1000)) = true:=by
  rw[eG];intro x hx;obtain⟨i,i0,i1,hi⟩:=Ou hx;have e:rv S.AA i = x:=(G4 Dm hi).2.2;by_cases c:i = 0
  .subst c;rw[<- e,show rv S.AA 0 = Dm from T.e];decide
  .have R:=T.row i Z i1;have D:=R.t0;have G:=R.t1;rw[<- e];simp only[z_b,z_d];simp only at D G;omega
 have T' : TOk (rows (λi x=>{ x with AJ:=x.top - AK i }) S.AA):=by
  refine⟨by rw[CW];exact T.n0,by rw[CW];exact T.n1,?_,λr r0 r1=>?_,λr s r0 r1 s0 s1 ho he=>?_⟩
  .have:=T.n0;simp only at this;rw[Ep Z Z,if_pos rfl];exact T.e
  .rw[CW] at r1;rw[Ep Z r1,if_neg Z];have R:=T.row r r0 r1;have hb:=Br (r:=r) Z Z;refine⟨R.k0,R.k1,R.t0,R.t1,R.s0,R.s1,?_,?_,R.fr,R.ow,R.o0,R.o1⟩
   .show 0<=(rv S.AA r).top - AK r;have:=R.t0;simp only at this;rw[hb];omega
   .show (rv S.AA r).top - AK r<=_;rw[hb];exact eQ _
  .rw[CW] at r1 s1;rw[Ep Z r1,if_neg Z] at ho he;rw[Ep Z s1,if_neg Z] at he;exact T.own r s r0 r1 s0 s1 ho he
 have er:∀r:Int,1<=r->r < S.AA.length->rv (rows (λi x=>{ x with AJ:=x.top - AK i }) S.AA) r = { rv S.AA r with AJ:=(rv S.AA r).top - 16 * r }:=λr r0 r1=>by
  rw[Ep Z r1,if_neg Z,Br Z Z]
 have e0:∀r:Int,0<=r->(rv (rows (λi x=>{ x with AJ:=x.top - AK i }) S.AA) r).kind = (rv S.AA r).kind/\(rv (rows (λi x=>{ x with AJ:=x.top - AK i }) S.AA) r).BH = (rv S.AA r).BH/\(rv (rows (λi x=>{ x with AJ:=x.top - AK i }) S.AA) r).top = (rv S.AA r).top:=λr r0=>by
  by_cases c:r < S.AA.length
  .rw[Ep r0 c];split<;>exact⟨rfl,rfl,rfl⟩
  .rw[Dg r0 (by rw[CW];omega),Dg r0 Z];exact⟨rfl,rfl,rfl⟩
 have K:∀a,Be (rows (λi x=>{ x with AJ:=x.top - AK i }) S.AA) a↔Be S.AA a:=λa=>⟨λh=>⟨h.1,by have:=h.1;have:=h.2;rw[(e0 _ Z).1] at this;exact this⟩,λh=>⟨h.1,by have:=h.1;rw[(e0 _ Z).1];exact h.2⟩⟩
 have tm:∀a,0<=a->(rv (rows (λi x=>{ x with AJ:=x.top - AK i }) S.AA) (a / 16)).BH = (rv S.AA (a / 16)).BH:=λa h=>(e0 (a / 16) Z).2.1
 have B0:∀a,g.B a->0<=a:=λa h=>by have:=N.inn h;omega
 unfold Sim.update;simp only[di];rw[if_pos Bv];simp only[z_o];refine⟨_,rfl,I.mk' (g':=g) (S':={ S with stop:=false,Ac:=3,AA:=rows (λi x=>{ x with AJ:=x.top - AK i }) S.AA,col:={ De S.col.As S.col.want with pc:=6,r:=1,p:=16 } }) rfl rfl ?_ st (λh=>absurd (show (3:Int) = 1 from h) δ) (λh=>absurd (show (3:Int) = 2 from h) δ) (λ_=>?_) (λh=>by cases h),?_⟩
 .refine⟨Geo.tab N T' (CW (f:=λi x=>{ x with AJ:=x.top - AK i }) (t:=S.AA)) (λ_ h=>h) λr r0 r1=>.inl ⟨(e0 r Z).2.2,λ_ h _=>h⟩,H.lb,H.rf,λa h hn=>H.st a h λc=>hn ((K a).2 c),λa h y a1=>?_,H.ml,λa a0 h=>?_,by show (0:Int)<=3/\(3:Int)<=3;decide,λh=>absurd (show (3:Int)<=1 from h) δ,λ_ a h A=>?_,λa h=>⟨(H.pl a h).1,λc=>(H.pl a h).2 ((K a).1 c)⟩,λa h y=>H.fm a h ((K a).1 y),λ_ a h A=>?_,λ_ a h y=>W a h ((K a).1 y),λh=>absurd (show (3:Int) = 1 from h) δ⟩
  .obtain⟨O,Q,b3⟩:=H.fw a h ((K a).1 y) a1;exact⟨O,λc=>Q ((K _).1 c),b3⟩
  .obtain⟨O,Q⟩:=H.mt a a0 h;refine⟨O,?_⟩;show a < (rv (rows (λi x=>{ x with AJ:=x.top - AK i }) S.AA) (a / 16)).BH;rw[tm a a0];exact Q
  .have A:a < (rv (rows (λi x=>{ x with AJ:=x.top - AK i }) S.AA) (a / 16)).BH:=A;rw[tm a (B0 a (H.lb a h))] at A;exact H.lm (by show 2<=S.Ac;omega) a h A
  .have A:(rv (rows (λi x=>{ x with AJ:=x.top - AK i }) S.AA) (a / 16)).BH<=a:=A;rw[tm a (B0 a h)] at A;exact H.nb (by show 1<=S.Ac;omega) a h A
 .refine⟨by show (6:Int)<=6/\(6:Int)<=9;decide,eQ 1,?_,by show (16:Int) * 1<=16;decide,λD G=>?_,λh=>absurd (show (7:Int)<=6 from h) δ,λh=>absurd (show (8:Int)<=6 from h) δ,λh=>absurd (show (6:Int) = 9 from h) δ,λh=>absurd (show (8:Int)<=6 from h) δ,λa j h hn j0 j1 _=>.inl ?_⟩
  .have:=T.n0;show (1:Int)<=(rows (λi x=>{ x with AJ:=x.top - AK i }) S.AA).length;rw[CW];simp only at this;omega
  .have D:(1:Int) < (rows (λi x=>{ x with AJ:=x.top - AK i }) S.AA).length:=D;rw[CW] at D;have G:(16:Int) < 16 * 1 + (rv (rows (λi x=>{ x with AJ:=x.top - AK i }) S.AA) 1).AJ:=G;rw[er 1 δ D] at G;simp only at G;rcases N.bs 1 δ D with h | h
   .simp only at h;omega
   .exact h
  .have i:=N.inn (H.lb a h);simp only at i;refine⟨by show 16<=a;omega,?_⟩;show a < 16 * (a / 16) + (rv (rows (λi x=>{ x with AJ:=x.top - AK i }) S.AA) (a / 16)).AJ;rw[er (a / 16) Z Z];simp only;omega
 .refine⟨B.ev,B.old,B.cy,B.fu,?_,B.pn⟩;have:=B.st;show ([]:List Int).length + S.old.length + 5 * S.AQ.countP (λb=>!b) + (if (6:Int) = 2 then _ else 0)<=3000 + c;rw[if_neg δ,fP];omega
end
end Sm
end
section
namespace Sm
variable {P:List (List Op)}
theorem DL {r:Int} (h0:1<=r) (j:r < 12):LF r (Dn r)/\Dn r = ⟨1,-1,16 * r,16 * r,0⟩:=by
 have hb:=Br (r:=r) Z j;have e:Dn r = ⟨1,-1,16 * r,16 * r,0⟩:=by unfold Dn;rw[hb]
 refine⟨?_,e⟩;rw[e];exact⟨V,V,V,by simp;omega,V,V,V,V,V,V,V,V⟩
theorem Hn {t:List Rg} {r:Int} (T:TOk t) (h0:1<=r) (j:r < t.length) (A:(rv t r).kind≠1):CG t r = some (AU t r (Dn r))/\TOk (AU t r (Dn r)):=by
 have n1:=T.n1;obtain⟨fr,y⟩:=DL h0 (by omega:r < 12);constructor
 .unfold CG;rw[if_pos (by simp[Bj.2 T,h0]),Cz Z j];simp only[];rw[if_neg (by simpa using A)]
 .refine T.set h0 j fr λs _ _ _ x=>?_
  rw[y] at x;simp at x
theorem Nr:∀(n i:Nat) (t:List Rg),TOk t->1<=i->t.length<=i + n->TOk (DF n i t)/\(DF n i t).length = t.length/\∀r:Int,1<=r->r < t.length->rv (DF n i t) r = if i<=r/\(rv t r).kind = 4 then Dn r else rv t r:=by
 intro n;induction n with
 | zero=>intro i t T O Q;exact⟨T,rfl,λr r0 r1=>by rw[if_neg Z];rfl⟩
 | succ n H=>
  intro i t T O Q;unfold DF;by_cases c:i < t.length
  .have e:t[i]? = some (rv t i):=by rw[dY c,rv,Gd c]
   rw[e];simp only[];by_cases y:(rv t i).kind = 4
   .obtain⟨K,N⟩:=Hn (r:=i) T Z Z Z;rw[if_pos (by simpa using y),K];simp only[eR];obtain⟨A,D,G⟩:=H (i + 1) (AU t i (Dn i)) N Z (by simp;omega);refine⟨A,by rw[D];simp,λr r0 r1=>?_⟩;rw[G r r0 (by simpa using r1),DV Z Z Z];by_cases h:r = i
    .subst h;rw[if_neg Z,if_pos rfl,if_pos ⟨Z,y⟩]
    .rw[if_neg h];by_cases j:((i + 1:Nat):Int)<=r/\(rv t r).kind = 4
     .rw[if_pos j,if_pos ⟨Z,j.2⟩]
     .rw[if_neg j,if_neg (λx=>j ⟨Z,x.2⟩)]
   .rw[if_neg (by simpa using y)];obtain⟨A,D,G⟩:=H (i + 1) t T Z Z;refine⟨A,D,λr r0 r1=>?_⟩;rw[G r r0 r1];by_cases j:((i + 1:Nat):Int)<=r/\(rv t r).kind = 4
    .rw[if_pos j,if_pos ⟨Z,j.2⟩]
    .rw[if_neg j,if_neg (λx=>j ⟨by
      by_cases h:r = i
      .subst h;exact absurd x.2 y
      .omega,x.2⟩)]
  .rw[fG Z];simp only[];exact⟨T,trivial,λr r0 r1=>by rw[if_neg Z]⟩
theorem OH:∀(l:List Int) (t:List Rg),TOk t->l.Nodup->(∀r∈l,1<=r/\r < t.length/\(rv t r).kind≠1)->TOk (l.foldl (λt r=>(CG t r).getD []) t)/\(l.foldl (λt r=>(CG t r).getD []) t).length = t.length/\∀r:Int,1<=r->r < t.length->rv (l.foldl (λt r=>(CG t r).getD []) t) r = if r∈l then Dn r else rv t r:=by
 intro l;induction l with
 | nil=>intro t T _ _;exact⟨T,rfl,λr _ _=>V⟩
 | cons a l Q=>
  intro t T j h;rw[fQ] at j;obtain⟨A,x,D⟩:=h a V;obtain⟨G,H⟩:=Hn T A x D;simp only[ge,G,eR];obtain⟨K,N,O⟩:=Q (AU t a (Dn a)) H j.2 λr y=>by
   obtain⟨r0,r1,rk⟩:=h r (by simp[y]);refine⟨r0,by simpa using r1,?_⟩;rw[DV Z x Z,if_neg (λc=>by subst c;exact j.1 y)];exact rk
  refine⟨K,by rw[N];simp,λr r0 r1=>?_⟩;rw[O r r0 (by simpa using r1),DV Z x Z];by_cases c:r = a
  .subst c;rw[if_neg j.1,if_pos rfl,if_pos V]
  .rw[if_neg c];by_cases d:r∈l
   .rw[if_pos d,if_pos (by simp[d])]
   .rw[if_neg d,if_neg (by simp[c,d])]
theorem Tx:∀(l:List Int) (t:List Rg),TOk t->(∀r∈l,1<=r/\r < t.length/\((rv t r).kind = 3\/(rv t r).kind = 4))->∃j,NR l t = some j/\TOk j/\j.length = t.length/\∀r:Int,1<=r->r < t.length->rv j r = if r∈l then { rv t r with kind:=4 } else rv t r:=by
 intro l;induction l with
 | nil=>intro t T _;exact⟨t,rfl,T,rfl,λr _ _=>V⟩
 | cons a l N=>
  intro t T h;obtain⟨y,x,O⟩:=h a V;unfold NR;rw[Cz Z x];simp only[di,z_o];have R:=T.row a y x;have Q:(rv t a).AX < 0:=by
   have:=R.ow;by_cases c:0<=(rv t a).AX
   .have:=this.2 c;omega
   .omega
  have A:TOk (AU t a { rv t a with kind:=4 }):=T.set y x ⟨V,V,R.t0,R.t1,R.s0,R.s1,R.l0,R.l1,λh=>by simp at h,by simp;omega,R.o0,R.o1⟩ λs _ _ _ h=>by simp at h;omega
  obtain⟨j,e,D,G,H⟩:=N _ A λr K=>by
   obtain⟨r0,r1,rk⟩:=h r (by simp[K]);refine⟨r0,by simpa using r1,?_⟩;rw[DV Z x Z];split
   .exact .inr rfl
   .exact rk
  refine⟨j,e,D,by rw[G];simp,λr r0 r1=>?_⟩;rw[H r r0 (by simpa using r1),DV Z x Z];by_cases c:r = a
  .subst c;rw[if_pos rfl,if_pos (show r∈r :: l by simp)];split<;>rfl
  .rw[if_neg c];by_cases d:r∈l
   .rw[if_pos d,if_pos (by simp[d])]
   .rw[if_neg d,if_neg (by simp[c,d])]
theorem QF {held:List Int}:∀(l:List Rg) (i:Nat),(DM held i l).Nodup/\∀r∈DM held i l,∃k,∃h:k < l.length,r = (i + k:Nat)/\C0 held 0 (i + k) l[k] = true:=by
 intro l;induction l with
 | nil=>intro i;exact⟨by simp[DM],λr y=>by simp[DM] at y⟩
 | cons x l K=>
  intro i;obtain⟨A,D⟩:=K (i + 1);have j : ∀r∈DM held (i + 1) l,∃k,∃h:k < (x :: l).length,r = (i + k:Nat)/\C0 held 0 (i + k) (x :: l)[k] = true:=λr y=>by
   obtain⟨k,G,e,hc⟩:=D r y;exact⟨k + 1,by simpa using G,by rw[e];congr 1;omega,by rw[show i + (k + 1) = i + 1 + k from Z];exact hc⟩
  simp only[DM];split
  .refine⟨fQ.2 ⟨λH=>?_,A⟩,λr y=>?_⟩
   .obtain⟨k,_,e,_⟩:=D _ H;omega
   .rcases du.1 y with h | h
    .exact⟨0,V,by rw[h];rfl,by assumption⟩
    .exact j r h
  .exact⟨A,j⟩
theorem O3 {held:List Int} {n:Int}:∀(l:List Rg) (i:Nat) (left:Int),∀r∈(Cj held n i l left).2,∃k,∃h:k < l.length,r = (i + k:Nat)/\C0 held n (i + k) l[k] = true:=by
 intro l;induction l with
 | nil=>intro i left r j;simp[Cj] at j
 | cons x l D=>
  intro i left r j;have y : ∀left,r∈(Cj held n (i + 1) l left).2->∃k,∃h:k < (x :: l).length,r = (i + k:Nat)/\C0 held n (i + k) (x :: l)[k] = true:=λleft j=>by
   obtain⟨k,A,e,hc⟩:=D (i + 1) left r j;exact⟨k + 1,by simpa using A,by rw[e];congr 1;omega,by rw[show i + (k + 1) = i + 1 + k from Z];exact hc⟩
  simp only[Cj] at j;split at j
  .rename_i hc;rcases du.1 j with h | h
   .exact⟨0,V,by rw[h];rfl,by simp only[z_b] at hc;exact hc.1⟩
   .exact y _ h
  .exact y _ j
theorem LL {t:List Rg} {held:List Int}:∀(k:Nat) (n left:Int),∀r∈By t held k n left,∃m,n<=m/\∃j,∃h:j < t.tail.length,r = (1 + j:Nat)/\C0 held m (1 + j) t.tail[j] = true:=by
 intro k;induction k with
 | zero=>intro n left r x;simp[By] at x
 | succ k D=>
  intro n left r x;simp only[By,eI] at x;rcases x with h | h
  .obtain⟨j,A,e,hc⟩:=O3 t.tail 1 left r h;exact⟨n,eQ n,j,A,e,hc⟩
  .obtain⟨m,G,y⟩:=D (n + 1) _ r h;exact⟨m,Z,y⟩
theorem choose_spec {t:List Rg} {AV:Int} {held:List Int} (T:TOk t):((Ai t AV held).2).Nodup/\
  (∀r∈(Ai t AV held).2,1<=r/\r < t.length/\(rv t r).kind = 3/\(rv t r).top = (rv t r).BH/\(rv t r).AJ = 0/\r ∉ held)/\
  (∀r∈(Ai t AV held).1,1<=r/\r < t.length/\(rv t r).kind = 3/\(rv t r).top = (rv t r).BH/\1<=(rv t r).AJ/\r ∉ held):=by
 have x:∀(m:Int) (j:Nat) (h:j < t.tail.length),C0 held m (1 + j) t.tail[j] = true->1<=((1 + j:Nat):Int)/\((1 + j:Nat):Int) < t.length/\(rv t (1 + j:Nat)).kind = 3/\(rv t (1 + j:Nat)).top = (rv t (1 + j:Nat)).BH/\(rv t (1 + j:Nat)).AJ = m/\((1 + j:Nat):Int) ∉ held:=λm j h hc=>by
  rw[JS h] at hc;simp only[C0,z_b,z_d,beq_iff_eq,eL,List.contains_eq_mem,decide_eq_false_iff_not] at hc;simp only[fZ] at h;exact⟨Z,Z,hc.1.1.1.1,hc.1.1.1.2,hc.1.1.2,hc.2⟩
 unfold Ai;rw[if_pos (Bj.2 T)];obtain⟨A,D⟩:=QF (held:=held) t.tail 1;refine⟨A,λr y=>?_,λr y=>?_⟩
 .obtain⟨k,R,e,hc⟩:=D r y;rw[e];exact x 0 k R hc
 .obtain⟨m,hm,j,Q,e,hc⟩:=LL 16 1 AV r y;obtain⟨G,H,K,N,W,O⟩:=x m j Q hc;rw[e];exact⟨G,H,K,N,Z,O⟩
theorem UL {c:Nat} {S:Sim} {B L q r0} (hc:c < 900000) (n0:1<=S.th.length) (n1:S.th.length<=3) (pl:S.Aa.length = S.th.length) (pp:∀p∈S.Aa,p.length<=40) (pg:S.Aa = P) (rs:0<=S.c.AV/\S.c.AV<=100) (G:Geo S.AC S.AA B) (lb:∀a,L a->B a)
  (rf:∀a j,L a->0<=j->j < (shp S.AC a).refs->wv S.AC (a + 2 + j)≠0->L (wv S.AC (a + 2 + j))) (st:∀a,B a->wv S.AC a = a) (nf:∀r:Int,0<=r->(rv S.AA r).kind≠4) (ml:S.AQ.length = S.AC.length)
  (AI:∀a∈S.AI,L a) (th:∀t∈S.th,Lv L t) (N:S.stop = false) (y:Bd c S):∃H,S.idle = some H/\IG P H ⟨B,L,q,r0⟩/\Bd (c + 1) H:=by
 have wl:S.AC.length<=192:=by
  have h1:=G.len;have O:=G.ok.n1;omega
 unfold Sim.idle;simp only[di];rw[BV (by have:=y.cy.1;omega) (by have:=y.cy.2;omega)];simp only[z_o];have T:=G.ok;have Q : TOk (rows (λ_ x=>{ x with AJ:=0 }) S.AA):=TOk.rows T λr x R=>⟨⟨R.k0,R.k1,R.t0,R.t1,R.s0,R.s1,eQ 0,by show 0<=x.top - 16 * r;have:=R.t0;omega,R.fr,R.ow,R.o0,R.o1⟩,rfl⟩
 have K:∀r:Int,0<=r->(rv (rows (λ_ x=>{ x with AJ:=0 }) S.AA) r).kind = (rv S.AA r).kind/\(rv (rows (λ_ x=>{ x with AJ:=0 }) S.AA) r).top = (rv S.AA r).top:=λr r0=>by
  by_cases c:r < S.AA.length
  .rw[Ep r0 c];split<;>exact⟨rfl,rfl⟩
  .rw[Dg r0 (by rw[CW];omega),Dg r0 Z];exact⟨rfl,rfl⟩
 have D : ∀a,¬ Be (rows (λ_ x=>{ x with AJ:=0 }) S.AA) a:=λa A=>nf (a / 16) (by have:=A.1;omega) (by rw[<- (K _ (by have:=A.1;omega)).1];exact A.2)
 have W:∀a,mv (List.replicate S.AQ.length false) a = false:=λa=>Pp
 refine⟨_,rfl,⟨pg,?_,n0,n1,pl,pp,λi t h=>(th t (J7 h)).ti,λh=>absurd (show (0:Int) = 1 from h) δ,λh=>absurd (show (0:Int) = 2 from h) δ,λh=>absurd (show (0:Int) = 3 from h) δ,(λh=>absurd (N.symm.trans h) δ),rs⟩,?_⟩
 .exact⟨Geo.tab G Q (CW (f:=λ_ x=>{ x with AJ:=0 }) (t:=S.AA)) (λ_ h=>h) λr r0 r1=>.inl ⟨(K r Z).2,λ_ h _=>h⟩,lb,rf,λa h _=>st a h,λa _ A=>absurd A (D a),by show (List.replicate S.AQ.length false).length = _;rw[dw];exact ml,λa _ h=>(by
   have h:mv (List.replicate S.AQ.length false) a = true:=h
   rw[W] at h;cases h),by show (0:Int)<=0/\(0:Int)<=3;decide,λ_ r r0 hk=>nf r r0 (by rw[<- (K r r0).1];exact hk),λh=>absurd (show (2:Int)<=0 from h) δ,λa h=>⟨AI a h,D a⟩,λa _ A=>absurd A (D a),λh=>absurd (show (1:Int)<=0 from h) δ,λh=>absurd (show (0:Int) = 3 from h) δ,λh=>absurd (show (0:Int) = 1 from h) δ⟩
 .have O:=N8 (List.replicate S.AQ.length false);rw[dw] at O;have h3:=y.old;refine⟨by have:=y.ev;show S.ev.length<=c + 1;omega,by show S.old.length<=c + 1;omega,by have:=y.cy;show 0<=S.BF + 1/\S.BF + 1<=((c + 1:Nat):Int);omega,by have:=y.fu;show 0<=S.BL/\S.BL<=((c + 1:Nat):Int);omega,?_,y.pn⟩;show ([]:List Int).length + S.old.length + 5 * (List.replicate S.AQ.length false).countP (λb=>!b) + (if (0:Int) = 2 then _ else 0)<=3000 + (c + 1);rw[if_neg δ,fP];omega
section
variable {c:Nat} {S:Sim} {g:Gh}
theorem VK (I:IG P S g) (N:S.Ac = 3):∀l:List Int,(∀a∈l,a≠0->g.L a)->∃y,S.rootsF l = some y/\y.length = l.length/\∀a∈y,a≠0->g.L a/\¬ Be S.AA a:=by
 intro l;induction l with
 | nil=>intro _;exact⟨[],rfl,rfl,λa h=>by cases h⟩
 | cons a l O=>
  intro h;obtain⟨y,e,hl,G⟩:=O λb hb=>h b (by simp[hb])
  obtain⟨d,hd,j⟩:=I.frm (h a V);unfold Sim.rootsF;rw[hd,e];simp only[di,z_o];cases d with
  | false=>
   simp only[eO,if_false,z_o];refine⟨_,rfl,by simp[hl],λb hb x=>?_⟩;rcases du.1 hb with hb | hb
   .subst hb;exact⟨h b V x,λc=>by have:=j.2 c;cases this⟩
   .exact G b hb x
  | true=>
   have D:Be S.AA a:=j.1 rfl;have A:=h a V (U4 I.sh.g D);obtain⟨Q,R,T,W,a5,a6⟩:=I.in_ A;simp only[if_true];rw[WQ Z Z];simp only[z_o];obtain⟨H,K,_⟩:g.L (wv S.AC a)/\¬ Be S.AA (wv S.AC a)/\_:=I.sh.fw _ (I.sh.lb _ A) D (I.sh.af N a A D);refine⟨_,rfl,by simp[hl],λb hb x=>?_⟩;rcases du.1 hb with hb | hb
   .subst hb;exact⟨H,K⟩
   .exact G b hb x
theorem ZO (I:IG P S g) (D:S.Ac = 3):∀l:List Thr,(∀t∈l,Lv g.L t)->∃j,S.thsF l = some j/\j.length = l.length/\∀t∈j,Lv (λa=>g.L a/\¬ Be S.AA a) t:=by
 intro l;induction l with
 | nil=>intro _;exact⟨[],rfl,rfl,λa h=>by cases h⟩
 | cons t l H=>
  intro h;obtain⟨j,e,hl,G⟩:=H λb hb=>h b (by simp[hb])
  have s:=h t V;obtain⟨K,A,x,y⟩:=VK I D t.AD s.rt;unfold Sim.thsF;rw[A,e];simp only[di,z_o];refine⟨_,rfl,by simp[hl],λb hb=>?_⟩;rcases du.1 hb with hb | hb
  .subst hb;exact⟨s.pc,s.g,s.k,s.nx,by show K.length<=8;rw[x];exact s.rl,y⟩
  .exact G b hb
theorem VN (hc:c < 900000) (I:IG P S g) (B:Bd c S) (N:S.calm = true) (h3:S.Ac = 3) (K:∀a j,g.L a->¬ Be S.AA a->0<=j->j < (shp S.AC a).refs->¬ Be S.AA (wv S.AC (a + 2 + j))):∃y g',({ S with stop:=false }:Sim).finish = some y/\IG P y g'/\Bd (c + 1) y:=by
 have st:=I.still N;have H:=I.sh;have G:=H.g;have I0:IG P { S with stop:=false } g:=⟨I.pg,I.sh,I.n0,I.n1,I.pl,I.pp,I.ti,I.c1,I.c2,I.c3,(λh=>by cases h),I.rs⟩;obtain⟨th,e,hl,hm⟩:=ZO I0 h3 S.th st;unfold Sim.finish;simp only[di];rw[e];simp only[z_o];have T:=G.ok;have n1:S.AA.length<=12:=T.n1;obtain⟨Q,R,A⟩:=Nr S.AA.length 1 S.AA T Z Z;have A:∀r:Int,1<=r->r < S.AA.length->rv (DF S.AA.length 1 S.AA) r = if (rv S.AA r).kind = 4 then Dn r else rv S.AA r:=λr r0 r1=>by
  rw[A r r0 r1];by_cases h:(rv S.AA r).kind = 4
  .rw[if_pos ⟨Z,h⟩,if_pos h]
  .rw[if_neg (λh'=>h h'.2),if_neg h]
 obtain⟨y,e',I',B'⟩:=UL (P:=P) (S:={ S with stop:=false,th:=th,AA:=DF S.AA.length 1 S.AA }) (B:=λa=>g.B a/\¬ Be S.AA a) (L:=λa=>g.L a/\¬ Be S.AA a) (q:=g.q) (r0:=g.r0) hc (by show 1<=th.length;rw[hl];exact I.n0) (by show th.length<=3;rw[hl];exact I.n1) (by show S.Aa.length = th.length;rw[hl];exact I.pl) I.pp I.pg I.rs
  (Geo.tab G Q R (λa h=>h.1) λr r0 r1=>by
   rw[A r r0 r1]
   by_cases h:(rv S.AA r).kind = 4
   .right
    rw[if_pos h,(DL r0 (by simp only at r1;omega)).2]
    exact⟨rfl,λa D O=>D.2 ⟨by have:=G.inn D.1;omega,by rw[O];exact h⟩⟩
   .left
    rw[if_neg h]
    exact⟨rfl,λa D O=>⟨D,λhf=>h (by rw[<- O];exact hf.2)⟩⟩) (λa h=>⟨H.lb a h.1,h.2⟩) (λa j h W j1 hn=>⟨H.rf a j h.1 W j1 hn,K a j h.1 h.2 W j1⟩) (λa h=>H.st a h.1 h.2) (λr r0 x=>by
   have x:(rv (DF S.AA.length 1 S.AA) r).kind = 4:=x
   by_cases c1:r < S.AA.length
   .by_cases c2:1<=r
    .rw[A r c2 c1] at x
     split at x
     .rw[(DL c2 Z).2] at x;cases x
     .contradiction
    .rw[show r = 0 from Z,Q.e] at x;cases x
   .rw[Dg r0 (by rw[R];omega)] at x;cases x) H.ml (λa h=>H.pl a h) hm rfl ⟨B.ev,B.old,B.cy,B.fu,B.st,B.pn⟩
 exact⟨y,_,e',I',B'⟩
theorem Yn {x:X} (H:Sh x) {a:Int} (j:x.L a) (y:mv x.m a = true):0 < cnt x (a / 16):=by
 have g:=H.g.inn (H.lb a j);unfold cnt;rw[List.countP_pos_iff];refine⟨(a - 16 * (a / 16)).toNat,fV.2 Z,?_⟩
 classical
 have:∃b,0<=b/\mv x.m b = true/\b<=16 * (a / 16) + ((a - 16 * (a / 16)).toNat:Int)/\16 * (a / 16) + ((a - 16 * (a / 16)).toNat:Int) < b + sz x.w b:=⟨a,Z,y,Z,Z⟩;exact decide_eq_true this
theorem Vl {n:Nat} (hc:c < 900000) (hn:mu S < n) (I:IG P S g) (B:Bd c S) (b5:S.calm = true) (h1:S.Ac = 1):∃S' g',({ S with stop:=false }:Sim).choose n = some S'/\IG P S' g'/\Bd (c + 1) S':=by
 have I0:IG P { S with stop:=false } g:=⟨I.pg,I.sh,I.n0,I.n1,I.pl,I.pp,I.ti,I.c1,I.c2,I.c3,(λh=>by cases h),I.rs⟩;have B0:Bd c { S with stop:=false }:=⟨B.ev,B.old,B.cy,B.fu,B.st,B.pn⟩;obtain⟨x,e1,N,K,p1,⟨_,t1⟩,_,s1,_,k1,o1,b7⟩:=Wn hc n { S with stop:=false } g I0 B0 h1 hn;have a9:x.calm = true:=by
  show (x.th.all λt=>t.pc == 0) = true;rw[t1];exact b5
 have st:=N.still a9;have H:=N.sh;have G:=H.g;have T:=G.ok;have n1:x.AA.length<=12:=T.n1;have M:=H.mp p1;have C:=N.c1 p1;have lg:∀v,Lg (xof x g) v->v≠0->v < (xof x g).tm v->mv x.AQ v = true:=λv h h0 Q=>by
  rcases h with h | h | h | h | h
  .exact absurd h h0
  .exact h
  .have h:v∈x.col.AR:=h;rw[k1] at h;cases h
  .have h:v∈x.old:=h;rw[o1] at h;cases h
  .have:=h.2;omega
 have L0:∀a,g.L a->16<=a:=λa h=>(N.in_ h).1
 have lm:∀a,g.L a->a < (xof x g).tm a->mv x.AQ a = true:=M.mn (λa=>mv x.AQ a = true) (λa h=>by
  obtain⟨q1,q2,q3⟩:=M.l0 a h
  exact lg a q3 (by have:=L0 a q1;omega) q2) (λa j O Q hm j0 j1 hq=>by
  obtain⟨q1,q2⟩:=M.ql a j O Q j0 j1 hq
  rcases C.sc a j (by have:=L0 a O;omega) hm j0 j1 with ⟨h,_⟩ | h
  .omega
  .exact lg _ h hq q2)
 obtain⟨c1,c2,c3⟩:=choose_spec (AV:=x.c.AV) (held:=x.AI.map AM) T;obtain⟨f1,f2,f3⟩:=OH (Ai x.AA x.c.AV (x.AI.map AM)).2 x.AA T c1 λr W=>by
  obtain⟨h1,D,h3,_⟩:=c2 r W;exact⟨h1,D,by simp only at h3;omega⟩
 have a4:∀r∈(Ai x.AA x.c.AV (x.AI.map AM)).1,r ∉ (Ai x.AA x.c.AV (x.AI.map AM)).2:=λr h h'=>by
  have a1:=(c3 r h).2.2.2.2.1;have a2:=(c2 r h').2.2.2.2.1;omega
 obtain⟨R,e2,b4,k2,k3⟩:=Tx (Ai x.AA x.c.AV (x.AI.map AM)).1 _ f1 λr W=>by
  obtain⟨h1,D,h3,_⟩:=c3 r W;refine⟨h1,by rw[f2];exact D,.inl ?_⟩;rw[f3 r h1 D,if_neg (a4 r W)];exact h3
 have kr:∀r:Int,1<=r->r < x.AA.length->rv R r = if r∈(Ai x.AA x.c.AV (x.AI.map AM)).1 then { rv x.AA r with kind:=4 } else if r∈(Ai x.AA x.c.AV (x.AI.map AM)).2 then Dn r else rv x.AA r:=λr r0 r1=>by
  rw[k3 r r0 (by rw[f2];exact r1),f3 r r0 r1];by_cases h:r∈(Ai x.AA x.c.AV (x.AI.map AM)).1
  .rw[if_pos h,if_pos h,if_neg (a4 r h)]
  .rw[if_neg h,if_neg h]
 have a5 : R.length = x.AA.length:=by rw[k2,f2]
 have y:∀a,g.L a->a / 16 ∉ (Ai x.AA x.c.AV (x.AI.map AM)).2:=λa O h=>by
  obtain⟨h1,D,h3,h4,h5,_⟩:=c2 _ h;have i:=G.inn (H.lb a O);simp only at i h4 h5 D;have hm:=lm a O (by show a < (rv x.AA (a / 16)).BH;omega);have h6:=Yn H O hm;have h7:=M.cov (a / 16) i.2.1 i.2.2.1;have h8:(rv x.AA (a / 16)).AJ = cnt (xof x g) (a / 16):=h7;rw[h5] at h8;omega
 have hB:∀a,(g.B a/\a / 16 ∉ (Ai x.AA x.c.AV (x.AI.map AM)).2)->g.B a:=λa h=>h.1
 have a6:∀a,g.B a->wv x.AC a = a:=λa h=>H.st a h (N.nofrom Z a)
 have a8:Geo x.AC R (λa=>g.B a/\a / 16 ∉ (Ai x.AA x.c.AV (x.AI.map AM)).2):=Geo.tab G b4 a5 hB λr r0 r1=>by
  rw[kr r r0 r1];by_cases h:r∈(Ai x.AA x.c.AV (x.AI.map AM)).1
  .left;rw[if_pos h];exact⟨rfl,λa O W=>⟨O,by rw[W];exact a4 r h⟩⟩
  .rw[if_neg h];by_cases D:r∈(Ai x.AA x.c.AV (x.AI.map AM)).2
   .right;rw[if_pos D,(DL r0 (by simp only at r1;omega)).2];exact⟨rfl,λa O W=>O.2 (by rw[W];exact D)⟩
   .left;rw[if_neg D];exact⟨rfl,λa O W=>⟨O,by rw[W];exact D⟩⟩
 unfold Sim.choose;simp only[di];rw[e1];simp only[z_o];rw[e2];simp only[z_o];by_cases hz:(Ai x.AA x.c.AV (x.AI.map AM)).1.length = 0
 .rw[if_pos hz];have b3:=eV.1 hz;obtain⟨S',e',I',B'⟩:=UL (P:=P) (S:={ x with stop:=false,AA:=R }) (B:=λa=>g.B a/\a / 16 ∉ (Ai x.AA x.c.AV (x.AI.map AM)).2) (L:=g.L) (q:=g.q) (r0:=g.r0) hc N.n0 N.n1 N.pl N.pp N.pg N.rs a8 (λa h=>⟨H.lb a h,y a h⟩) H.rf (λa h=>a6 a h.1) (λr r0 A=>by
   have A:(rv R r).kind = 4:=A
   by_cases c1:r < x.AA.length
   .by_cases c2:1<=r
    .rw[kr r c2 c1,b3,if_neg V] at A
     split at A
     .rw[(DL c2 Z).2] at A;cases A
     .exact H.nf (by show x.Ac<=1;omega) r r0 A
    .rw[show r = 0 from Z,b4.e] at A;cases A
   .rw[Dg r0 (by rw[a5];omega)] at A;cases A) H.ml (λa h=>(H.pl a h).1) st rfl ⟨K.ev,K.old,K.cy,K.fu,K.st,K.pn⟩
  exact⟨S',_,e',I',B'⟩
 .rw[if_neg hz];have a7:∀a,g.B a->a / 16 ∉ (Ai x.AA x.c.AV (x.AI.map AM)).2->(rv R (a / 16)).BH = (rv x.AA (a / 16)).BH:=λa h D=>by
   have i:=G.inn h;rw[kr _ i.2.1 i.2.2.1];by_cases hh:a / 16∈(Ai x.AA x.c.AV (x.AI.map AM)).1
   .rw[if_pos hh]
   .rw[if_neg hh,if_neg D]
  have a3:∀a,g.B a->Be R a->a / 16∈(Ai x.AA x.c.AV (x.AI.map AM)).1:=λa h hf=>by
   have i:=G.inn h;have A:=hf.2;rw[kr _ i.2.1 i.2.2.1] at A;split at A
   .assumption
   .split at A
    .rw[(DL i.2.1 (by have:=i.2.2.1;simp only at this;omega)).2] at A;cases A
    .exact absurd A (H.nf (by show x.Ac<=1;omega) _ Z)
  refine⟨_,⟨λa=>g.B a/\a / 16 ∉ (Ai x.AA x.c.AV (x.AI.map AM)).2,g.L,g.q,g.r0⟩,rfl,N.mk' (S':={ x with stop:=false,AA:=R,Ac:=2,col:={ De x.col.As x.col.want with pc:=5,r:=1,p:=16 } }) rfl rfl ?_ st (λh=>absurd (show (2:Int) = 1 from h) δ) (λ_=>?_) (λh=>absurd (show (2:Int) = 3 from h) δ) (λh=>by cases h),?_⟩
  .refine⟨a8,λa h=>⟨H.lb a h,y a h⟩,H.rf,λa h _=>a6 a h.1,λa h _ b6=>absurd (a6 a h.1) b6,H.ml,λa a0 h=>?_,by show (0:Int)<=2/\(2:Int)<=3;decide,λh=>absurd (show (2:Int)<=1 from h) δ,λ_ a h Q=>lm a h ?_,λa h=>⟨(H.pl a h).1,λhf=>?_⟩,λa h hf=>?_,λ_ a h Q=>?_,λh=>absurd (show (2:Int) = 3 from h) δ,λh=>absurd (show (2:Int) = 1 from h) δ⟩
   .obtain⟨b1,b2⟩:=H.mt a a0 h;refine⟨b1,?_⟩;show a < (rv R (a / 16)).BH;rw[a7 a (H.lb a b1) (y a b1)];exact b2
   .have Q:a < (rv R (a / 16)).BH:=Q;rw[a7 a (H.lb a h) (y a h)] at Q;exact Q
   .have hL:=(H.pl a h).1;have:=(c3 _ (a3 a (H.lb a hL) hf)).2.2.2.2.2;refine this (eE.2 ⟨a,h,?_⟩);have:=L0 a hL;rw[Bc Z]
   .obtain⟨_,_,_,h4,_⟩:=c3 _ (a3 a (H.lb a h) hf);have i:=G.inn (H.lb a h);simp only at i h4;exact lm a h (by show a < (rv x.AA (a / 16)).BH;omega)
   .have Q:(rv R (a / 16)).BH<=a:=Q;rw[a7 a h.1 h.2] at Q;exact H.nb (by show 1<=x.Ac;omega) a h.1 Q
  .refine⟨eQ 1,by show (1:Int)<=R.length;rw[a5];have:=T.n0;simp only at this;omega,by show (16:Int) * 1<=16;decide,by show (16:Int)<=16 * 1 + 16;decide,λa h _ b0=>?_,.inl rfl⟩;have b0:a < 16:=b0;have:=L0 a h;omega
  .refine⟨by have:=K.ev;show x.ev.length<=c + 1;omega,by have:=K.old;show x.old.length<=c + 1;omega,by have:=K.cy;show 0<=x.BF/\x.BF<=((c + 1:Nat):Int);omega,by have:=K.fu;show 0<=x.BL/\x.BL<=((c + 1:Nat):Int);omega,?_,K.pn⟩;have:=K.st;show ([]:List Int).length + x.old.length + 5 * x.AQ.countP (λb=>!b) + (if (5:Int) = 2 then _ else 0)<=3000 + (c + 1);rw[if_neg δ,fP];omega
end
end Sm
end
