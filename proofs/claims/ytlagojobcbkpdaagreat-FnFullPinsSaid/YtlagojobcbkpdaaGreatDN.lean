/- A part of the proof of the given row: the walk of the law and of all that it calls. Conditions: none. -/
import Derived.Test.YtlagojobcbkpdaaGreatDM
set_option linter.unusedVariables false
set_option linter.unusedSimpArgs false
set_option maxRecDepth 100000
section
namespace Go.Lf
open Go Sm
theorem TJ (a:Addr) (n c:Nat) (w:World):(Builtin.clear_ #[23] 0 #[.slice (some a) (n + 1) c]).run P w = (do storeCells a (Builtin.zeroCells #[I 0] (n + 1)).toList;pure (.tuple #[]):Sem Value).run P w:=by
 kernel_rfl
theorem Y8 (x y:Operand) (a:Addr) (n c:Nat) (w:World):(do eqGuard .eql 23 x y (.slice (some a) n c) (SN);binOp .eql 23 (.slice (some a) n c) (SN):Sem Value).run P w = .ok (.bool false) w:=by kernel_rfl
theorem We (x y:Operand) (w:World):(do eqGuard .eql 23 x y (SN) (SN);binOp .eql 23 (SN) (SN):Sem Value).run P w = .ok (.bool true) w:=by kernel_rfl
theorem VY (a b:Addr) (n c m d:Nat) (w:World):(Builtin.copy_ #[23,23] 3 #[.slice (some a) n c,.slice (some b) m d]).run P w = (do let cells ← loadCells b (Nat.min m n * 1);storeCells a cells.toList;pure (goInt (Nat.min m n)):Sem Value).run P w:=by
 kernel_rfl
theorem QD (n:Nat):(Builtin.zeroCells #[I 0] n).toList = List.replicate n (I 0):=by
 unfold Builtin.zeroCells;rw[ar];apply aM
 ·simp
 ·intro i h1 h2;simp[Nat.mod_one]
section rules
variable {R:RM} {D:Chs} {k:Value→M}
theorem jX {s:Sem Value} (H:∀h,St h R D→∀w:World,w.heap = h→∃v w',s.run P w = .ok v w'∧BK w w'∧k v w'.heap):J R D (X P s k):=λh hs w hw=>by
 obtain⟨v,w',e,hsm,hk⟩:=H h hs w hw;rw[e];exact⟨hsm,hk⟩
theorem WO {b o n c t:Nat} {cs cs' : List Value} {D' : Chs} (hn:0 < n) [a:At D b (C t cs)] (ho:o + n≤cs.length) (hc:lay cs o (List.replicate n (I 0)) = cs') [u:Up D b (C t cs) (C t cs') D'] (H:J R D' (k (.tuple #[]))) :
  J R D (X P (Builtin.clear_ #[23] 0 #[.slice (some ⟨b,o,none⟩) n c]) k):=by
 have hk:∀h,St h R D→∀w:World,w.heap = h→∃v w',(Builtin.clear_ #[23] 0 #[.slice (some ⟨b,o,none⟩) n c]).run P w = .ok v w'∧BK w w'∧k v w'.heap:=by
  intro h hs w hw;subst hw;obtain⟨n,rfl⟩:∃m,n = m + 1:=⟨n - 1,ω⟩;obtain⟨h',w1,w2,w3⟩:=Fa (List.replicate (n + 1) (I 0)) o (hs.at_ b _ a.m).1 (by rw[Yy];exact ho) (by unfold Br;rw[ZC];intro x hx;rw[(ZT.1 hx).2];rfl);obtain⟨w',e1,hsm,e2⟩:=EB (P:=P) b (List.replicate (n + 1) (I 0)) o 0 w h' w1;refine⟨.tuple #[],w',?_,hsm,?_⟩
  ·rw[TJ,QD];simp only[ZA,e1,Yw];rfl
  ·rw[e2];exact H h' (hs.turn (b:=b) (o:=C t cs) (o':=C t cs') (by rw[w2,hc]) w3)
 exact @jX _ _ _ _ hk
theorem Xn {b o n c t m d:Nat} {xa:Addr} {l cs cs' : List Value} {D' : Chs} (hx:BY R D (some xa) (Nat.min m n * 1) l) (hl:l.length = Nat.min m n) (hf:Br l = true) [a:At D b (C t cs)] (ho:o + l.length≤cs.length) (hc:lay cs o l = cs') [u:Up D b (C t cs) (C t cs') D']
  (H:J R D' (k (I (Nat.min m n:Nat)))):J R D (X P (Builtin.copy_ #[23,23] 3 #[.slice (some ⟨b,o,none⟩) n c,.slice (some xa) m d]) k):=by
 have hk:∀h,St h R D→∀w:World,w.heap = h→∃v w',(Builtin.copy_ #[23,23] 3 #[.slice (some ⟨b,o,none⟩) n c,.slice (some xa) m d]).run P w = .ok v w'∧BK w w'∧k v w'.heap:=by
  intro h hs w hw;subst hw;obtain⟨h',w1,w2,w3⟩:=Fa l o (hs.at_ b _ a.m).1 ho hf;obtain⟨w',e1,hsm,e2⟩:=EB (P:=P) b l o 0 w h' w1;have hr:rdS w.heap (some xa) (Nat.min m n * 1) = some l:=hx _ hs;obtain⟨xb,xo,xs⟩:=xa;cases xs with
  | some _=>cases hr
  | none=>
  have hr:rd w.heap xb xo (Nat.min m n * 1) = some l:=hr;refine⟨I (Nat.min m n:Nat),w',?_,hsm,?_⟩
  ·rw[VY];simp only[ZA,HI (P:=P) hr,Yw,e1];rfl
  ·rw[e2];exact H h' (hs.turn (b:=b) (o:=C t cs) (o':=C t cs') (by rw[w2,hc]) w3)
 exact @jX _ _ _ _ hk
theorem Y1 {v:Value} {w n:Nat} {cells:List Value} {x y:Operand} (h:Fz R v w n cells) (H0:v = SN→n = 0→cells = []→J R D (k (.bool true))) (H1:J R D (k (.bool false))):J R D (X P (do eqGuard .eql 23 x y v (SN);binOp .eql 23 v (SN)) k):=by
 rcases h with ⟨rfl,h2,h3⟩ | ⟨b,o,cap,t,cs,rfl,_⟩
 ·intro h hs w hw;rw[We];subst hw;exact⟨BK.refl _,H0 rfl h2 h3 _ hs⟩
 ·intro h hs w hw;rw[Y8];subst hw;exact⟨BK.refl _,H1 _ hs⟩
theorem YK {v:Value} {l:List Int} {lo u:Int} (h:BG R v l) (h0:0≤lo) (h1:lo≤u) (h2:u≤l.length) (H:∀v',BG R v' ((l.take u.toNat).drop lo.toNat)→J R D (k v')):J R D (SL 1 v (some (I lo)) (some (I u)) k):=by
 rcases h with ⟨rfl,h3,_⟩ | ⟨b,o,cap,t,cs,rfl,h3,h4,h5,h6⟩
 ·intro h' hs;refine⟨⟨h0,h1,ω⟩,H _ ?_ h' hs⟩;have e:l = []:=ZL.1 h3;have e1:u = 0:=ω
  have e2:lo = 0:=ω
  rw[e,e1,e2];exact .inl ⟨rfl,σ,σ⟩
 ·intro h' hs;refine⟨⟨h0,h1,ω⟩,H _ ?_ h' hs⟩;by_cases c:cap = lo.toNat
  ·have hl:l.length = lo.toNat:=ω
   have e1:u.toNat = lo.toNat:=ω
   have e2:((l.take u.toNat).drop lo.toNat).length = 0:=by rw[ZS,Z5];omega
   refine .inr ⟨b,o,cap - lo.toNat,t,cs,?_,h3,?_,?_,?_⟩
   ·rw[if_pos c,e2,e1,Nat.sub_self]
   ·rw[e2];omega
   ·rw[ZL.1 e2];simp
   ·rw[e2];omega
  ·refine .inr ⟨b,o + lo.toNat * 1,cap - lo.toNat,t,cs,?_,h3,?_,?_,?_⟩
   ·rw[if_neg c];simp;omega
   ·simp only[ZS,Z5];omega
   ·simp only[ZS,Z5];rw[List.map_drop,List.map_take,← h5,ah,aU,aj];congr 1
    ·omega
    ·congr 1;omega
   ·simp only[ZS,Z5];omega
theorem YY {v:Value} {l:List Int} (h:BG R v l) (hl:l.length < 1000000) (H:∀v' b c sp,l.length≤c→sp.length = c - l.length→v' = S0 b l.length c→J R ((b,C AX (l.map I ++ sp)) :: D) (k v')) :
  J R D (BS 3 0 (ZR 0 z3) [] λx=>AP 3 1 8 (cl z3) x v k):=by
 obtain⟨a,cap,rfl,hr⟩:=Fz.reads (D:=D) h;refine jbs (cs:=[]) rfl rfl λb2=>?_
 refine T6 (new:=l.map I) ?_ δ ω (λ_=>rfl) (λh0=>?_) (λb' c hc=>BI (aI _ _ _) (Bn ?_))
 ·intro h' hs';exact hr h' (St.drop (A:=[(b2,C 3 [])]) (by simpa using hs'))
 ·have:l = []:=ZL.1 h0;subst this;exact H _ b2 0 [] σ σ rfl
 ·exact H _ b' c _ hc (by rw[Bw (w:=1) (by intro x hx;rw[(ZT.1 hx).2];rfl)];simp) rfl
end rules
theorem Fx {R:RM} {v:Value} {l:List Int} (h:BG R v l) (hl:l.length < 1000000):Fn P FE [v] R [] (λx R' A=>R' = R∧SO l x A∧(0 < l.length→UR l x A)):=by
 refine IE λF=>?_
 refine z_1 ?_;refine Y1 h (λ_ h0 _=>DI ?_) (CL ?_)
 ·have:l = []:=ZL.1 h0;subst this;exact B9 (A:=[]) (RM.le.refl R) ⟨rfl,.inl ⟨rfl,rfl,rfl⟩,σ⟩
 ·refine YY h hl λv' b c sp hc hsp hv=>?_
  exact B9 (A:=[(b,C AX (l.map I ++ sp))]) (RM.le.refl R) ⟨rfl,.inr ⟨b,c,sp,hc,hsp,hv,rfl⟩,λ_=>⟨b,c,sp,hc,hsp,hv,rfl⟩⟩
theorem CK (r:Int):Pu GO [I r] (I (AH r)):=λR=>KD λF=>Ht r R F
theorem Gk (s:Shp):Pu JO [eSh s] (.bool (BP s)):=λR=>Nj λF=>MO s R F
theorem LU (s:Shp):Pu H3 [eSh s] (I (AZ s)):=by
 intro R;refine Ln λF=>?_
 refine z_1 ?_;refine ja λb=>jla (l:=[I s.refs,I s.nums]) σ rfl (jp (Gk s) ?_)
 refine jif (λh=>?_) (λh=>?_)
 ·refine B9 (A:=[]) (RM.le.refl _) ?_;simp only[Z9] at h;simp[AZ,h]
 ·simp only[ZM] at h;obtain⟨h0,h1,h2,h3⟩:=Dw.1 h;refine jl rfl (GX ⟨ω,ω⟩ (jl rfl (jad ?_)));refine B9 (A:=[]) (RM.le.refl _) ?_;simp[AZ,h]
theorem HA (s:Shp):Pu H5 [eSh s] (I (AF s)):=by
 intro R;refine Lr λF=>?_
 refine z_1 ?_;refine ja λb=>jla (l:=[I s.refs,I s.nums]) σ rfl (jp (Gk s) ?_)
 refine jif (λh=>?_) (λh=>?_)
 ·refine B9 (A:=[]) (RM.le.refl _) ?_;simp only[Z9] at h;simp[AF,h]
 ·simp only[ZM] at h;obtain⟨h0,h1,h2,h3⟩:=Dw.1 h;refine jl rfl (jad (jl rfl (jad ?_)));refine B9 (A:=[]) (RM.le.refl _) ?_;simp[AF,h]
theorem O3 {w:Int} (hw:inR w):Pu JD [I w] (.tuple #[eSh (AJ w).1,.bool (AJ w).2]):=by
 intro R;refine Nk λF=>?_
 refine z_1 ?_;refine ja λb=>jlt (jif (λh=>?_) (λh=>?_))
 ·have h:=z_f h;refine jbd (cs:=[I 0,I 0]) rfl rfl (js (cs':=[I 0,I 0]) rfl rfl σ rfl (jla (l:=[I 0,I 0]) σ rfl ?_));refine B9 (A:=[]) (RM.le.refl _) ?_;unfold AJ;rw[if_neg ω];rfl
 ·have h:=z_g h;have e1:w.tdiv 16 = w / 16:=Zk ω;have e2:w.tmod 16 = w % 16:=aP ω;refine MX δ (by rw[e1];constructor<;>omega) (NW δ ?_);rw[e1,e2];refine jbd (cs:=[I (w / 16),I (w % 16)]) rfl rfl (ja λb2=>js (cs':=[I (w / 16),I (w % 16)]) rfl rfl σ rfl (jla (l:=[I (w / 16),I (w % 16)]) σ rfl (jp (Gk ⟨w / 16,w % 16⟩) ?_)));have ek:BP ⟨w / 16,w % 16⟩ = decide (0≤w∧w / 16≤4∧w % 16≤4):=by
   rw[Zb,Dw,z_d];show 0≤w / 16∧w / 16≤4∧0≤w % 16∧w % 16≤4↔_;omega
  rw[ek];refine jif (λhk=>?_) (λhk=>?_)
  ·have hk:¬ (0≤w∧w / 16≤4∧w % 16≤4):=by
    rw[Z9,decide_eq_false_iff_not] at hk;exact hk
   refine jbd (cs:=[I 0,I 0]) rfl rfl (js (cs':=[I 0,I 0]) rfl rfl σ rfl (jla (l:=[I 0,I 0]) σ rfl ?_));refine B9 (A:=[]) (RM.le.refl _) ?_;unfold AJ;rw[if_neg hk];rfl
  ·have hk:0≤w∧w / 16≤4∧w % 16≤4:=by simpa using hk
   refine jla (l:=[I (w / 16),I (w % 16)]) σ rfl (js (cs':=[I (w / 16),I (w % 16)]) rfl rfl σ rfl (jla (l:=[I (w / 16),I (w % 16)]) σ rfl ?_));refine B9 (A:=[]) (RM.le.refl _) ?_;unfold AJ;rw[if_pos hk]
theorem GZ (a:Option Addr) (n c:Nat) (hn:n < 1000000000000):Pu JK [.slice a n c] (.bool (BM n)):=by
 intro R;refine Ob λF=>?_
 refine z_1 ?_;have er:(n:Int).tmod 16 = (n % 16:Nat):=by rw[aP ω];omega
 refine jan [.slice a n c] (((n:Int).tmod 16 == 0) && (decide ((n:Int)≥32))) (λK' hK'=>?_) (λe c u ho he=>?_)
 ·refine jln (NW δ (jeq (Bt (λh1=>?_) (λh1=>?_))))
  ·refine jln (jge (hK' _ _ _ (h1▸Ax) (by rw[h1,Z2])))
  ·exact hK' _ _ _ (h1▸BB) (by rw[h1,Z3])
 refine z_V ?_;refine jan [] ((((n:Int).tmod 16 == 0) && decide ((n:Int)≥32)) && (decide ((n:Int)≤192))) (λK' hK'=>?_) (λe c u ho he=>?_)
 ·rw[ho];refine Bt (λh1=>?_) (λh1=>?_)
  ·refine jln (jle (hK' _ _ _ (h1▸Ax) (by rw[h1,Z2])))
  ·exact hK' _ _ _ (h1▸BB) (by rw[h1,Z3])
 refine z_V ?_;rw[ho];refine B9 (A:=[]) (RM.le.refl R) ?_;congr 1;unfold BM;rw[er,Zb];simp only[z_b,z_d,beq_iff_eq];constructor<;>rintro⟨⟨h1,h2⟩,h3⟩<;>exact⟨⟨ω,ω⟩,ω⟩
theorem Nn (x:Option Addr) (n cc:Nat) (a size:Int) (hn:n < 1000000000000) (h0:1≤size) (h1:size≤16):Pu Na [.slice x n cc,I a,I size] (.bool (fits n a size)):=by
 intro R;refine U4 λF=>?_
 refine z_3 ?_;refine jan [.slice x n cc,I a,I size] (BM n && decide (a≥16)) (λK' hK'=>?_) (λe c u ho he=>?_)
 ·refine jp (GZ x n cc hn) (Bt (λh1=>jge (hK' _ _ _ (h1▸Ax) (by rw[h1,Z2]))) (λh1=>hK' _ _ _ (h1▸BB) (by rw[h1,Z3])))
 refine z_V ?_;refine jan [I a,I size] ((BM n && decide (a≥16)) && decide (a < n)) (λK' hK'=>?_) (λe c u ho he=>?_)
 ·rw[ho];exact Bt (λh1=>jln (jlt (hK' _ _ _ (h1▸Ax) (by rw[h1,Z2])))) (λh1=>hK' _ _ _ (h1▸BB) (by rw[h1,Z3]))
 refine z_V ?_;refine jan [] (((BM n && decide (a≥16)) && decide (a < n)) && decide (a.tmod 16 + size≤16)) (λK' hK'=>?_) (λe c u ho he=>?_)
 ·rw[ho];refine Bt (λh1=>NW δ ?_) (λh1=>hK' _ _ _ (h1▸BB) (by rw[h1,Z3]));have h2:=h1;simp only[z_b,z_d] at h2;have e2:a.tmod 16 = a % 16:=aP ω;exact Cr (by rw[e2];constructor<;>omega) (jle (hK' _ _ _ (h1▸Ax) (by rw[h1,Z2])))
 refine z_V ?_;rw[ho];refine B9 (A:=[]) (RM.le.refl R) ?_;congr 1;unfold fits;rw[Zb];simp only[z_b,z_d,beq_iff_eq];have hr:16≤a→(AN a = AN (a + size - 1)↔a.tmod 16 + size≤16):=λha=>by
  rw[aP ω];unfold AN;rw[if_neg ω,if_neg ω];omega
 constructor
 ·rintro⟨⟨⟨q0,q1⟩,q2⟩,q3⟩;exact⟨⟨⟨⟨⟨q0,ω⟩,h1⟩,q1⟩,q2⟩,(hr q1).2 q3⟩
 ·rintro⟨⟨⟨⟨⟨q0,_⟩,_⟩,q1⟩,q2⟩,q3⟩;exact⟨⟨⟨q0,q1⟩,q2⟩,(hr q1).1 q3⟩
theorem GQ {R:RM} {wv:Value} {w:List Int} (a:Int) (h:BG R wv w) (hl:w.length < 1000000) (hin:inR (w.getD (a.toNat + 1) 0)) :
  Fn P F8 [wv,I a] R [] (λv R' A=>A = []∧∃x,ThV R' x (Ap w a).1∧v = .tuple #[x,.bool (Ap w a).2]):=by
 refine Oa λF=>?_
 refine z_2 ?_;obtain⟨wa,wc,hwv⟩:=h.sl;have th0V:ThV R (.agg (eTh CM (SN) (SN)).toArray) CM:=⟨_,_,rfl,.inl ⟨rfl,rfl,rfl⟩,.inl ⟨rfl,rfl,rfl⟩⟩;refine ja λb1=>?_
 have h':=h;rw[hwv];refine jp (Nn wa w.length wc a 2 ω δ δ) ?_;rw[← hwv];refine jif (λh0=>?_) (λh0=>?_)
 ·have h0:fits w.length a 2 = false:=by simpa using h0
  have e:Ap w a = (CM,false):=by unfold Ap;rw[h0];rfl
  refine jbd (cs:=eTh CM (SN) (SN)) rfl rfl (jS (eTh CM (SN) (SN)) (jla (l:=eTh CM (SN) (SN)) (by exact z_n 6) rfl ?_));rw[e];exact B9 (A:=[]) (RM.le.refl _) ⟨rfl,_,th0V,rfl⟩
 have h0:fits w.length a 2 = true:=by simpa using h0
 obtain⟨a0,a1,-,-⟩:=Eg h0;obtain⟨n,rfl⟩:∃n:Nat,a = n:=⟨a.toNat,ω⟩;refine jad (CE h ω ω ?_);have e1:w[((n:Int) + 1).toNat]'(ω) = w.getD (n + 1) 0:=by
  have:((n:Int) + 1).toNat = n + 1:=ω
  simp only[this];rw[Ym,Yi ω];rfl
 rw[e1];simp only[Yj] at hin;generalize hwd:w.getD (n + 1) 0 = wd at hin ⊢;refine jp (O3 hin) (jex rfl (jex rfl (ja λb12=>jS [I (AJ wd).1.refs,I (AJ wd).1.nums] ?_)));refine jor [wv,I n,Pt b1,Pt b12] (!((AJ wd).2 && fits w.length n (AF (AJ wd).1))) (λK' hK'=>?_) (λe c u ho he=>?_)
 ·refine BR (λh1=>?_) (λh1=>?_)
  ·have h1:(AJ wd).2 = true:=by simpa using h1
   obtain⟨q0,q1,q2,q3,q4⟩:=Fg h1;refine jla (l:=[I (AJ wd).1.refs,I (AJ wd).1.nums]) σ rfl (jp (HA _) ?_);rw[hwv];refine jp (Nn wa w.length wc n _ ω ω ω) ?_;rw[← hwv,h1];exact hK' _ _ _ Ah (by rw[h1,Z2])
  ·have h1:(AJ wd).2 = false:=by simpa using h1
   rw[h1];exact hK' _ _ true Am (by rw[h1];rfl)
 refine z_V ?_;rw[ho];refine jif (λh1=>?_) (λh1=>?_)
 ·have h1:((AJ wd).2 && fits w.length n (AF (AJ wd).1)) = false:=by rw[Z9] at h1;exact h1
  have e:Ap w n = (CM,false):=by
   unfold Ap;rw[if_pos h0,Yj,hwd];simp only[h1];rfl
  refine jbd (cs:=eTh CM (SN) (SN)) rfl rfl (jS (eTh CM (SN) (SN)) (jla (l:=eTh CM (SN) (SN)) (by exact z_n 6) rfl ?_));rw[e];exact B9 (A:=[]) (RM.le.refl _) ⟨rfl,_,th0V,rfl⟩
 have h1:((AJ wd).2 && fits w.length n (AF (AJ wd).1)) = true:=by simpa using h1
 have et:Ap w n = (⟨n,w.getD n 0,(AJ wd).1,seg w (n + 2) (AJ wd).1.refs,seg w (n + 2 + (AJ wd).1.refs) (AJ wd).1.nums⟩,true):=by
  unfold Ap;rw[if_pos h0,Yj,hwd];simp only[h1];rfl
 simp only[z_b] at h1;obtain⟨q0,q1,q2,q3,q4⟩:=Fg h1.1;obtain⟨-,q5,-,-⟩:=Eg h1.2;rw[et];generalize (AJ wd).1 = sh at q0 q1 q2 q3 q4 q5 ⊢;rw[q4] at q5;have en:w[(n:Int).toNat]'(ω) = w.getD n 0:=by
  simp only[Yj];rw[Ym,Yi ω];rfl
 refine jad (jl (v:=I sh.refs) rfl (jad (VH h ω ω λq hq=>?_)));rw[en] at hq;refine hq _ _ ?_;refine jla (l:=[I sh.refs,I sh.nums]) σ rfl (YK h ω ω ω λv1 hv1=>?_);refine jl (v:=I sh.nums) rfl (jad (YK h ω ω ω λv2 hv2=>?_));have l1:((w.take ((n:Int) + 2 + sh.refs).toNat).drop ((n:Int) + 2).toNat) = seg w (n + 2) sh.refs:=by
  unfold seg;rw[aU];congr 1;omega
 have l2:((w.take ((n:Int) + 2 + sh.refs + sh.nums).toNat).drop ((n:Int) + 2 + sh.refs).toNat) = seg w (n + 2 + sh.refs) sh.nums:=by
  unfold seg;rw[aU];congr 1;omega
 rw[l1] at hv1;rw[l2] at hv2;have ll1:(seg w (n + 2) sh.refs).length < 1000000:=by unfold seg;rw[Z5,ZS];omega
 have ll2:(seg w (n + 2 + sh.refs) sh.nums).length < 1000000:=by unfold seg;rw[Z5,ZS];omega
 refine jc (A:=[]) (Fx hv1 ll1) ?_;rintro x1 R1 A1 _ ⟨hR1,so1,-⟩;subst hR1;refine Af (hq _ _ jev) (Af (jla (l:=[I sh.refs,I sh.nums]) σ rfl jev) (Af (jl (v:=I sh.nums) rfl jev) ?_));refine jc (A:=[]) (Fx hv2 ll2) ?_;rintro x2 R2 A2 _ ⟨hR2,so2,-⟩;subst hR2;obtain⟨xa1,xc1,e1⟩:=so1.sln;obtain⟨xa2,xc2,e2⟩:=so2.sln;subst e1 e2;refine jbd (cs:=[I n,I (w.getD n 0),I sh.refs,I sh.nums,.slice xa1 (seg w (n + 2) sh.refs).length xc1,.slice xa2 (seg w (n + 2 + sh.refs) sh.nums).length xc2]) rfl rfl ?_;refine Af (hq _ _ jev) (Af (jla (l:=[I sh.refs,I sh.nums]) σ rfl jev) ?_);refine jS [I n,I (w.getD n 0),I sh.refs,I sh.nums,.slice xa1 (seg w (n + 2) sh.refs).length xc1,.slice xa2 (seg w (n + 2 + sh.refs) sh.nums).length xc2] ?_;refine jla (l:=[I n,I (w.getD n 0),I sh.refs,I sh.nums,.slice xa1 (seg w (n + 2) sh.refs).length xc1,.slice xa2 (seg w (n + 2 + sh.refs) sh.nums).length xc2]) (by exact z_n 6) rfl ?_;refine FG so2 λR3 hR3 hi2=>FG so1 λR4 hR4 hi1=>?_
 exact B9 (A:=[]) (hR3.trans hR4) ⟨rfl,_,⟨_,_,rfl,hi1,hi2.le hR4⟩,rfl⟩
theorem Fb {R:RM} {D:Chs} {va vb:Value} {la lb:List Int} (ha:BG R va la) (hb:BG R vb lb) (h1:la.length < 1000000) (h2:lb.length < 1000000):Ro LH [va,vb] (.bool (la == lb)) R D:=by
 refine Pj λF=>?_
 refine z_2 ?_;refine C4 ha.sl (C4 hb.sl (jne (jif (λh=>?_) (λh=>?_))))
 ·have h:(la.length:Int)≠lb.length:=by simpa using h
  refine BU ?_;congr 1;rw[eq_comm,beq_eq_false_iff_ne];intro e;rw[e] at h;exact h rfl
 have hl:la.length = lb.length:=by
  have:((la.length:Int) != lb.length) = false:=h;rw[bne_eq_false_iff_eq] at this;omega
 refine jlp (λm vs R' D'=>R' = R∧D' = D ++ F∧∃i:Nat,i≤la.length∧vs = [va,vb,I i]∧la.take i = lb.take i∧m = la.length - i) (n:=la.length) ⟨rfl,rfl,0,ω,rfl,σ,ω⟩ ?_;rintro m e R1 D1 K ⟨hR,hD,i,hi,he,heq,hm⟩ hK;subst hR;refine z_W ?_;refine C4 ha.sl (jlt (jif (λhc=>?_) (λhc=>?_)));rotate_left
 ·have hc:=z_g hc;refine BU ?_;rw[Ys ω,Ys ω] at heq;rw[heq];simp
 have hc:i < la.length:=by have:=z_f hc;omega
 refine CE ha ω ω (CE hb ω ω (jne ?_));simp only[Yj];refine jif (λhd=>?_) (λhd=>?_)
 ·have hd:la[i]≠lb[i]:=by simpa using hd
  refine BU ?_;congr 1;rw[eq_comm,beq_eq_false_iff_ne];intro e;subst e;exact hd rfl
 ·have hd:la[i] = lb[i]:=by simpa using hd
  refine jad ?_;refine hK (la.length - (i + 1)) _ _ _ ω ⟨rfl,rfl,i + 1,ω,rfl,?_,rfl⟩;rw[Yp hc,Yp (by omega:i < lb.length),heq,hd]
theorem VM:(P.fieldsOf 60).toList.map (λf=>(f.name != "_",f.type,f.offset)) = [(true,AX,0),(true,AX,1)]:=by kernel_rfl
def Cod (R:RM) (v:Value):Prop:=∃n,Bsl R v n
theorem WW {a b:Shp} {x y:Operand} {R:RM} {D:Chs} {k:Value→M} (H:J R D (k (.bool (!(a == b))))):J R D (X P (do eqGuard .neq 60 x y (.agg #[I a.refs,I a.nums]) (.agg #[I b.refs,I b.nums]);binOp .neq 60 (.agg #[I a.refs,I a.nums]) (.agg #[I b.refs,I b.nums])) k):=by
 intro h hs w hw;have hfs:=VM;rw[ZA,run_eqGuard_agg _ _ _ _ _ _ _ (by kernel_rfl)];simp only[Yw];rw[run_neq_struct,run_equalIn_struct w 9999 60 _ _ (by kernel_rfl) (by kernel_rfl)];rw[Nw 9998 w [I a.refs,I a.nums] [I b.refs,I b.nums] _ [0,1] [a.refs,a.nums] [b.refs,b.nums] hfs rfl rfl];simp only[Yw];have:([a.refs,a.nums] == [b.refs,b.nums]) = (a == b):=by
  rw[Zb];obtain⟨a1,a2⟩:=a;obtain⟨b1,b2⟩:=b;simp
 rw[this];subst hw;exact⟨BK.refl _,H _ hs⟩
structure Blk (w w' : World):Prop where
 same:BK w w'
 block:∀k,k < w.heap.size→w'.heap[k]? = w.heap[k]?
theorem Blk.frame {W w' : World} (h:Blk W w') (may:MemPlace→Prop):W.keptBut w' may:=by
 refine⟨h.same.1,h.same.2,λi hi=>?_⟩;rw[h.block i hi];split<;>simp_all
theorem Blk.at_ {W w' : World} (h:Blk W w') {p:MemPlace} (hp:p.block < W.heap.size):W.sameAt w' p:=by
 cases p with
 | cell b o=>exact World.cell?_of_block (w:=W) (h.block b hp)
 | map b=>exact h.block b hp
def U0 (w:World) (a:Option Addr) (len cap:Nat) (zs:List Int):Prop:=
 (a = none∧len = 0∧cap = 0∧zs = [])∨
 ∃x,a = some x∧len≤cap∧zs.length = cap∧(∀i,i < zs.length→w.cell? (x.add i) = some (.int .u8 (zs.getD i 0)))∧∀n∈zs,(Lit.int .u8 n).wf = true
theorem WT {w:World} {a:Option Addr} {len cap:Nat} {zs:List Int} (h:U0 w a len cap zs):Cod (λb=>w.heap[b]?) (.slice a len cap):=by
 rcases h with ⟨rfl,rfl,rfl,rfl⟩ | ⟨x,rfl,hl,hz,hcell,hwz⟩
 ·exact⟨0,none,0,rfl,z_n _,.inl rfl⟩
 ·by_cases h0:len = 0
  ·exact⟨len,some x,cap,rfl,hl,.inl h0⟩
  ·obtain⟨b,off,spot⟩:=x;have hc:=hcell 0 ω;have hspot:spot = none:=by simpa [Addr.add] using World.cell?_spot hc
   subst hspot;refine⟨len,_,cap,rfl,hl,.inr ⟨b,off,rfl,λi hi=>?_⟩⟩;have hi' : i < zs.length:=ω
   have hc:=hcell i hi';have hw:=hwz (zs.getD i 0) (by simp[List.getD,hi']);rw[show (⟨b,off,none⟩:Addr).add i = ⟨b,off + i,none⟩ by simp[Addr.add],Qm] at hc;unfold Go.Lf.hc at hc;split at hc
   ·rename_i cs t fz hb;refine⟨t,cs,fz,_,hb,hc,?_⟩;have hr:∀n:Int,(Lit.int .u8 n).wf = true→0≤n∧n < 256:=λn hn=>by
     have h2:(decide (0≤n) && decide (n≤255)) = true:=hn;simp only[z_b,z_d] at h2;omega
    exact hr _ hw
   ·cases hc
theorem Tp {f:Nat} (hw:∀(R:RM) (v:Value),Cod R v→Fn P f [v] R [] (λx _ A=>x = .bool true∧A = [])) {w:World} {a:Option Addr} {len cap:Nat} {zs:List Int} (h:U0 w a len cap zs) :
  Calls P f #[.slice a len cap] w λe w'=>e = .returned (.bool true)∧Blk w w':=by
 have h1:=hw _ _ (WT h) [] w.heap ⟨λb o hb=>hb,(λb o hm=>by cases hm),List.nodup_nil⟩ w rfl;refine h1.mono ?_;rintro e w' ⟨v,rfl,hs,R',A',h2,h3,rfl,h4⟩;refine⟨rfl,hs,λk hk=>?_⟩;have:=h3.rd k _ (h2 k _ (aR hk));rw[this,aR hk]
theorem Qx:P.underlying 76 = some (.map 3 4):=by kernel_rfl
theorem EU:P.underlying 3 = some (.int .i64):=by kernel_rfl
theorem Yg (w:World):(zeroValue 4).run P w = .ok (.bool false) w:=by kernel_rfl
def MpI (o:Obj) (q:Int→Prop):Prop:=∃es clock,o = .map es clock∧(∀e∈es.toList,∃x,e.key = I x∧q x∧e.val = .bool true)∧∀x,q x→∃e∈es.toList,e.key = I x
section rules
variable {R:RM} {D:Chs} {k:Value→M}
theorem jXr {s:Sem Value} (H:∀h,St h R D→∀w:World,w.heap = h→∃v w',s.run P w = .ok v w'∧BK w w'∧∃D',St w'.heap R D'∧J R D' (k v)):J R D (X P s k):=by
 intro h hs w hw;have:=H h hs w hw;generalize s.run P w = r at this;obtain⟨v,w',rfl,h1,D',h2,h3⟩:=this;exact⟨h1,h3 _ h2⟩
theorem Wy (H:∀b o,MpI o (λ_=>False)→J R ((b,o) :: D) (k (.map (some b)))):J R D (X P (Instr.makeMap 76 none) k):=by
 intro h hs w hw;rw[show (Instr.makeMap 76 none).run P w = .ok (.map (some w.heap.size)) (w.alloc (.map #[] 0)) from rfl];subst hw;exact⟨⟨rfl,rfl⟩,H _ _ ⟨#[],0,rfl,σ,λ_ hx=>hx.elim⟩ _ hs.push⟩
theorem Qn {es:Array MapEntry} {q:Int→Prop} (h:∀e∈es.toList,∃x,e.key = I x∧q x∧e.val = .bool true):∀e∈es.toList,MapKept.IsKey (.int .i64) e.key:=λe he=>by
 obtain⟨x,hx,_⟩:=h e he;rw[hx];rfl
theorem X7 {w:World} {b:Nat} {o:Obj} {q:Int→Prop} {x:Int} {t:Bool} (hb:w.heap[b]? = some o) (hm:MpI o q) (ht:q x↔t = true):(Instr.lookup 76 (.map (some b)) (I x) false).run P w = .ok (.bool t) w:=by
 obtain⟨es,clock,rfl,h1,h2⟩:=hm;have hk:MapKept.IsKey (.int .i64) (I x):=rfl;have run:∃c,(Instr.lookup 76 (.map (some b)) (I x) false).run P w = .ok (.bool c) w∧(c = true↔q x):=by
  rcases MapKept.findNow_spec hk es.toList 0 (Qn h1) with ⟨f1,f2⟩ | ⟨j,e0,f1,f2,f3⟩
  ·refine⟨false,?_,⟨(λh=>by cases h),λhq=>?_⟩⟩
   ·simp[Instr.lookup,run_underlying Qx,MapKept.run_getObj_map hb,MapKept.run_checkKey EU hk,MapKept.run_findKey EU f1,Yg,Result.andThen]
   ·obtain⟨e,he,hx⟩:=h2 x hq;exact absurd hx (f2 e he)
  ·obtain⟨y,hy,hq,hv⟩:=h1 e0 (List.mem_of_getElem? f2);have:y = x:=by
    have:=hy.symm.trans f3;exact (Value.int.inj this).2
   subst this;refine⟨true,?_,⟨λ_=>hq,λ_=>rfl⟩⟩;simp[Instr.lookup,run_underlying Qx,MapKept.run_getObj_map hb,MapKept.run_checkKey EU hk,MapKept.run_findKey EU f1,hv,Result.andThen]
 obtain⟨c,hr,hc⟩:=run;have:c = t:=by
  have:=hc.trans ht;cases c<;>cases t<;>simp_all
 subst this;exact hr
theorem jlk {b:Nat} {o:Obj} {q:Int→Prop} {x:Int} {t:Bool} [a:At D b o] (hm:MpI o q) (ht:q x↔t = true) (H:J R D (k (.bool t))):J R D (X P (Instr.lookup 76 (.map (some b)) (I x) false) k):=
 @jXr R D k _ λh hs w hw=>⟨_,_,X7 (by rw[hw];exact (hs.at_ b _ a.m).1) hm ht,BK.refl _,D,by rw[hw];exact hs,H⟩
theorem WY {w:World} {b:Nat} {o:Obj} {q:Int→Prop} {x:Int} (hb:w.heap[b]? = some o) (hm:MpI o q):∃o',MpI o' (λy=>q y∨y = x)∧(do Instr.mapUpdate 76 (.map (some b)) (I x) (.bool true);pure undef).run P w = .ok U (ChangeMaps.setBlock w b o')∧(∀b',b'≠b→(ChangeMaps.setBlock w b o').heap[b']? = w.heap[b']?)∧(ChangeMaps.setBlock w b o').heap[b]? = some o':=by
 obtain⟨es,clock,rfl,h1,h2⟩:=hm;have hk:MapKept.IsKey (.int .i64) (I x):=rfl;have run:∃es' clock',(Instr.mapUpdate 76 (.map (some b)) (I x) (.bool true)).run P w = .ok () (ChangeMaps.setBlock w b (.map es' clock'))∧MpI (.map es' clock') (λy=>q y∨y = x):=by
  rcases MapKept.findNow_spec hk es.toList 0 (Qn h1) with ⟨f1,f2⟩ | ⟨j,e0,f1,f2,f3⟩
  ·refine⟨es.push ⟨I x,.bool true,clock⟩,clock + 1,?_,_,_,rfl,?_,?_⟩
   ·simp[Instr.mapUpdate,run_underlying Qx,MapKept.run_getObj_map hb,MapKept.run_checkKey EU hk,MapKept.run_findKey EU f1,MapKept.run_setObj_map _ hb,Result.andThen,ChangeMaps.setBlock]
   ·intro e he;simp only[Array.toList_push,ZB,Z8] at he;rcases he with he | rfl
    ·obtain⟨y,a1,a2,a3⟩:=h1 e he;exact⟨y,a1,.inl a2,a3⟩
    ·exact⟨x,rfl,.inr rfl,rfl⟩
   ·rintro y (hy | rfl)
    ·obtain⟨e,he,a1⟩:=h2 y hy;exact⟨e,by simp only[Array.toList_push,ZB];exact .inl he,a1⟩
    ·exact⟨⟨I y,.bool true,clock⟩,σ,rfl⟩
  ·have hj:es[j]? = some e0:=by rw[← Zh];exact f2
   have hlt:j < es.size:=(Zx.1 hj).1;obtain⟨x0,hx0,hq0,hv0⟩:=h1 e0 (List.mem_of_getElem? f2);have hx:x0 = x:=(Value.int.inj (hx0.symm.trans f3)).2;subst hx;refine⟨es.modify j (λe=>{ e with key:=I x0,val:=.bool true }),clock,?_,_,_,rfl,?_,?_⟩
   ·simp[Instr.mapUpdate,run_underlying Qx,MapKept.run_getObj_map hb,MapKept.run_checkKey EU hk,MapKept.run_findKey EU f1,hj,f3,MapKept.run_keyThatStays hk,MapKept.run_setObj_map _ hb,Result.andThen,ChangeMaps.setBlock]
   ·intro e he;obtain⟨i,hi⟩:=List.mem_iff_getElem?.1 he;rw[Zh,aF] at hi;split at hi
    ·rename_i hij;subst hij;rw[hj] at hi;cases hi;exact⟨x0,rfl,.inr rfl,rfl⟩
    ·obtain⟨y,a1,a2,a3⟩:=h1 e (by rw[← Zh] at hi;exact List.mem_of_getElem? hi);exact⟨y,a1,.inl a2,a3⟩
   ·intro y hy;have hy:q y:=by rcases hy with hy | rfl;exact hy;exact hq0
    obtain⟨e,he,a1⟩:=h2 y hy;obtain⟨i,hi⟩:=List.mem_iff_getElem?.1 he;rw[Zh] at hi;by_cases hij:j = i
    ·subst hij;rw[hj] at hi;cases hi;exact⟨{ e0 with key:=I x0,val:=.bool true },List.mem_of_getElem? (i:=j) (by rw[Zh,aF,if_pos rfl,hj];rfl),by show I x0 = I y;rw[← hx0];exact a1⟩
    ·exact⟨e,List.mem_of_getElem? (i:=i) (by rw[Zh,aF,if_neg hij];exact hi),a1⟩
 obtain⟨es',clock',hr,hq⟩:=run;have hst:=MapKept.heap_set (o':=.map es' clock') hb;exact⟨_,hq,by rw[ZA,hr];rfl,hst.2,hst.1⟩
theorem jmu {b:Nat} {o:Obj} {E:Chs} {q:Int→Prop} {x:Int} [t:Tk D b o E] (hm:MpI o q) (H:∀o',MpI o' (λy=>q y∨y = x)→J R ((b,o') :: E) (k U)):J R D (X P (do Instr.mapUpdate 76 (.map (some b)) (I x) (.bool true);pure undef) k):=
 @jXr R D k _ λh hs w hw=>(WY (w:=w) (x:=x) (by rw[hw];exact ((hs.perm t.p).at_ b _ (.head _)).1) hm).elim λo' h=>⟨U,_,h.2.1,⟨rfl,rfl⟩,_,(hs.perm t.p).turn (b:=b) (o:=o) (o':=o') h.2.2.2 (by rw[← hw];exact h.2.2.1),H _ h.1⟩
end rules
def lk (l:List (Int × Value)) (x:Int):Option Value:=(l.find? λp=>p.1 == x).map Prod.snd
def up (l:List (Int × Value)) (x:Int) (v:Value):List (Int × Value):=if (lk l x).isSome then l.map λp=>if p.1 = x then (x,v) else p else l ++ [(x,v)]
def pr (e:MapEntry):Value × Value:=(e.key,e.val)
def pk (p:Int × Value):Value × Value:=(I p.1,p.2)
def Mg (o:Obj) (l:List (Int × Value)):Prop:=∃es clock,o = .map es clock∧MapKept.Stamped es clock∧es.toList.map pr = l.map pk
theorem RA {es:List MapEntry} {l:List (Int × Value)} (h:es.map pr = l.map pk) {j:Nat} {e:MapEntry} (he:es[j]? = some e):∃p,l[j]? = some p∧e.key = I p.1∧e.val = p.2:=by
 have h1:(es.map pr)[j]? = some (pr e):=by rw[ZQ,he];rfl
 rw[h,ZQ] at h1;cases hl:l[j]? with
 | none=>rw[hl] at h1;cases h1
 | some p=>
  rw[hl] at h1;have h1:pk p = pr e:=Zc h1;exact⟨p,rfl,(congrArg Prod.fst h1).symm,(congrArg Prod.snd h1).symm⟩
theorem XJ {es:List MapEntry} {l:List (Int × Value)} (h:es.map pr = l.map pk) {e:MapEntry} (he:e∈es):∃p,p∈l∧e.key = I p.1∧e.val = p.2:=by
 obtain⟨j,hj⟩:=List.mem_iff_getElem?.1 he;obtain⟨p,h1,h2⟩:=RA h hj;exact⟨p,List.mem_of_getElem? h1,h2⟩
theorem RK {es:List MapEntry} {l:List (Int × Value)} (h:es.map pr = l.map pk) {p:Int × Value} (hp:p∈l):∃e,e∈es∧e.key = I p.1∧e.val = p.2:=by
 have:pk p∈es.map pr:=by rw[h];exact Zw hp
 obtain⟨e,h1,h2⟩:=ZK.1 this;exact⟨e,h1,congrArg Prod.fst h2,congrArg Prod.snd h2⟩
theorem Qk {es:Array MapEntry} {l:List (Int × Value)} (h:es.toList.map pr = l.map pk):∀e∈es.toList,MapKept.IsKey (.int .i64) e.key:=λe he=>by
 obtain⟨p,_,hk,_⟩:=XJ h he;rw[hk];rfl
theorem T4 {es:Array MapEntry} {clock:Nat} {l:List (Int × Value)} (hs:MapKept.Stamped es clock) (h:es.toList.map pr = l.map pk):(l.map Prod.fst).Nodup:=by
 have h1:=((MapKept.stamped_iff _ _).1 hs).2.2;have h2:(es.toList.map (·.key)).Nodup:=am.2 h1;have h3:es.toList.map (·.key) = (l.map Prod.fst).map I:=by
  have:=congrArg (List.map Prod.fst) h;simpa [List.map_map,Function.comp_def,pr,pk] using this
 rw[h3] at h2;exact (am.1 h2).imp λh e=>h (by rw[e])
theorem Mg.nd {o:Obj} {l:List (Int × Value)} (h:Mg o l):(l.map Prod.fst).Nodup:=by
 obtain⟨es,clock,_,hs,h⟩:=h;exact T4 hs h
theorem Ma {l:List (Int × Value)} {x:Int}:lk l x = none↔∀p∈l,p.1≠x:=by
 unfold lk;rw[Option.map_eq_none_iff,List.find?_eq_none];simp
theorem Mf:∀{l:List (Int × Value)},(l.map Prod.fst).Nodup→∀{p:Int × Value},p∈l→lk l p.1 = some p.2
 | a :: l,hn,p,hp=>by
  rw[ZX,Zj] at hn;unfold lk;rcases Yx.1 hp with rfl | hp
  ·rw[ae σ];rfl
  ·have:a.1≠p.1:=λe=>hn.1 (e▸Zw hp)
   rw[aQ (by simpa using this)];exact Mf hn.2 hp
def Li (R:RM) (D:Chs) (b:Nat) (o:Obj):Prop:=∀h,St h R D→h[b]? = some o
theorem Li.fz {R:RM} {D:Chs} {b:Nat} {o:Obj} (h:R b = some o):Li R D b o:=λ_ hs=>hs.rd _ _ h
theorem Li.at {R:RM} {D:Chs} {b:Nat} {o:Obj} [a:At D b o]:Li R D b o:=λ_ hs=>(hs.at_ _ _ a.m).1
section rules
variable {R:RM} {D:Chs} {k:Value→M}
theorem WG {t:Nat} (ht:∀w,(Instr.makeMap t none).run P w = .ok (.map (some w.heap.size)) (w.alloc (.map #[] 0))) (H:∀b o,Mg o []→J R ((b,o) :: D) (k (.map (some b)))):J R D (X P (Instr.makeMap t none) k):=by
 intro h hs w hw;rw[ht];subst hw;exact⟨⟨rfl,rfl⟩,H _ _ ⟨#[],0,rfl,MapKept.stamped_empty 0,rfl⟩ _ hs.push⟩
theorem Vw {w:World} {t e b:Nat} {o:Obj} {l:List (Int × Value)} {x:Int} {z:Value} (c:Bool) (ht:P.underlying t = some (.map 3 e)) (hz:∀w,(zeroValue e).run P w = .ok z w) (hb:w.heap[b]? = some o) (hm:Mg o l) :
  (Instr.lookup t (.map (some b)) (I x) c).run P w = .ok (if c then .tuple #[(lk l x).getD z,.bool (lk l x).isSome] else (lk l x).getD z) w:=by
 obtain⟨es,clock,rfl,hs,hl⟩:=hm;have hk:MapKept.IsKey (.int .i64) (I x):=rfl;rcases MapKept.findNow_spec hk es.toList 0 (Qk hl) with ⟨f1,f2⟩ | ⟨j,e0,f1,f2,f3⟩
 ·have:lk l x = none:=Ma.2 λp hp e=>by
   obtain⟨e1,h1,h2,_⟩:=RK hl hp;exact f2 e1 h1 (by rw[h2,e])
  rw[this];cases c<;>simp[Instr.lookup,run_underlying ht,MapKept.run_getObj_map hb,MapKept.run_checkKey EU hk,MapKept.run_findKey EU f1,hz,Result.andThen]
 ·obtain⟨p,h1,h2,h3⟩:=RA hl f2;have hx:p.1 = x:=(Value.int.inj (h2.symm.trans f3)).2;have:lk l x = some e0.val:=by
   rw[← hx,h3];exact Mf (T4 hs hl) (List.mem_of_getElem? h1)
  rw[this];cases c<;>simp[Instr.lookup,run_underlying ht,MapKept.run_getObj_map hb,MapKept.run_checkKey EU hk,MapKept.run_findKey EU f1,Result.andThen]
theorem Un {t e b:Nat} {o:Obj} {l:List (Int × Value)} {x:Int} {z:Value} (c:Bool) (a:Li R D b o) (ht:P.underlying t = some (.map 3 e)) (hz:∀w,(zeroValue e).run P w = .ok z w) (hm:Mg o l)
  (H:J R D (k (if c then .tuple #[(lk l x).getD z,.bool (lk l x).isSome] else (lk l x).getD z))):J R D (X P (Instr.lookup t (.map (some b)) (I x) c) k):=
 @jXr R D k _ λh hs w hw=>⟨_,_,Vw c ht hz (by rw[hw];exact a _ hs) hm,BK.refl _,D,by rw[hw];exact hs,H⟩
theorem V8 {w:World} {t e b:Nat} {o:Obj} {l:List (Int × Value)} {x:Int} {v:Value} (ht:P.underlying t = some (.map 3 e)) (hb:w.heap[b]? = some o) (hm:Mg o l) :
  ∃o',Mg o' (up l x v)∧(do Instr.mapUpdate t (.map (some b)) (I x) v;pure undef).run P w = .ok U (ChangeMaps.setBlock w b o')∧(∀b',b'≠b→(ChangeMaps.setBlock w b o').heap[b']? = w.heap[b']?)∧(ChangeMaps.setBlock w b o').heap[b]? = some o':=by
 obtain⟨es,clock,rfl,hs,hl⟩:=hm;have hk:MapKept.IsKey (.int .i64) (I x):=rfl;have run:∃es' clock',(Instr.mapUpdate t (.map (some b)) (I x) v).run P w = .ok () (ChangeMaps.setBlock w b (.map es' clock'))∧Mg (.map es' clock') (up l x v):=by
  rcases MapKept.findNow_spec hk es.toList 0 (Qk hl) with ⟨f1,f2⟩ | ⟨j,e0,f1,f2,f3⟩
  ·have hn:lk l x = none:=Ma.2 λp hp e=>by
    obtain⟨e1,h1,h2,_⟩:=RK hl hp;exact f2 e1 h1 (by rw[h2,e])
   refine⟨es.push ⟨I x,v,clock⟩,clock + 1,?_,_,_,rfl,MapKept.stamped_push hs (λy hy=>f2 y hy),?_⟩
   ·simp[Instr.mapUpdate,run_underlying ht,MapKept.run_getObj_map hb,MapKept.run_checkKey EU hk,MapKept.run_findKey EU f1,MapKept.run_setObj_map _ hb,Result.andThen,ChangeMaps.setBlock]
   ·unfold up;rw[if_neg (by rw[hn];simp),Array.toList_push,Zf,Zf,hl];rfl
  ·have hj:es[j]? = some e0:=by rw[← Zh];exact f2
   have hf:∀e,es[j]? = some e→({ e with key:=I x,val:=v }:MapEntry).key = e.key:=λe h=>by
    rw[hj] at h;cases h;exact f3.symm
   obtain⟨p,h1,h2,h3⟩:=RA hl f2;have hx:p.1 = x:=(Value.int.inj (h2.symm.trans f3)).2;have nd:=T4 hs hl;have hsm:(lk l x).isSome:=by rw[← hx,Mf nd (List.mem_of_getElem? h1)];rfl
   refine⟨es.modify j (λe=>{ e with key:=I x,val:=v }),clock,?_,_,_,rfl,MapKept.stamped_modify hs j _ (λe _=>rfl) (λe _ h=>hf e h),?_⟩
   ·simp[Instr.mapUpdate,run_underlying ht,MapKept.run_getObj_map hb,MapKept.run_checkKey EU hk,MapKept.run_findKey EU f1,hj,f3,MapKept.run_keyThatStays hk,MapKept.run_setObj_map _ hb,Result.andThen,ChangeMaps.setBlock]
   ·unfold up;rw[if_pos hsm];apply List.ext_getElem?;intro i;rw[ZQ,Zh,aF,ZQ,ZQ];by_cases hij:j = i
    ·subst hij;rw[if_pos rfl,hj,h1];simp only[aY,if_pos hx];rfl
    ·rw[if_neg hij,← Zh];have e1:=congrArg (λz=>z[i]?) hl;simp only[ZQ] at e1;rw[e1];cases hli:l[i]? with
     | none=>rfl
     | some q=>
      have:q.1≠x:=λe=>by
       have a1:(l.map Prod.fst)[i]? = some x:=by rw[ZQ,hli,← e];rfl
       have a2:(l.map Prod.fst)[j]? = some x:=by rw[ZQ,h1,← hx];rfl
       have l1:=(ZJ.1 a1).1;exact hij ((List.getElem?_inj l1 nd).1 (a1.trans a2.symm)).symm
      simp only[aY,if_neg this]
 obtain⟨es',clock',hr,hq⟩:=run;have hst:=MapKept.heap_set (o':=.map es' clock') hb;exact⟨_,hq,by rw[ZA,hr];rfl,hst.2,hst.1⟩
theorem XH {t e b:Nat} {o:Obj} {E:Chs} {l:List (Int × Value)} {x:Int} {v:Value} [tk:Tk D b o E] (ht:P.underlying t = some (.map 3 e)) (hm:Mg o l) (H:∀o',Mg o' (up l x v)→J R ((b,o') :: E) (k U)):J R D (X P (do Instr.mapUpdate t (.map (some b)) (I x) v;pure undef) k):=
 @jXr R D k _ λh hs w hw=>(V8 (w:=w) (x:=x) (v:=v) ht (by rw[hw];exact ((hs.perm tk.p).at_ b _ (.head _)).1) hm).elim λo' h=>⟨U,_,h.2.1,⟨rfl,rfl⟩,_,(hs.perm tk.p).turn (b:=b) (o:=o) (o':=o') h.2.2.2 (by rw[← hw];exact h.2.2.1),H _ h.1⟩
def ItG (m:Nat) (o it:Obj) (rem:List (Int × Value)) (cur:Option (Int × Value)):Prop:=
 ∃es clock seen,o = .map es clock∧it = .mapIter (some m) clock seen clock∧(es.toList.filter λe=>!seen.contains e.born).map pr = rem.map pk∧
  match cur with | none=>True | some p=>∃e∈es.toList,seen.back? = some e.born∧e.key = I p.1∧e.val = p.2
theorem XZ {t e b:Nat} {o:Obj} {l:List (Int × Value)} (a:Li R D b o) (ht:P.underlying t = some (.map 3 e)) (hm:Mg o l)
  (H:∀ib it,ItG b o it l none→J R ((ib,it) :: D) (k (Pt ib))):J R D (X P (Instr.range t (.map (some b))) k):=by
 obtain⟨es,clock,rfl,hs,hl⟩:=hm;refine @jXr R D k _ λh hst w hw=>⟨.pointer (some ⟨w.heap.size,0,none⟩),w.alloc (.mapIter (some b) clock #[] clock),?_,⟨rfl,rfl⟩,_,?_,H _ _ ⟨es,clock,#[],rfl,rfl,?_,trivial⟩⟩
 ·have hb:w.heap[b]? = some (.map es clock):=by rw[hw];exact a _ hst
  simp[Instr.range,run_underlying ht,MapKept.run_getObj_map hb,Result.andThen]
 ·subst hw;exact hst.push
 ·rw[← hl,List.filter_eq_self.2 σ]
theorem IS {w:World} {r:Nat} {m since stepped:Nat} {seen:Array Nat} (hb:w.heap[r]? = some (.mapIter (some m) since seen stepped)):(getObj r).run P w = .ok (.mapIter (some m) since seen stepped) w:=by
 simp only[getObj,Sem.run,hb]
theorem SB {w:World} {r:Nat} {m since stepped:Nat} {seen:Array Nat} (o:Obj) (hb:w.heap[r]? = some (.mapIter (some m) since seen stepped)):(setObj r o).run P w = .ok () { w with heap:=w.heap.setIfInBounds r o }:=by
 simp only[setObj,Sem.run,hb]
theorem RP {α:Type}:∀(l:List α) (i:Nat) (h:i < l.length),l.Perm (l[i] :: l.eraseIdx i)
 | a :: l,0,_=>σ
 | a :: l,i + 1,h=>by
  rw[ab,List.eraseIdx_cons_succ];exact ((RP l i (by simpa using h)).cons a).trans (aI _ _ _)
theorem PL {α β:Type} (f:α→β):∀(l:List α) (i:Nat),(l.eraseIdx i).map f = (l.map f).eraseIdx i
 | [],i=>σ
 | a :: l,0=>σ
 | a :: l,i + 1=>by simp[PL f l i]
theorem Y4 {b ib:Nat} {o it:Obj} {E:Chs} {l rem:List (Int × Value)} {cur:Option (Int × Value)} [tk:Tk D ib it E] (a:Li R D b o) (hm:Mg o l) (hi:ItG b o it rem cur)
  (H0:rem = []→J R D (k (.tuple #[.bool false])))
  (H1:∀p rem' it',rem.Perm (p :: rem')→ItG b o it' rem' (some p)→J R ((ib,it') :: E) (k (.tuple #[.bool true,I p.1,p.2]))):J R D (X P (Instr.next (Pt ib) false 0) k):=by
 obtain⟨es,clock,seen,rfl,rfl,hr,_⟩:=hi;obtain⟨es',clock',he,hs,hl⟩:=hm;cases he;intro h hst w hw;subst hw;have hb:=a _ hst;have hib:=((hst.perm tk.p).at_ ib _ (.head _)).1;have hse:(!seen.isEmpty && !es.isEmpty && es.all (λx=>decide (x.born≥clock))) = false:=by
  cases hes:es.isEmpty with
  | true=>simp
  | false=>
   have hne:es≠#[]:=by simpa using hes
   have hsz:0 < es.size:=Array.size_pos_iff.2 hne;have:es.all (λx=>decide (x.born≥clock)) = false:=by
    rw[Zt];intro Bx;have h1:=Array.all_eq_true.1 Bx 0 hsz;have h2:=hs.1 es[0] σ;have h1:=z_f h1;omega
   simp[this]
 have hold:∀x∈(es.filter λe=>!seen.contains e.born).toList,x.born < clock:=λx hx=>by
  rw[Array.toList_filter] at hx;exact hs.1 x (Ze.1 hx).1
 generalize hL:es.filter (λe=>!seen.contains e.born) = L at hold;have hL' : L.toList = es.toList.filter λe=>!seen.contains e.born:=by rw[← hL,Array.toList_filter]
 have e1:L.filter (λx=>decide (x.born < clock)) = L:=by
  apply Array.toList_inj.1;rw[Array.toList_filter,List.filter_eq_self];exact λx hx=>decide_eq_true (hold x hx)
 have e2:L.filter (λx=>decide (x.born≥clock)) = #[]:=by
  apply Array.toList_inj.1;rw[Array.toList_filter,List.filter_eq_nil_iff.2];intro x hx;have:=hold x hx;simp;omega
 by_cases h0:L = #[]
 ·have hre:rem = []:=by
   rw[← hL',h0] at hr;exact List.map_eq_nil_iff.1 hr.symm
  have run:(Instr.next (Pt ib) false 0).run P w = .ok (.tuple #[.bool false]) w:=by
   simp only[Instr.next,ZA,IS hib,Result.andThen,MapKept.run_getObj_map hb,hse,hL,e1,e2];subst h0;simp[choose,Sem.run,Question.forced]
  rw[run];exact⟨BK.refl _,H0 hre w.heap hst⟩
 ·have hpos:0 < L.size:=Array.size_pos_iff.2 h0;have run:∃i,∃hi:i < L.size,∃d,(Instr.next (Pt ib) false 0).run P w = .ok (.tuple #[.bool true,L[i].key,L[i].val]) { w with drawn:=d,heap:=w.heap.setIfInBounds ib (.mapIter (some b) clock (seen.push L[i].born) clock) }:=by
   have hemp:L.isEmpty = false:=by simpa using h0
   have hch:∃i,i < L.size∧∃d,(choose (.mapNext L.size)).run P w = .ok i { w with drawn:=d }:=by
    by_cases hf:L.size≤1
    ·exact⟨0,hpos,w.drawn,by simp[choose,Sem.run,Question.forced,hf]⟩
    ·exact⟨(w.tape w.drawn (.mapNext L.size)) % L.size,Nat.mod_lt _ hpos,w.drawn + 1,by simp[choose,Sem.run,Question.forced,hf,Question.cut]⟩
   obtain⟨i,hi,d,hc⟩:=hch;refine⟨i,hi,d,?_⟩;have hib' : ({ w with drawn:=d }:World).heap[ib]? = some (.mapIter (some b) clock seen clock):=hib;simp only[Instr.next,ZA,IS hib,Result.andThen,MapKept.run_getObj_map hb,hse,hL,e1,e2,hemp,ZE,if_false,Array.append_empty,Array.empty_append,Array.size_map,hc];have hg:(L.map some)[i]? = some (some L[i]):=by simp[hi]
   simp only[hg,ZA,SB _ hib',Result.andThen];rfl
  obtain⟨i,hi,d,hrun⟩:=run;rw[hrun];have hmem:L[i]∈es.toList:=by
   have:L[i]∈L.toList:=σ
   rw[hL'] at this;exact (Ze.1 this).1
  have hLl:L.toList[i]? = some L[i]:=by rw[Zh,aR hi]
  rw[← hL'] at hr;obtain⟨p,p1,p2,p3⟩:=RA hr hLl;have hst2:=MapKept.heap_set (w:=w) (r:=ib) (o':=.mapIter (some b) clock (seen.push L[i].born) clock) hib;have hil:i < rem.length:=(ZJ.1 p1).1;have hip:rem[i] = p:=(ZJ.1 p1).2;have hperm:rem.Perm (p :: rem.eraseIdx i):=by
   have:=RP rem i hil;rwa [hip] at this
  refine⟨⟨rfl,rfl⟩,?_⟩;rw[p2,p3];refine H1 p (rem.eraseIdx i) _ hperm ⟨es,clock,seen.push L[i].born,rfl,rfl,?_,L[i],hmem,σ,p2,p3⟩ _ ((hst.perm tk.p).turn (b:=ib) (o:=.mapIter (some b) clock seen clock) (o':=.mapIter (some b) clock (seen.push L[i].born) clock) hst2.1 hst2.2);have e3:(es.toList.filter λe=>!(seen.push L[i].born).contains e.born) = L.toList.eraseIdx i:=by
   have nb:(L.toList.map (·.born)).Nodup:=by
    rw[hL'];exact (List.Sublist.map _ List.filter_sublist).nodup hs.2.1
   have:(es.toList.filter λe=>!(seen.push L[i].born).contains e.born) = L.toList.filter λe=>!(e.born == L[i].born):=by
    rw[hL',List.filter_filter];congr 1;funext e;simp only[Array.contains_push];cases (seen.contains e.born)<;>cases h:(e.born == L[i].born)<;>simp_all
   rw[this];have key:∀(M:List MapEntry) (i:Nat) (hi:i < M.length),(M.map (·.born)).Nodup→(M.filter λe=>!(e.born == (M[i]).born)) = M.eraseIdx i:=by
    intro M;induction M with
    | nil=>intro i hi;cases hi
    | cons a M ih=>
     intro i hi hn;rw[ZX,Zj] at hn;cases i with
     | zero=>
      rw[List.filter_cons_of_neg σ];simp only[List.getElem_cons_zero,List.eraseIdx_zero,List.tail_cons];rw[List.filter_eq_self];intro x hx;have:x.born≠a.born:=λe=>hn.1 (e▸Zw hx)
      simpa using this
     | succ i=>
      simp only[ab,List.eraseIdx_cons_succ];have hi:i < M.length:=by simpa using hi
      have:a.born≠(M[i]).born:=λe=>hn.1 (e▸Zw (Yq hi))
      rw[List.filter_cons_of_pos (by simpa using this),ih i hi hn.2]
   have:=key L.toList i (by simpa using hi) nb;simpa using this
  rw[e3,PL,PL,hr]
theorem Xr {b ib:Nat} {o it:Obj} {l rem:List (Int × Value)} {p:Int × Value} [ai:At D ib it] (a:Li R D b o) (hm:Mg o l) (hi:ItG b o it rem (some p)) (H:J R D (k (.tuple #[I p.1,p.2]))):J R D (X P (Instr.entry (Pt ib)) k):=by
 obtain⟨es,clock,seen,rfl,rfl,hr,e,e1,e2,e3,e4⟩:=hi;obtain⟨es',clock',he,hs,hl⟩:=hm;cases he;refine @jXr R D k _ λh hst w hw=>⟨_,w,?_,BK.refl _,D,by rw[hw];exact hst,H⟩
 subst hw;have hb:=a _ hst;have hib:=(hst.at_ ib _ ai.m).1;have hf:es.find? (λx=>x.born == e.born) = some e:=by
  rw[← Array.find?_toList];have key:∀(M:List MapEntry),(M.map (·.born)).Nodup→e∈M→M.find? (λx=>x.born == e.born) = some e:=by
   intro M;induction M with
   | nil=>intro _ h;cases h
   | cons a M ih=>
    intro hn hm;rw[ZX,Zj] at hn;rcases Yx.1 hm with rfl | hm
    ·rw[ae σ]
    ·have:a.born≠e.born:=λx=>hn.1 (x▸Zw hm)
     rw[aQ (by simpa using this),ih hn.2 hm]
  exact key _ hs.2.1 e1
 simp[Instr.entry,IS hib,e2,MapKept.run_getObj_map hb,hf,e3,e4,Result.andThen]
end rules
end Go.Lf
end
section
namespace Go.Lf
open Go Sm
set_option maxHeartbeats 1000000 in
theorem Lm (x:Rg) {r:Int} (r0:0≤r) (r1:r < 12):Pu HE [.agg (eRg x).toArray,I r] (.bool (Hu r x)):=by
 intro R;refine Lb λF=>?_
 refine z_2 ?_;have hb:AH r = 16 * r:=CO r0 r1;refine ja λb=>jp (CK r) ?_
 rw[hb];have key:Hu r x = true↔(¬ x.kind < 1∧¬ x.kind > 4∧¬ x.top < 16 * r∧¬ x.top > 16 * r + 16∧¬ x.BE < 16 * r∧¬ x.BE > x.top∧¬ x.AO < 0∧¬ x.AO > x.top - 16 * r∧¬ (x.kind = 1∧x.top≠16 * r))∧(if x.kind = 2 then 0≤x.AV∧x.AV≤3 else x.AV = -1):=by
  unfold Hu;rw[hb];simp only[z_b,ZD,Z9,z_d,beq_iff_eq,beq_eq_false_iff_ne];by_cases h2:x.kind = 2
  ·rw[if_pos h2,h2];simp;omega
  ·rw[if_neg h2,show (x.kind == 2) = false from beq_eq_false_iff_ne.2 h2];by_cases ho:0≤x.AV
   ·simp[ho];omega
   ·simp[ho];omega
 have fin:∀{c:Bool} {D:Chs} [Sf D F],c = Hu r x→J R D (Ey R F (λv' _ _=>v' = .bool (Hu r x)) (.bool c)):=λ{c D} _ hc=>B9 (A:=[]) (RM.le.refl R) (by rw[hc])
 refine jor [Pt b,I (16 * r)] ((decide (x.kind < 1)) || (decide (x.kind > 4))) (λK' hK'=>?_) (λe c u ho he=>?_)
 ·refine jl (v:=I x.kind) rfl (jlt (BR (λh1=>?_) (λh1=>?_)))
  ·refine jl (v:=I x.kind) rfl (jgr (hK' _ _ _ (h1▸Ah) (by rw[h1,Yl])))
  ·exact hK' _ _ _ (h1▸Am) (by rw[h1,Yo])
 refine z_V ?_;obtain⟨B1,hB1⟩:∃B1,B1 = (decide (x.kind < 1) || decide (x.kind > 4)):=⟨_,rfl⟩;rw[← hB1] at ho;refine jor [Pt b,I (16 * r)] ((B1) || (decide (x.top < 16 * r))) (λK' hK'=>?_) (λe c u ho he=>?_)
 ·rw[ho];refine BR (λh1=>?_) (λh1=>?_)
  ·refine jl (v:=I x.top) rfl (jlt (hK' _ _ _ (h1▸Ah) (by rw[h1,Yl])))
  ·exact hK' _ _ _ (h1▸Am) (by rw[h1,Yo])
 refine z_V ?_;obtain⟨B2,hB2⟩:∃B2,B2 = (B1 || decide (x.top < 16 * r)):=⟨_,rfl⟩;rw[← hB2] at ho;refine jor [Pt b,I (16 * r)] ((B2) || (decide (x.top > 16 * r + 16))) (λK' hK'=>?_) (λe c u ho he=>?_)
 ·rw[ho];refine BR (λh1=>?_) (λh1=>?_)
  ·refine jl (v:=I x.top) rfl (jad (jgr (hK' _ _ _ (h1▸Ah) (by rw[h1,Yl]))))
  ·exact hK' _ _ _ (h1▸Am) (by rw[h1,Yo])
 refine z_V ?_;obtain⟨B3,hB3⟩:∃B3,B3 = (B2 || decide (x.top > 16 * r + 16)):=⟨_,rfl⟩;rw[← hB3] at ho;refine jor [Pt b,I (16 * r)] ((B3) || (decide (x.BE < 16 * r))) (λK' hK'=>?_) (λe c u ho he=>?_)
 ·rw[ho];refine BR (λh1=>?_) (λh1=>?_)
  ·refine jl (v:=I x.BE) rfl (jlt (hK' _ _ _ (h1▸Ah) (by rw[h1,Yl])))
  ·exact hK' _ _ _ (h1▸Am) (by rw[h1,Yo])
 refine z_V ?_;obtain⟨B4,hB4⟩:∃B4,B4 = (B3 || decide (x.BE < 16 * r)):=⟨_,rfl⟩;rw[← hB4] at ho;refine jor [Pt b,I (16 * r)] ((B4) || (decide (x.BE > x.top))) (λK' hK'=>?_) (λe c u ho he=>?_)
 ·rw[ho];refine BR (λh1=>?_) (λh1=>?_)
  ·refine jl (v:=I x.BE) rfl (jl (v:=I x.top) rfl (jgr (hK' _ _ _ (h1▸Ah) (by rw[h1,Yl]))))
  ·exact hK' _ _ _ (h1▸Am) (by rw[h1,Yo])
 refine z_V ?_;obtain⟨B5,hB5⟩:∃B5,B5 = (B4 || decide (x.BE > x.top)):=⟨_,rfl⟩;rw[← hB5] at ho;refine jor [Pt b,I (16 * r)] ((B5) || (decide (x.AO < 0))) (λK' hK'=>?_) (λe c u ho he=>?_)
 ·rw[ho];refine BR (λh1=>?_) (λh1=>?_)
  ·refine jl (v:=I x.AO) rfl (jlt (hK' _ _ _ (h1▸Ah) (by rw[h1,Yl])))
  ·exact hK' _ _ _ (h1▸Am) (by rw[h1,Yo])
 refine z_V ?_;obtain⟨B6,hB6⟩:∃B6,B6 = (B5 || decide (x.AO < 0)):=⟨_,rfl⟩;rw[← hB6] at ho;have hsub:B6 = false→inR (x.top - 16 * r):=λh=>by
  rw[hB6,hB5,hB4,hB3,hB2] at h;simp only[Z4,decide_eq_false_iff_not] at h;constructor<;>omega
 refine jor [Pt b,I (16 * r)] ((B6) || (decide (x.AO > x.top - 16 * r))) (λK' hK'=>?_) (λe c u ho he=>?_)
 ·rw[ho];refine BR (λh1=>?_) (λh1=>?_)
  ·refine jl (v:=I x.AO) rfl (jl (v:=I x.top) rfl (Pk (hsub h1) (jgr (hK' _ _ _ (h1▸Ah) (by rw[h1,Yl])))))
  ·exact hK' _ _ _ (h1▸Am) (by rw[h1,Yo])
 refine z_V ?_;rw[ho];refine jif (λh=>fin ?_) (λh=>?_)
 ·symm;rw[Zt];intro hk;obtain⟨⟨k1,k2,k3,k4,k5,k6,k7,k8,k9⟩,k10⟩:=key.1 hk;rw[hB6,hB5,hB4,hB3,hB2,hB1] at h;simp only[ZD,z_d] at h;omega
 rw[hB6,hB5,hB4,hB3,hB2,hB1] at h;simp only[Z4,decide_eq_false_iff_not] at h;obtain⟨⟨⟨⟨⟨⟨⟨k1,k2⟩,k3⟩,k4⟩,k5⟩,k6⟩,k7⟩,k8⟩:=h;clear ho hsub;refine jan [Pt b] ((x.kind == 1) && (x.top != 16 * r)) (λK' hK'=>?_) (λe c u ho he=>?_)
 ·refine jl (v:=I x.kind) rfl (jeq (Bt (λh1=>?_) (λh1=>?_)))
  ·refine jl (v:=I x.top) rfl (jne (hK' _ _ _ (h1▸Ax) (by rw[h1,Z2])))
  ·exact hK' _ _ _ (h1▸BB) (by rw[h1,Z3])
 refine z_V ?_;rw[ho];refine jif (λh=>fin ?_) (λh=>?_)
 ·symm;rw[Zt];intro hk;simp only[z_b,beq_iff_eq,bne_iff_ne] at h;exact (key.1 hk).1.2.2.2.2.2.2.2.2 h
 have k9:¬ (x.kind = 1∧x.top≠16 * r):=λhh=>by
  rw[show (x.kind == 1) = true from beq_iff_eq.2 hh.1,show (x.top != 16 * r) = true from bne_iff_ne.2 hh.2] at h;cases h
 refine jl (v:=I x.kind) rfl (jeq (jif (λh2=>?_) (λh2=>?_)))
 ·have h2:=eq_of_beq h2;refine jan [] ((decide (x.AV≥0)) && (decide (x.AV≤3))) (λK' hK'=>?_) (λe c u ho he=>?_)
  ·refine jl (v:=I x.AV) rfl (jge (Bt (λh1=>?_) (λh1=>?_)))
   ·refine jl (v:=I x.AV) rfl (jle (hK' _ _ _ (h1▸Ax) (by rw[h1,Z2])))
   ·exact hK' _ _ _ (h1▸BB) (by rw[h1,Z3])
  refine z_V ?_;rw[ho];refine fin ?_;rw[Zb,key,if_pos h2];simp only[z_b,z_d];exact⟨λh=>⟨⟨k1,k2,k3,k4,k5,k6,k7,k8,k9⟩,h⟩,λh=>h.2⟩
 ·have h2:=ne_of_beq_false h2;refine jl (v:=I x.AV) rfl (jeq (fin ?_));rw[Zb,key,if_neg h2];exact⟨λh=>⟨⟨k1,k2,k3,k4,k5,k6,k7,k8,k9⟩,eq_of_beq h⟩,λh=>beq_iff_eq.2 h.2⟩
theorem UB:Pu NV [] (.agg (eRg DO).toArray):=by
 intro R;refine UK λF=>?_
 refine z_0 ?_;refine ja λb=>jbd (cs:=eRg DO) rfl rfl (jS (eRg DO) (jla (l:=eRg DO) (by exact z_n 5) rfl ?_))
 exact B9 (A:=[]) (RM.le.refl R) rfl
theorem UZ (r:Int):Pu Ou [I r] (.agg (eRg ⟨1,-1,AH r,AH r,0⟩).toArray):=by
 intro R;refine Uo λF=>?_
 refine z_1 ?_;refine ja λb=>jp (CK r) (jbd (cs:=eRg ⟨1,-1,AH r,AH r,0⟩) rfl rfl (jS (eRg ⟨1,-1,AH r,AH r,0⟩) (jla (l:=eRg ⟨1,-1,AH r,AH r,0⟩) (by exact z_n 5) rfl ?_)))
 exact B9 (A:=[]) (RM.le.refl R) rfl
theorem MpI.iff {o:Obj} {q q' : Int→Prop} (h:MpI o q) (e:∀x,q x↔q' x):MpI o q':=by
 have:q = q':=funext λx=>propext (e x)
 rw[← this];exact h
section
variable {R:RM} {D:Chs} {t:List Rg} {sp:List Value} {b cap:Nat}
set_option maxHeartbeats 1000000 in
theorem OL (hl:t.length < 1000000) [a:At D b (C AI (Ac eRg t ++ sp))]:Ro JP [S0 b t.length cap] (.bool (BT t)) R D:=by
 refine Oi λF=>?_
 refine z_1 ?_;have nok:(TOk t→False)→Value.bool false = Value.bool (BT t):=λh=>by
  cases hh:BT t
  ·rfl
  ·exact (h (Bm.1 hh)).elim
 refine AR (λvs R' D'=>R' = R∧D' = D ++ F∧vs = [S0 b t.length cap,.bool ((decide ((t.length:Int) < 2) || decide ((t.length:Int) > 12)) || !(rv t 0 == DO))]) (λK hK=>?_) ?_
 ·refine jor [S0 b t.length cap] ((decide ((t.length:Int) < 2)) || (decide ((t.length:Int) > 12))) (λK' hK'=>?_) (λe c u ho he=>?_)
  ·refine jln (jlt (BR (λh1=>?_) (λh1=>?_)))
   ·refine jln (jgr (hK' _ _ _ (h1▸Ah) (by rw[h1,Yl])))
   ·exact hK' _ _ _ (h1▸Am) (by rw[h1,Yo])
  refine z_V ?_;refine AR (λvs R' D'=>R' = R∧D' = D ++ F∧(((decide ((t.length:Int) < 2) || decide ((t.length:Int) > 12)) = false∧∃h:0 < t.length,vs = [S0 b t.length cap,.bool false,.pointer (some ⟨b,0 + (0:Int).toNat * 5,none⟩),.agg (eRg (t[0])).toArray])∨((decide ((t.length:Int) < 2) || decide ((t.length:Int) > 12)) = true∧vs = [S0 b t.length cap,.bool true,U,U]))) (λK2 hK2=>?_) ?_
  ·rw[ho];refine BR (λh1=>?_) (λh1=>?_)
   ·have h1':=h1;simp only[Z4,decide_eq_false_iff_not] at h1';have h0:0 < t.length:=ω
    refine jia ω ω ?_;refine jla (l:=eRg (t[0])) (F6 h0) (DQ (f:=eRg) (w:=5) (λ_=>rfl) h0) ?_;exact hK2 _ _ _ ⟨rfl,rfl,.inl ⟨h1,h0,by rw[h1]⟩⟩
   ·exact hK2 _ _ _ ⟨rfl,rfl,.inr ⟨h1,by rw[h1]⟩⟩
  rintro e2 R2 D2 ⟨hR,hD,h⟩;subst hR;rw[hD];clear hD;rcases h with ⟨h1,h0,he⟩ | ⟨h1,he⟩
  ·refine z_V ?_;refine jff (jp UB (Af (jla (l:=eRg (t[0])) (F6 h0) (DQ (f:=eRg) (w:=5) (λ_=>rfl) h0) jev) ?_));refine @XI (t[0]) DO _ _ _ _ _ (EI ?_);refine hK _ _ _ ⟨rfl,rfl,?_⟩;rw[h1,Yl,show rv t 0 = t[0] from E5 h0]
  ·refine z_V ?_;refine jtf (Af jev (EA ?_));refine hK _ _ _ ⟨rfl,rfl,?_⟩;rw[h1,Yo]
 rintro e R2 D2 ⟨hR,hD,he⟩;subst hR;refine z_W ?_;clear hD;refine jif (λh0=>?_) (λh0=>?_)
 ·refine BU (nok λT=>?_);have n0:=T.n0;have n1:=T.n1;have e:=T.e;simp only[ZD,z_d,Z9,beq_eq_false_iff_ne] at h0;rcases h0 with (h | h) | h
  ·omega
  ·omega
  ·exact h e
 simp only[Z4,decide_eq_false_iff_not,ZM,beq_iff_eq] at h0;obtain⟨⟨n0,n1⟩,hedge⟩:=h0;refine @Wy _ _ _ λmb o hm=>jln ?_
 refine jlp (λn vs R' D'=>R' = R2∧∃(i:Nat) (o:Obj),D' = (mb,o) :: (D ++ F)∧i≤t.length∧vs = [.map (some mb),S0 b t.length cap,I t.length,I i]∧n = t.length - i∧MpI o (λy=>∃k:Nat,1≤k∧k < i∧(rv t k).AV = y)∧(∀k:Nat,1≤k→k < i→Hl k (rv t k)∧∀m:Nat,1≤m→m < k→0≤(rv t k).AV→(rv t m).AV≠(rv t k).AV))
  (n:=t.length) ⟨rfl,0,o,rfl,ω,rfl,rfl,hm.iff λx=>⟨λh=>h.elim,λ⟨k,_,h,_⟩=>ω⟩,λk h1 h2=>ω⟩ ?_
 clear hm;rintro n e R' D' K ⟨hR,i,o,hD,hi,he,hn,hm,hinv⟩ hK;subst hR;refine z_W ?_;clear hD;refine jlt (jif (λhc=>?_) (λhc=>?_));rotate_left
 ·have hc:=z_g hc;refine Aw [] (G:=D ++ F) (BU ?_);rw[Bm.2 ⟨ω,ω,hedge,λq q0 q1=>?_,λq s q0 q1 s0 s1 hoo heq=>?_⟩]
  ·have:=(hinv q.toNat ω ω).1;rwa [show ((q.toNat:Nat):Int) = q from ω] at this
  ·have h1:=(hinv q.toNat ω ω).2 s.toNat ω;have h2:=(hinv s.toNat ω ω).2 q.toNat ω;rw[show ((q.toNat:Nat):Int) = q from ω,show ((s.toNat:Nat):Int) = s from ω] at h1 h2;rcases Int.lt_trichotomy q s with c | c | c
   ·exact absurd heq (h2 ω (by rw[← heq];exact hoo))
   ·exact c
   ·exact absurd heq.symm (h1 ω hoo)
 have hc:=z_f hc;have hil:i < t.length:=ω
 have hrv:=E5 hil;refine AR (λvs R3 D3=>R3 = R'∧∃o',D3 = (mb,o') :: (D ++ F)∧MpI o' (λy=>∃k:Nat,1≤k∧k < i + 1∧(rv t k).AV = y)∧(∀k:Nat,1≤k→k < i + 1→Hl k (rv t k)∧∀m:Nat,1≤m→m < k→0≤(rv t k).AV→(rv t m).AV≠(rv t k).AV)∧vs = [.map (some mb),S0 b t.length cap,I t.length,I i]) (λK2 hK2=>?_) ?_;rotate_left
 ·rintro e3 R3 D3 ⟨hR,o',hD,hm',hinv',he⟩;subst hR;refine z_W ?_;clear hD;exact jad (hK (t.length - (i + 1)) _ _ _ ω ⟨rfl,i + 1,o',rfl,ω,rfl,rfl,hm',hinv'⟩)
 refine AR (λvs R3 D3=>R3 = R'∧∃o',D3 = (mb,o') :: (D ++ F)∧MpI o' (λy=>∃k:Nat,1≤k∧k < i + 1∧(rv t k).AV = y)∧(∀k:Nat,1≤k→k < i + 1→Hl k (rv t k)∧∀m:Nat,1≤m→m < k→0≤(rv t k).AV→(rv t m).AV≠(rv t k).AV)∧vs = [.map (some mb),S0 b t.length cap,I t.length,I i]) (λK3 hK3=>?_) ?_;rotate_left
 ·rintro e3 R3 D3 ⟨hR,o',hD,hm',hinv',he⟩;subst hR;refine z_W ?_;clear hD;exact hK2 _ _ _ ⟨rfl,o',rfl,hm',hinv',rfl⟩
 refine C5 hil (MI hil ?_);refine ja λb13=>jS (eRg (t[i])) (jeq (jif (λhz=>?_) (λhz=>?_)))
 ·have hz:=eq_of_beq hz;have hz:i = 0:=ω
  refine jk1 (F:=D ++ F) mb ?_;refine hK3 _ _ _ ⟨rfl,o,rfl,hm.iff λy=>⟨λ⟨k,h1,h2,h3⟩=>ω,λ⟨k,h1,h2,h3⟩=>ω⟩,λk h1 h2=>ω,rfl⟩
 have hz:=ne_of_beq_false hz;have hi1:1≤i:=ω
 obtain⟨sb,hsb⟩:∃sb:Bool,((∃k:Nat,1≤k∧k < i∧(rv t k).AV = (t[i]).AV)↔sb = true):=by
  by_cases h:∃k:Nat,1≤k∧k < i∧(rv t k).AV = (t[i]).AV
  ·exact⟨true,by simp[h]⟩
  ·exact⟨false,by simp[h]⟩
 refine jor [.map (some mb),Pt b13,S0 b t.length cap,I t.length,I i] (!Hu i (t[i]) || (decide ((t[i]).AV≥0) && sb)) (λK' hK'=>?_) (λe c u ho he=>?_)
 ·refine jla (l:=eRg (t[i])) (by exact z_n 5) rfl (jp (Lm (t[i]) ω ω) (BR (λh1=>?_) (λh1=>?_)))
  ·refine jl (v:=I (t[i]).AV) rfl (jge (Bt (λh2=>?_) (λh2=>?_)))
   ·refine jl (v:=I (t[i]).AV) rfl ?_;refine @jlk _ _ _ mb o _ _ sb _ hm hsb ?_;rw[h2];exact EA (hK' _ _ _ (h1▸Ah) (by rw[h1,h2];rfl))
   ·rw[h2];exact EI (hK' _ _ _ (h1▸Ah) (by rw[h1,h2];rfl))
  ·exact hK' _ _ _ (h1▸Am) (by rw[h1];rfl)
 refine z_V ?_;rw[ho];refine jif (λhv=>?_) (λhv=>?_)
 ·refine Aw [] (G:=D ++ F) (BU (nok λT=>?_));simp only[ZD,Z9,z_b,z_d] at hv;rcases hv with hv | ⟨hv1,hv2⟩
  ·have:=(IV ω ω).2 (T.row i ω ω);rw[hrv,hv] at this;cases this
  ·obtain⟨k,k1,k2,k3⟩:=hsb.2 hv2;have:=T.own i k ω ω ω ω (by rw[hrv];exact hv1) (by rw[hrv,k3]);omega
 ·simp only[Z4,ZM,aS,decide_eq_false_iff_not] at hv;obtain⟨hv1,hv2⟩:=hv;refine jl (v:=I (t[i]).AV) rfl ?_;refine @jmu _ _ _ mb o _ _ _ _ hm λo' hm'=>?_
  refine jk1 (F:=D ++ F) mb ?_;refine hK3 _ _ _ ⟨rfl,o',rfl,hm'.iff λy=>⟨?_,?_⟩,λk h1 h2=>?_,rfl⟩
  ·rintro (⟨k,h1,h2,h3⟩ | rfl)
   ·exact⟨k,h1,ω,h3⟩
   ·exact⟨i,hi1,ω,by rw[hrv]⟩
  ·rintro⟨k,h1,h2,h3⟩;by_cases hk:k = i
   ·subst hk;rw[hrv] at h3;exact .inr h3.symm
   ·exact .inl ⟨k,h1,ω,h3⟩
  ·by_cases hk:k = i
   ·subst hk;rw[hrv];refine⟨(IV ω ω).1 hv1,λm m1 m2 h0 heq=>?_⟩;rcases hv2 with hv2 | hv2
    ·omega
    ·have:=hsb.1 ⟨m,m1,m2,heq⟩;rw[hv2] at this;cases this
   ·exact hinv k h1 ω
end
theorem Vp {cs:List Value} {o:Nat} {v:Value} (h:o < cs.length):lay cs o [v] = cs.set o v:=by
 unfold lay;rw[List.set_eq_take_append_cons_drop,if_pos h];simp
theorem Wk {cs:List Value} {o f n:Nat} (h:o + n≤cs.length) (hf:f < n) (v:Value):lay cs (o + f) [v] = lay cs o (((cs.drop o).take n).set f v):=by
 rw[Vp ω];unfold lay;have hl:(((cs.drop o).take n).set f v).length = n:=by simp;omega
 apply List.ext_getElem?;intro i;rw[hl,aV,Yr];by_cases h1:i < o
 ·rw[Zg (by simp;omega),Zl,if_pos h1,if_neg ω]
 ·rw[Zy (by simp;omega)];have e:(cs.take o).length = o:=by simp;omega
  rw[e];by_cases h2:i < o + n
  ·rw[Zg (by rw[hl];omega),aV,Zl,ZY];by_cases h3:o + f = i
   ·rw[if_pos h3,if_pos ω,if_pos ω,if_pos (by simp;omega)]
   ·rw[if_neg h3,if_neg ω,if_pos ω];congr 1;omega
  ·rw[Zy (by rw[hl];omega),hl,ZY,if_neg ω];congr 1;omega
section
variable {R:RM} {D:Chs} {t:List Rg} {sp:List Value} {b cap:Nat}
end
theorem YN {f:Nat} {args:List Value} {v:Value} {R:RM} {D F:Chs} {k:Value→M} (hF:Ro f args v R D) (H:J R (D ++ F) (k v)):J R (D ++ F) (CA P f args k):=by
 intro h hs;refine FB ?_ (hF F h hs);rintro v' h' ⟨R',A',h1,h2,rfl,rfl⟩;exact H h' (h2.le h1)
section
variable {R:RM} {D:Chs} {t:List Rg} {sp:List Value} {b cap:Nat}
end
section
variable {R:RM} {D:Chs} {t:List Rg} {sp:List Value} {b cap:Nat}
end
theorem getD_some {w:List Int} {j:Nat} (h:j < w.length):w[j]? = some (w.getD j 0):=by
 rw[Ym,Yi h];rfl
theorem Vt {w q:List Int} {sp:List Value} {m z:Nat} (hq:q.length = z) (hm:m + z≤w.length):lay (w.map I ++ sp) (0 + m * 1) (q.map I) = (w.take m ++ q ++ w.drop (m + z)).map I ++ sp:=by
 unfold lay;rw[Z6,Zo,Z1,hq,ZZ (by rw[Z1];omega),List.drop_append_of_le_length (by rw[Z1];omega)];simp[Zf,List.map_take,List.map_drop]
theorem En {R:RM} {D:Chs} {v:Value} {t:AU} {k:Value→M} (h:ThV R v t) (H:J R D (k (I (AF t.sh)))):J R D (CA P GU [v] k):=by
 refine jro (D:=D) (v:=I (AF t.sh)) ?_ H;refine KT λF=>?_
 refine z_1 ?_;obtain⟨rv,nv,rfl,hr,hn⟩:=h;refine ja λb=>jfo ?_
 refine jla (l:=[I t.sh.refs,I t.sh.nums]) (Z0 rfl) rfl (jp (HA t.sh) ?_);exact Aw [] (G:=D ++ F) (BU rfl)
theorem YF {f:Nat} {args:List Value} {v:Value} {R:RM} {D:Chs} {b:Nat} {o:Obj} {k:Value→M} (hb:R b = some o) (hF:∀R' : RM,R'.le R→Ro f args v R' [(b,o)]) (H:J R D (k v)):J R D (CA P f args k):=by
 intro h hs;have hne:∀c o',(c,o')∈D→c≠b:=λc o' hm e=>by
  have:=(hs.at_ c o' hm).2;rw[e,hb] at this;cases this
 have le:RM.le (λc=>if c = b then none else R c) R:=λc o' h=>by
  have h:(if c = b then none else R c) = some o':=h;split at h
  ·cases h
  ·exact h
 have hs2:St h (λc=>if c = b then none else R c) ((b,o) :: D):=by
  refine⟨λc o' h=>hs.rd c o' (le c o' h),λc o' hm=>?_,?_⟩
  ·rcases Yx.1 hm with e | hm
   ·cases e;exact⟨hs.rd _ _ hb,if_pos rfl⟩
   ·have:=hs.at_ c o' hm;exact⟨this.1,(if_neg (hne c o' hm)).trans this.2⟩
  ·rw[ZX,Zj];refine⟨λhm=>?_,hs.nd⟩;obtain⟨⟨c,o'⟩,h1,h2⟩:=ZK.1 hm;exact hne c o' h1 h2
 refine FB ?_ (hF _ le D h hs2);rintro v' h' ⟨R2,A,hR,hst,rfl,rfl⟩;refine H h' ⟨λc o' hc=>?_,λc o' hm=>⟨(hst.at_ c o' (ZG _ hm)).1,(hs.at_ c o' hm).2⟩,?_⟩
 ·by_cases e:c = b
  ·subst e;rw[hb] at hc;cases hc;exact (hst.at_ _ _ (.head _)).1
  ·exact hst.rd c o' (hR c o' ((if_neg e).trans hc))
 ·have:=hst.nd;exact (Zj.1 this).2
set_option maxHeartbeats 1000000 in
theorem NU {R:RM} {wv:Value} {w:List Int} (r top:Int) (h:BG R wv w) (hl:w.length < 1000000) (hrn:∀x∈w,Rn x) :
  Fn P IH [wv,I r,I top] R [] (λv R' A=>A = []∧QTs (BN w r top) v R'):=by
 refine N4 λF=>?_
 refine z_3 ?_;have inn:∀a:Int,inR (w.getD (a.toNat + 1) 0):=λa=>by
  rw[Ym];cases hx:w[a.toNat + 1]? with
  | none=>exact⟨δ,δ⟩
  | some x=>exact hrn x (List.mem_of_getElem? hx)
 obtain⟨wa,wc,hwv⟩:=h.sl;have eq:(w.length:Int).tdiv 16 = (w.length / 16:Nat):=by rw[Zk ω];omega
 rw[hwv];have br:0≤AH r∧AH r≤176:=by unfold AH;split<;>omega
 refine jor [.slice wa w.length wc,I r,I top] ((!BM w.length) || (decide (r < 1))) (λK' hK'=>?_) (λe c u ho he=>?_)
 ·refine jp (GZ wa w.length wc ω) (BR (λh1=>?_) (λh1=>?_))
  ·refine jlt (hK' _ _ _ (h1▸Ah) (by rw[h1,Yl]))
  ·exact hK' _ _ _ (h1▸Am) (by rw[h1,Yo])
 refine z_V ?_;refine jor [.slice wa w.length wc,I r,I top] ((!BM w.length || decide (r < 1)) || (decide (r≥(w.length:Int).tdiv 16))) (λK' hK'=>?_) (λe c u ho he=>?_)
 ·rw[ho];refine BR (λh1=>?_) (λh1=>?_)
  ·refine jln (MX δ ⟨ω,ω⟩ (jge (hK' _ _ _ (h1▸Ah) (by rw[h1,Yl]))))
  ·exact hK' _ _ _ (h1▸Am) (by rw[h1,Yo])
 refine z_V ?_;refine jor [.slice wa w.length wc,I r,I top] ((!BM w.length || decide (r < 1) || decide (r≥(w.length:Int).tdiv 16)) || (decide (top < AH r))) (λK' hK'=>?_) (λe c u ho he=>?_)
 ·rw[ho];refine BR (λh1=>?_) (λh1=>?_)
  ·refine jp (CK r) (jlt (hK' _ _ _ (h1▸Ah) (by rw[h1,Yl])))
  ·exact hK' _ _ _ (h1▸Am) (by rw[h1,Yo])
 refine z_V ?_;refine jor [.slice wa w.length wc,I r,I top] ((!BM w.length || decide (r < 1) || decide (r≥(w.length:Int).tdiv 16) || decide (top < AH r)) || (decide (top > AH r + 16))) (λK' hK'=>?_) (λe c u ho he=>?_)
 ·rw[ho];refine BR (λh1=>?_) (λh1=>?_)
  ·refine jp (CK r) (jad (jgr (hK' _ _ _ (h1▸Ah) (by rw[h1,Yl]))))
  ·exact hK' _ _ _ (h1▸Am) (by rw[h1,Yo])
 refine z_V ?_;rw[ho];refine jif (λh0=>?_) (λh0=>?_)
 ·refine B9 (A:=[]) (RM.le.refl R) ⟨rfl,?_⟩;have:BN w r top = none:=by
   unfold BN;rw[if_neg];intro hh;simp only[ZD,Z9,z_d,z_b] at h0 hh;rw[eq] at h0;obtain⟨⟨⟨⟨g1,g2⟩,g3⟩,g4⟩,g5⟩:=hh;rw[g1] at h0;rcases h0 with (((h0 | h0) | h0) | h0) | h0
   ·exact absurd h0 δ
   all_goals omega
  rw[this];exact rfl
 simp only[Z4,ZM,decide_eq_false_iff_not] at h0;rw[eq] at h0;obtain⟨⟨⟨⟨g1,g2⟩,g3⟩,g4⟩,g5⟩:=h0;have et:BN w r top = As w 16 (AH r) top:=by
  unfold BN;rw[if_pos];simp only[z_b,z_d];exact⟨⟨⟨⟨g1,ω⟩,ω⟩,ω⟩,ω⟩
 rw[← hwv];refine AR (λvs R' D'=>R.le R'∧∃l tv A,BN w r top = some l∧(∃rows,Rw (ThC R') rows l∧SW Az 6 rows tv A)∧D' = A ++ ([] ++ F)∧vs = [tv]) (λK hK=>?_) ?_;rotate_left
 ·rintro e R1 D1 ⟨hR,l,tv,A,hl,⟨rows,hrw,so⟩,hD,he⟩;refine z_W ?_;refine jfw so (hrw.all λ_ _=>ThC.len) λR2 hR2 hfz=>?_
  refine B9 (A:=[]) (hR.trans hR2) ⟨rfl,?_⟩;rw[hl];exact⟨tv,⟨rows,hrw.mono λ_ _=>ThC.le hR2,hfz⟩,rfl⟩
 refine jp (CK r) ?_;refine AR (λvs R' D'=>R.le R'∧∃l tv A,BN w r top = some l∧(∃rows,Rw (ThC R') rows l∧SW Az 6 rows tv A)∧D' = A ++ ([] ++ F)∧vs = [tv]) (λK2 hK2=>?_) ?_;rotate_left
 ·rintro e R1 D1 ⟨hR,l,tv,A,hl,so,hD,he⟩;refine z_W ?_;exact hK _ _ _ ⟨hR,l,tv,A,hl,so,rfl,rfl⟩
 refine jlp (λm vs R' D'=>R.le R'∧∃(a:Int) (l:List AU) (tv:Value) (A:Chs) (rows:List (List Value)),m≤16∧AH r + 2 * (16 - m)≤a∧a≤top∧l.length≤16 - m∧(match As w m a top with | none=>none | some l2=>some (l ++ l2)) = BN w r top∧Rw (ThC R') rows l∧SW Az 6 rows tv A∧D' = A ++ ([] ++ F)∧vs = [wv,I top,tv,I a])
  (n:=16) ⟨RM.le.refl R,AH r,[],SN,[],[],ω,ω,ω,σ,by rw[et];cases As w 16 (AH r) top<;>rfl,Rw.nil,.inl ⟨rfl,rfl,rfl⟩,rfl,rfl⟩ ?_
 rintro m e R1 D1 K3 ⟨hR,a,l,tv,A,rows,hm,ha,hat,hll,hth,hrw,so,hD,he⟩ hK3;refine z_W ?_;have h1:=h.le hR;refine jlt (jif (λhc=>?_) (λhc=>?_));rotate_left
 ·have hc:=z_g hc;refine hK2 _ _ _ ⟨hR,l,tv,A,?_,⟨rows,hrw,so⟩,rfl,rfl⟩;rw[← hth];cases m<;>(unfold As;rw[if_neg hc];simp)
 have hc:=z_f hc;obtain⟨m,rfl⟩:∃k,m = k + 1:=⟨m - 1,ω⟩;unfold As at hth;rw[if_pos hc] at hth;dsimp only at hth;obtain⟨sz1,sz2⟩:=Hb (Ap w a).1.sh;have tsz:=@HG w a;refine jc (A:=[]) (GQ a h1 hl (inn a)) ?_;rintro _ R2 _ hR2 ⟨rfl,x,⟨rv,nv,rfl,hrv,hnv⟩,rfl⟩;generalize Ap w a = t at hth hrv hnv sz1 sz2 tsz ⊢;obtain⟨t,tb⟩:=t;dsimp only at hth hrv hnv sz1 sz2 tsz ⊢;obtain⟨ra,rc,rfl⟩:=hrv.sl;obtain⟨na,nc,rfl⟩:=hnv.sl;refine jex rfl (jex rfl (ja λb=>?_));refine jS (eTh t (.slice ra t.refs.length rc) (.slice na t.nums.length nc)) ?_;refine jor [wv,I top,tv,I a,Pt b] ((!tb) || (decide (a + AF t.sh > top))) (λK' hK'=>?_) (λe c u ho he=>?_)
 ·refine BR (λh1=>?_) (λh1=>?_)
  ·refine jla (t:=Az) (cs:=eTh t (.slice ra t.refs.length rc) (.slice na t.nums.length nc)) (l:=eTh t (.slice ra t.refs.length rc) (.slice na t.nums.length nc)) (by exact z_n 6) rfl (En ⟨_,_,rfl,hrv,hnv⟩ (jad (jgr (hK' _ _ _ (h1▸Ah) (by rw[h1,Yl])))))
  ·exact hK' _ _ _ (h1▸Am) (by rw[h1,Yo])
 refine z_V ?_;rw[ho];refine jif (λh0=>?_) (λh0=>?_)
 ·refine B9 (A:=[]) (hR.trans hR2) ⟨rfl,?_⟩;have:BN w r top = none:=by
   rw[← hth,if_neg];intro hh;simp only[ZD,Z9,z_d,z_b] at h0 hh;rcases h0 with h0 | h0
   ·rw[h0] at hh;exact absurd hh.1 δ
   ·omega
  rw[this];exact rfl
 simp only[Z4,ZM,decide_eq_false_iff_not] at h0;obtain⟨h2,h3⟩:=h0;rw[if_pos (by rw[h2];simp;omega)] at hth;have tsz:=tsz h2;refine jla (l:=eTh t (.slice ra t.refs.length rc) (.slice na t.nums.length nc)) (by exact z_n 6) rfl ?_;refine jbs (cs:=eTh t (.slice ra t.refs.length rc) (.slice na t.nums.length nc)) rfl rfl λb4=>?_
 refine BI (D':=(b4,C Az (eTh t (.slice ra t.refs.length rc) (.slice na t.nums.length nc))) :: ((b,C Az (eTh t (.slice ra t.refs.length rc) (.slice na t.nums.length nc))) :: (A ++ ([] ++ F)))) (ZU _) ?_;refine Aw A (G:=(b4,C Az (eTh t (.slice ra t.refs.length rc) (.slice na t.nums.length nc))) :: (b,C Az (eTh t (.slice ra t.refs.length rc) (.slice na t.nums.length nc))) :: ([] ++ F)) ?_;have hx:BY R2 (A ++ ((b4,C Az (eTh t (.slice ra t.refs.length rc) (.slice na t.nums.length nc))) :: (b,C Az (eTh t (.slice ra t.refs.length rc) (.slice na t.nums.length nc))) :: ([] ++ F))) (some ⟨b4,0,none⟩) (1 * 6) [eTh t (.slice ra t.refs.length rc) (.slice na t.nums.length nc)].flatten:=BY.held (t:=Az) (cs:=eTh t (.slice ra t.refs.length rc) (.slice na t.nums.length nc)) (o:=0) (n:=1 * 6) (z_n 6);have hrl:=hrw.1;refine jaw so (hrw.all λ_ _=>ThC.len) (by intro r hr;rw[Z8.1 hr];rfl) rfl rfl rfl δ (by rw[Z7];omega) hx λv' A' so'=>?_
 refine jla (t:=Az) (cs:=eTh t (.slice ra t.refs.length rc) (.slice na t.nums.length nc)) (l:=eTh t (.slice ra t.refs.length rc) (.slice na t.nums.length nc)) (by exact z_n 6) rfl (En ⟨_,_,rfl,hrv,hnv⟩ (jad ?_));refine Aw A' (G:=[] ++ F) ?_;refine hK3 m _ _ _ ω ⟨hR.trans hR2,a + AF t.sh,l ++ [t],v',A',rows ++ [eTh t (.slice ra t.refs.length rc) (.slice na t.nums.length nc)],ω,ω,ω,by rw[Yk,Z7];omega,?_,(hrw.mono λ_ _=>ThC.le hR2).app (Rw.one ⟨_,_,rfl,hrv,hnv⟩),so',rfl,rfl⟩;rw[← hth];cases As w m (a + AF t.sh) top with
 | none=>rfl
 | some l2=>simp
end Go.Lf
end
section
namespace Sm
open Go.Lf
def Eb (s:Al):Bool:=BM s.AA.length && BT s.A0 && s.A0.length == s.AA.length / 16 && s.AK.length == s.AA.length
def Ee (s:Al):Option (List AU):=if Eb s then BJ s else none
def Di (s:Al) (a:Int):Bool:=decide (0≤AN a) && decide (AN a < s.A0.length) && (rv s.A0 (AN a)).kind == 4
def CD (s:Al) (l:List AU) (t:AU):Bool:=t.moved == t.at_ || match BL l t.moved with
 | none=>false
 | some n=>n.sh == t.sh && n.moved == n.at_ && !Di s n.at_ && Di s t.at_
def CY (s:Al) (l:List AU):Bool:=l.all (CD s l)
def F5 (t:Th):Bool:=decide (t.AC.length≤8) && decide (0≤t.Ai) && decide (t.Ai≤2)
def Dl (s:Al) (l:List AU) (a:Int):Bool:=match BL l a with
 | none=>false
 | some t=>t.moved == a && !Di s a
def CU (s:Al) (l:List AU):Bool:=CY s l && decide (0≤s.Ad) && decide (s.Ad≤3) && decide (1≤s.A6.length) && decide (s.A6.length≤3) && decide (s.AG.length≤8) && s.A6.all F5 && s.AG.all (Dl s l)
def Ci (s:Al):Option (List AU × List Int):=match Ee s with
 | none=>none
 | some l=>if CU s l then (DW s l).map λm=>(l,m) else none
def Da (s:Al):List Int:=s.A6.flatMap (·.AC) ++ s.AG
theorem P5 {w:List Int}:∀{n:Nat} {a top:Int} {l:List AU},As w n a top = some l→l.Pairwise (λx y=>x.at_ + AF x.sh≤y.at_)∧∀t∈l,a≤t.at_∧t.at_ + AF t.sh≤top∧2≤AF t.sh∧(Ap w t.at_) = (t,true)
 | 0,a,top,l,h=>by
  unfold As at h;split at h
  ·cases h
  ·cases h;exact⟨List.Pairwise.nil,λt ht=>by cases ht⟩
 | n + 1,a,top,l,h=>by
  unfold As at h;split at h;rotate_left
  ·cases h;exact⟨List.Pairwise.nil,λt ht=>by cases ht⟩
  dsimp only at h;split at h;rotate_left
  ·cases h
  rename_i h1 h2;simp only[z_b,z_d] at h2;have hs:=HG h2.1;have ha:(Ap w a).1.at_ = a:=by
   have:=h2.1;unfold Ap at this ⊢;split at this
   ·rename_i c1;rw[if_pos c1];dsimp only at this ⊢;split at this
    ·rename_i c2;rw[if_pos c2]
    ·cases this
   ·cases this
  cases ht:As w n (a + AF (Ap w a).1.sh) top with
  | none=>rw[ht] at h;cases h
  | some l2=>
   rw[ht] at h;cases h;obtain⟨i1,i2⟩:=P5 ht;refine⟨aL.2 ⟨λy hy=>by have:=i2 y hy;rw[ha];omega,i1⟩,λt ht=>?_⟩;rcases Yx.1 ht with rfl | ht
   ·exact⟨by rw[ha];omega,by rw[ha];exact h2.2,hs,by rw[ha,← h2.1]⟩
   ·have:=i2 t ht;exact⟨ω,this.2⟩
theorem Mw {w:List Int} {r:Nat} {top:Int} {l:List AU} (h:BN w r top = some l):l.Pairwise (λx y=>x.at_ + AF x.sh≤y.at_)∧∀t∈l,16 * (r:Int)≤t.at_∧t.at_ + AF t.sh≤top∧top≤16 * r + 16∧2≤AF t.sh∧Ap w t.at_ = (t,true):=by
 unfold BN at h;split at h;rotate_left
 ·cases h
 rename_i c;simp only[z_b,z_d] at c;obtain⟨⟨⟨⟨c1,c2⟩,c3⟩,c4⟩,c5⟩:=c;have:(r:Int) < 12:=by
  unfold BM at c1;simp only[z_b,z_d] at c1;omega
 have hb:=CO (r:=(r:Int)) ω this;obtain⟨i1,i2⟩:=P5 h;exact⟨i1,λt ht=>by have:=i2 t ht;rw[hb] at this c5;exact⟨this.1,this.2.1,c5,this.2.2⟩⟩
theorem EZ {w:List Int}:∀{t:List Rg} {r:Nat} {l:List AU},Be w r t = some l→l.Pairwise (λx y=>x.at_ + AF x.sh≤y.at_)∧∀x∈l,16 * (r:Int)≤x.at_∧2≤AF x.sh∧Ap w x.at_ = (x,true)∧∃k:Nat,∃h:k < t.length,x.at_ / 16 = r + k∧x.at_ + AF x.sh≤(t[k]).top∧(t[k]).top≤16 * (r + k) + 16
 | [],r,l,h=>by cases h;exact⟨List.Pairwise.nil,λt ht=>by cases ht⟩
 | x :: t,r,l,h=>by
  unfold Be at h;cases h1:BN w r x.top with
  | none=>rw[h1] at h;cases h
  | some a=>
   rw[h1] at h;dsimp only at h;cases h2:Be w (r + 1) t with
   | none=>rw[h2] at h;cases h
   | some b=>
    rw[h2] at h;cases h;obtain⟨i1,i2⟩:=Mw h1;obtain⟨j1,j2⟩:=EZ h2;refine⟨List.pairwise_append.2 ⟨i1,j1,λy hy z hz=>?_⟩,λy hy=>?_⟩
    ·have:=i2 y hy;have:=j2 z hz;omega
    ·rcases ZB.1 hy with hy | hy
     ·have:=i2 y hy;exact⟨this.1,this.2.2.2.1,this.2.2.2.2,0,σ,ω,this.2.1,by simpa using this.2.2.1⟩
     ·obtain⟨g1,g2,g3,k,hk,g4,g5,g6⟩:=j2 y hy;exact⟨ω,g2,g3,k + 1,by simp;omega,ω,by simpa using g5,by simp only[ab];omega⟩
theorem K0 {l:List AU} (h:l.Pairwise (λx y=>x.at_ + AF x.sh≤y.at_)) (hs:∀x∈l,2≤AF x.sh):(l.map AU.at_).Nodup:=by
 rw[List.Nodup,am];exact h.imp_of_mem λ{a b} ha hb h e=>by have:=hs a ha;omega
theorem Bh {l:List AU} {a:Int} {t:AU} (h:BL l a = some t):t∈l∧t.at_ = a:=by
 unfold BL at h;exact⟨al h,by simpa using List.find?_some h⟩
theorem Dn {l:List AU} (hn:(l.map AU.at_).Nodup) {t:AU} (h:t∈l):BL l t.at_ = some t:=by
 unfold BL;induction l with
 | nil=>cases h
 | cons x l ih=>
  rw[ZX,Zj] at hn;rcases Yx.1 h with rfl | h
  ·rw[ae σ]
  ·have:x.at_≠t.at_:=λe=>hn.1 (e▸Zw h)
   rw[aQ (by simpa using this)];exact ih hn.2 h
end Sm
end
