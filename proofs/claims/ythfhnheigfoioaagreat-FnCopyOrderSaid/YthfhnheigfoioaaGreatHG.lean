/- A part of the proof of the given row. Conditions: none. -/
import Derived.Test.YthfhnheigfoioaaGreatHF
set_option linter.unusedVariables false
set_option linter.unusedSimpArgs false
set_option maxRecDepth 100000
section
namespace Go.Lf
open Go Sm
theorem GG (s:Shp):0<=AG s/\AG s<=10:=by
 unfold AG;split
 .rename_i h;unfold BM at h;simp only[z_b,z_d] at h;omega
 .omega
theorem IW {w:List Int} {a:Int} (h:(As w a).2 = true):2<=AG (As w a).1.sh:=by
 unfold As at h ⊢;split at h
 .rename_i x;rw[if_pos x];dsimp only at h ⊢;split at h
  .rename_i j;rw[if_pos j];simp only[z_b] at j;have:=G8 j.1;dsimp only;omega
  .exact absurd h δ
 .exact absurd h δ
def QTs (r:Option (List AQ)) (v:Value) (R:RM):Prop:=match r with
 | none=>v = .tuple #[SN,.bool false]
 | some l=>∃tv,Tgs R tv l/\v = .tuple #[tv,.bool true]
theorem SD {R:RM} {wv:Value} {w:List Int} (r top:Int) (h:B8 R wv w) (hl:w.length < 1000000000000) :
  Fn P J0 [wv,I r,I top] R [] (λv R' A=>A = []/\QTs (BU w r top) v R'):=by
 refine O4 λF=>?_
 refine z_3 ?_;obtain⟨wa,wc,a1⟩:=h.sl;have eq:(w.length:Int).tdiv 16 = (w.length / 16:Nat):=by rw[dv Z];omega
 rw[a1];have br:0<=AK r/\AK r<=176:=by unfold AK;split<;>omega
 refine jor [.slice wa w.length wc,I r,I top] ((!BL w.length) || (decide (r < 1))) (λK' j=>?_) (λe c u T he=>?_)
 .refine jp (JV wa w.length wc hl) (jgO j λh1 O=>jlt O)
 refine z_V ?_;refine jor [.slice wa w.length wc,I r,I top] ((!BL w.length || decide (r < 1)) || (decide (r>=(w.length:Int).tdiv 16))) (λK' j=>?_) (λe c u T he=>?_)
 .rw[T];refine jgO j λh1 O=>jln (Oq δ ⟨Z,Z⟩ (jge O))
 refine z_V ?_;refine jor [.slice wa w.length wc,I r,I top] ((!BL w.length || decide (r < 1) || decide (r>=(w.length:Int).tdiv 16)) || (decide (top < AK r))) (λK' j=>?_) (λe c u T he=>?_)
 .rw[T];refine jgO j λh1 O=>jp (BW r) (jlt O)
 refine z_V ?_;refine jor [.slice wa w.length wc,I r,I top] ((!BL w.length || decide (r < 1) || decide (r>=(w.length:Int).tdiv 16) || decide (top < AK r)) || (decide (top > AK r + 16))) (λK' j=>?_) (λe c u T he=>?_)
 .rw[T];refine jgO j λh1 O=>jp (BW r) (jad (jgr O))
 refine z_V ?_;rw[T];refine jif (λh0=>?_) (λh0=>?_)
 .refine Ao (RM.le.refl R) ⟨rfl,?_⟩;have:BU w r top = none:=by
   unfold BU;rw[if_neg];intro hh;simp only[d7,cz,z_d,z_b] at h0 hh;rw[eq] at h0;obtain⟨⟨⟨⟨g1,g2⟩,g3⟩,g4⟩,g5⟩:=hh;rw[g1] at h0;rcases h0 with (((h0 | h0) | h0) | h0) | h0
   .exact absurd h0 δ
   all_goals omega
  rw[this];exact rfl
 simp only[ci,dL,decide_eq_false_iff_not] at h0;rw[eq] at h0;obtain⟨⟨⟨⟨g1,g2⟩,g3⟩,g4⟩,g5⟩:=h0;have et:BU w r top = Au w 16 (AK r) top:=by
  unfold BU;rw[if_pos];simp only[z_b,z_d];exact⟨⟨⟨⟨g1,Z⟩,Z⟩,Z⟩,Z⟩
 rw[<- a1];refine jp (BW r) (Ab (λvs R' D'=>R.le R'/\∃l N A,BU w r top = some l/\(∃rows,Rw (ThC R') rows l/\SW BK 6 rows N A)/\D' = A ++ ([] ++ F)/\vs = [N]) (λK hK=>?_) ?_);rotate_left
 .rintro e R1 D1 ⟨hR,l,N,A,hl,⟨rows,D,so⟩,hD,he⟩;refine z_W ?_;refine jfw so (D.all λ_ _=>ThC.len) λR2 H hfz=>(Ao (hR.trans H) ⟨rfl,?_⟩)
  rw[hl];exact⟨N,⟨rows,D.mono λ_ _=>ThC.le H,hfz⟩,rfl⟩
 refine jcI hK λK2 a4=>?_
 refine jlp (λm vs R' D'=>R.le R'/\∃(a:Int) (l:List AQ) (N:Value) (A:Chs) (rows:List (List Value)),m<=16/\AK r + 2 * (16 - m)<=a/\a<=top/\l.length<=16 - m/\(match Au w m a top with | none=>none | some l2=>some (l ++ l2)) = BU w r top/\Rw (ThC R') rows l/\SW BK 6 rows N A/\D' = A ++ ([] ++ F)/\vs = [wv,I top,N,I a])
  (n:=16) ⟨RM.le.refl R,AK r,[],SN,[],[],Z,Z,Z,V,by rw[et];cases Au w 16 (AK r) top<;>rfl,Rw.nil,.inl ⟨rfl,rfl,rfl⟩,rfl,rfl⟩ ?_
 rintro m e R1 D1 K3 ⟨hR,a,l,N,A,rows,hm,ha,a7,a8,y,D,so,hD,he⟩ a5;refine z_W ?_;have h1:=h.le hR;refine jlt (jif (λhc=>?_) (λhc=>?_));rotate_left
 .have hc:=z_g hc;refine a4 _ _ _ ⟨hR,l,N,A,?_,⟨rows,D,so⟩,rfl,rfl⟩;rw[<- y];cases m<;>(unfold Au;rw[if_neg hc];simp)
 have hc:=z_f hc;obtain⟨m,rfl⟩:∃k,m = k + 1:=⟨m - 1,Z⟩;unfold Au at y;rw[if_pos hc] at y;dsimp only at y;obtain⟨a2,a3⟩:=GG (As w a).1.sh;have a0:=@IW w a;refine jc (V4 a h1 hl) ?_;rintro _ R2 _ H ⟨rfl,x,⟨rv,nv,rfl,W,Q⟩,rfl⟩;generalize As w a = t at y W Q a2 a3 a0 ⊢;obtain⟨t,tb⟩:=t;dsimp only at y W Q a2 a3 a0 ⊢;obtain⟨ra,rc,rfl⟩:=W.sl;obtain⟨na,nc,rfl⟩:=Q.sl;refine jex rfl (jex rfl (ja λb=>(js rfl rfl (by exact z_n 6) rfl (jor [wv,I top,N,I a,Pt b] ((!tb) || (decide (a + AG t.sh > top))) (λK' j=>?_) (λe c u T he=>?_)))))
 .refine jgO j λh1 O=>jfo (jla (l:=[I t.sh.refs,I t.sh.nums]) (by exact (by decide:4<=6)) rfl (jp (CN t.sh) (jad (jgr O))))
 refine z_V ?_;rw[T];refine jif (λh0=>?_) (λh0=>?_)
 .refine Ao (hR.trans H) ⟨rfl,?_⟩;have:BU w r top = none:=by
   rw[<- y,if_neg];intro hh;simp only[d7,cz,z_d,z_b] at h0 hh;rcases h0 with h0 | h0
   .rw[h0] at hh;exact absurd hh.1 δ
   .omega
  rw[this];exact rfl
 simp only[ci,dL,decide_eq_false_iff_not] at h0;obtain⟨h2,h3⟩:=h0;rw[if_pos (by rw[h2];simp;omega)] at y;have a0:=a0 h2;refine jla (by exact z_n 6) rfl (jbs rfl rfl λb4=>(Az (D':=(b4,C BK (eTh t (.slice ra t.refs.length rc) (.slice na t.nums.length nc))) :: ((b,C BK (eTh t (.slice ra t.refs.length rc) (.slice na t.nums.length nc))) :: (A ++ ([] ++ F)))) (dK _) (Al A (G:=(b4,C BK (eTh t (.slice ra t.refs.length rc) (.slice na t.nums.length nc))) :: (b,C BK (eTh t (.slice ra t.refs.length rc) (.slice na t.nums.length nc))) :: ([] ++ F)) ?_)));have hx:BX R2 (A ++ ((b4,C BK (eTh t (.slice ra t.refs.length rc) (.slice na t.nums.length nc))) :: (b,C BK (eTh t (.slice ra t.refs.length rc) (.slice na t.nums.length nc))) :: ([] ++ F))) (some ⟨b4,0,none⟩) (1 * 6) [eTh t (.slice ra t.refs.length rc) (.slice na t.nums.length nc)].flatten:=BX.held (cs:=eTh t (.slice ra t.refs.length rc) (.slice na t.nums.length nc)) (z_n 6);have a9:=D.1;refine jaw so (D.all λ_ _=>ThC.len) (by intro r hr;rw[cZ.1 hr];rfl) rfl rfl rfl δ (by rw[cr];omega) hx λv' A' a6=>(jfo (jla (l:=[I t.sh.refs,I t.sh.nums]) (by exact (by decide:4<=6)) rfl (jp (CN t.sh) (jad (Al A' (G:=[] ++ F) (a5 m _ _ _ Z ⟨hR.trans H,a + AG t.sh,l ++ [t],v',A',rows ++ [eTh t (.slice ra t.refs.length rc) (.slice na t.nums.length nc)],Z,Z,Z,by rw[cJ,cr];omega,?_,(D.mono λ_ _=>ThC.le H).app (Rw.one ⟨_,_,rfl,W,Q⟩),a6,rfl,rfl⟩))))))
 rw[<- y];cases Au w m (a + AG t.sh) top with
 | none=>rfl
 | some l2=>simp
def RdI (R:RM) (D:Chs) (v:Value) (l:List Int):Prop:=(∃a c,v = .slice a l.length c)/\∀(F:Chs) (i:Nat) (h:i < l.length) (k:Value->M),J R (D ++ F) (k (I l[i]))->J R (D ++ F) (IA 1 v (I (i:Int)) λx=>L1 x k)
theorem B8.rd {R:RM} {D:Chs} {v:Value} {l:List Int} (h:B8 R v l):RdI R D v l:=
 ⟨h.sl,λF i j k H=>Bl h Z Z (by rw[getElem_congr_idx (cG i)];exact H)⟩
theorem SO.rd {R:RM} {A E:Chs} {v:Value} {l:List Int} (h:SO l v A):RdI R (A ++ E) v l:=by
 rcases h with ⟨rfl,rfl,rfl⟩ | ⟨b,c,sp,hc,hsp,rfl,rfl⟩
 .exact⟨⟨_,_,rfl⟩,λF i j=>absurd j V⟩
 .refine⟨⟨_,_,rfl⟩,λF i j k H=>C0 j (jl (by rw[cg,dx];exact G3 j) H)⟩
theorem Gb {R:RM} {D:Chs} {v:Value} {l:List Int} (n:Int) (h:RdI R D v l) (hl:l.length < 1000000000000):Ro KU [v,I n] (I (BP l n)) R D:=by
 refine QG λF=>?_
 refine z_2 ?_;obtain⟨H,h⟩:=h;refine jlp (λm W O N=>O = R/\N = D ++ F/\∃i:Nat,i<=l.length/\W = [v,I n,I i]/\m = l.length - i/\∀k (y:k < l.length),k < i->l[k]≠n)
  (n:=l.length) ⟨rfl,rfl,0,Z,rfl,Z,λk _ h=>Z⟩ ?_
 rintro m e R1 D1 K ⟨A,hD,i,hi,he,x,Bq⟩ Q;subst A;refine z_W ?_;refine Bo H (jlt (jif (λhc=>?_) (λhc=>?_)))
 .have hc:i < l.length:=by have:=z_f hc;omega
  refine h F i hc _ (jeq (jif (λj=>?_) (λj=>?_)))
  .refine BN ?_;have j:=eq_of_beq j;have x:n∈l:=by rw[<- j];exact cK hc
   unfold BP;rw[if_pos x,NZ hc j Bq]
  .have j:=ne_of_beq_false j;refine jad (Q (l.length - (i + 1)) _ _ _ Z ⟨rfl,rfl,i + 1,Z,rfl,rfl,λk y T=>?_⟩);by_cases c:k = i
   .subst c;exact j
   .exact Bq k y Z
 .have hc:¬ i < l.length:=by have:=z_g hc;omega
  refine BN ?_;have x:n ∉ l:=by
   intro x;obtain⟨k,y,G⟩:=d5 x;exact Bq k y Z G
  unfold BP;rw[if_neg x]
theorem Gr {R:RM} {A E G:Chs} {l:List Int} {v:Value} {x:Int} {j t N:Nat} {k:Value->M} (T:SO l v A) (hl:l.length + 1 < 1000000000000)
  [s:Sp G A E] (H:∀D y,SO (l ++ [x]) D y->J R (y ++ E) (k D)):J R ((j,C t [I x]) :: G) (AP Aa 1 8 [I 0] v (S0 j 1 N) k):=by
 have O:((j,C t [I x]) :: G).Perm (A ++ ((j,C t [I x]) :: E)):=(s.p.cons _).trans d9.symm;refine Az O ?_;have Q:BX R (A ++ ((j,C t [I x]) :: E)) (some ⟨j,0,none⟩) (1 * 1) ([x].map I):=BX.held (cs:=[I x]) (z_n 1);refine jas T rfl (by simpa using hl) Q λD y K=>(Az d9 (Bf (H D y K)))
theorem Kv {R:RM} {A:Chs} {v:Value} {l:List Int} (a:Int) (j:SO l v A) (hl:l.length < 1000000):Fn P Nh [v,I a] R A (λG H x=>H = R/\SO (Bu l a) G x):=by
 refine VB λF=>?_
 refine z_2 ?_;obtain⟨sa,sn,sc,Q⟩:=j.sl;refine jor [v,I a] ((a == 0) || (decide (BP l a>=0))) (λT y=>?_) (λe c u N he=>?_)
 .refine jeq (jgO y λh1 K=>jro (Gb a j.rd Z) (jge K))
 refine z_V ?_;rw[N];have O:decide (BP l a>=0) = decide (a∈l):=by
  unfold BP;by_cases c:a∈l
  .rw[if_pos c,decide_eq_true c,decide_eq_true Z]
  .rw[if_neg c,decide_eq_false c,decide_eq_false Z]
 rw[O];refine jif (λh0=>?_) (λh0=>?_)
 .simp only[d7,beq_iff_eq,z_d] at h0;refine Ao (A:=A) (RM.le.refl R) ?_;unfold Bu;rw[if_pos h0];exact⟨rfl,j⟩
 .have h0:¬ (a = 0\/a∈l):=by simpa using h0
  refine jbs rfl rfl λW=>(Gr j Z λG x D=>(Ao (A:=x) (RM.le.refl R) ?_))
  unfold Bu;rw[if_neg h0];exact⟨rfl,D⟩
def Ol (l:List AQ) (a:Int):Int:=match l.findIdx? λt=>t.at_ == a with | some i=>(i:Int) | none=>-1
theorem Di {R:RM} {D:Chs} {v:Value} {l:List AQ} (a:Int) (h:Tgs R v l) (hl:l.length < 1000000000000):Ro ML [v,I a] (I (Ol l a)) R D:=by
 refine RD λF=>?_
 refine z_2 ?_;refine jlp (λm vs O N=>O = R/\N = D ++ F/\∃i:Nat,i<=l.length/\vs = [v,I a,I i]/\m = l.length - i/\∀k (G:k < l.length),k < i->(l[k]).at_≠a)
  (n:=l.length) ⟨rfl,rfl,0,Z,rfl,Z,λk _ h=>Z⟩ ?_
 rintro m e R1 D1 K ⟨H,hD,i,hi,he,hm,Bq⟩ Q;subst H;refine z_W ?_;refine Bo h.sl (jlt (jif (λhc=>?_) (λhc=>?_)))
 .have hc:i < l.length:=by have:=z_f hc;omega
  refine jtg h hc λb o t cs rv nv _ _ hb ho A=>(jfo (jlr hb (Bc A rfl) (jeq (jif (λy=>?_) (λy=>?_)))))
  .refine BN ?_;have y:=eq_of_beq y;unfold Ol;have:l.findIdx? (λt=>t.at_ == a) = some i:=by
    rw[List.findIdx?_eq_some_iff_getElem];exact⟨hc,by simpa using y,λj T=>by simpa using Bq j Z T⟩
   rw[this]
  .have y:=ne_of_beq_false y;refine jad (Q (l.length - (i + 1)) _ _ _ Z ⟨rfl,rfl,i + 1,Z,rfl,rfl,λk G W=>?_⟩);by_cases c:k = i
   .subst c;exact y
   .exact Bq k G Z
 .have hc:¬ i < l.length:=by have:=z_g hc;omega
  refine BN ?_;have:l.findIdx? (λt=>t.at_ == a) = none:=by
   rw[List.findIdx?_eq_none_iff];intro x hx;obtain⟨k,G,rfl⟩:=d5 hx;have:=Bq k G Z;simpa using this
  unfold Ol;rw[this]
theorem Eb {l:List AQ} {a:Int} {t:AQ} (h:B7 l a = some t):∃(i:Nat) (A:i < l.length),Ol l a = i/\l[i] = t:=by
 unfold B7 at h;have G:(l.findIdx? λt=>t.at_ == a)≠none:=by
  intro D;rw[List.findIdx?_eq_none_iff] at D;have:=List.find?_some h;have K:=fR h;rw[D t K] at this;cases this
 cases A:l.findIdx? (λt=>t.at_ == a) with
 | none=>exact absurd A G
 | some i=>
  have x:=A;rw[List.findIdx?_eq_some_iff_getElem] at x;obtain⟨y,N,Bq⟩:=x;refine⟨i,y,by unfold Ol;rw[A],?_⟩;have:l.find? (λt=>t.at_ == a) = some l[i]:=by
   rw[List.find?_eq_some_iff_getElem];exact⟨N,i,y,rfl,λj H=>by simpa using Bq j H⟩
  rw[this] at h;exact (cX _ _).mp h
theorem Fh {R:RM} {D:Chs} {v:Value} {l:List AQ} {a x:Int} (h:Tgs R v l) (hl:l.length < 1000000000000) (j:now l a = some x):Ro Nb [v,I a] (I x) R D:=by
 refine Uf λF=>?_
 refine z_2 ?_;unfold now at j;refine jeq (jif (λh0=>?_) (λh0=>?_))
 .rw[if_pos (eq_of_beq h0)] at j;simp only[cX] at j;exact BN (by rw[j])
 .rw[if_neg (ne_of_beq_false h0)] at j;obtain⟨t,H,rfl⟩:=eR.1 j;obtain⟨i,A,G,rfl⟩:=Eb H;refine jro (Di a h hl) ?_;rw[G];refine jtg h A λb o t K rv nv _ _ hb N y=>(jfo (jlr hb (Bc y rfl) (BN rfl)))
def eSt (s:Sm.Ah) (wv tv mv thv ov pv:Value):List Value:=[wv,tv,mv,I s.Ae,.bool s.stop,.bool s.full,.bool s.Ap,I s.want,thv,ov,pv,I s.BC,I s.BJ]
def Rgs (R:RM) (v:Value) (t:List Rg):Prop:=Fz R v 5 t.length (Ad eRg t)
def Bls (R:RM) (v:Value) (l:List Bool):Prop:=Fz R v 1 l.length (l.map Value.bool)
def Cd (R:RM) (row:List Value) (t:Th):Prop:=∃rv,row = [rv,I t.next,.bool t.busy,I t.Am]/\B8 R rv t.AD
def Ths (R:RM) (v:Value) (l:List Th):Prop:=∃rows,Rw (Cd R) rows l/\Fz R v 4 rows.length rows.flatten
structure StC (R:RM) (s:Sm.Ah) (wv tv mv thv ov pv:Value):Prop where
 w:B8 R wv s.AC
 t:Rgs R tv s.AA
 m:Bls R mv s.AM
 th:Ths R thv s.AB
 o:B8 R ov s.old
 p:B8 R pv s.AI
theorem Cd.le {R j : RM} {row:List Value} {t:Th} (h:R.le j) (H:Cd R row t):Cd j row t:=by
 obtain⟨rv,x,y⟩:=H;exact⟨rv,x,y.le h⟩
theorem Cd.len {R:RM} {row:List Value} {t:Th} (H:Cd R row t):row.length = 4:=by obtain⟨rv,rfl,j⟩:=H;rfl
theorem Cd.flat {R:RM} {row:List Value} {t:Th} (H:Cd R row t):By row = true:=by
 obtain⟨rv,rfl,j⟩:=H;obtain⟨_,_,rfl⟩:=j.sl;rfl
theorem Ths.le {R j : RM} {v:Value} {l:List Th} (h:R.le j) (H:Ths R v l):Ths j v l:=by
 obtain⟨rows,x,y⟩:=H;exact⟨rows,x.mono λ_ _=>Cd.le h,y.le h⟩
theorem Ths.sl {R:RM} {v:Value} {l:List Th} (H:Ths R v l):∃a c,v = .slice a l.length c:=by
 obtain⟨rows,x,y⟩:=H;obtain⟨a,j,e,-⟩:=Fz.reads (D:=[]) y;exact⟨a,j,by rw[e,x.1]⟩
theorem Fz.sl {R:RM} {v:Value} {w n:Nat} {j:List Value} (H:Fz R v w n j):∃a c,v = .slice a n c:=by
 obtain⟨a,x,e,-⟩:=Fz.reads (D:=[]) H;exact⟨a,x,e⟩
theorem StC.le {R x : RM} {s:Sm.Ah} {wv A mv j y pv:Value} (h:R.le x) (H:StC R s wv A mv j y pv):StC x s wv A mv j y pv:=
 ⟨H.w.le h,Fz.le h H.t,Fz.le h H.m,H.th.le h,H.o.le h,H.p.le h⟩
theorem WK (t:List Rg):∀r∈t.map eRg,r.length = 5:=by
 intro r j;obtain⟨x,_,rfl⟩:=cq.1 j;rfl
theorem jrg {R:RM} {D:Chs} {v:Value} {t:List Rg} {i:Nat} {k:Value->M} (h:Rgs R v t) (G:i < t.length)
  (H:∀b o x j,R b = some (C x j)->o + 5<=j.length->(j.drop o).take 5 = eRg t[i]->J R D (k (.pointer (some ⟨b,o,none⟩)))):J R D (IA 5 v (I (i:Int)) k):=by
 have A : Fz R v 5 (t.map eRg).length (t.map eRg).flatten:=by rw[cM];exact h
 obtain⟨b,o,y,x,j,rfl,hb,hl,hc⟩:=Ja A (WK t) (by simpa using G);refine jia Z (by rw[cM];omega) ?_;rw[cG];exact H b (o + i * 5) x j hb hl (by rw[hc,eF])
theorem jtr {R:RM} {D:Chs} {v:Value} {l:List Th} {i:Nat} {k:Value->M} (h:Ths R v l) (G:i < l.length)
  (H:∀b o A j rv,B8 R rv (l[i]).AD->R b = some (C A j)->o + 4<=j.length->(j.drop o).take 4 = [rv,I (l[i]).next,.bool (l[i]).busy,I (l[i]).Am]->J R D (k (.pointer (some ⟨b,o,none⟩)))):J R D (IA 4 v (I (i:Int)) k):=by
 obtain⟨rows,y,N⟩:=h;have x : i < rows.length:=by rw[y.1];exact G
 obtain⟨b,o,K,A,j,rfl,hb,hl,hc⟩:=Ja N (y.all λ_ _=>Cd.len) x;obtain⟨rv,e,r1⟩:=y.2 i x G;refine jia Z Z ?_;rw[cG];exact H b (o + i * 4) A j rv r1 hb hl (by rw[hc,e])
theorem PS {rows:List (List Value)} (h:∀r∈rows,By r = true):By rows.flatten = true:=by
 unfold By at h ⊢;rw[ck];intro x j;obtain⟨r,y,j⟩:=List.mem_flatten.1 j;exact ck.1 (h r y) x j
theorem QI {w:List Int}:∀{n:Nat} {a top:Int} {l:List AQ},Au w n a top = some l->l.length<=n
 | 0,a,top,l,h=>by
  unfold Au at h;split at h
  .cases h
  .cases h;simp
 | n + 1,a,top,l,h=>by
  unfold Au at h;split at h
  .dsimp only at h;split at h
   .split at h
    .rename_i x j;cases h;have:=QI j;simp;omega
    .cases h
   .cases h
  .cases h;simp
theorem SB {w:List Int} {r top:Int} {l:List AQ} (h:BU w r top = some l):l.length<=16:=by
 unfold BU at h;split at h
 .exact QI h
 .cases h
theorem I5 {R:RM} {s:Sm.Ah} {wv W mv G T pv:Value} (h:StC R s wv W mv G T pv) (hw:s.AC.length < 1000000) (ht:s.AA.length < 1000000) :
  Fn P JH [.agg (eSt s wv W mv G T pv).toArray] R [] (λv H A=>A = []/\QTs (BI s) v H):=by
 refine OV λF=>?_
 refine z_1 ?_;refine ja λb=>?_
 rw[show cl (.agg (eSt s wv W mv G T pv).toArray) = eSt s wv W mv G T pv from rfl];refine Ab (λvs H D'=>R.le H/\∃l v A,BI s = some l/\(∃rows,Rw (ThC H) rows l/\SW BK 6 rows v A)/\D' = A ++ ((b,C AW (eSt s wv W mv G T pv)) :: ([] ++ F))/\vs = [v]) (λK hK=>?_) ?_;rotate_left
 .rintro e R1 D1 ⟨Q,l,v,A,hl,⟨rows,j,so⟩,hD,he⟩;refine z_W ?_;refine jfw so (j.all λ_ _=>ThC.len) λR2 D hfz=>(Ao (Q.trans D) ⟨rfl,?_⟩)
  rw[hl];exact⟨v,⟨rows,j.mono λ_ _=>ThC.le D,hfz⟩,rfl⟩
 refine jcI hK λK2 a2=>?_
 refine jlp (λm vs H D'=>R.le H/\∃(i:Nat) (l:List AQ) (v:Value) (A:Chs) (rows:List (List Value)),1<=i/\i<=s.AA.length + 1/\l.length<=16 * i/\(match Ba s.AC i (s.AA.drop i) with | none=>none | some l2=>some (l ++ l2)) = BI s/\Rw (ThC H) rows l/\SW BK 6 rows v A/\D' = A ++ ((b,C AW (eSt s wv W mv G T pv)) :: ([] ++ F))/\vs = [Pt b,v,I i]/\m = s.AA.length + 1 - i)
  (n:=s.AA.length) ⟨RM.le.refl R,1,[],SN,[],[],Z,Z,V,by unfold BI;rw[List.drop_one];cases Ba s.AC 1 s.AA.tail<;>rfl,Rw.nil,.inl ⟨rfl,rfl,rfl⟩,rfl,rfl,Z⟩ ?_
 rintro m e R1 D1 K3 ⟨Q,i,l,v,A,rows,a7,a8,b0,x,j,so,hD,he,hm⟩ a3;refine z_W ?_;have h1:=h.le Q;refine jl rfl (Bo h1.t.sl (jlt (jif (λhc=>?_) (λhc=>?_))));rotate_left
 .have hc:=z_g hc;refine a2 _ _ _ ⟨Q,l,v,A,?_,⟨rows,j,so⟩,rfl,rfl⟩;rw[<- x,cT Z];simp[Ba]
 have hc:i < s.AA.length:=by have:=z_f hc;omega
 rw[cQ hc] at x;unfold Ba at x;refine jl rfl (jl rfl (jrg h1.t hc λb2 o2 ty cs hb ho a1=>(jfo (jlr hb (Bc a1 rfl) (jc (SD i (s.AA[i]).top h1.w Z) ?_)))));rintro _ R2 _ D ⟨rfl,hq⟩;cases N:BU s.AC i (s.AA[i]).top with
 | none=>
  rw[N] at hq x;subst hq;refine jex rfl (jex rfl (DM (Ao (Q.trans D) ⟨rfl,?_⟩)));rw[<- x];exact rfl
 | some l1=>
  rw[N] at hq x;obtain⟨b3,⟨O,y,a0⟩,rfl⟩:=hq;refine Ov (jex rfl (jex rfl (CW ?_)));obtain⟨xa,cx,a4,hx⟩:=Fz.reads a0;rw[a4];have b1:=j.1;have a6:=y.1;have a9:=SB N;refine jaw so (j.all λ_ _=>ThC.len) (y.all λ_ _=>ThC.len) rfl (PS (y.all λ_ _=>ThC.flat)) rfl δ Z hx λv' A' a5=>(jad (a3 (s.AA.length + 1 - (i + 1)) _ _ _ Z ⟨Q.trans D,i + 1,l ++ l1,v',A',rows ++ O,Z,Z,by rw[cJ];omega,?_,(j.mono λ_ _=>ThC.le D).app y,a5,rfl,rfl,rfl⟩))
  rw[<- x];cases Ba s.AC (i + 1) (s.AA.drop (i + 1)) with
  | none=>rfl
  | some l2=>simp
theorem LO {R:RM} {D:Chs} {s:Sm.Ah} {wv y mv j x pv:Value} (r:Int) (h:StC R s wv y mv j x pv) (Q:∀a∈s.AI,AN a<=9223372036854775807) (hl:s.AI.length < 1000000) :
  Ro M3 [.agg (eSt s wv y mv j x pv).toArray,I r] (.bool (Aj s.AI r)) R D:=by
 refine Sc λF=>?_
 refine z_2 ?_;refine ja λb=>?_
 rw[show cl (.agg (eSt s wv y mv j x pv).toArray) = eSt s wv y mv j x pv from rfl];refine jlp (λm T N H=>N = R/\H = (b,C AW (eSt s wv y mv j x pv)) :: (D ++ F)/\∃i:Nat,i<=s.AI.length/\T = [I r,Pt b,I i]/\m = s.AI.length - i/\Aj (s.AI.drop i) r = Aj s.AI r)
  (n:=s.AI.length) ⟨rfl,rfl,0,Z,rfl,Z,by rw[di]⟩ ?_
 rintro m e R1 W K ⟨A,hD,i,hi,he,hm,Bq⟩ O;subst A;refine z_W ?_;refine jl rfl (Bo h.p.sl (jlt (jif (λhc=>?_) (λhc=>?_))))
 .have hc:i < s.AI.length:=by have:=z_f hc;omega
  refine jl rfl (Bl h.p Z Z ?_);rw[getElem_congr_idx (cG i)];rw[cQ hc] at Bq;refine jp (Cf _ (Q _ (cK hc))) (jeq (jif (λG=>?_) (λG=>?_)))
  .refine BN ?_;rw[<- Bq];unfold Aj;rw[List.any_cons,G,eL]
  .refine jad (O (s.AI.length - (i + 1)) _ _ _ Z ⟨rfl,rfl,i + 1,Z,rfl,rfl,?_⟩);rw[<- Bq];unfold Aj;rw[List.any_cons,G,dU]
 .have hc:¬ i < s.AI.length:=by have:=z_g hc;omega
  refine BN ?_;rw[<- Bq,cT Z];rfl
theorem L4 (had:List Int) (a:Int):had.length<=(Bu had a).length:=by
 unfold Bu;split<;>simp
theorem ED {l:List AQ}:∀{A j r:List Int},Aq l A j = some r->j.length<=r.length
 | [],j,r,h=>by cases h;exact z_n _
 | x :: A,j,r,h=>by
  unfold Aq at h;obtain⟨y,_,h⟩:=AF h;have:=ED h;have:=L4 j y;omega
theorem Ik {l:List AQ}:∀{D:List Th} {j r:List Int},E8 l D j = some r->j.length<=r.length
 | [],j,r,h=>by cases h;exact z_n _
 | x :: xs,j,r,h=>by
  unfold E8 at h;obtain⟨y,A,h⟩:=AF h;have:=ED A;have:=Ik h;omega
theorem MN:∀(x j:List Int),j.length<=(x.foldl Bu j).length
 | [],j=>z_n _
 | p :: x,j=>by
  have y:=L4 j p;have A:=MN x (Bu j p);rw[fF];omega
theorem HR {l:List AQ}:∀{n i:Nat} {out r:List Int},BH l n i out = some r->out.length<=r.length/\r.length + 1<=i + n
 | 0,i,out,r,h=>by cases h
 | n + 1,i,out,r,h=>by
  unfold BH at h;split at h
  .rename_i x;cases h;have:=List.getElem?_eq_none_iff.1 x;exact⟨z_n _,Z⟩
  .obtain⟨t,_,h⟩:=AF h;obtain⟨y,j,h⟩:=AF h;have:=ED j;obtain⟨A,D⟩:=HR h;exact⟨Z,Z⟩
theorem HS {s:Sm.Ah} {l:List AQ} {r:List Int} (h:Dd s l = some r):r.length<=l.length + 1:=by
 unfold Dd at h;obtain⟨y,_,h⟩:=AF h;have:=(HR h).2;omega
theorem Ts {acc:List Int} {x:Int} {R:RM} {D:Chs} {v:Value} {A:Chs} (c:((x != 0) && decide (BP acc x < 0)) = false) (y:SO acc v A):SO (Bu acc x) v A:=by
 unfold Bu;rw[if_pos]
 .exact y
 .unfold BP at c;by_cases h:x = 0
  .exact .inl h
  .by_cases j:x∈acc
   .exact .inr j
   .rw[if_neg j] at c;simp[h] at c
theorem NR {acc:List Int} {x:Int} (c:((x != 0) && decide (BP acc x < 0)) = true):Bu acc x = acc ++ [x]:=by
 unfold Bu;rw[if_neg];simp only[z_b,bne_iff_ne,ne_eq,z_d] at c;rintro (h | h)
 .exact c.1 h
 .unfold BP at c;rw[if_pos h] at c;omega
theorem KZ {R:RM} {s:Sm.Ah} {wv tv mv a3 ov pv lv:Value} {l:List AQ} {AJ:List Int} (h:StC R s wv tv mv a3 ov pv) (a9:Tgs R lv l) (e7:l.length < 900000) (hr:Dd s l = some AJ) (hn:s.AB.length < 1000000) (e2:∀t∈s.AB,t.AD.length < 1000000000) (e8:s.AI.length < 1000000) (e1:∀t∈l,t.refs.length < 1000000000) :
  Fn P Hs [.agg (eSt s wv tv mv a3 ov pv).toArray,lv] R [] (λv _ A=>SO AJ v A):=by
 refine Mr λF=>?_
 refine z_2 ?_;have hlen:=HS hr;unfold Dd at hr;obtain⟨a1,c7,c0⟩:=AF hr;have d2:=(HR c0).1;have d1:=MN s.AI a1;refine ja λb=>?_
 rw[show cl (.agg (eSt s wv tv mv a3 ov pv).toArray) = eSt s wv tv mv a3 ov pv from rfl];generalize hE:((b,C AW (eSt s wv tv mv a3 ov pv)) :: ([] ++ F)) = E;have ea:At E b (C AW (eSt s wv tv mv a3 ov pv)):=by rw[<- hE];exact inferInstance
 have ef:Sf E F:=by rw[<- hE];exact inferInstance
 refine Ab (λvs W T=>W = R/\∃v A,SO a1 v A/\T = A ++ E/\vs = [lv,Pt b,v]) (λK hK=>?_) ?_
 .refine jcI hK λK2 a4=>?_
  refine jlp (λm vs W T=>W = R/\∃(i:Nat) (y:List Int) (v:Value) (A:Chs),i<=s.AB.length/\E8 l (s.AB.drop i) y = some a1/\SO y v A/\T = A ++ E/\vs = [lv,Pt b,v,I i]/\m = s.AB.length - i)
   (n:=s.AB.length) ⟨rfl,0,[],SN,[],Z,c7,.inl ⟨rfl,rfl,rfl⟩,rfl,rfl,Z⟩ ?_
  rintro m e R1 D1 K3 ⟨hR,i,y,v,A,hi,H,O,hD,he,hm⟩ a5;subst hR;refine z_W ?_;clear hD;refine jl rfl (Bo h.th.sl (jlt (jif (λhc=>?_) (λhc=>?_))));rotate_left
  .have hc:=z_g hc;rw[cT Z] at H;cases H;exact a4 _ _ _ ⟨rfl,v,A,O,rfl,rfl⟩
  have hc:i < s.AB.length:=by have:=z_f hc;omega
  rw[cQ hc] at H;unfold E8 at H;obtain⟨Q,N,H⟩:=AF H;have b9:=Ik H;have e9:=e2 _ (cK hc);refine Ab (λvs W T=>W = R1/\∃v A,SO Q v A/\T = A ++ E/\vs = [lv,Pt b,v,I i]) (λK4 b4=>?_) ?_;rotate_left
  .rintro e R2 D2 ⟨hR,v,A,O,hD,he⟩;subst hR;refine z_W ?_;clear hD;refine jad (a5 (s.AB.length - (i + 1)) _ _ _ Z ⟨rfl,i + 1,Q,v,A,Z,H,O,rfl,rfl,rfl⟩)
  refine jcI b4 λK5 b5=>?_
  refine jcI b5 λK6 b6=>?_
  refine jlp (λm vs W T=>W = R1/\∃(j:Nat) (y:List Int) (v:Value) (A:Chs),j<=(s.AB[i]).AD.length/\Aq l ((s.AB[i]).AD.drop j) y = some Q/\SO y v A/\T = A ++ E/\vs = [lv,Pt b,v,I i,I j]/\m = (s.AB[i]).AD.length - j)
   (n:=(s.AB[i]).AD.length) ⟨rfl,0,y,v,A,Z,N,O,rfl,rfl,Z⟩ ?_
  clear N O;rintro m e R2 D2 K7 ⟨hR,j,y,v,A,hj,N,O,hD,he,hm⟩ b7;subst hR;refine z_W ?_;clear hD;have c5:=ED N;refine jl rfl (jtr h.th hc λb2 o2 ty cs rv a2 hb ho a0=>(jfo (jlr hb (Bc a0 rfl) (Bo a2.sl (jlt (jif (λhd=>?_) (λhd=>?_)))))));rotate_left
  .have hd:=z_g hd;rw[cT Z] at N;cases N;exact b6 _ _ _ ⟨rfl,v,A,O,rfl,rfl⟩
  have hd:j < (s.AB[i]).AD.length:=by have:=z_f hd;omega
  rw[cQ hd] at N;unfold Aq at N;obtain⟨x,hx,N⟩:=AF N;refine Ab (λvs W T=>W = R2/\∃v A,SO (Bu y x) v A/\T = A ++ E/\vs = [lv,Pt b,v,I i,I j]) (λK8 b8=>?_) ?_;rotate_left
  .rintro e R3 D3 ⟨hR,v,A,O,hD,he⟩;subst hR;refine z_W ?_;clear hD;refine jad (b7 ((s.AB[i]).AD.length - (j + 1)) _ _ _ Z ⟨rfl,j + 1,_,v,A,Z,N,O,rfl,rfl,rfl⟩)
  refine jcI b8 λK9 a6=>?_
  refine jl rfl (jtr h.th hc λb2 o2 ty cs rv a2 hb ho a0=>(jfo (jlr hb (Bc a0 rfl) (Bl a2 Z Z ?_))));rw[getElem_congr_idx (cG j)];refine jro (Fh a9 Z hx) ?_;obtain⟨sa,sn,sc,c4⟩:=O.sl;refine jan [lv,Pt b,v,I i,I j,I x] (((x != 0)) && (decide (BP y x < 0))) (λK' b0=>?_) (λe c u ho he=>?_)
  .refine jne (jgA b0 λh1 hN=>jro (Gb x O.rd Z) (jlt hN))
  refine z_V ?_;rw[ho];refine jif (λh0=>?_) (λh0=>?_)
  .refine jbs rfl rfl λb1=>(Gr O Z λv' A' a8=>(a6 _ _ _ ⟨rfl,v',A',by rw[NR h0];exact a8,rfl,rfl⟩))
  .exact a6 _ _ _ ⟨rfl,v,A,Ts (R:=R2) (D:=[]) h0 O,rfl,rfl⟩
 rintro e R1 D1 ⟨hR,v,A,O,hD,he⟩;subst hR;refine z_W ?_;clear hD;generalize d4:s.AI.foldl Bu a1 = a7 at c0 d2 d1;refine Ab (λvs W T=>W = R1/\∃v A,SO a7 v A/\T = A ++ E/\vs = [lv,v]) (λK hK=>?_) ?_
 .refine jcI hK λK2 a4=>?_
  refine jlp (λm vs W T=>W = R1/\∃(i:Nat) (y:List Int) (v:Value) (A:Chs),i<=s.AI.length/\(s.AI.drop i).foldl Bu y = a7/\SO y v A/\T = A ++ E/\vs = [lv,Pt b,v,I i]/\m = s.AI.length - i)
   (n:=s.AI.length) ⟨rfl,0,a1,v,A,Z,d4,O,rfl,rfl,Z⟩ ?_
  rintro m e R1 D1 K3 ⟨hR,i,y,v,A,hi,H,O,hD,he,hm⟩ a5;subst hR;refine z_W ?_;clear hD;refine jl rfl (Bo h.p.sl (jlt (jif (λhc=>?_) (λhc=>?_))));rotate_left
  .have hc:=z_g hc;rw[cT Z,List.foldl_nil] at H;subst H;exact a4 _ _ _ ⟨rfl,v,A,O,rfl,rfl⟩
  have hc:i < s.AI.length:=by have:=z_f hc;omega
  rw[cQ hc,fF] at H;have b9:=MN (s.AI.drop (i + 1)) (Bu y s.AI[i]);have c5:=L4 y s.AI[i];rw[H] at b9;refine jl rfl (Bl h.p Z Z ?_);rw[getElem_congr_idx (cG i)];refine jc (Kv _ O Z) ?_;rintro v' R2 A' e4 ⟨c9,a8⟩;subst c9;refine jad (a5 (s.AI.length - (i + 1)) _ _ _ Z ⟨rfl,i + 1,_,v',A',Z,H,a8,rfl,rfl,rfl⟩)
 clear O c7;rintro e R2 D2 ⟨hR,v,A,O,hD,he⟩;subst hR;refine z_W ?_;clear hD;refine Ab (λvs W T=>W = R2/\∃v A,SO AJ v A/\T = A ++ E/\vs = [v]) (λK hK=>?_) ?_;rotate_left
 .rintro e R3 D3 ⟨hR,v,A,O,hD,he⟩;subst hR;refine z_W ?_;clear hD;exact Ao (RM.le.refl R3) O
 refine jcI hK λK2 a4=>?_
 refine jlp (λm vs W T=>W = R2/\∃(k:Nat) (y:List Int) (v:Value) (A:Chs),BH l m k y = some AJ/\SO y v A/\T = A ++ E/\vs = [lv,v,I k])
  ⟨rfl,0,a7,v,A,c0,O,rfl,rfl⟩ ?_
 clear O;rintro m e R3 D3 K3 ⟨hR,i,y,v,A,H,O,hD,he⟩ a5;subst hR;refine z_W ?_;clear hD;obtain⟨b9,c5⟩:=HR H;obtain⟨m,rfl⟩:∃k,m = k + 1:=by
  cases m with
  | zero=>cases H
  | succ m=>exact⟨m,rfl⟩
 unfold BH at H;obtain⟨c4,c8⟩:=O.rd;refine Bo c4 (jlt (jif (λhc=>?_) (λhc=>?_)));rotate_left
 .have hc:=z_g hc;rw[dT Z] at H;cases H;exact a4 _ _ _ ⟨rfl,v,A,O,rfl,rfl⟩
 have hc:i < y.length:=by have:=z_f hc;omega
 rw[cF hc] at H;obtain⟨t,ht,H⟩:=AF H;obtain⟨Q,N,H⟩:=AF H;have e5:=(HR H).1;refine Ab (λvs W T=>W = R3/\∃v A,SO Q v A/\T = A ++ E/\vs = [lv,v,I i]) (λK4 b4=>?_) ?_;rotate_left
 .rintro e R2 D2 ⟨hR,v,A,O,hD,he⟩;subst hR;refine z_W ?_;clear hD;refine jad (a5 m _ _ _ Z ⟨rfl,i + 1,Q,v,A,H,O,rfl,rfl⟩)
 refine jcI b4 λK5 b5=>?_
 refine Az (by rw[dD]) (c8 [] i hc _ ?_);rw[dD];obtain⟨n,c6,hp,rfl⟩:=Eb ht;refine jro (Di _ a9 Z) ?_;rw[hp];refine jtg a9 c6 λb2 o2 ty cs rv nv a2 d3 hb ho a0=>?_
 have e3:=e1 _ (cK c6);obtain⟨ra,rc,rfl⟩:=a2.sl;obtain⟨na,nc,rfl⟩:=d3.sl;refine Do hb ho a0 (ja λb3=>(js rfl rfl (by exact z_n 6) rfl (Az d9.symm (Ab (λvs W T=>W = R3/\∃v A,SO Q v A/\T = A ++ E/\vs = [lv,v,I i]) (λK6 b6=>?_) ?_))));rotate_left
 .rintro e R2 D2 ⟨hR,v,A,O,hD,he⟩;refine z_W ?_;clear hD;exact b5 _ _ _ ⟨hR,v,A,O,rfl,rfl⟩
 refine jlp (λm vs W T=>W = R3/\∃(j:Nat) (y:List Int) (v:Value) (A:Chs),j<=(l[n]).refs.length/\Aq l ((l[n]).refs.drop j) y = some Q/\SO y v A/\T = A ++ ((b3,C BK (eTh l[n] (.slice ra l[n].refs.length rc) (.slice na l[n].nums.length nc))) :: E)/\vs = [lv,v,I i,Pt b3,I j]/\m = (l[n]).refs.length - j)
  (n:=(l[n]).refs.length) ⟨rfl,0,y,v,A,Z,N,O,rfl,rfl,Z⟩ ?_
 clear N O c8;rintro m2 e R2 D2 K7 ⟨hR,j,y,v,A,hj,N,O,hD,he,hm⟩ b7;subst hR;refine z_W ?_;clear hD;have e6:=ED N;refine jl rfl (jln (jlt (jif (λhd=>?_) (λhd=>?_))));rotate_left
 .have hd:=z_g hd;rw[cT Z] at N;cases N;refine Al A (G:=E) (b6 _ _ _ ⟨rfl,v,A,O,rfl,rfl⟩)
 have hd:j < (l[n]).refs.length:=by have:=z_f hd;omega
 rw[cQ hd] at N;unfold Aq at N;obtain⟨x,hx,N⟩:=AF N;refine Ab (λvs W T=>W = R2/\∃v A,SO (Bu y x) v A/\T = A ++ ((b3,C BK (eTh l[n] (.slice ra l[n].refs.length rc) (.slice na l[n].nums.length nc))) :: E)/\vs = [lv,v,I i,Pt b3,I j]) (λK8 b8=>?_) ?_;rotate_left
 .rintro e R3 D3 ⟨hR,v,A,O,hD,he⟩;subst hR;refine z_W ?_;clear hD;refine jad (b7 ((l[n]).refs.length - (j + 1)) _ _ _ Z ⟨rfl,j + 1,_,v,A,Z,N,O,rfl,rfl,rfl⟩)
 refine jcI b8 λK9 a6=>?_
 refine jl rfl (Bl a2 Z Z ?_);rw[getElem_congr_idx (cG j)];refine jro (Fh a9 Z hx) ?_;obtain⟨sa,sn,sc,c4⟩:=O.sl;refine jan [lv,v,I i,Pt b3,I j,I x] (((x != 0)) && (decide (BP y x < 0))) (λK' b0=>?_) (λe c u ho he=>?_)
 .refine jne (jgA b0 λh1 hN=>jro (Gb x O.rd Z) (jlt hN))
 refine z_V ?_;rw[ho];refine jif (λh0=>?_) (λh0=>?_)
 .refine jbs rfl rfl λb1=>(Gr O Z λv' A' a8=>(a6 _ _ _ ⟨rfl,v',A',by rw[NR h0];exact a8,rfl,rfl⟩))
 .exact a6 _ _ _ ⟨rfl,v,A,Ts (R:=R2) (D:=[]) h0 O,rfl,rfl⟩
theorem Wq {R:RM} {A E:Chs} {l:List Int} {v:Value} {x:Int} {i:Nat} {m:M} (D:SO l v A) (j:i < l.length) (H:∀y,SO (l.set i x) v y->J R (y ++ E) m):J R (A ++ E) (IA 1 v (I (i:Int)) λq=>ST 1 q (I x) m):=by
 rcases D with ⟨rfl,_,_⟩ | ⟨b,c,sp,hc,hsp,rfl,rfl⟩
 .exact absurd j V
 .refine C0 j (jsi j (H _ (.inr ⟨b,c,sp,by simpa using hc,by simpa using hsp,by rw[dG],rfl⟩)))
theorem Q0 (l:List Int) (x:Int):(HD l x).length = l.length + 1:=by
 unfold HD;have:∀k,EE l x k<=k:=by
  intro k;induction k with
  | zero=>exact z_n 0
  | succ k j=>unfold EE;split<;>omega
 have:=this l.length;simp only[cJ,cV,cS,dN];omega
theorem FK:∀(l j:List Int),(l.foldl HD j).length = j.length + l.length
 | [],j=>V
 | a :: r,j=>by rw[fF,FK r,Q0];simp;omega
theorem Ss {R:RM} {v:Value} {l:List Int} (h:B8 R v l) (hl:l.length < 1000000):Fn P In [v] R [] (λN W A=>W = R/\SO (Ac l) N A):=by
 refine O2 λF=>?_
 refine z_1 ?_;refine Ab (λvs W D'=>W = R/\∃N A,SO (Ac l) N A/\D' = A ++ F/\vs = [N]) (λK hK=>?_) ?_;rotate_left
 .rintro e R3 D3 ⟨hR,N,A,Q,hD,he⟩;subst hR;refine z_W ?_;clear hD;exact Ao (RM.le.refl R3) ⟨rfl,Q⟩
 refine jcI hK λK2 a6=>?_
 refine jlp (λm vs W D'=>W = R/\∃(k:Nat) (j:List Int) (N : Value) (A:Chs),k<=l.length/\j.length = k/\(l.drop k).foldl HD j = Ac l/\SO j N A/\D' = A ++ F/\vs = [v,N,I k]/\m = l.length - k)
  (n:=l.length) ⟨rfl,0,[],SN,[],Z,rfl,rfl,.inl ⟨rfl,rfl,rfl⟩,rfl,rfl,Z⟩ ?_
 rintro m e R1 D1 K3 ⟨hR,k,j,N,A,hk,b0,a0,Q,hD,he,hm⟩ a7;subst hR;refine z_W ?_;clear hD;refine Bo h.sl (jlt (jif (λhc=>?_) (λhc=>?_)));rotate_left
 .have hc:=z_g hc;rw[cT Z,List.foldl_nil] at a0;subst a0;exact a6 _ _ _ ⟨rfl,N,A,Q,rfl,rfl⟩
 have hc:k < l.length:=by have:=z_f hc;omega
 rw[cQ hc,fF] at a0;refine Ab (λvs W D'=>W = R1/\∃N A,SO (HD j l[k]) N A/\D' = A ++ F/\vs = [v,N,I k]) (λK4 a8=>?_) ?_;rotate_left
 .rintro e R2 D2 ⟨hR,N,A,Q,hD,he⟩;subst hR;refine z_W ?_;clear hD;refine jad (a7 (l.length - (k + 1)) _ _ _ Z ⟨rfl,k + 1,_,N,A,Z,by rw[Q0,b0],a0,Q,rfl,rfl,rfl⟩)
 refine jcI a8 λK5 a1=>?_
 obtain⟨b3,-⟩:=Q.rd (R:=R1) (E:=F);refine Bo b3 (Bl h Z Z ?_);rw[getElem_congr_idx (cG k)];generalize l[k] = x at a1;refine jbs rfl rfl λb1=>(Gr Q Z λv2 A2 a4=>(Ab (λvs W D'=>W = R1/\∃N A,SO (HD j x) N A/\D' = A ++ F/\vs = [v,N,I k]) (λK6 a2=>?_) ?_))
 rotate_left
 .rintro e R2 D2 ⟨hR,N,A,Q,hD,he⟩;refine z_W ?_;clear hD;exact a1 _ _ _ ⟨hR,N,A,Q,rfl,rfl⟩
 refine jlp (λm vs W D'=>W = R1/\∃(i:Nat) (D:List Int) (A:Chs),i<=j.length/\D = j.take i ++ x :: j.drop i/\EE j x i = EE j x j.length/\SO D v2 A/\D' = A ++ F/\vs = [v,v2,I k,I i]/\m = i)
  ⟨rfl,j.length,j ++ [x],A2,Z,V,rfl,a4,rfl,rfl,rfl⟩ ?_
 clear Q a4;rintro m2 e R2 D2 K7 ⟨hR,i,D,A,hi,G,a3,Q,hD,he,hm⟩ a9;subst hR;refine z_W ?_;clear hD;have b5:D.length = j.length + 1:=by rw[G];simp;omega
 obtain⟨-,b2⟩:=Q.rd;have T : ∀(i:Nat) (h:i < D.length) (k:Value->M),J R2 (A ++ F) (k (I D[i]))->J R2 (A ++ F) (IA 1 v2 (I (i:Int)) λx=>L1 x k):=λi h k H=>by
  have:=b2 [] i h k (by rw[dD];exact H);rw[dD] at this;exact this
 have gi:D[i]'(Z) = x:=by
  subst G;rw[df (by simp;omega)];simp[Nat.min_eq_left hi]
 cases i with
 | zero=>
  refine Ce (jgr ?_);rw[decide_eq_false δ];refine jft (C5 λe he=>?_);refine z_V ?_;refine Et (CW (a2 _ _ _ ⟨rfl,v2,A,?_,rfl,rfl⟩));have:HD j x = D:=by
   unfold HD;rw[<- a3,G];rfl
  rw[this];exact Q
 | succ i=>
  have gp:D[i]'(Z) = j[i]'(Z):=by
   subst G;rw[eU (by simp;omega),eh]
  obtain⟨y,hy⟩:∃y,j[i]'(Z) = y:=⟨_,rfl⟩;rw[hy] at gp;have es:((i + 1:Nat):Int) - 1 = (i:Nat):=Z
  have O:(if x < j.getD i 0 then EE j x i else i + 1) = EE j x j.length:=a3;rw[cH,cF Z,dI,hy] at O;refine Ce (jgr ?_);rw[decide_eq_true Z];refine jtt (jsu ?_);rw[es];refine T i Z _ (T (i + 1) Z _ (jgr (C5 λe he=>?_)));refine z_V ?_;rw[gp,gi];refine Ec (jif (λh1=>?_) (λh1=>?_))
  .have h1:x < y:=z_f h1;rw[if_pos h1] at O;refine jsu ?_;rw[es];refine T i Z _ (jsu ?_);rw[es];refine T (i + 1) Z _ (Wq Q Z λA3 b4=>(Wq b4 (by rw[dG];omega) λA4 a5=>(jsu ?_)));rw[es];rw[gp,gi] at a5;refine a9 i _ _ _ Z ⟨rfl,i,_,A4,Z,?_,O,a5,rfl,rfl,rfl⟩;have e1:j.take (i + 1) = j.take i ++ [y]:=by rw[cI Z,hy]
   have e2:j.drop i = y :: j.drop (i + 1):=by rw[cQ Z,hy]
   have l1:(j.take i).length = i:=by simp;omega
   rw[G,e1,e2,cR,dl _ _ Z,dl _ _ Z,l1];simp
  .have h1:¬ x < y:=z_g h1;rw[if_neg h1] at O;refine a2 _ _ _ ⟨rfl,v2,A,?_,rfl,rfl⟩;have:HD j x = D:=by
    unfold HD;rw[<- O,G]
   rw[this];exact Q
def TB (l:List AQ):Prop:=∀t∈l,0<=t.at_/\t.at_ < 1000000/\t.refs.length<=4/\t.nums.length<=4
theorem aM {w:List Int} {a:Int} (hl:w.length < 1000000) (h:(As w a).2 = true):0<=(As w a).1.at_/\(As w a).1.at_ < 1000000/\(As w a).1.refs.length<=4/\(As w a).1.nums.length<=4:=by
 unfold As at h ⊢;split at h
 .rename_i x;rw[if_pos x];dsimp only at h ⊢;split at h
  .rename_i j;rw[if_pos j];simp only[z_b] at j;have:=G8 j.1;have:=FA x;dsimp only;refine⟨Z,Z,?_,?_⟩
   .unfold seg;rw[cV];omega
   .unfold seg;rw[cV];omega
  .exact absurd h δ
 .exact absurd h δ
theorem Tp {w:List Int} (hl:w.length < 1000000):∀{n:Nat} {a top:Int} {l:List AQ},Au w n a top = some l->TB l
 | 0,a,top,l,h=>by
  unfold Au at h;split at h
  .cases h
  .cases h;intro t j;cases j
 | n + 1,a,top,l,h=>by
  unfold Au at h;split at h
  .dsimp only at h;split at h
   .rename_i hc;simp only[z_b] at hc;split at h
    .rename_i y x;cases h;intro t j;rcases cU.1 j with rfl | j
     .exact aM hl hc.1
     .exact Tp hl x t j
    .cases h
   .cases h
  .cases h;intro t j;cases j
theorem Ml {w:List Int} (hl:w.length < 1000000):∀{t:List Rg} {r:Nat} {l:List AQ},Ba w r t = some l->TB l/\l.length<=16 * t.length
 | [],r,l,h=>by
  cases h;exact⟨λt j=>(by cases j),V⟩
 | x :: t,r,l,h=>by
  unfold Ba at h;split at h
  .cases h
  .rename_i a y;split at h
   .cases h
   .rename_i b hb;cases h;obtain⟨A,G⟩:=Ml hl hb;have H:=SB y;have D:TB a:=by
     unfold BU at y;split at y
     .exact Tp hl y
     .cases y
    refine⟨λt j=>?_,by rw[cJ,cS];omega⟩;rcases cm.1 j with j | j
    .exact D t j
    .exact A t j
theorem EP {w w' : List Int} {a v:Int} (h:Sm.wr w a v = some w'):0<=a/\a < w.length/\w' = w.set a.toNat v:=by
 unfold Sm.wr at h;split at h
 .rename_i hc;cases h;exact⟨hc.1,hc.2,rfl⟩
 .cases h
theorem X7 {R:RM} {s:Sm.Ah} {wv tv mv G ov pv lv:Value} {l:List AQ} {w w' : List Int} {t t' : List Rg} {wsp tsp:List Value} {bw cw bt ct:Nat} (h:StC R s wv tv mv G ov pv) (a4:Tgs R lv l) (e1:TB l) (f1:l.length < 1000000)
  (hp:∀a∈s.AI,AN a<=9223372036854775807) (d3:s.AI.length < 1000000) (j:stay s l w t = some (w',t')) :
  Fn P MD [.agg (eSt s wv tv mv G ov pv).toArray,lv,S0 bw w.length cw,S0 bt t.length ct] R
   [(bw,C Aa (w.map I ++ wsp)),(bt,C AO (Ad eRg t ++ tsp))] (λ_ T A=>T = R/\w'.length = w.length/\t'.length = t.length/\A = [(bw,C Aa (w'.map I ++ wsp)),(bt,C AO (Ad eRg t' ++ tsp))]):=by
 refine SR λF=>?_
 refine z_4 ?_;refine ja λb=>?_
 rw[show cl (.agg (eSt s wv tv mv G ov pv).toArray) = eSt s wv tv mv G ov pv from rfl];refine jlp (λm vs T D'=>T = R/\∃(i:Nat) (w1:List Int) (t1:List Rg),i<=l.length/\w1.length = w.length/\t1.length = t.length/\stay s (l.drop i) w1 t1 = some (w',t')/\D' = (b,C AW (eSt s wv tv mv G ov pv)) :: (bw,C Aa (w1.map I ++ wsp)) :: (bt,C AO (Ad eRg t1 ++ tsp)) :: F/\vs = [lv,S0 bw w.length cw,S0 bt t.length ct,Pt b,I i]/\m = l.length - i)
  (n:=l.length) ⟨rfl,0,w,t,Z,rfl,rfl,j,rfl,rfl,Z⟩ ?_
 clear j;rintro m e R1 D1 K ⟨hR,i,w1,t1,hi,c0,a6,j,hD,he,hm⟩ hK;subst hR;refine z_W ?_;clear hD;refine Bo a4.sl (jlt (jif (λhc=>?_) (λhc=>?_)));rotate_left
 .have hc:=z_g hc;rw[cT Z] at j;cases j;refine Ao (RM.le.refl R1) ⟨rfl,c0,a6,rfl⟩
 have hc:i < l.length:=by have:=z_f hc;omega
 rw[cQ hc] at j;obtain⟨a0,a1,r1,n1⟩:=e1 _ (cK hc);unfold stay at j;dsimp only at j;have b5:AN (l[i]).at_<=9223372036854775807:=by unfold AN;split<;>omega
 refine Ab (λvs T D'=>T = R1/\∃(w2:List Int) (t2:List Rg),w2.length = w.length/\t2.length = t.length/\stay s (l.drop (i + 1)) w2 t2 = some (w',t')/\D' = (b,C AW (eSt s wv tv mv G ov pv)) :: (bw,C Aa (w2.map I ++ wsp)) :: (bt,C AO (Ad eRg t2 ++ tsp)) :: F/\vs = [lv,S0 bw w.length cw,S0 bt t.length ct,Pt b,I i]) (λK4 c4=>?_) ?_;rotate_left
 .rintro e R2 D2 ⟨hR,w2,t2,Q,b9,c8,hD,he⟩;subst hR;refine z_W ?_;clear hD;refine jad (hK (l.length - (i + 1)) _ _ _ Z ⟨rfl,i + 1,w2,t2,Z,Q,b9,c8,rfl,rfl,rfl⟩)
 refine jcI c4 λK5 a8=>?_
 obtain⟨rows,a2,hfz⟩:=a4;have a9 : i < rows.length:=by rw[a2.1];exact hc
 obtain⟨bl,ol,e6,f5,W,b1,y,f3,O⟩:=Ja hfz (a2.all λ_ _=>ThC.len) a9;obtain⟨rv,nv,a7,d4,b4⟩:=a2.2 i a9 hc;rw[a7] at O;have a4:Tgs R1 lv l:=⟨rows,a2,hfz⟩;have ia:∀{D:Chs} {k:Value->M},J R1 D (k (.pointer (some ⟨bl,ol + i * 6,none⟩)))->J R1 D (IA 6 lv (I (i:Int)) k):=λH=>by
  rw[b1];refine jia Z Z ?_;rw[cG];exact H
 have g0:W[ol + i * 6 + 0]? = some (I (l[i]).at_):=Bc O rfl;have g4:W[ol + i * 6 + 4]? = some rv:=Bc O rfl;have g5:W[ol + i * 6 + 5]? = some nv:=Bc O rfl;have g2:(W.drop (ol + i * 6 + 2)).take 2 = [I (l[i]).sh.refs,I (l[i]).sh.nums]:=by
  have:=congrArg (λx=>(x.drop 2).take 2) O;simp only[fI,fP,fO] at this;simpa [eTh] using this
 refine ia (jfo (jlr y g0 (jp (Cf _ b5) (jla (by exact z_n 13) rfl ?_))));refine jro (LO (AN (l[i]).at_) h hp d3) (jif (λhh=>?_) (λhh=>?_));rotate_left
 .rw[if_neg (by rw[hh];decide)] at j;exact a8 _ _ _ ⟨rfl,w1,t1,c0,a6,j,rfl,rfl⟩
 rw[if_pos hh] at j;obtain⟨w2,e2,j⟩:=AF j;obtain⟨w3,e3,j⟩:=AF j;obtain⟨w4,e4,j⟩:=AF j;obtain⟨row,b6,j⟩:=AF j;obtain⟨e7,a5,j⟩:=AF j;obtain⟨q1,q2,q3⟩:=EP e2;obtain⟨q4,q5,q6⟩:=EP e3;refine ia (jfo (jlr y g0 (ia (jfo (jlr y g0 (jia q1 Z (jsi Z ?_)))))));rw[<- q3];refine ia (jfo (jlr y g0 (jad (ia (jfo (Do y Z g2 (jp (EL (l[i]).sh) ?_)))))));have e9:w2.length = w1.length:=by rw[q3,dG]
 refine jia q4 Z (Ak (jlr y g0 jev) (jsi Z ?_));rw[<- q6];have f0:w3.length = w2.length:=by rw[q6,dG]
 obtain⟨z0,z1,z2,z3⟩:=Av b6;obtain⟨y0,y1,y2,y3⟩:=Av a5;obtain⟨k0,d1⟩:∃k:Nat,AN (l[i]).at_ = k:=⟨(AN (l[i]).at_).toNat,Z⟩;refine Ab (λvs T D'=>T = R1/\w4.length = w.length/\D' = (b,C AW (eSt s wv tv mv G ov pv)) :: (bw,C Aa (w4.map I ++ wsp)) :: (bt,C AO (Ad eRg t1 ++ tsp)) :: F/\vs = [lv,S0 bw w.length cw,S0 bt t.length ct,Pt b,I i,I (AN (l[i]).at_)]) (λK6 c5=>?_) ?_;rotate_left
 .rintro e R2 D2 ⟨hR,Q,hD,he⟩;subst hR;refine z_W ?_;clear hD;rw[d1] at j ⊢;have b0:k0 < s.AA.length:=Z
  have d2:k0 < t1.length:=Z
  have ez:s.AA[k0] = row:=by rw[<- z3];exact getElem_congr_idx Z
  refine jl rfl (jrg h.t b0 λb2 o2 ty cs hb ho b7=>(jfo (jlr hb (Bc b7 rfl) (jl rfl (jrg h.t b0 λb3 o3 f4 e8 c9 f2 b8=>(jfo (jlr c9 (Bc b8 rfl) ?_)))))));rw[ez];refine jbd rfl rfl (C0 Z (Ge (x:=⟨3,-1,row.top,row.top,0⟩) d2 (a8 _ _ _ ⟨rfl,w4,t1.set k0 ⟨3,-1,row.top,row.top,0⟩,Q,by rw[dG];exact a6,by simpa [AT] using j,rfl,rfl⟩)))
 refine jcI c5 λK7 c6=>?_
 refine jlp (λm vs T D'=>T = R1/\∃(k:Nat) (w5:List Int),k<=(l[i]).nums.length/\w5.length = w.length/\wrs w5 ((l[i]).at_ + 2 + (l[i]).refs.length + k) ((l[i]).nums.drop k) = some w4/\D' = (b,C AW (eSt s wv tv mv G ov pv)) :: (bw,C Aa (w5.map I ++ wsp)) :: (bt,C AO (Ad eRg t1 ++ tsp)) :: F/\vs = [lv,S0 bw w.length cw,S0 bt t.length ct,Pt b,I i,I (AN (l[i]).at_),I k]/\m = (l[i]).nums.length - k)
  (n:=(l[i]).nums.length) ⟨rfl,0,w3,Z,Z,by simpa using e4,rfl,rfl,Z⟩ ?_
 rintro m3 e R2 D2 K8 ⟨hR,k,w5,hk,a3,N,hD,he,hm⟩ c7;subst hR;refine z_W ?_;clear hD;refine ia (jfo (jlr y g5 (Bo b4.sl (jlt (jif (λhd=>?_) (λhd=>?_))))));rotate_left
 .have hd:=z_g hd;rw[cT Z] at N;cases N;exact c6 _ _ _ ⟨rfl,a3,rfl,rfl⟩
 have hd:k < (l[i]).nums.length:=by have:=z_f hd;omega
 rw[cQ hd] at N;unfold wrs at N;obtain⟨w6,e5,N⟩:=AF N;obtain⟨p1,p2,p3⟩:=EP e5;refine ia (jfo (jlr y g0 (jad (ia (jfo (jlr y g4 (Bo d4.sl (jad (jad (ia (jfo (jlr y g5 (Bl b4 Z Z ?_)))))))))))));rw[getElem_congr_idx (cG k)];refine jia p1 Z (jsi Z ?_);rw[<- p3];refine jad (c7 ((l[i]).nums.length - (k + 1)) _ _ _ Z ⟨rfl,k + 1,w6,Z,by rw[p3,dG];exact a3,by rw[<- N];congr 1;omega,rfl,rfl,rfl⟩)
end Go.Lf
end
section
namespace Go.Lf
open Go Sm
theorem Md (j:Cfg):Pu J5 [.agg #[I j.AH,I j.AB,I j.AU]] (.bool (Bg j)):=by
 intro R;refine Nv λF=>?_
 refine z_1 ?_;refine ja λb=>?_
 rw[show cl (.agg #[I j.AH,I j.AB,I j.AU]) = [I j.AH,I j.AB,I j.AU] from rfl];refine jan [Pt b] ((decide (j.AH>=3)) && (decide (j.AH<=12))) (λG x=>?_) (λe c u D he=>?_)
 .refine jl rfl (jge (jgA x λH y=>jl rfl (jle y)))
 refine z_V ?_;refine jan [Pt b] ((decide (j.AH>=3) && decide (j.AH<=12)) && (decide (j.AB>=1))) (λG x=>?_) (λe c u D he=>?_)
 .rw[D];refine jgA x λH y=>jl rfl (jge y)
 refine z_V ?_;refine jan [Pt b] ((decide (j.AH>=3) && decide (j.AH<=12) && decide (j.AB>=1)) && (decide (j.AB<=3))) (λG x=>?_) (λe c u D he=>?_)
 .rw[D];refine jgA x λH y=>jl rfl (jle y)
 refine z_V ?_;refine jan [Pt b] ((decide (j.AH>=3) && decide (j.AH<=12) && decide (j.AB>=1) && decide (j.AB<=3)) && (decide (j.AU>=0))) (λG x=>?_) (λe c u D he=>?_)
 .rw[D];refine jgA x λH y=>jl rfl (jge y)
 refine z_V ?_;refine jan [] ((decide (j.AH>=3) && decide (j.AH<=12) && decide (j.AB>=1) && decide (j.AB<=3) && decide (j.AU>=0)) && (decide (j.AU<=100))) (λG x=>?_) (λe c u D he=>?_)
 .rw[D];refine jgA x λH y=>jl rfl (jle y)
 refine z_V ?_;rw[D];exact Ao (A:=[]) (RM.le.refl R) rfl
def VX (t:List Rg) (v:Value) (N:Chs):Prop:=if t = [] then v = .tuple #[SN,.bool false]/\N = [] else ∃sv,Y4 t sv N/\v = .tuple #[sv,.bool true]
theorem IZ {R:RM} {D:Chs} (n:Int):Mk J9 [I n] R D (VX (AV n)):=by
 refine OY λF=>?_
 refine z_1 ?_;refine jor [I n] ((decide (n < 2)) || (decide (n > 12))) (λK' O=>?_) (λe c u ho he=>?_)
 .refine jlt (jgO O λh1 hN=>jgr hN)
 refine z_V ?_;rw[ho];refine jif (λh0=>?_) (λh0=>?_)
 .have:AV n = []:=by
   unfold AV;rw[if_pos];simpa using h0
  rw[this];exact DS [] ⟨rfl,rfl⟩
 simp only[ci,decide_eq_false_iff_not] at h0;obtain⟨k,rfl⟩:∃k:Nat,n = k:=⟨n.toNat,Z⟩;have ht:AV k = Db :: (List.range (k - 1)).map λ(i:Nat)=>Dj ((i:Int) + 1):=by
  unfold AV;rw[if_neg Z,cG]
 have a0:AV k = ((List.range k).map λj:Nat=>Dj (j:Int)).set 0 Db:=by
  rw[ht,show k = (k - 1) + 1 by omega,List.range_succ_eq_map];simp
 refine Ab (λvs N H=>N = R/\∃v A,SW AO 5 (((List.range k).map λj:Nat=>Dj (j:Int)).map eRg) v A/\H = A ++ (D ++ F)/\vs = [v]) (λK hK=>?_) ?_
 .refine jcI hK λK2 Q=>?_
  refine jlp (λm vs N H=>N = R/\∃(i:Nat) (v:Value) (A:Chs),i<=k/\SW AO 5 (((List.range i).map λj:Nat=>Dj (j:Int)).map eRg) v A/\H = A ++ (D ++ F)/\vs = [I k,v,I i]/\m = k - i)
   (n:=k) ⟨rfl,0,SN,[],Z,.inl ⟨rfl,rfl,rfl⟩,rfl,rfl,Z⟩ ?_
  rintro m e R1 D1 K3 ⟨W,i,v,A,hi,y,hD,he,hm⟩ T;subst W;refine z_W ?_;refine jlt (jif (λhc=>?_) (λhc=>?_));rotate_left
  .have hc:i = k:=by have:=z_g hc;omega
   subst hc;exact Q _ _ _ ⟨rfl,v,A,y,rfl,rfl⟩
  have hc:i < k:=by have:=z_f hc;omega
  refine jp (BW i) (jp (BW i) (jbd rfl rfl (jbs rfl rfl λb4=>(Az d9.symm ?_))));have hx:BX R1 (A ++ ((b4,C AO (eRg (Dj (i:Int)))) :: (D ++ F))) (some ⟨b4,0,none⟩) (1 * 5) [eRg (Dj (i:Int))].flatten:=BX.held (cs:=eRg (Dj (i:Int))) (z_n 5);refine jaw y (WK _) (by intro r hr;rw[cZ.1 hr];rfl) rfl rfl rfl δ (by simp only[cM,List.length_range,cr];omega) hx λv' A' a1=>(jad (Al A' (G:=D ++ F) (T (k - (i + 1)) _ _ _ Z ⟨rfl,i + 1,v',A',Z,?_,rfl,rfl,rfl⟩)))
  rw[List.range_succ,dE,dE];exact a1
 rintro e R1 D1 ⟨W,v,A,y,hD,he⟩;subst W;refine z_W ?_;rcases y with ⟨h1,_,_⟩ | ⟨b,c,sp,hc,hsp,rfl,rfl⟩
 .have:=congrArg List.length h1;simp at this;omega
 rw[cM] at hc ⊢;refine jbd rfl rfl ?_;have hlen:((List.range k).map λj:Nat=>Dj (j:Int)).length = k:=V
 refine Az (dK _) (C0 (r:=0) Z (Ge (x:=Db) Z (DS [(b,C AO (Ad eRg (((List.range k).map λj:Nat=>Dj (j:Int)).set 0 Db) ++ sp))] ?_)));rw[a0];unfold VX;rw[if_neg (by intro hn;have:=congrArg List.length hn;simp at this;omega)];exact⟨_,⟨b,c,sp,by rw[dG];exact hc,by rw[dG],rfl⟩,rfl⟩
theorem Wf {w:List Int} {n k:Nat} (h:n + k < w.length):(w.take n ++ List.replicate k 0 ++ w.drop (n + k)).set (n + k) 0 = w.take n ++ List.replicate (k + 1) 0 ++ w.drop (n + (k + 1)):=by
 have l1:(w.take n ++ List.replicate k (0:Int)).length = n + k:=by simp;omega
 rw[dl _ _ Z,l1,Nat.sub_self,cQ h,List.set_cons_zero,List.replicate_succ',cR,cR,cR,List.singleton_append,Nat.add_assoc]
def QMk (r:List Int × Bool) (v:Value) (A:Chs):Prop:=if r.2 then ∃sv,WM r.1 sv A/\v = .tuple #[sv,.bool true] else v = .tuple #[SN,.bool false]/\A = []
theorem OT {w:List Int} {n z:Nat} {s:Shp} (h0:fits w.length n (AG s) = true) (j:BM s = true) (Q:AG s = z) :
  CT w n s = ((((w.take n ++ List.replicate z 0 ++ w.drop (n + z)).set n (n:Int)).set (n + 1) (AY s)),true):=by
 obtain⟨H,K,N,O⟩:=FA h0;have G:AG s = 2 + s.refs + s.nums:=by unfold AG;rw[if_pos j]
 have D:0<=s.refs/\0<=s.nums:=by
  unfold BM at j;simp only[z_b,z_d] at j;omega
 unfold CT;rw[if_pos h0];congr 1;unfold Sm.put;obtain⟨x,rfl⟩:∃k,z = k + 2:=⟨z - 2,Z⟩;have y:s.refs.toNat + s.nums.toNat = x:=Z
 have l1:(w.take n).length = n:=by simp;omega
 have A:w.take n ++ List.replicate (x + 2) 0 ++ w.drop (n + (x + 2)) = w.take n ++ (0 :: 0 :: (List.replicate x 0 ++ w.drop (n + (x + 2)))):=by simp[List.replicate_succ]
 rw[y,A,cG,dl _ _ Z,l1,Nat.sub_self,List.set_cons_zero,dl _ _ Z,l1,Nat.add_sub_cancel_left];simp[Nat.add_comm,Nat.add_left_comm]
theorem PC {R:RM} {wv:Value} {w:List Int} (a:Int) (s:Shp) (h:B8 R wv w) (hl:w.length < 1000000) :
  Fn P Hj [wv,I a,eSh s] R [] (λv N A=>N = R/\QMk (CT w a s) v A):=by
 refine Ms λF=>?_
 refine z_3 ?_;obtain⟨wa,wc,a8,hr⟩:=Fz.reads (D:=[]) h;refine ja λb1=>?_
 rw[show cl (eSh s) = [I s.refs,I s.nums] from rfl];refine jla (l:=[I s.refs,I s.nums]) V rfl (jp (CN s) ?_);rw[a8];refine jp (Mb wa w.length wc a (AG s) Z) (jif (λh0=>?_) (λh0=>?_))
 .have h0:fits w.length a (AG s) = false:=by simpa using h0
  refine Ao (A:=[]) (RM.le.refl R) ⟨rfl,?_⟩;have:CT w a s = ([],false):=by unfold CT;rw[h0];rfl
  rw[this];exact⟨rfl,rfl⟩
 have h0:fits w.length a (AG s) = true:=by simpa using h0
 obtain⟨a0,a1,a2,a3⟩:=FA h0;have H:BM s = true:=by
  unfold AG at a2;split at a2
  .assumption
  .omega
 have c4:AG s = 2 + s.refs + s.nums:=by unfold AG;rw[if_pos H]
 have c0:0<=s.refs/\0<=s.nums:=by
  unfold BM at H;simp only[z_b,z_d] at H;omega
 obtain⟨n,rfl⟩:∃n:Nat,a = n:=⟨a.toNat,Z⟩;obtain⟨z,hz⟩:∃z:Nat,AG s = z:=⟨(AG s).toNat,Z⟩;have em:=OT h0 H hz;rw[hz] at a1 a2 a3 ⊢;have a4:∀(b c:Nat) (sp:List Value) (E:Chs) (K:Value->M),w.length<=c->sp.length = c - w.length->Sf E F->True:=λ_ _ _ _ _ _ _ _=>trivial
 clear a4;refine jbs (cs:=[]) rfl rfl λb2=>?_
 have b9:w.length≠0:=Z
 have W:∀(b c:Nat) (sp:List Value) (E:Chs),w.length<=c->sp.length = c - w.length->At E b1 (C HZ [I s.refs,I s.nums])->Sf E F->
   J R ((b,C Aa (w.map I ++ sp)) :: E) (CUT [1,5,9] (λJe8=>CUT [1,5,9] (λJe14=>LP [1,5,8,9,10] (λKe15 j=>BO .lss (j 10) (j 8) λb5=>IF b5 (BO .add (j 1) (j 10) λb6=>IA 1 (j 9) b6 λb7=>ST 1 b7 (I 0)<|BO .add (j 10) (I 1) λb8=>Ke15 [(j 1),(j 5),(j 8),(j 9),b8]) (Je14 [(j 1),(j 5),(j 9)])) [I n,Pt b1,I z,S0 b w.length c,(I 0)]) λO=>Je8 [(O 1),(O 5),(O 9)]) λQ=>IA 1 (Q 9) (Q 1) λx9=>ST 1 x9 (Q 1)<|BO .add (Q 1) (I 1) λa9=>LA 2 (Q 5) λb0=>CA P 62 [b0] λb3=>IA 1 (Q 9) a9 λb4=>ST 1 b4 b3<|Fb R F (λv N A=>N = R/\QMk (CT w n s) v A) (.tuple #[(Q 9),(.bool true)])):=by
  intro b c sp E hc hsp ea ef;refine Ab (λvs N D'=>N = R/\∃y:List Int,y = w.take n ++ List.replicate z 0 ++ w.drop (n + z)/\D' = (b,C Aa (y.map I ++ sp)) :: E/\vs = [I n,Pt b1,S0 b w.length c]) (λK hK=>?_) ?_
  .refine jcI hK λK2 a5=>?_
   refine jlp (λm vs N D'=>N = R/\∃(k:Nat) (y:List Int),k<=z/\y = w.take n ++ List.replicate k 0 ++ w.drop (n + k)/\D' = (b,C Aa (y.map I ++ sp)) :: E/\vs = [I n,Pt b1,I z,S0 b w.length c,I k]/\m = z - k)
    (n:=z) ⟨rfl,0,w,Z,V,rfl,rfl,Z⟩ ?_
   rintro m e R1 D1 K3 ⟨hR,k,y,hk,G,hD,he,hm⟩ a6;subst hR;refine z_W ?_;clear hD;have T:y.length = w.length:=by rw[G];simp;omega
   refine jlt (jif (λhc=>?_) (λhc=>?_));rotate_left
   .have hc:k = z:=by have:=z_g hc;omega
    subst hc;exact a5 _ _ _ ⟨rfl,y,G,rfl,rfl⟩
   have hc:k < z:=by have:=z_f hc;omega
   refine jad ?_;rw[show (n:Int) + k = ((n + k:Nat):Int) by omega];refine C0 Z (jsi Z (jad (a6 (z - (k + 1)) _ _ _ Z ⟨rfl,k + 1,y.set (n + k) 0,Z,by rw[G];exact Wf Z,rfl,rfl,rfl⟩)))
  rintro e R1 D1 ⟨hR,y,G,hD,he⟩;subst hR;refine z_W ?_;clear hD;have T:y.length = w.length:=by rw[G];simp;omega
  refine C0 Z (jsi Z (jad (jla (l:=[I s.refs,I s.nums]) V rfl (jp (EL s) ?_))));rw[show (n:Int) + 1 = ((n + 1:Nat):Int) by omega];refine C0 Z (jsi (by rw[dG];omega) (Ao (A:=[(b,C Aa (((y.set n n).set (n + 1) (AY s)).map I ++ sp))]) (RM.le.refl R1) ⟨rfl,?_⟩));rw[em,G];refine⟨_,⟨b,c,sp,?_,?_,?_,rfl⟩,rfl⟩
  all_goals simp only[dG,<- G,T]
  .exact hc
  .exact hsp
 refine W6 (new:=w.map I) ?_ δ Z (λ_=>rfl) (λh0=>?_) (λb' c hc=>?_)
 .intro h' a7;exact hr h' (St.drop (by simpa using a7))
 .omega
 .exact W b' c _ _ hc (by rw[Br (w:=1) (by intro x hx;rw[(dQ.1 hx).2];rfl)];simp) inferInstance inferInstance
theorem jnc {R:RM} {D:Chs} {b o:Nat} {k:Value->M} (H:J R D (k (.pointer (some ⟨b,o,none⟩)))):J R D (NC (.pointer (some ⟨b,o,none⟩)) k):=H
def wS (S:Sim) (g:Img):Value:=.slice (some ⟨g.wb,0,none⟩) S.AC.length g.wc
def tS (S:Sim) (g:Img):Value:=.slice (some ⟨g.tb,0,none⟩) S.AA.length g.tc
def mS (S:Sim) (g:Img):Value:=.slice (some ⟨g.mb,0,none⟩) S.AM.length g.mc
def eVw (S:Sim) (g:Img) (av wv thv:Value):List Value:=[wS S g,tS S g,mS S g,I S.Ae,.bool S.stop,.bool S.full,av,wv,thv,g.old,g.AI,I S.BC,I S.BJ]
theorem Lm {R:RM} {S:Sim} {g:Img} (ok:Ok R S g) {x wv j:Value} (y:flat x = true) (A:flat wv = true) (D:flat j = true):By (eVw S g x wv j) = true:=by
 have G:=Fz.flat ok.old;have H:=Fz.flat ok.AI;show (true && (true && (true && (true && (true && (true && (flat x && (flat wv && (flat j && (flat g.old && (flat g.AI && (true && (true && true))))))))))))) = true;rw[y,A,D,G,H];rfl
def Wj (t:Thr):Th:=⟨t.AD,t.next,t.pc != 0,t.Am⟩
theorem Tg {p:Nat} {S:Sim} {g:Img} {R:RM} (x:Ok R S g) (a0:S.sz = true) :
  Fn P IT [Pt p] R (Ag p S g) (λv O A=>∃rows b0 A',Rw (Cd O) rows S.view.AB/\SW 117 4 rows b0 A'/\A = A' ++ Ag p S g/\v = .agg (eSt S.view (wS S g) (tS S g) (mS S g) b0 g.old g.AI).toArray):=by
 refine Rs λF=>?_
 refine z_1 ?_;have a0:=Gp a0;have c7:=x.hl;obtain⟨f1,f2,f3⟩:=x.fl;refine ja λy=>(jnc (jfo (jla (by show 4 + 13<=35;omega) rfl (ja λD=>?_))))
 refine js (cs':=eVw S g g.Ap g.want g.AB) rfl (Lm x f1 f2 f3) (by exact z_n 13) rfl (js rfl rfl (by simp[eVw]) rfl (Az (dK _) (Ab (λvs O D'=>R.le O/\∃rows v A,Rw (Cd O) rows (S.th.map Wj)/\SW 117 4 rows v A/\D' = A ++ (D,C AW (eVw S g g.Ap g.want v)) :: (y,C AW (cl z50)) :: (Ag p S g ++ F)/\vs = [Pt p,Pt y,Pt D]) (λK hK=>?_) ?_)))
 .refine jcI hK λK2 b3=>?_
  refine jlp (λm vs O D'=>R.le O/\∃(i:Nat) (rows:List (List Value)) (v:Value) (A:Chs),i<=S.th.length/\Rw (Cd O) rows ((S.th.take i).map Wj)/\SW 117 4 rows v A/\D' = A ++ (D,C AW (eVw S g g.Ap g.want v)) :: (y,C AW (cl z50)) :: (Ag p S g ++ F)/\vs = [Pt p,Pt y,Pt D,I i]/\m = S.th.length - i)
   (n:=S.th.length) ⟨RM.le.refl R,0,[],SN,[],Z,Rw.nil,.inl ⟨rfl,rfl,rfl⟩,rfl,rfl,Z⟩ ?_
  rintro m e R1 D1 K3 ⟨hR,i,rows,v,A,hi,j,so,hD,he,hm⟩ b5;refine z_W ?_;have c5:=x.le hR;refine jl rfl (jln (jlt (jif (λhc=>?_) (λhc=>?_))));rotate_left
  .have hc:=z_g hc;rw[cO Z] at j;exact b3 _ _ _ ⟨hR,rows,v,A,j,so,rfl,rfl⟩
  have hc:i < S.th.length:=by have:=z_f hc;omega
  have a5:idx S.th i = some (S.th[i]):=by unfold idx;rw[if_pos Z,cG,cF hc]
  have a3:=a0.2.2.2.2 _ (cK hc);refine HN c5 a5 rfl λb a T hv=>?_
  obtain⟨N,sc,W⟩:=so.sl;subst W;have a6:(S.th.take (i + 1)).map Wj = (S.th.take i).map Wj ++ [Wj S.th[i]]:=by
   rw[cI hc,dE];rfl
  generalize S.th[i] = t at a5 a3 hv a6 ⊢;refine jfo (jl rfl (jfo (jl rfl (jfo (jl rfl (jfo (jl rfl (jfo (jl rfl (jne (jc (CY hv a3) ?_)))))))))));rintro _ R2 _ a1 ⟨H,Q,c8,b8,c6,rfl,rfl⟩;refine BB (b:=H) λR3 a2 b7=>?_
  have c0:=CO b7 b8;refine jbd rfl rfl (Ak (jl rfl jev) (Ak (jl rfl jev) (Ak (jl rfl jev) (Ak (jl rfl jev) (jbs rfl rfl λb6=>(Ak (jl rfl jev) (Az (D':=(b6,C 117 [S0 H t.AD.length Q,I t.next,.bool (t.pc != 0),I t.Am]) :: (b,C Af (Aw t (.slice a t.AD.length T))) :: (A ++ ((D,C AW (eVw S g g.Ap g.want (.slice N rows.length sc))) :: (y,C AW (cl z50)) :: (Ag p S g ++ F)))) (dK _) (Al A (G:=(b6,C 117 [S0 H t.AD.length Q,I t.next,.bool (t.pc != 0),I t.Am]) :: (b,C Af (Aw t (.slice a t.AD.length T))) :: (D,C AW (eVw S g g.Ap g.want (.slice N rows.length sc))) :: (y,C AW (cl z50)) :: (Ag p S g ++ F)) ?_))))))));have hx:BX R3 (A ++ ((b6,C 117 [S0 H t.AD.length Q,I t.next,.bool (t.pc != 0),I t.Am]) :: (b,C Af (Aw t (.slice a t.AD.length T))) :: (D,C AW (eVw S g g.Ap g.want (.slice N rows.length sc))) :: (y,C AW (cl z50)) :: (Ag p S g ++ F))) (some ⟨b6,0,none⟩) (1 * 4) [[S0 H t.AD.length Q,I t.next,.bool (t.pc != 0),I t.Am]].flatten:=BX.held (cs:=[S0 H t.AD.length Q,I t.next,.bool (t.pc != 0),I t.Am]) (z_n 4);have b9:=j.1;rw[cM,cV] at b9;refine jaw so (j.all λ_ _=>Cd.len) (by intro r hr;rw[cZ.1 hr];rfl) rfl rfl rfl δ (by rw[cr];omega) hx λv' A' a9=>?_
  obtain⟨a7,a8,a4⟩:=a9.sl;subst a4;refine jS (eVw S g g.Ap g.want (.slice a7 (rows ++ [[S0 H t.AD.length Q,I t.next,.bool (t.pc != 0),I t.Am]]).length a8)) (jad (Al A' (G:=(D,C AW (eVw S g g.Ap g.want (.slice a7 (rows ++ [[S0 H t.AD.length Q,I t.next,.bool (t.pc != 0),I t.Am]]).length a8))) :: (y,C AW (cl z50)) :: (Ag p S g ++ F)) (b5 (S.th.length - (i + 1)) _ _ _ Z ⟨(hR.trans a1).trans a2,i + 1,_,_,A',Z,?_,a9,rfl,rfl,rfl⟩)));rw[a6];exact (j.mono λ_ _=>Cd.le (a1.trans a2)).app (Rw.one ⟨_,rfl,c0⟩)
 rintro e R1 D1 ⟨hR,rows,v,A,j,so,hD,he⟩;refine z_W ?_;obtain⟨N,sc,W⟩:=so.sl;subst W;refine jl rfl (jS (eVw S g (.bool S.col.Ap) g.want (.slice N rows.length sc)) (jl rfl (js rfl rfl (by simp[eVw]) rfl (jla (by exact z_n 13) rfl ?_))));refine js rfl (Lm x rfl rfl rfl) (by exact z_n 13) rfl (jla (by exact z_n 13) rfl (Az (D':=(A ++ Ag p S g) ++ ((D,C AW (eVw S g (.bool S.col.Ap) (I S.col.want) (.slice N rows.length sc))) :: (y,C AW (eVw S g (.bool S.col.Ap) (I S.col.want) (.slice N rows.length sc))) :: F)) ?_ ?_))
 .rw[cR];exact (eK [_,_] (Ag p S g) F).append_left A
 exact Ao hR ⟨rows,.slice N rows.length sc,A,j,so,rfl,rfl⟩
theorem ZW {p:Nat} {S:Sim} {g:Img} {R:RM} (G:Ok R S g) (H:S.sz = true) :
  Fn P IT [Pt p] R (Ag p S g) (λv D A=>R.le D/\A = Ag p S g/\∃j,Ths D j S.view.AB/\v = .agg (eSt S.view (wS S g) (tS S g) (mS S g) j g.old g.AI).toArray):=by
 intro F h Q;refine Fi ?_ (Tg G H F h Q);rintro v O ⟨D,A,K,N,rows,j,W,y,T,rfl,rfl⟩;rw[cR] at N;refine (jfw T (y.all λ_ _=>Cd.len) λR2 x hfz=>(Ao (K.trans x) ⟨K.trans x,rfl,j,⟨rows,y.mono λ_ _=>Cd.le x,hfz⟩,rfl⟩)) O N
theorem E3 {R:RM} {D:Chs} {a:M} (h:J R D a):J R D (ALL [a]):=h
theorem F5 {R:RM} {D:Chs} {a b:M} {r:List M} (h:J R D a) (y:J R D (ALL (b :: r))):J R D (ALL (a :: b :: r)):=λj x=>⟨h j x,y j x⟩
def eNw (w:Value) (tv:Value) (m:Value) (thv:Value):List Value:=[w,tv,m,I 0,.bool false,.bool false,.bool false,I 0,thv,SN,SN,I 0,I 0]
def Bh (c:Cfg):List Int:=(CT (List.replicate (c.AH.toNat * 16) 0) 16 Bq).1
theorem Ll {c:Cfg} (h:Bg c = true):(CT (List.replicate (c.AH.toNat * 16) 0) 16 Bq).2 = true/\(Bh c).length = c.AH.toNat * 16:=by
 unfold Bg at h;simp only[z_b,z_d] at h;have j:fits (c.AH.toNat * 16) 16 (AG Bq) = true:=by
  have e:AG Bq = 8:=δ
  rw[e];unfold fits BL AN;simp only[z_b,z_d,beq_iff_eq];refine⟨⟨⟨⟨⟨⟨⟨Z,Z⟩,Z⟩,Z⟩,Z⟩,Z⟩,Z⟩,δ⟩
 unfold Bh CT;rw[cW,if_pos j];refine⟨rfl,?_⟩;unfold Sm.put;have:Bq.refs.toNat + Bq.nums.toNat = 6:=δ
 simp only[cJ,cV,cW,dN,cS,dc,this];omega
theorem RX {R:RM} {c:Cfg} (hc:Bg c = true) :
  Fn P JB [.agg #[I c.AH,I c.AB,I c.AU]] R [] (λv R' A=>∃y T wsp D O tsp j a9,(Bh c).length<=T/\(AV c.AH).length<=O/\Ths R' a9 (List.replicate c.AB.toNat ⟨[16],0,false,0⟩)/\
   A = [(y,C Aa ((Bh c).map I ++ wsp)),(D,C AO (Ad eRg (AT (AV c.AH) 1 ⟨3,-1,24,24,0⟩) ++ tsp)),(j,C Ax ((List.replicate (c.AH.toNat * 16) false).map Value.bool))]/\
   v = .tuple #[.agg (eNw (S0 y (Bh c).length T) (S0 D (AV c.AH).length O) (S0 j (c.AH.toNat * 16) (c.AH.toNat * 16)) a9).toArray,.bool true]):=by
 refine Ox λF=>?_
 refine z_1 ?_;have a3:=hc;unfold Bg at hc;simp only[z_b,z_d] at hc;refine ja λb1=>?_
 rw[show cl (.agg #[I c.AH,I c.AB,I c.AU]) = [I c.AH,I c.AB,I c.AU] from rfl];refine ja λb2=>?_
 refine jla V rfl ?_;refine jp (Md c) ?_;rw[a3];refine CW (jfo (jl rfl ?_));refine jmk (IZ c.AH) ?_;intro v N hq;unfold VX at hq;have a5:(AV c.AH).length = c.AH.toNat:=by
  unfold AV;rw[if_neg Z];simp;omega
 rw[if_neg (by intro hn;rw[hn] at a5;simp at a5;omega)] at hq;obtain⟨sv,⟨D,O,tsp,c5,rfl,rfl⟩,rfl⟩:=hq;refine jex rfl (jex rfl ?_);have Q:(c.AH * 16).toNat = c.AH.toNat * 16:=Z
 refine Ab (λvs R' D'=>R' = R/\∃y j H,D' = (H,C AW (eNw (S0 y (c.AH.toNat * 16) (c.AH.toNat * 16)) (S0 D (AV c.AH).length O) (S0 j (c.AH.toNat * 16) (c.AH.toNat * 16)) (SN))) ::
   (y,C Aa ((List.replicate (c.AH.toNat * 16) [I 0]).flatten)) :: (j,C Ax ((List.replicate (c.AH.toNat * 16) [Value.bool false]).flatten)) ::
   (D,C AO (Ad eRg (AV c.AH) ++ tsp)) :: (b2,C AW (cl z50)) :: (b1,C 24 [I c.AH,I c.AB,I c.AU]) :: F/\vs = [Pt b1,Pt b2,Pt H]) (λK hK=>?_) ?_
 .refine jfo (jl rfl (HL ⟨Z,Z⟩ (jfo (jl rfl (HL ⟨Z,Z⟩ ?_)))));refine F5 ?_ (F5 ?_ (E3 ?_))
  .refine jms Z Z Z λy=>?_
   rw[Q];refine Ak (jl rfl jev) ?_;refine F5 ?_ (E3 ?_)
   .refine jms Z Z Z λj=>?_
    rw[Q];refine jbd rfl rfl ?_;refine ja λH=>?_
    refine jS ((eNw (S0 y (c.AH.toNat * 16) (c.AH.toNat * 16)) (S0 D (AV c.AH).length O) (S0 j (c.AH.toNat * 16) (c.AH.toNat * 16)) (SN))) ?_;refine Al [(H,C AW (eNw (S0 y (c.AH.toNat * 16) (c.AH.toNat * 16)) (S0 D (AV c.AH).length O) (S0 j (c.AH.toNat * 16) (c.AH.toNat * 16)) (SN))),(y,C Aa ((List.replicate (c.AH.toNat * 16) [I 0]).flatten)),(j,C Ax ((List.replicate (c.AH.toNat * 16) [Value.bool false]).flatten))] (G:=[(D,C AO (Ad eRg (AV c.AH) ++ tsp))] ++ (b2,C AW (cl z50)) :: (b1,C 24 [I c.AH,I c.AB,I c.AU]) :: ([] ++ F)) ?_;exact hK _ _ _ ⟨rfl,y,j,H,rfl,rfl⟩
   .refine ja λH=>?_
    refine Ak (jl rfl jev) ?_;refine jms Z Z Z λj=>?_
    rw[Q];refine jbd rfl rfl ?_;refine jS ((eNw (S0 y (c.AH.toNat * 16) (c.AH.toNat * 16)) (S0 D (AV c.AH).length O) (S0 j (c.AH.toNat * 16) (c.AH.toNat * 16)) (SN))) ?_;refine Al [(H,C AW (eNw (S0 y (c.AH.toNat * 16) (c.AH.toNat * 16)) (S0 D (AV c.AH).length O) (S0 j (c.AH.toNat * 16) (c.AH.toNat * 16)) (SN))),(y,C Aa ((List.replicate (c.AH.toNat * 16) [I 0]).flatten)),(j,C Ax ((List.replicate (c.AH.toNat * 16) [Value.bool false]).flatten))] (G:=[(D,C AO (Ad eRg (AV c.AH) ++ tsp))] ++ (b2,C AW (cl z50)) :: (b1,C 24 [I c.AH,I c.AB,I c.AU]) :: ([] ++ F)) ?_;exact hK _ _ _ ⟨rfl,y,j,H,rfl,rfl⟩
  .refine jms Z Z Z λj=>?_
   rw[Q];refine Ak (jl rfl jev) ?_;refine F5 ?_ (E3 ?_)
   .refine jms Z Z Z λy=>?_
    rw[Q];refine jbd rfl rfl ?_;refine ja λH=>?_
    refine jS ((eNw (S0 y (c.AH.toNat * 16) (c.AH.toNat * 16)) (S0 D (AV c.AH).length O) (S0 j (c.AH.toNat * 16) (c.AH.toNat * 16)) (SN))) ?_;refine Al [(H,C AW (eNw (S0 y (c.AH.toNat * 16) (c.AH.toNat * 16)) (S0 D (AV c.AH).length O) (S0 j (c.AH.toNat * 16) (c.AH.toNat * 16)) (SN))),(y,C Aa ((List.replicate (c.AH.toNat * 16) [I 0]).flatten)),(j,C Ax ((List.replicate (c.AH.toNat * 16) [Value.bool false]).flatten))] (G:=[(D,C AO (Ad eRg (AV c.AH) ++ tsp))] ++ (b2,C AW (cl z50)) :: (b1,C 24 [I c.AH,I c.AB,I c.AU]) :: ([] ++ F)) ?_;exact hK _ _ _ ⟨rfl,y,j,H,rfl,rfl⟩
   .refine ja λH=>?_
    refine Ak (jl rfl jev) ?_;refine jms Z Z Z λy=>?_
    rw[Q];refine jbd rfl rfl ?_;refine jS ((eNw (S0 y (c.AH.toNat * 16) (c.AH.toNat * 16)) (S0 D (AV c.AH).length O) (S0 j (c.AH.toNat * 16) (c.AH.toNat * 16)) (SN))) ?_;refine Al [(H,C AW (eNw (S0 y (c.AH.toNat * 16) (c.AH.toNat * 16)) (S0 D (AV c.AH).length O) (S0 j (c.AH.toNat * 16) (c.AH.toNat * 16)) (SN))),(y,C Aa ((List.replicate (c.AH.toNat * 16) [I 0]).flatten)),(j,C Ax ((List.replicate (c.AH.toNat * 16) [Value.bool false]).flatten))] (G:=[(D,C AO (Ad eRg (AV c.AH) ++ tsp))] ++ (b2,C AW (cl z50)) :: (b1,C 24 [I c.AH,I c.AB,I c.AU]) :: ([] ++ F)) ?_;exact hK _ _ _ ⟨rfl,y,j,H,rfl,rfl⟩
  .refine ja λH=>?_
   refine Ak (jl rfl jev) (Ak (jl rfl jev) ?_);refine F5 ?_ (E3 ?_)
   .refine jms Z Z Z λy=>?_
    rw[Q];refine Ak (jl rfl jev) ?_;refine jms Z Z Z λj=>?_
    rw[Q];refine jbd rfl rfl ?_;refine jS ((eNw (S0 y (c.AH.toNat * 16) (c.AH.toNat * 16)) (S0 D (AV c.AH).length O) (S0 j (c.AH.toNat * 16) (c.AH.toNat * 16)) (SN))) ?_;refine Al [(H,C AW (eNw (S0 y (c.AH.toNat * 16) (c.AH.toNat * 16)) (S0 D (AV c.AH).length O) (S0 j (c.AH.toNat * 16) (c.AH.toNat * 16)) (SN))),(y,C Aa ((List.replicate (c.AH.toNat * 16) [I 0]).flatten)),(j,C Ax ((List.replicate (c.AH.toNat * 16) [Value.bool false]).flatten))] (G:=[(D,C AO (Ad eRg (AV c.AH) ++ tsp))] ++ (b2,C AW (cl z50)) :: (b1,C 24 [I c.AH,I c.AB,I c.AU]) :: ([] ++ F)) ?_;exact hK _ _ _ ⟨rfl,y,j,H,rfl,rfl⟩
   .refine jms Z Z Z λj=>?_
    rw[Q];refine Ak (jl rfl jev) ?_;refine jms Z Z Z λy=>?_
    rw[Q];refine jbd rfl rfl ?_;refine jS ((eNw (S0 y (c.AH.toNat * 16) (c.AH.toNat * 16)) (S0 D (AV c.AH).length O) (S0 j (c.AH.toNat * 16) (c.AH.toNat * 16)) (SN))) ?_;refine Al [(H,C AW (eNw (S0 y (c.AH.toNat * 16) (c.AH.toNat * 16)) (S0 D (AV c.AH).length O) (S0 j (c.AH.toNat * 16) (c.AH.toNat * 16)) (SN))),(y,C Aa ((List.replicate (c.AH.toNat * 16) [I 0]).flatten)),(j,C Ax ((List.replicate (c.AH.toNat * 16) [Value.bool false]).flatten))] (G:=[(D,C AO (Ad eRg (AV c.AH) ++ tsp))] ++ (b2,C AW (cl z50)) :: (b1,C 24 [I c.AH,I c.AB,I c.AU]) :: ([] ++ F)) ?_;exact hK _ _ _ ⟨rfl,y,j,H,rfl,rfl⟩
 rintro e Rz D1 ⟨hR,a2,j,H,hD,he⟩;subst hR;refine z_W ?_;have c9:(List.replicate (c.AH.toNat * 16) [I 0]).flatten = (List.replicate (c.AH.toNat * 16) (0:Int)).map I ++ []:=by simp[ec]
 have c7:(List.replicate (c.AH.toNat * 16) [Value.bool false]).flatten = (List.replicate (c.AH.toNat * 16) false).map Value.bool:=by simp[ec]
 rw[c9,c7];refine BB (b:=a2) λR2 b4 c0=>?_
 have d2:B8 R2 (S0 a2 (c.AH.toNat * 16) (c.AH.toNat * 16)) (List.replicate (c.AH.toNat * 16) 0):=by
  have:=CO (c:=c.AH.toNat * 16) c0 V;rw[cW] at this;exact this
 refine jbd rfl rfl (ja λb7=>?_);refine js (cs':=[I 4,I 2]) rfl rfl V rfl ?_;refine jfo (jl rfl ?_);refine jla V rfl ?_;refine jc (PC 16 Bq d2 (by rw[cW];omega)) ?_;rintro v3 R3 A3 a0 ⟨b5,hq⟩;subst b5;obtain⟨d3,e2⟩:=Ll a3;unfold QMk at hq;rw[if_pos d3] at hq;obtain⟨sv,⟨y,T,wsp,c6,d4,rfl,rfl⟩,rfl⟩:=hq;refine jex rfl (jex rfl ?_);refine jfo (js rfl rfl (by simp[eNw]) rfl ?_);refine jla (l:=[I 4,I 2]) V rfl (jp (CN Bq) (Cz ⟨δ,δ⟩ ?_));rw[show (16:Int) + AG Bq = 24 by decide];refine jfo (jl rfl ?_);refine jbd rfl rfl ?_;refine C0 (r:=1) Z (Ge (x:=⟨3,-1,24,24,0⟩) Z ?_);refine Az (D':=(y,C Aa ((Bh c).map I ++ wsp)) :: (b7,C 68 [I 4,I 2]) :: (H,C AW (eNw (S0 y (Bh c).length T) (S0 D (AV c.AH).length O) (S0 j (c.AH.toNat * 16) (c.AH.toNat * 16)) (SN))) :: (j,C Ax ((List.replicate (c.AH.toNat * 16) false).map Value.bool)) :: (D,C AO (Ad eRg (AT (AV c.AH) 1 ⟨3,-1,24,24,0⟩) ++ tsp)) :: (b2,C AW (cl z50)) :: (b1,C 24 [I c.AH,I c.AB,I c.AU]) :: F) (dK _) ?_;refine Al [(H,C AW (eNw (S0 y (Bh c).length T) (S0 D (AV c.AH).length O) (S0 j (c.AH.toNat * 16) (c.AH.toNat * 16)) (SN))),(b1,C 24 [I c.AH,I c.AB,I c.AU]),(b2,C AW (cl z50)),(y,C Aa ((Bh c).map I ++ wsp)),(D,C AO (Ad eRg (AT (AV c.AH) 1 ⟨3,-1,24,24,0⟩) ++ tsp)),(j,C Ax ((List.replicate (c.AH.toNat * 16) false).map Value.bool))] (G:=F) ?_;generalize hE:(b1,C 24 [I c.AH,I c.AB,I c.AU]) :: (b2,C AW (cl z50)) :: ([(y,C Aa ((Bh c).map I ++ wsp)),(D,C AO (Ad eRg (AT (AV c.AH) 1 ⟨3,-1,24,24,0⟩) ++ tsp)),(j,C Ax ((List.replicate (c.AH.toNat * 16) false).map Value.bool))] ++ F) = E;have e1:At E b1 (C 24 [I c.AH,I c.AB,I c.AU]):=by rw[<- hE];exact inferInstance
 refine Az (D':=(H,C AW (eNw (S0 y (Bh c).length T) (S0 D (AV c.AH).length O) (S0 j (c.AH.toNat * 16) (c.AH.toNat * 16)) (SN))) :: E) (by rw[<- hE];exact dK _) ?_;obtain⟨n,hn⟩:∃n:Nat,c.AB = n:=⟨c.AB.toNat,Z⟩;refine Ab (λvs R' D'=>Rz.le R'/\∃rows v A,Rw (Cd R') rows (List.replicate n ⟨[16],0,false,0⟩)/\SW 117 4 rows v A/\D' = A ++ (H,C AW (eNw (S0 y (Bh c).length T) (S0 D (AV c.AH).length O) (S0 j (c.AH.toNat * 16) (c.AH.toNat * 16)) v)) :: E/\vs = [Pt b2,Pt H]) (λK hK=>?_) ?_
 .refine jcI hK λK2 b0=>?_
  refine jlp (λm vs R' D'=>Rz.le R'/\∃(i:Nat) (rows:List (List Value)) (v:Value) (A:Chs),i<=n/\Rw (Cd R') rows (List.replicate i ⟨[16],0,false,0⟩)/\SW 117 4 rows v A/\D' = A ++ (H,C AW (eNw (S0 y (Bh c).length T) (S0 D (AV c.AH).length O) (S0 j (c.AH.toNat * 16) (c.AH.toNat * 16)) v)) :: E/\vs = [Pt b1,Pt b2,Pt H,I i]/\m = n - i)
   (n:=n) ⟨b4,0,[],SN,[],Z,Rw.nil,.inl ⟨rfl,rfl,rfl⟩,rfl,rfl,Z⟩ ?_
  rintro m e R1 D1 K3 ⟨hR,i,rows,v,A,hi,W,so,hD,he,hm⟩ b3;refine z_W ?_;refine jfo (jl rfl (jlt (jif (λhd=>?_) (λhd=>?_))));rotate_left
  .have hd:i = n:=by have:=z_g hd;omega
   subst hd;exact b0 _ _ _ ⟨hR,rows,v,A,W,so,rfl,rfl⟩
  have hd:i < n:=by have:=z_f hd;omega
  obtain⟨sa,sc,a1⟩:=so.sl;subst a1;refine jfo (jl rfl ?_);refine jbs rfl rfl λb8=>?_
  refine BB (b:=b8) λR3 a0 c4=>?_
  have d1:B8 R3 (S0 b8 1 1) [16]:=CO (l:=[16]) (sp:=[]) (c:=1) c4 V;refine jbd (cs:=[S0 b8 1 1,I 0,.bool false,I 0]) rfl rfl ?_;refine jbs (cs:=[S0 b8 1 1,I 0,.bool false,I 0]) rfl rfl λb9=>?_
  refine Al A (G:=(b9,C 117 [S0 b8 1 1,I 0,.bool false,I 0]) :: (H,C AW (eNw (S0 y (Bh c).length T) (S0 D (AV c.AH).length O) (S0 j (c.AH.toNat * 16) (c.AH.toNat * 16)) (.slice sa rows.length sc))) :: E) ?_;have hx:BX R3 (A ++ ((b9,C 117 [S0 b8 1 1,I 0,.bool false,I 0]) :: (H,C AW (eNw (S0 y (Bh c).length T) (S0 D (AV c.AH).length O) (S0 j (c.AH.toNat * 16) (c.AH.toNat * 16)) (.slice sa rows.length sc))) :: E)) (some ⟨b9,0,none⟩) (1 * 4) [[S0 b8 1 1,I 0,.bool false,I 0]].flatten:=BX.held (t:=117) (cs:=[S0 b8 1 1,I 0,.bool false,I 0]) (o:=0) (n:=1 * 4) (z_n 4);have c8:=W.1;rw[cW] at c8;refine jaw so (W.all λ_ _=>Cd.len) (by intro r hr;rw[cZ.1 hr];rfl) rfl rfl rfl δ (by rw[cr];omega) hx λv' A' a8=>?_
  obtain⟨a6,a7,a4⟩:=a8.sl;subst a4;refine jfo (jS (eNw (S0 y (Bh c).length T) (S0 D (AV c.AH).length O) (S0 j (c.AH.toNat * 16) (c.AH.toNat * 16)) (.slice a6 (rows ++ [[S0 b8 1 1,I 0,.bool false,I 0]]).length a7)) ?_);refine jad ?_;refine Al A' (G:=(H,C AW (eNw (S0 y (Bh c).length T) (S0 D (AV c.AH).length O) (S0 j (c.AH.toNat * 16) (c.AH.toNat * 16)) (.slice a6 (rows ++ [[S0 b8 1 1,I 0,.bool false,I 0]]).length a7))) :: E) ?_;refine b3 (n - (i + 1)) _ _ _ Z ⟨hR.trans a0,i + 1,_,_,A',Z,?_,a8,rfl,rfl,rfl⟩;rw[List.replicate_succ'];exact (W.mono λ_ _=>Cd.le a0).app (Rw.one ⟨_,rfl,d1⟩)
 rintro e R1 D1 ⟨hR,rows,v,A,W,so,hD,he⟩;refine z_W ?_;obtain⟨sa,sc,a1⟩:=so.sl;subst a1;refine jfw so (W.all λ_ _=>Cd.len) λR3 a0 hfz=>?_
 subst hE;refine jla (l:=eNw (S0 y (Bh c).length T) (S0 D (AV c.AH).length O) (S0 j (c.AH.toNat * 16) (c.AH.toNat * 16)) (.slice sa rows.length sc)) (by exact z_n 13) rfl ?_;refine jS (eNw (S0 y (Bh c).length T) (S0 D (AV c.AH).length O) (S0 j (c.AH.toNat * 16) (c.AH.toNat * 16)) (.slice sa rows.length sc)) ?_;refine jla (l:=eNw (S0 y (Bh c).length T) (S0 D (AV c.AH).length O) (S0 j (c.AH.toNat * 16) (c.AH.toNat * 16)) (.slice sa rows.length sc)) (by exact z_n 13) rfl ?_;refine Ao (A:=[(y,C Aa ((Bh c).map I ++ wsp)),(D,C AO (Ad eRg (AT (AV c.AH) 1 ⟨3,-1,24,24,0⟩) ++ tsp)),(j,C Ax ((List.replicate (c.AH.toNat * 16) false).map Value.bool))]) (hR.trans a0) ⟨y,T,wsp,D,O,tsp,j,.slice sa rows.length sc,c6,c5,⟨rows,?_,hfz⟩,rfl,rfl⟩;rw[hn,cG];exact W.mono λ_ _=>Cd.le a0
theorem Ti {α β γ:Type} {f:α->β->γ} {a:α}:∀(l:List β),List.zipWith f (List.replicate l.length a) l = l.map (f a)
 | []=>rfl
 | b :: r=>by rw[cS,List.replicate_succ,List.zipWith_cons_cons,Ti r,dO]
def eBg (c:Cfg) (pv w tv m thv v:Value):List Value:=I c.AH :: I c.AB :: I c.AU :: pv :: (eNw w tv m thv ++ v :: (BV (Da false 0) (SN) ++ [SN,.bool false]))
theorem Nm {R:RM} {c:Cfg} {pv:Value} {AZ:List (List Sm.Op)} (hc:Bg c = true) (hp:F7 R pv AZ) :
  Fn P KN [.agg #[I c.AH,I c.AB,I c.AU],pv] R [] (λv R' A=>∃p g,v = Pt p/\A = Ag p (Sm.start c AZ) g/\Ok R' (Sm.start c AZ) g):=by
 refine Qa λF=>?_
 refine z_2 ?_;have b5:=hc;unfold Bg at hc;simp only[z_b,z_d] at hc;obtain⟨g0,e6,-,-⟩:=id hp;obtain⟨W,pc,e7⟩:=e6.sl;refine ja λb1=>?_
 rw[show cl (.agg #[I c.AH,I c.AB,I c.AU]) = [I c.AH,I c.AB,I c.AU] from rfl];refine jla V rfl ?_;refine jc (RX b5) ?_;rintro v1 R1 A1 a9 ⟨N,Q,wsp,H,O,tsp,D,g2,e5,f1,a6,rfl,rfl⟩;obtain⟨T,y,e9⟩:=a6.sl;subst e7 e9;refine jex rfl (jex rfl (ja λb2=>(jS (eNw (S0 N (Bh c).length Q) (S0 H (AV c.AH).length O) (S0 D (c.AH.toNat * 16) (c.AH.toNat * 16)) (.slice T (List.replicate c.AB.toNat (⟨[16],0,false,0⟩:Th)).length y)) (jla V rfl (jla (by exact z_n 13) rfl (jbd (cs:=eBg c (.slice W AZ.length pc) (S0 N (Bh c).length Q) (S0 H (AV c.AH).length O) (S0 D (c.AH.toNat * 16) (c.AH.toNat * 16)) (.slice T (List.replicate c.AB.toNat (⟨[16],0,false,0⟩:Th)).length y) (SN)) rfl rfl (ja λp=>?_)))))));generalize hE:(b2,C AW (eNw (S0 N (Bh c).length Q) (S0 H (AV c.AH).length O) (S0 D (c.AH.toNat * 16) (c.AH.toNat * 16)) (.slice T (List.replicate c.AB.toNat (⟨[16],0,false,0⟩:Th)).length y))) :: ([(N,C Aa ((Bh c).map I ++ wsp)),(H,C AO (Ad eRg (AT (AV c.AH) 1 ⟨3,-1,24,24,0⟩) ++ tsp)),(D,C Ax ((List.replicate (c.AH.toNat * 16) false).map Value.bool))] ++ (b1,C 24 [I c.AH,I c.AB,I c.AU]) :: ([] ++ F)) = E;have f4:At E b1 (C 24 [I c.AH,I c.AB,I c.AU]):=by rw[<- hE];exact inferInstance
 have f5:At E b2 (C AW (eNw (S0 N (Bh c).length Q) (S0 H (AV c.AH).length O) (S0 D (c.AH.toNat * 16) (c.AH.toNat * 16)) (.slice T (List.replicate c.AB.toNat (⟨[16],0,false,0⟩:Th)).length y))):=by rw[<- hE];exact inferInstance
 refine Az (D':=(p,C CG (eBg c (.slice W AZ.length pc) (S0 N (Bh c).length Q) (S0 H (AV c.AH).length O) (S0 D (c.AH.toNat * 16) (c.AH.toNat * 16)) (.slice T (List.replicate c.AB.toNat (⟨[16],0,false,0⟩:Th)).length y) (SN))) :: E) (by rw[<- hE]) ?_;obtain⟨n,hn⟩:∃n:Nat,c.AB = n:=⟨c.AB.toNat,Z⟩;have c5:∀(l:List Value),∀r∈l.map (Aw (thr0 [16] 0 0)),r.length = 17:=λl r hr=>by
  obtain⟨x,_,rfl⟩:=cq.1 hr;rfl
 refine Ab (λvs R' D'=>R1.le R'/\∃(j:List Value) (v:Value) (A:Chs),j.length = n/\(∀x∈j,B8 R' x [16])/\SW 183 17 (j.map (Aw (thr0 [16] 0 0))) v A/\D' = A ++ (p,C CG (eBg c (.slice W AZ.length pc) (S0 N (Bh c).length Q) (S0 H (AV c.AH).length O) (S0 D (c.AH.toNat * 16) (c.AH.toNat * 16)) (.slice T (List.replicate c.AB.toNat (⟨[16],0,false,0⟩:Th)).length y) v)) :: E/\vs = [Pt p]) (λK hK=>?_) ?_
 .refine jcI hK λK2 d1=>?_
  refine jlp (λm vs R' D'=>∃i:Nat,i<=n/\m = n - i/\R1.le R'/\∃(j:List Value) (v:Value) (A:Chs),j.length = i/\(∀x∈j,B8 R' x [16])/\SW 183 17 (j.map (Aw (thr0 [16] 0 0))) v A/\D' = A ++ (p,C CG (eBg c (.slice W AZ.length pc) (S0 N (Bh c).length Q) (S0 H (AV c.AH).length O) (S0 D (c.AH.toNat * 16) (c.AH.toNat * 16)) (.slice T (List.replicate c.AB.toNat (⟨[16],0,false,0⟩:Th)).length y) v)) :: E/\vs = [Pt b1,Pt b2,Pt p,I i])
   (n:=n) ⟨0,Z,Z,RM.le.refl R1,[],SN,[],rfl,(λx hx=>by cases hx),.inl ⟨rfl,rfl,rfl⟩,rfl,rfl⟩ ?_
  rintro m e R2 D1 K3 ⟨i,hi,hm,hR,j,v,A,hl,a3,so,hD,he⟩ d2;refine z_W ?_;refine jfo (jl rfl (jlt (jif (λhd=>?_) (λhd=>?_))));rotate_left
  .have hd:i = n:=by have:=z_g hd;omega
   subst hd;exact d1 _ _ _ ⟨hR,j,v,A,hl,a3,so,rfl,rfl⟩
  have hd:i < n:=by have:=z_f hd;omega
  obtain⟨sa,sc,e8⟩:=so.sl;subst e8;rw[cM];refine jnc (jfo (jl rfl (jfo (jl rfl (jtr (a6.le hR) (by rw[cW];omega) λb3 o3 ty cs rv a4 d3 f6 a0=>?_)))));rw[List.getElem_replicate] at a4 a0;refine jfo (jlr d3 (Bc a0 rfl) (jc (CY a4 δ) ?_));rintro _ R3 _ b0 ⟨b8,c8,g1,e4,f3,rfl,rfl⟩;refine BB (b:=b8) λR4 b4 d4=>?_
  have f0:B8 R4 (S0 b8 1 c8) [16]:=CO d4 e4;refine jbd rfl rfl (Ak (jl rfl jev) (jbs rfl rfl λb9=>(Ak (jl rfl jev) (Az (D':=(b9,C 183 (Aw (thr0 [16] 0 0) (S0 b8 1 c8))) :: (A ++ (p,C CG (eBg c (.slice W AZ.length pc) (S0 N (Bh c).length Q) (S0 H (AV c.AH).length O) (S0 D (c.AH.toNat * 16) (c.AH.toNat * 16)) (.slice T (List.replicate c.AB.toNat (⟨[16],0,false,0⟩:Th)).length y) (.slice sa j.length sc))) :: E)) (dK _) (Al A (G:=(b9,C 183 (Aw (thr0 [16] 0 0) (S0 b8 1 c8))) :: (p,C CG (eBg c (.slice W AZ.length pc) (S0 N (Bh c).length Q) (S0 H (AV c.AH).length O) (S0 D (c.AH.toNat * 16) (c.AH.toNat * 16)) (.slice T (List.replicate c.AB.toNat (⟨[16],0,false,0⟩:Th)).length y) (.slice sa j.length sc))) :: E) ?_)))));have hx:BX R4 (A ++ ((b9,C 183 (Aw (thr0 [16] 0 0) (S0 b8 1 c8))) :: (p,C CG (eBg c (.slice W AZ.length pc) (S0 N (Bh c).length Q) (S0 H (AV c.AH).length O) (S0 D (c.AH.toNat * 16) (c.AH.toNat * 16)) (.slice T (List.replicate c.AB.toNat (⟨[16],0,false,0⟩:Th)).length y) (.slice sa j.length sc))) :: E)) (some ⟨b9,0,none⟩) (1 * 17) [(Aw (thr0 [16] 0 0) (S0 b8 1 c8))].flatten:=BX.held (cs:=(Aw (thr0 [16] 0 0) (S0 b8 1 c8))) (z_n 17);rw[cM] at so;refine jaw so (c5 _) (by intro r hr;rw[cZ.1 hr];rfl) rfl rfl rfl δ (by rw[cr,cM];omega) hx λv' A' a7=>?_
  obtain⟨c0,c4,a5⟩:=a7.sl;have em:j.map (Aw (thr0 [16] 0 0)) ++ [(Aw (thr0 [16] 0 0) (S0 b8 1 c8))] = (j ++ [S0 b8 1 c8]).map (Aw (thr0 [16] 0 0)):=by rw[dE];rfl
  rw[em] at a7 a5;subst a5;refine jnc (jfo (js (cs':=eBg c (.slice W AZ.length pc) (S0 N (Bh c).length Q) (S0 H (AV c.AH).length O) (S0 D (c.AH.toNat * 16) (c.AH.toNat * 16)) (.slice T (List.replicate c.AB.toNat (⟨[16],0,false,0⟩:Th)).length y) (.slice c0 ((j ++ [S0 b8 1 c8]).map (Aw (thr0 [16] 0 0))).length c4)) rfl rfl (by simp[eBg,eNw,BV]) rfl (jad (Al A' (G:=(p,C CG (eBg c (.slice W AZ.length pc) (S0 N (Bh c).length Q) (S0 H (AV c.AH).length O) (S0 D (c.AH.toNat * 16) (c.AH.toNat * 16)) (.slice T (List.replicate c.AB.toNat (⟨[16],0,false,0⟩:Th)).length y) (.slice c0 ((j ++ [S0 b8 1 c8]).map (Aw (thr0 [16] 0 0))).length c4))) :: E) (d2 (n - (i + 1)) _ _ _ Z ⟨i + 1,Z,rfl,(hR.trans b0).trans b4,j ++ [S0 b8 1 c8],_,A',by rw[cJ,hl];rfl,?_,a7,rfl,rfl⟩)))));intro x hx;rcases cm.1 hx with hx | hx
  .exact (a3 x hx).le (b0.trans b4)
  .rw[cZ.1 hx];exact f0
 rintro e R2 D1 ⟨hR,j,v,A,hl,a3,so,hD,he⟩;refine z_W ?_;rcases so with ⟨h1,_,_⟩ | ⟨hb,a2,hsp,b6,f2,rfl,rfl⟩
 .have:=congrArg List.length h1;rw[cM,dc] at this;omega
 rw[cM] at b6 ⊢;subst hE
 let g:Img:={ AZ:=.slice W AZ.length pc,wb:=N,wc:=Q,wsp:=wsp,tb:=H,tc:=O,tsp:=tsp,mb:=D,mc:=c.AH.toNat * 16,msp:=[],Ap:=.bool false,want:=I 0,AB:=.slice T (List.replicate c.AB.toNat (⟨[16],0,false,0⟩:Th)).length y,old:=SN,AI:=SN,hb:=hb,hc:=a2,hsp:=hsp,rv:=j,AR:=SN,ev:=none,esp:=[] }
 have a1:(Sm.start c AZ).th = List.replicate j.length (thr0 [16] 0 0):=by
  rw[hl];show List.replicate c.AB.toNat _ = _;rw[hn,cG]
 have c9:Ep (Sm.start c AZ).th j = (j.map (Aw (thr0 [16] 0 0))).flatten:=by
  rw[a1];unfold Ep;rw[Ti]
 have c7:(AT (AV c.AH) 1 (⟨3,-1,24,24,0⟩:Rg)).length = (AV c.AH).length:=by simp[AT]
 have f8:(AV c.AH).length = c.AH.toNat:=by
  unfold AV;rw[if_neg Z];simp;omega
 have a8:Ch (Sm.start c AZ) g = eBg c (.slice W AZ.length pc) (S0 N (Bh c).length Q) (S0 H (AV c.AH).length O) (S0 D (c.AH.toNat * 16) (c.AH.toNat * 16)) (.slice T (List.replicate c.AB.toNat (⟨[16],0,false,0⟩:Th)).length y) (S0 hb j.length a2):=by
  have e1:(Sm.start c AZ).th.length = j.length:=by rw[a1,cW]
  have e2:(Sm.start c AZ).AA.length = (AV c.AH).length:=c7;have e3:(Sm.start c AZ).AM.length = c.AH.toNat * 16:=by show (List.replicate _ _).length = _;rw[cW]
  unfold Ch;rw[e1,e2,e3];rfl
 have c6:Ag p (Sm.start c AZ) g = (p,C CG (eBg c (.slice W AZ.length pc) (S0 N (Bh c).length Q) (S0 H (AV c.AH).length O) (S0 D (c.AH.toNat * 16) (c.AH.toNat * 16)) (.slice T (List.replicate c.AB.toNat (⟨[16],0,false,0⟩:Th)).length y) (S0 hb j.length a2))) :: (N,C Aa ((Bh c).map I ++ wsp)) :: (H,C AO (Ad eRg (AT (AV c.AH) 1 ⟨3,-1,24,24,0⟩) ++ tsp)) :: (D,C Ax ((List.replicate (c.AH.toNat * 16) false).map Value.bool ++ [])) :: (hb,C Af ((j.map (Aw (thr0 [16] 0 0))).flatten ++ hsp)) :: []:=by
  unfold Ag;rw[a8];show _ :: _ :: _ :: _ :: (hb,C Af (Ep (Sm.start c AZ).th j ++ hsp)) :: [] = _;rw[c9];rfl
 refine Al [(p,C CG (eBg c (.slice W AZ.length pc) (S0 N (Bh c).length Q) (S0 H (AV c.AH).length O) (S0 D (c.AH.toNat * 16) (c.AH.toNat * 16)) (.slice T (List.replicate c.AB.toNat (⟨[16],0,false,0⟩:Th)).length y) (S0 hb j.length a2))),(N,C Aa ((Bh c).map I ++ wsp)),(H,C AO (Ad eRg (AT (AV c.AH) 1 ⟨3,-1,24,24,0⟩) ++ tsp)),(D,C Ax ((List.replicate (c.AH.toNat * 16) false).map Value.bool)),(hb,C Af ((j.map (Aw (thr0 [16] 0 0))).flatten ++ hsp))] (G:=F) (Az (D':=Ag p (Sm.start c AZ) g ++ F) (by rw[c6,dD]) (Ao (a9.trans hR) ⟨p,g,rfl,rfl,?_⟩));have b7:=a9.trans hR;refine⟨?_,.inl ⟨rfl,rfl,rfl⟩,.inl ⟨rfl,rfl,rfl⟩,.inl ⟨rfl,rfl,rfl⟩,?_,?_,λ_=>rfl,(λb c h=>by cases h),?_,?_,?_,?_,⟨rfl,rfl,rfl⟩,?_,?_,?_⟩
 .obtain⟨vs,h1,h2,h3⟩:=hp;exact⟨vs,h1.le b7,h2,λi hi=>by obtain⟨x,hx,ho⟩:=h3 i hi;exact⟨x,hx,ho.le b7⟩⟩
 .rw[a1,cW]
 .intro i h h';have e:((Sm.start c AZ).th[i]).AD = [16]:=by
   simp only[a1,List.getElem_replicate];rfl
  rw[e];exact a3 _ (cK h')
 .show (Bh c).length<=1000;rw[(Ll b5).2];omega
 .show (AT (AV c.AH) 1 (⟨3,-1,24,24,0⟩:Rg)).length<=1000;omega
 .show (List.replicate _ _).length<=1000;rw[cW];omega
 .rw[a1,cW];omega
 .exact e5
 .show (AT (AV c.AH) 1 (⟨3,-1,24,24,0⟩:Rg)).length<=O;omega
 .show (List.replicate _ _).length<=c.AH.toNat * 16;simp
theorem Sn {p n:Nat} {S S' : Sim} {g:Img} {R:RM} (D:Ok R S g) (hp:Pr S) (hT:TOk S.AA) (hf:S.full = false) (j:S.pause n = some S') :
  Fn P Dh [Pt p] R (Ag p S g) (DI p S' λ_=>True):=by
 refine Jy λF=>?_
 refine z_1 ?_;unfold Sim.pause at j;split at j
 .cases j
 rename_i N;have N:S.sz = true:=by simpa using N
 rw[if_neg (by rw[hf];decide)] at j;dsimp only at j;have a6:=D.tl;have n1:=hT.n1;refine jl rfl ?_;rw[hf];refine CW (jss { S with stop:=false } g rfl rfl δ τ τ ?_);have H:Ok R { S with stop:=false } g:={ D with };refine jl rfl (jeq (jif (λT=>?_) (λT=>?_)))
 .rw[if_pos (eq_of_beq T)] at j;simp only[cX] at j;subst j;refine jcS (Ri H N) λ_ R2 g2 y _ A=>(Ay y trivial rfl A)
 rw[if_neg (ne_of_beq_false T)] at j;refine jeq (jif (λW=>?_) (λW=>?_))
 .rw[if_pos (eq_of_beq W)] at j;refine jcS (VY H hp j) λ_ R2 g2 y _ A=>(Ay y trivial rfl A)
 rw[if_neg (ne_of_beq_false W)] at j;refine jeq (jif (λh3=>?_) (λh3=>?_));rotate_left
 .rw[if_neg (ne_of_beq_false h3)] at j;refine jcS (Wb H N hT j) λ_ R2 g2 y _ A=>(Ay y trivial rfl A)
 rw[if_pos (eq_of_beq h3)] at j;unfold Sim.update at j;obtain⟨_,-,j⟩:=AF j;simp only[cX] at j;refine jss { S with stop:=false,Ae:=3 } g rfl rfl δ τ τ ?_;generalize a4:(λ(i:Int) (x:Rg)=>{ x with AJ:=x.top - AK i }) = f at j;have a5:∀(k:Nat) (x:Rg),f k x = { x with AJ:=x.top - AK k }:=λk x=>by rw[<- a4]
 refine Ab (λvs Q O=>Q = R/\O = Ag p { S with stop:=false,Ae:=3,AA:=rows f S.AA } g ++ F/\vs = [Pt p]) (λK hK=>?_) ?_;rotate_left
 .rintro e R1 D1 ⟨hR,hD,he⟩;subst hR;refine z_W ?_;refine jl rfl (jl rfl (jbd rfl rfl (jss { S with stop:=false,Ae:=3,AA:=rows f S.AA,col:={ Da S.col.Ap S.col.want with pc:=6,r:=1,p:=16 } } { g with AR:=SN } rfl rfl δ τ τ ?_)));subst j;refine Ay (RM.le.refl R1) trivial rfl ?_;exact { H with AR:=.inl ⟨rfl,rfl,rfl⟩,tl:=by simpa [rows] using D.tl,tk:=by simpa [rows] using D.tk }
 refine jcI hK λK2 a0=>?_
 refine jlp (λm vs Q O=>Q = R/\∃k:Nat,1<=k/\k<=S.AA.length + 1/\O = Ag p { S with stop:=false,Ae:=3,AA:=CM f k S.AA } g ++ F/\vs = [Pt p,I k]/\m = S.AA.length + 1 - k)
  (n:=S.AA.length) ⟨rfl,1,z_n 1,Z,by rw[I9],rfl,Z⟩ ?_
 rintro m e R4 D4 K3 ⟨a2,k,k0,k1,hD,he,hm⟩ a1;subst a2;refine z_W ?_;refine jl rfl (jln (jlt (jif (λhc=>?_) (λhc=>?_))));rotate_left
 .have hc:S.AA.length<=k:=by have:=z_g hc;rw[Cb] at this;omega
  refine a0 _ _ _ ⟨rfl,?_,rfl⟩;rw[IC hc]
 have hc:k < S.AA.length:=by have:=z_f hc;rw[Cb] at this;omega
 have RR:=hT.row k Z Z;have t0:=RR.t0;have t1:=RR.t1;rw[Ea hc] at t0 t1;have a3:=Bj (r:=(k:Int)) Z Z;refine jl rfl (C0 (by rw[Cb];exact hc) (Rm (p:=p) (by simpa using hc) ?_));rw[show ({ S with stop:=false,Ae:=3,AA:=CM f k S.AA }:Sim).AA[k]'(by simpa using hc) = S.AA[k] from IU hc];refine ja λb5=>(js (cs':=eRg (S.AA[k])) rfl rfl V rfl (jfo (jl rfl (jp (BW k) (jsu (jfo (Ak (jl rfl jev) (js (cs':=eRg { S.AA[k] with AJ:=(S.AA[k]).top - AK k }) rfl rfl V rfl (jl rfl (jla V rfl (C0 (by rw[Cb];exact hc) (UQ (p:=p) { S with stop:=false,Ae:=3,AA:=CM f (k + 1) S.AA } (by simpa using hc) (by rw[<- Ia k0 hc,a5]) (jad (Al (Ag p { S with stop:=false,Ae:=3,AA:=CM f (k + 1) S.AA } g) (G:=F) (a1 (S.AA.length + 1 - (k + 1)) _ _ _ Z ⟨rfl,k + 1,Z,Z,rfl,rfl,rfl⟩)))))))))))))))
end Go.Lf
end
section
namespace Go.Lf
open Go Sm
theorem PJ {p n:Nat} {S S' : Sim} {g:Img} {R:RM} (y:Ok R S g) (a4:∀R g A,Ok R S g->S.pause n = some A->Fn P Dh [Pt p] R (Ag p S g) (DI p A λ_=>True)) (x:S.collector n = some S') :
  Fn P Gi [Pt p] R (Ag p S g) (DI p S' λ_=>True):=by
 refine Ko λF=>?_
 refine z_1 ?_;unfold Sim.collector at x;refine jl rfl (jif (λh0=>?_) (λh0=>?_))
 .rw[if_pos h0] at x;refine jcS (Z7 y) λ_ R2 g2 H hr K=>?_
  subst hr;refine jif (λhc=>?_) (λhc=>?_)
  .rw[if_pos hc] at x;refine jcS (a4 R2 g2 S' K x) λ_ R3 g3 a3 _ O=>(Ay (H.trans a3) trivial rfl O)
  .rw[if_neg (by rw[hc];decide)] at x;simp only[cX] at x;subst x;exact Ay H trivial rfl K
 rw[if_neg (by rw[h0];decide)] at x;refine jl rfl (jeq (jif (λG=>?_) (λG=>?_)))
 .rw[if_pos (eq_of_beq G)] at x;refine jl rfl (jif (λT=>?_) (λT=>?_))
  .rw[if_pos T] at x;refine JT y λb=>?_
   obtain⟨a,Q,a5,-⟩:=B8.reads (D:=[]) y.AR;have N:=y.AR;rw[a5] at N ⊢;refine jS (BV { S.col with Ap:=false } (.slice a S.col.AR.length Q)) (jS (BV { S.col with Ap:=false,want:=1 } (.slice a S.col.AR.length Q)) (J6 { S with col:={ S.col with Ap:=false,want:=1 } } y (by exact N) τ λg3 O=>(jss { S with stop:=true,col:={ S.col with Ap:=false,want:=1 } } g3 rfl rfl δ τ τ ?_)));simp only[cX] at x;subst x;exact Ay (RM.le.refl R) trivial rfl { O with }
  .rw[if_neg (by rw[T];decide)] at x;simp only[cX] at x;subst x;exact Ay (RM.le.refl R) trivial rfl y
 .rw[if_neg (ne_of_beq_false G)] at x;refine jss { S with used:=false } g rfl rfl δ τ τ ?_;refine jlp (λm vs R' D'=>R.le R'/\∃A g1,Ok R' A g1/\Sim.cloop m A = some S'/\D' = Ag p A g1 ++ F/\vs = [Pt p])
   ⟨RM.le.refl R,{ S with used:=false },g,{ y with },x,rfl,rfl⟩ ?_
  rintro m e R1 D1 K3 ⟨a0,A,g1,a1,j,hD,he⟩ a2;refine z_W ?_;cases m with
  | zero=>cases j
  | succ m=>
  unfold Sim.cloop at j;refine jan [Pt p] ((!A.used) && (!A.stop)) (λK' W=>?_) (λe c u ho he=>?_)
  .refine jl rfl (Dv (λG=>?_) (λG=>?_))
   .refine jl (v:=.bool A.stop) rfl (W _ _ _ (G▸Bx) (by rw[G,dR]))
   .exact W _ _ _ (G▸CB) (by rw[G,dz])
  refine z_V ?_;rw[ho];refine jif (λhc=>?_) (λhc=>?_)
  .rw[if_pos hc] at j;obtain⟨S2,T,j⟩:=AF j;refine jcS (Z9 a1 T) λ_ R2 g2 H _ K=>(a2 m _ _ _ Z ⟨a0.trans H,S2,g2,K,j,rfl,rfl⟩)
  .rw[if_neg (by rw[hc];decide)] at j;simp only[cX] at j;subst j;exact Ay a0 trivial rfl a1
theorem XM {p:Nat} {S S' : Sim} {g:Img} {a:Int} {R:RM} (x:Ok R S g) (ha:inR a) (K:∀R g N,Ok R S g->S.pause S.fuel = some N->Fn P Dh [Pt p] R (Ag p S g) (DI p N λ_=>True)) (j:S.pick a = some S') :
  Fn P IR [Pt p,I a] R (Ag p S g) (DI p S' λ_=>True):=by
 refine Sq λF=>?_
 refine z_2 ?_;unfold Sim.pick at j;have T:=x.hl;refine jl rfl (jln (jan [Pt p,I a,I S.th.length] ((decide (a>=0)) && (decide (a < S.th.length))) (λK' G=>?_) (λe c u W he=>?_)))
 .refine jge (Dv (λy=>?_) (λy=>?_))
  .refine jlt (G _ _ _ (y▸Bx) (by rw[y,dR]))
  .exact G _ _ _ (y▸CB) (by rw[y,dz])
 refine z_V ?_;rw[W];refine jif (λhc=>?_) (λhc=>?_)
 .simp only[z_b,z_d] at hc;rw[if_pos ⟨Z,Z⟩] at j;refine jcS (WR x j) λ_ O Q A _ D=>(Ay A trivial rfl D)
 have hc:¬ (0<=a/\a < S.th.length):=by
  intro h;simp[h.1,h.2] at hc
 rw[if_neg hc] at j;refine jeq (jif (λy=>?_) (λy=>?_))
 .rw[if_pos (eq_of_beq y)] at j;refine jcS (PJ x K j) λ_ O Q A _ D=>(Ay A trivial rfl D)
 rw[if_neg (ne_of_beq_false y)] at j;refine jad (jeq (jif (λH=>?_) (λH=>?_)))
 .rw[if_pos (eq_of_beq H)] at j;simp only[cX] at j;refine jss { S with col:={ S.col with Ap:=true } } g rfl rfl δ τ τ ?_;subst j;exact Ay (RM.le.refl R) trivial rfl { x with }
 .rw[if_neg (ne_of_beq_false H)] at j;simp only[cX] at j;subst j;exact Ay (RM.le.refl R) trivial rfl x
theorem jpg {R:RM} {D:Chs} {pv:Value} {AZ:List (List Sm.Op)} {i:Nat} {k:Value->M} (O:F7 R pv AZ) (K:i < AZ.length) (H:∀x,Ops R x (AZ[i])->J R D (k x)):J R D (IA 1 pv (I (i:Int)) λq=>L1 q k):=by
 obtain⟨vs,G,hl,Bq⟩:=O;obtain⟨x,Q,N⟩:=Bq i K;rcases G with ⟨_,j,_⟩ | ⟨b,o,y,t,T,rfl,j,W,A,h5⟩
 .omega
 .refine jia Z Z ?_;rw[cG,dx];exact jlr j (Bc A Q) (H x N)
theorem Nc {R:RM} {D:Chs} {j:Cfg} {pv W:Value} {AZ:List (List Sm.Op)} {picks:List Int} (hp:F7 R pv AZ) (hk:B8 R W picks) :
  Ro KJ [.agg #[I j.AH,I j.AB,I j.AU],pv,W] (.bool (Cx j AZ picks)) R D:=by
 refine PO λF=>?_
 refine z_3 ?_;obtain⟨vs,T,-,-⟩:=id hp;have A:=T.sl;refine ja λb=>?_
 rw[show cl (.agg #[I j.AH,I j.AB,I j.AU]) = [I j.AH,I j.AB,I j.AU] from rfl];refine jor [pv,W] ((!Bg j) || (((AZ.length:Int) != j.AB))) (λK' y=>?_) (λe c u Q he=>?_)
 .refine jla (l:=[I j.AH,I j.AB,I j.AU]) V rfl (jp (Md j) (jgO y λH N=>Bo A (jfo (jl rfl (jne N)))))
 refine z_V ?_;refine jor [pv] ((!Bg j || ((AZ.length:Int) != j.AB)) || (decide ((picks.length:Int) > 4000))) (λK' y=>?_) (λe c u Q he=>?_)
 .rw[Q];refine jgO y λH N=>Bo hk.sl (jgr N)
 refine z_V ?_;rw[Q];refine jif (λh0=>?_) (λh0=>?_)
 .refine BN ?_;have:Cx j AZ picks = false:=by
   unfold Cx;simp only[d7,cz,bne_iff_ne,ne_eq,z_d] at h0;rcases h0 with (h0 | h0) | h0
   .rw[h0];simp
   .rw[decide_eq_false h0];simp
   .rw[decide_eq_false (show ¬ picks.length<=4000 by omega)];simp
  rw[this]
 have e0:Cx j AZ picks = AZ.all λp=>decide (p.length<=40):=by
  simp only[ci,dL,bne_eq_false_iff_eq,decide_eq_false_iff_not] at h0;unfold Cx;rw[h0.1.1,decide_eq_true h0.1.2,decide_eq_true (show picks.length<=4000 by omega)];simp
 rw[e0];have a0:AZ.length<=3:=by
  simp only[ci,dL,bne_eq_false_iff_eq,decide_eq_false_iff_not] at h0;have H:=h0.1.1;unfold Bg at H;simp only[z_b,z_d] at H;omega
 refine jlp (λm vs R' D'=>R' = R/\D' = (b,C 24 [I j.AH,I j.AB,I j.AU]) :: (D ++ F)/\∃i:Nat,i<=AZ.length/\vs = [pv,I i]/\m = AZ.length - i/\(AZ.drop i).all (λp=>decide (p.length<=40)) = AZ.all λp=>decide (p.length<=40))
  (n:=AZ.length) ⟨rfl,rfl,0,Z,rfl,Z,by rw[di]⟩ ?_
 rintro m e R1 D1 K ⟨O,hD,i,hi,he,hm,Bq⟩ hK;subst O;refine z_W ?_;refine Bo A (jlt (jif (λhc=>?_) (λhc=>?_)))
 .have hc:i < AZ.length:=by have:=z_f hc;omega
  rw[cQ hc,List.all_cons] at Bq;refine jpg hp hc λx hx=>Bo (Fz.sl hx) (jgr (jif (λG=>?_) (λG=>?_)))
  .refine BN ?_;have G:=z_f G;rw[<- Bq,decide_eq_false Z,dz]
  .have G:=z_g G;rw[decide_eq_true Z,dR] at Bq;refine jad (hK (AZ.length - (i + 1)) _ _ _ Z ⟨rfl,rfl,i + 1,Z,rfl,rfl,Bq⟩)
 .have hc:=z_g hc;refine BN ?_;rw[<- Bq,cT Z];rfl
theorem LC:∀(l:List Int) (a:Int) {S y A:Sim},Sim.picks l S = some y->y.pick a = some A->Sim.picks (l ++ [a]) S = some A
 | [],a,S,y,A,j,h2=>by
  unfold Sim.picks at j;cases j;show (S.pick a >>= λx=>Sim.picks [] x) = _;rw[h2];rfl
 | b :: l,a,S,y,A,j,h2=>by
  unfold Sim.picks at j;obtain⟨G,D,j⟩:=AF j;show (S.pick b >>= λx=>Sim.picks (l ++ [a]) x) = _;rw[D];exact LC l a j h2
theorem Pw {R:RM} {x:Cfg} {pv kv:Value} {AZ:List (List Sm.Op)} {picks:List Int} {S' : Sim} (hp:F7 R pv AZ) (hk:B8 R kv picks) (H:Cx x AZ picks = true) (ha:∀a∈picks,inR a)
  (hS:Sim.picks picks (Sm.start x AZ) = some S') (hz:S'.sz = true)
  (a7:∀i S,Sim.picks (picks.take i) (Sm.start x AZ) = some S->∀p R g O,Ok R S g->S.pause S.fuel = some O->Fn P Dh [Pt p] R (Ag p S g) (DI p O λ_=>True)) :
  Fn P Fr [.agg #[I x.AH,I x.AB,I x.AU],pv,kv] R [] (λv T A=>∃p g rows D A',Ok T S' g/\Rw (Cd T) rows S'.view.AB/\SW 117 4 rows D A'/\A = A' ++ Ag p S' g/\
   v = .tuple #[.agg (eSt S'.view (wS S' g) (tS S' g) (mS S' g) D g.old g.AI).toArray,evV S' g]):=by
 refine N5 λF=>?_
 refine z_3 ?_;have a5:Bg x = true:=by
  unfold Cx at H;simp only[z_b] at H;exact H.1.1.1
 have b3:picks.length<=4000:=by
  unfold Cx at H;simp only[z_b,z_d] at H;exact H.1.2
 refine ja λb1=>?_
 rw[show cl (.agg #[I x.AH,I x.AB,I x.AU]) = [I x.AH,I x.AB,I x.AU] from rfl];refine ja λW=>(jla V rfl ?_)
 refine jro (Nc hp hk) ?_;rw[H];refine CW (jla V rfl ?_);refine jc (Nm a5 hp) ?_;rintro _ R1 _ a4 ⟨p,g,rfl,rfl,ok⟩;refine Ab (λvs T D'=>R.le T/\∃y,Ok T S' y/\D' = Ag p S' y ++ (W,C AW (cl z50)) :: F/\vs = [Pt W,Pt p]) (λK hK=>?_) ?_
 .refine jcI hK λK2 a2=>?_
  refine Al (Ag p (Sm.start x AZ) g) (G:=(W,C AW (cl z50)) :: (b1,C 24 [I x.AH,I x.AB,I x.AU]) :: ([] ++ F)) ?_;refine jlp (λm vs T D'=>R.le T/\∃(i:Nat) (O:Sim) (y:Img),i<=picks.length/\Sim.picks (picks.take i) (Sm.start x AZ) = some O/\Sim.picks (picks.drop i) O = some S'/\Ok T O y/\D' = Ag p O y ++ (W,C AW (cl z50)) :: (b1,C 24 [I x.AH,I x.AB,I x.AU]) :: ([] ++ F)/\vs = [kv,Pt W,Pt p,I i]/\m = picks.length - i)
   (n:=picks.length) ⟨a4,0,Sm.start x AZ,g,Z,rfl,by rw[di];exact hS,ok,rfl,rfl,Z⟩ ?_
  rintro m e R2 D2 K3 ⟨hR,i,O,y,hi,a1,j,N,hD,he,hm⟩ a3;refine z_W ?_;have a0:=hk.le hR;refine Bo a0.sl (jlt (jif (λhc=>?_) (λhc=>?_)));rotate_left
  .have hc:=z_g hc;rw[cT Z] at j;unfold Sim.picks at j;cases j;refine Az (D':=(b1,C 24 [I x.AH,I x.AB,I x.AU]) :: (Ag p S' y ++ (W,C AW (cl z50)) :: F)) ?_ (Bf ?_)
   .rw[zl];exact ((dh _ _ _).append_left _).trans d9
   exact a2 _ _ _ ⟨hR,y,N,rfl,rfl⟩
  have hc:i < picks.length:=by have:=z_f hc;omega
  rw[cQ hc] at j;unfold Sim.picks at j;obtain⟨S2,h2,j⟩:=AF j;refine Bl a0 Z Z ?_;rw[getElem_congr_idx (cG i)];refine jcS (XM N (ha _ (cK hc)) (a7 i O a1 p) h2) λ_ R3 g3 Q _ b0=>(jad (a3 (picks.length - (i + 1)) _ _ _ Z ⟨hR.trans Q,i + 1,S2,g3,Z,?_,j,b0,rfl,rfl,rfl⟩))
  rw[cI hc];exact LC _ _ a1 h2
 rintro e R2 D2 ⟨hR,y,N,hD,he⟩;refine z_W ?_;refine jl rfl (jc (Tg N hz) ?_);rintro _ R3 _ Q ⟨rows,D,A',a8,so,rfl,rfl⟩;obtain⟨ta,tc,a9⟩:=so.sl;have a6:flat D = true:=by rw[a9];rfl
 have el:eSt S'.view (wS S' y) (tS S' y) (mS S' y) D y.old y.AI = eVw S' y (.bool S'.col.Ap) (I S'.col.want) D:=rfl;rw[el,cR];refine Ak (jl rfl jev) (js (cs':=eVw S' y (.bool S'.col.Ap) (I S'.col.want) D) rfl (Lm N rfl rfl a6) (by exact z_n 13) rfl (Ak (jl rfl jev) (jla (by exact z_n 13) rfl (Az (D':=(A' ++ Ag p S' y) ++ ((W,C AW (eVw S' y (.bool S'.col.Ap) (I S'.col.want) D)) :: F)) (by rw[cR]) (Ao (hR.trans Q) ⟨p,y,rows,D,A',N.le Q,a8,so,rfl,rfl⟩)))))
def l7d (e24:Env) (K:Value->M):M:=
 CUT [2,19] (λJe25=>CUT [2,19] (λJe28=>LP [1,2,3,5,9,19,20] (λKe29 e29=>FO 8 (e29 1) λx30=>L1 x30 λx31=>LN x31 λx32=>BO .lss (e29 20) x32 λx33=>IF x33 (FO 8 (e29 1) λx34=>L1 x34 λx35=>IA 4 x35 (e29 20) λx36=>FO 1 x36 λx37=>L1 x37 λx38=>FO 8 (e29 1) λx39=>L1 x39 λx40=>IA 4 x40 (e29 20) λx41=>FO 3 x41 λx42=>L1 x42 λx43=>BD (cl Vm) [(1,1,x38),(3,1,x43)] λx44=>AL 117 Vm λx45=>AND (L1 x34 λx46=>EV x46 x35)<|AND (L1 x37 λx47=>EV x47 x38)<|AND (L1 x39 λx48=>EV x48 x40)<|AND (L1 x42 λx49=>EV x49 x43)<|ST 4 x45 x44<|CUT [1,2,3,5,9,19,20,21] (λJe50=>FO 3 x45 λx94=>L1 x94 λx95=>BO .eql x95 (I 1) λx96=>IF x96 (FO 3 x45 λx97=>ST 1 x97 (I 2)<|Je50 [(e29 1),(e29 2),(e29 3),(e29 5),(e29 9),(e29 19),(e29 20),x45]) (Je50 [(e29 1),(e29 2),(e29 3),(e29 5),(e29 9),(e29 19),(e29 20),x45])) λe50=>CUT [1,2,3,5,9,19,20,21] (λJe51=>CUT [1,2,3,5,9,19,20,21] (λJe59=>LP [1,2,3,5,9,19,20,21,22] (λKe60 e60=>FO 8 (e60 1) λx61=>L1 x61 λx62=>IA 4 x62 (e60 20) λx63=>FO 0 x63 λx64=>L1 x64 λx65=>LN x65 λx66=>BO .lss (e60 22) x66 λx67=>IF x67 (CUT [1,2,3,5,9,19,20,21,22] (λJe68=>CUT [1,2,3,5,9,19,20,21,22] (λJe70=>FO 8 (e60 1) λx71=>L1 x71 λx72=>IA 4 x72 (e60 20) λx73=>FO 0 x73 λx74=>L1 x74 λx75=>IA 1 x75 (e60 22) λx76=>L1 x76 λx77=>CA P 64 [(e60 3),x77] λx78=>CA P 63 [(e60 5),x78] λx79=>BO .lss x79 (I 0) λx80=>IF x80 (FO 0 (e60 21) λx81=>L1 x81 λx82=>BS 3 1 (ZR 1 z3) [(0,1,(I 0))] λx83=>AP 3 1 8 (cl z3) x82 x83 λx84=>FO 0 (e60 21) λx85=>ST 1 x85 x84<|Je70 [(e60 1),(e60 2),(e60 3),(e60 5),(e60 9),(e60 19),(e60 20),(e60 21),(e60 22)]) (FO 0 (e60 21) λx86=>L1 x86 λx87=>IA 1 (e60 9) x79 λx88=>L1 x88 λx89=>BS 3 1 (ZR 1 z3) [(0,1,x89)] λx90=>AND (L1 x86 λx91=>EV x91 x87)<|AP 3 1 8 (cl z3) x87 x90 λx92=>FO 0 (e60 21) λx93=>ST 1 x93 x92<|Je70 [(e60 1),(e60 2),(e60 3),(e60 5),(e60 9),(e60 19),(e60 20),(e60 21),(e60 22)])) λe70=>Je68 [(e70 1),(e70 2),(e70 3),(e70 5),(e70 9),(e70 19),(e70 20),(e70 21),(e70 22)]) λe68=>BO .add (e68 22) (I 1) λx69=>Ke60 [(e68 1),(e68 2),(e68 3),(e68 5),(e68 9),(e68 19),(e68 20),(e68 21),x69]) (Je59 [(e60 1),(e60 2),(e60 3),(e60 5),(e60 9),(e60 19),(e60 20),(e60 21)])) [(e50 1),(e50 2),(e50 3),(e50 5),(e50 9),(e50 19),(e50 20),(e50 21),(I 0)]) λe59=>Je51 [(e59 1),(e59 2),(e59 3),(e59 5),(e59 9),(e59 19),(e59 20),(e59 21)]) λe51=>FO 8 (e51 19) λx52=>L1 x52 λx53=>LA 4 (e51 21) λx54=>BS 117 1 (ZR 1 Vm) [(0,4,x54)] λx55=>AP 117 4 48 (cl Vm) x53 x55 λx56=>FO 8 (e51 19) λx57=>ST 1 x57 x56<|BO .add (e51 20) (I 1) λx58=>Ke29 [(e51 1),(e51 2),(e51 3),(e51 5),(e51 9),(e51 19),x58]) (Je28 [(e29 2),(e29 19)])) [(e24 1),(e24 2),(e24 3),(e24 5),(e24 9),(e24 19),(I 0)]) λe28=>Je25 [(e28 2),(e28 19)]) λe25=>LA 13 (e25 19) λx26=>ST 13 (e25 2) x26<|LA 13 (e25 2) λx27=>K x27
theorem Mj {l:List AQ} {AJ x:List Int} {t:Th} {r ths:List Th} (h:DW l AJ x (t :: r) = some ths):∃AD j,DC l AJ x t.AD = some AD/\DW l AJ x r = some j/\ths = ⟨AD,t.next,false,if t.Am = 1 then 2 else t.Am⟩ :: j:=by
 unfold DW at h;obtain⟨AD,y,h⟩:=AF h;obtain⟨j,A,h⟩:=AF h;simp only[cX] at h;exact⟨AD,j,y,A,h.symm⟩
theorem Ou {l:List AQ} {AJ x:List Int} {a:Int} {r out:List Int} (h:DC l AJ x (a :: r) = some out):∃z b j,now l a = some z/\(if BP AJ z < 0 then some 0 else idx x (BP AJ z)) = some b/\DC l AJ x r = some j/\out = b :: j:=by
 unfold DC at h;obtain⟨z,y,h⟩:=AF h;obtain⟨b,A,h⟩:=AF h;obtain⟨j,D,h⟩:=AF h;simp only[cX] at h;exact⟨z,b,j,y,A,D,h.symm⟩
theorem ZB {R:RM} {E:Chs} {s s' : Sm.Ah} {wv tv mv g0 ov pv lv v9 v w t m D : Value} {l:List AQ} {AJ c8:List Int} {ths:List Th} {b1 T y:Nat} {e:Env} {K:Value->M}
  (h:StC R s wv tv mv g0 ov pv) (h7:Tgs R lv l) (j0:l.length < 1000000) (d2:B8 R v9 AJ) (i4:AJ.length < 1000000) (h8:B8 R v c8) (f5:DW l AJ c8 s.AB = some ths) (hn:s.AB.length < 1000000) (f1:∀t∈s.AB,t.AD.length < 1000000)
  (i9:At E b1 (C AW (eSt s wv tv mv g0 ov pv))) (he:[e 1,e 2,e 3,e 5,e 9,e 19] = [Pt b1,Pt T,lv,v9,v,Pt y])
  (hf:∀x,flat x = true->By (eSt s' w t m x (SN) D) = true)
  (H:∀W rows x A,R.le W->Rw (Cd W) rows ths->SW 117 4 rows x A->J W (A ++ (y,C AW (eSt s' w t m x (SN) D)) :: (T,C AW (eSt s' w t m x (SN) D)) :: E) (K (.agg (eSt s' w t m x (SN) D).toArray))) :
  J R ((y,C AW (eSt s' w t m (SN) (SN) D)) :: (T,C AW (cl z50)) :: E) (l7d e K):=by
 unfold l7d;simp only[zj,z_t] at he;simp only[he];refine Ab (λvs W D'=>R.le W/\∃rows x A,Rw (Cd W) rows ths/\SW 117 4 rows x A/\D' = A ++ (y,C AW (eSt s' w t m x (SN) D)) :: (T,C AW (cl z50)) :: E/\vs = [Pt T,Pt y]) (λK1 g1=>?_) ?_;rotate_left
 .rintro e R1 D1 ⟨hR,rows,x,A,a3,so,hD,he⟩;refine z_W ?_;obtain⟨sa,sc,e2⟩:=so.sl;subst e2;refine jla (by exact z_n 13) rfl ?_;refine js rfl (hf _ rfl) (by exact z_n 13) rfl (jla (by exact z_n 13) rfl ?_);exact H R1 rows _ A hR a3 so
 refine jcI g1 λK2 g2=>?_
 refine jlp (λmm vs W D'=>R.le W/\∃(i:Nat) (a0 a4:List Th) (rows:List (List Value)) (x:Value) (A:Chs),i<=s.AB.length/\DW l AJ c8 (s.AB.drop i) = some a4/\ths = a0 ++ a4/\a0.length = i/\Rw (Cd W) rows a0/\SW 117 4 rows x A/\D' = A ++ (y,C AW (eSt s' w t m x (SN) D)) :: (T,C AW (cl z50)) :: E/\vs = [Pt b1,Pt T,lv,v9,v,Pt y,I i]/\mm = s.AB.length - i)
  (n:=s.AB.length) ⟨RM.le.refl R,0,[],ths,[],SN,[],Z,f5,rfl,rfl,Rw.nil,.inl ⟨rfl,rfl,rfl⟩,rfl,rfl,Z⟩ ?_
 rintro mm e R1 D1 K3 ⟨hR,i,a0,a4,rows,x,A,hi,a7,b0,h6,a3,so,hD,he,hm⟩ g3;refine z_W ?_;have h1:=h.le hR;have f0:=h7.le hR;have b8:=d2.le hR;have f6:=h8.le hR;refine jl rfl (Bo h1.th.sl (jlt (jif (λhc=>?_) (λhc=>?_))));rotate_left
 .have hc:=z_g hc;rw[cT Z] at a7;have:a4 = []:=by unfold DW at a7;simpa using a7.symm
  subst this;rw[dD] at b0;subst b0;exact g2 _ _ _ ⟨hR,rows,x,A,a3,so,rfl,rfl⟩
 have hc:i < s.AB.length:=by have:=z_f hc;omega
 rw[cQ hc] at a7;obtain⟨AD,e3,c5,c0,rfl⟩:=Mj a7;have j6:=f1 _ (cK hc);refine jl rfl (jtr h1.th hc λb3 o3 ty cs rv j7 e8 j2 a8=>(jfo (jlr e8 (Bc a8 rfl) (jl rfl (jtr h1.th hc λb4 o4 k4 i6 j9 i5 e9 j3 a9=>(jfo (jlr e9 (Bc a9 rfl) (jbd rfl rfl (ja λO=>(Ak (jl rfl jev) (Ak (jlr e8 (Bc a8 rfl) jev) (Ak (jl rfl jev) (Ak (jlr e9 (Bc a9 rfl) jev) (jS ([SN,I (s.AB[i]).next,.bool false,I (s.AB[i]).Am]) ?_))))))))))))));generalize f8:(if (s.AB[i]).Am = 1 then 2 else (s.AB[i]).Am) = tr at a3 b0;refine Ab (λvs W D'=>W = R1/\D' = [] ++ (O,C 117 [SN,I (s.AB[i]).next,.bool false,I tr]) :: (A ++ (y,C AW (eSt s' w t m x (SN) D)) :: (T,C AW (cl z50)) :: E)/\vs = [Pt b1,Pt T,lv,v9,v,Pt y,I i,Pt O]) (λK4 e5=>?_) ?_
 .refine jfo (jl rfl (jeq (jif (λh3=>?_) (λh3=>?_))))
  .refine jfo (js rfl rfl V rfl (e5 _ _ _ ⟨rfl,?_,rfl⟩));rw[<- f8,if_pos (eq_of_beq h3)];rfl
  .refine e5 _ _ _ ⟨rfl,?_,rfl⟩;rw[<- f8,if_neg (ne_of_beq_false h3)];rfl
 rintro e Rx D1 ⟨g8,hD,he⟩;subst g8;refine z_W ?_;refine Ab (λvs W D'=>W = Rx/\∃rv A2,SO AD rv A2/\D' = A2 ++ (O,C 117 [rv,I (s.AB[i]).next,.bool false,I tr]) :: (A ++ (y,C AW (eSt s' w t m x (SN) D)) :: (T,C AW (cl z50)) :: E)/\vs = [Pt b1,Pt T,lv,v9,v,Pt y,I i,Pt O]) (λK5 g4=>?_) ?_
 .refine jcI g4 λK6 g5=>?_
  refine jlp (λmm vs W D'=>W = Rx/\∃(j:Nat) (N Q:List Int) (rv:Value) (A2:Chs),j<=(s.AB[i]).AD.length/\DC l AJ c8 ((s.AB[i]).AD.drop j) = some Q/\AD = N ++ Q/\N.length = j/\SO N rv A2/\D' = A2 ++ (O,C 117 [rv,I (s.AB[i]).next,.bool false,I tr]) :: (A ++ (y,C AW (eSt s' w t m x (SN) D)) :: (T,C AW (cl z50)) :: E)/\vs = [Pt b1,Pt T,lv,v9,v,Pt y,I i,Pt O,I j]/\mm = (s.AB[i]).AD.length - j)
   (n:=(s.AB[i]).AD.length) ⟨rfl,0,[],AD,SN,[],Z,c5,rfl,rfl,.inl ⟨rfl,rfl,rfl⟩,rfl,rfl,Z⟩ ?_
  rintro m5 e Ry D5 K7 ⟨g9,j,N,Q,rv,A2,hj,a6,e1,h5,a2,hD,he,j1⟩ g6;subst g9;refine z_W ?_;refine jl rfl (jtr h1.th hc λb5 o5 k7 i7 k2 f2 h2 j4 d3=>(jfo (jlr h2 (Bc d3 rfl) (Bo f2.sl (jlt (jif (λhd=>?_) (λhd=>?_)))))));rotate_left
  .have hd:=z_g hd;rw[cT Z] at a6;have:Q = []:=by unfold DC at a6;simpa using a6.symm
   subst this;rw[dD] at e1;subst e1;exact g5 _ _ _ ⟨rfl,rv,A2,a2,rfl,rfl⟩
  have hd:j < (s.AB[i]).AD.length:=by have:=z_f hd;omega
  rw[cQ hd] at a6;obtain⟨z,bz,e4,hz,a5,c4,rfl⟩:=Ou a6;refine Ab (λvs W D'=>W = Ry/\∃rv A2,SO (N ++ [bz]) rv A2/\D' = A2 ++ (O,C 117 [rv,I (s.AB[i]).next,.bool false,I tr]) :: (A ++ (y,C AW (eSt s' w t m x (SN) D)) :: (T,C AW (cl z50)) :: E)/\vs = [Pt b1,Pt T,lv,v9,v,Pt y,I i,Pt O,I j]) (λK8 g7=>?_) ?_;rotate_left
  .rintro e R2 D2 ⟨d1,rv,A2,a2,hD,he⟩;subst d1;refine z_W ?_;refine jad (g6 ((s.AB[i]).AD.length - (j + 1)) _ _ _ Z ⟨rfl,j + 1,N ++ [bz],e4,rv,A2,Z,c4,by rw[e1];simp,by rw[cJ,h5];rfl,a2,rfl,rfl,rfl⟩)
  refine jcI g7 λK9 e6=>?_
  obtain⟨sa,sn,sc,rfl⟩:=a2.sl;refine jl rfl (jtr h1.th hc λb6 o6 l2 i8 k3 f3 h4 j5 d4=>(jfo (jlr h4 (Bc d4 rfl) (Bl f3 Z Z ?_))));rw[getElem_congr_idx (cG j)];refine jro (Fh f0 Z hz) (jro (Gb z (B8.rd b8) Z) (jlt (jif (λh0=>?_) (λh0=>?_))))
  .rw[if_pos (z_f h0)] at a5;simp only[cX] at a5;subst a5;refine jfo (jl rfl (jbs rfl rfl λb7=>(Gr a2 Z λv' A' a1=>?_)));obtain⟨c6,h9,c7,rfl⟩:=a1.sl;refine jfo (js rfl rfl V rfl (e6 _ _ _ ⟨rfl,_,A',a1,rfl,rfl⟩))
  .rw[if_neg (z_g h0)] at a5;obtain⟨y0,y1,y2,y3⟩:=Av a5;refine jfo (jl rfl (Bl f6 y0 y1 ?_));rw[y3];refine jbs rfl rfl λb7=>(Ak (jl rfl jev) (Gr a2 Z λv' A' a1=>?_))
   obtain⟨c6,h9,c7,rfl⟩:=a1.sl;refine jfo (js rfl rfl V rfl (e6 _ _ _ ⟨rfl,_,A',a1,rfl,rfl⟩))
 rintro e R2 D2 ⟨d1,j8,A2,a2,hD,he⟩;subst d1;refine z_W ?_;refine Dw a2 λR3 e7 c9=>?_
 obtain⟨ua,uc,rfl⟩:=c9.sl;obtain⟨sa,sc,e2⟩:=so.sl;subst e2;refine jfo (jl rfl (jla (by exact z_n 4) rfl (jbs (cs:=[.slice ua AD.length uc,I (s.AB[i]).next,.bool false,I tr]) rfl rfl λb9=>(Al A (G:=(b9,C 117 [.slice ua AD.length uc,I (s.AB[i]).next,.bool false,I tr]) :: (O,C 117 [.slice ua AD.length uc,I (s.AB[i]).next,.bool false,I tr]) :: ((y,C AW (eSt s' w t m (.slice sa rows.length sc) (SN) D)) :: (T,C AW (cl z50)) :: E)) ?_))));have hx:BX R3 (A ++ ((b9,C 117 [.slice ua AD.length uc,I (s.AB[i]).next,.bool false,I tr]) :: (O,C 117 [.slice ua AD.length uc,I (s.AB[i]).next,.bool false,I tr]) :: ((y,C AW (eSt s' w t m (.slice sa rows.length sc) (SN) D)) :: (T,C AW (cl z50)) :: E))) (some ⟨b9,0,none⟩) (1 * 4) [[.slice ua AD.length uc,I (s.AB[i]).next,.bool false,I tr]].flatten:=BX.held (cs:=[.slice ua AD.length uc,I (s.AB[i]).next,.bool false,I tr]) (z_n 4);have f1:=a3.1;refine jaw so (a3.all λ_ _=>Cd.len) (by intro r hr;rw[cZ.1 hr];rfl) rfl rfl rfl δ (by rw[cr];omega) hx λv' A' a1=>?_
 obtain⟨c6,c7,f4⟩:=a1.sl;subst f4;refine jfo (jS (eSt s' w t m (.slice c6 (rows ++ [[.slice ua AD.length uc,I (s.AB[i]).next,.bool false,I tr]]).length c7) (SN) D) (jad (Al A' (G:=(y,C AW (eSt s' w t m (.slice c6 (rows ++ [[.slice ua AD.length uc,I (s.AB[i]).next,.bool false,I tr]]).length c7) (SN) D)) :: (T,C AW (cl z50)) :: E) (g3 (s.AB.length - (i + 1)) _ _ _ Z ⟨hR.trans e7,i + 1,a0 ++ [⟨AD,(s.AB[i]).next,false,tr⟩],e3,_,_,A',Z,c0,by rw[b0];simp,by rw[cJ,h6];rfl,(a3.mono λ_ _=>Cd.le e7).app (Rw.one ⟨_,rfl,c9⟩),a1,rfl,rfl,rfl⟩))))
end Go.Lf
end
