/- A part of the proof of the given row: the walk of the law and of all that it calls. Conditions: none. -/
import Derived.Test.YtlagojobcbkpdaaGreatDI
set_option linter.unusedVariables false
set_option linter.unusedSimpArgs false
set_option maxRecDepth 100000
section
namespace Go.Lf
open Go Sm
def SW (t w:Nat) (rows:List (List Value)) (v:Value) (A:Chs):Prop:=
 (rows = []∧v = SN∧A = [])∨∃b c sp,rows.length≤c∧sp.length = (c - rows.length) * w∧v = S0 b rows.length c∧A = [(b,C t (rows.flatten ++ sp))]
theorem SW.sl {t w:Nat} {rows:List (List Value)} {v:Value} {A:Chs} (h:SW t w rows v A):∃a c,v = .slice a rows.length c:=by
 rcases h with ⟨rfl,rfl,_⟩ | ⟨b,c,sp,_,_,rfl,_⟩<;>exact⟨_,_,rfl⟩
theorem jaw {R:RM} {A E:Chs} {t w by_:Nat} {rows rows2:List (List Value)} {v:Value} {xa:Option Addr} {m cx:Nat} {zs:List Value} {k:Value→M} (so:SW t w rows v A)
  (hw:∀r∈rows,r.length = w) (hw2:∀r∈rows2,r.length = w) (hz:zs.length = w) (hf:Br rows2.flatten = true) (hm:m = rows2.length) (hb:by_≠0) (hl:by_ * (2 * (rows.length + rows2.length) + 200)≤2 ^ 48) (hx:BY R (A ++ E) xa (m * w) rows2.flatten)
  (H:∀v' A',SW t w (rows ++ rows2) v' A'→J R (A' ++ E) (k v')):J R (A ++ E) (AP t w by_ zs v (.slice xa m cx) k):=by
 subst hm;have fl:∀n,(List.replicate n zs).flatten.length = n * w:=λn=>by
  rw[Bw (w:=w) (by intro x hx;rw[(ZT.1 hx).2,hz])];simp
 have l1:=Bw hw;have l2:=Bw hw2;rcases so with ⟨rfl,rfl,rfl⟩ | ⟨b,c,sp,hc,hsp,rfl,rfl⟩
 ·refine jap hx (sl:=0) (old:=[]) (by rw[aa];exact BY.none_) hb (by simpa using hl) (λhc h hst=>?_) (λb c hc=>?_)
  ·have h0:rows2 = []:=ZL.1 ω;subst h0;have:=H (SN) [] (.inl ⟨rfl,rfl,rfl⟩) h hst;simpa using this
  ·have:=H (S0 b rows2.length c) [(b,C t (rows2.flatten ++ (List.replicate (c - rows2.length) zs).flatten))] (.inr ⟨b,c,(List.replicate (c - rows2.length) zs).flatten,by simpa using hc,by rw[fl];simp,σ,σ⟩);simpa using this
 ·refine Tx hx (E:=E) (tk:=⟨ZU _⟩) (by rw[Yk,l1,hsp,← Nat.add_mul];congr 1;omega) hc l2 hf hb hl (λh=>?_) (λb' c' h=>?_)
  ·have el:lay (rows.flatten ++ sp) (rows.length * w) rows2.flatten = (rows ++ rows2).flatten ++ sp.drop (rows2.length * w):=by
    rw[Gr ω,l1,Nat.sub_self];simp[lay,l2]
   rw[el];have:=H (S0 b (rows ++ rows2).length c) [(b,C t ((rows ++ rows2).flatten ++ sp.drop (rows2.length * w)))] (.inr ⟨b,c,_,by simpa using h,by rw[ZS,hsp,← Nat.sub_mul,Yk];congr 1;omega,rfl,rfl⟩);simpa using this
  ·refine BI (aI _ _ _) (Bn ?_);have:=H (.slice (some ⟨b',0,none⟩) (rows ++ rows2).length c') [(b',C t ((rows ++ rows2).flatten ++ (List.replicate (c' - (rows.length + rows2.length)) zs).flatten))] (.inr ⟨b',c',_,by simpa using h,by rw[fl,Yk],rfl,rfl⟩);rw[ZZ ω,Ys ω];simpa using this
theorem jfw {R:RM} {A E:Chs} {t w:Nat} {rows:List (List Value)} {v:Value} {m:M} (so:SW t w rows v A) (hw:∀r∈rows,r.length = w) (H:∀R',R.le R'→Fz R' v w rows.length rows.flatten→J R' E m):J R (A ++ E) m:=by
 rcases so with ⟨rfl,rfl,rfl⟩ | ⟨b,c,sp,hc,hsp,rfl,rfl⟩
 ·exact H R (RM.le.refl _) (.inl ⟨rfl,rfl,rfl⟩)
 ·refine BQ (b:=b) (E:=E) (t:=⟨ZU _⟩) λR2 hR2 hb=>?_
  exact H R2 hR2 (.inr ⟨b,0,c,t,_,rfl,hb,by rw[Yk,Bw hw];omega,by rw[Zr,← Bw hw];simp,hc⟩)
def Rw {α:Type} (p:List Value→α→Prop) (rows:List (List Value)) (l:List α):Prop:=rows.length = l.length∧∀i (h:i < rows.length) (h' : i < l.length),p rows[i] l[i]
theorem Rw.nil {α:Type} {p:List Value→α→Prop}:Rw p [] []:=⟨rfl,λi h=>absurd h σ⟩
theorem Rw.app {α:Type} {p:List Value→α→Prop} {r1 r2:List (List Value)} {l1 l2:List α} (h1:Rw p r1 l1) (h2:Rw p r2 l2):Rw p (r1 ++ r2) (l1 ++ l2):=by
 refine⟨by rw[Yk,Yk,h1.1,h2.1],λi h h'=>?_⟩;by_cases c:i < r1.length
 ·rw[aE c,aE (by rw[← h1.1];exact c)];exact h1.2 i c _
 ·rw[aB ω,aB (by rw[← h1.1];omega)];have e:i - l1.length = i - r1.length:=by rw[h1.1]
  rw[getElem_congr_idx e];rw[Yk] at h h';have:=h1.1;exact h2.2 _ ω ω
theorem Rw.one {α:Type} {p:List Value→α→Prop} {r:List Value} {x:α} (h:p r x):Rw p [r] [x]:=by
 refine⟨rfl,λi h1 h2=>?_⟩;have:i = 0:=by simp at h1;omega
 subst this;exact h
theorem Rw.mono {α:Type} {p q:List Value→α→Prop} {r:List (List Value)} {l:List α} (h:Rw p r l) (H:∀x y,p x y→q x y):Rw q r l:=⟨h.1,λi h1 h2=>H _ _ (h.2 i h1 h2)⟩
theorem Rw.all {α:Type} {p:List Value→α→Prop} {r:List (List Value)} {l:List α} (h:Rw p r l) {q:List Value→Prop} (H:∀x y,p x y→q x):∀x∈r,q x:=by
 intro x hx;obtain⟨i,hi,rfl⟩:=ZF hx;exact H _ _ (h.2 i hi (by rw[← h.1];exact hi))
theorem OR {w:Nat}:∀{rows:List (List Value)} {i:Nat} (_:∀r∈rows,r.length = w) (h:i < rows.length),(rows.flatten.drop (i * w)).take w = rows[i]
 | [],i,_,h=>absurd h σ
 | a :: r,0,hw,_=>by
  have:a.length = w:=hw a σ;rw[aa,Zr,Zz,ZZ ω,Ys ω];rfl
 | a :: r,i + 1,hw,h=>by
  have h1:a.length = w:=hw a σ;rw[Zz,Nat.succ_mul,List.drop_append,List.drop_of_length_le ω,zl,h1,Nat.add_sub_cancel];exact OR (λr hr=>hw r (by simp[hr])) (by simpa using h)
theorem NF {R:RM} {v:Value} {w:Nat} {rows:List (List Value)} {i:Nat} (h:Fz R v w rows.length rows.flatten) (hw:∀r∈rows,r.length = w) (hi:i < rows.length) :
  ∃b o cap t cs,v = .slice (some ⟨b,o,none⟩) rows.length cap∧R b = some (C t cs)∧o + i * w + w≤cs.length∧(cs.drop (o + i * w)).take w = rows[i]:=by
 rcases h with ⟨_,h2,_⟩ | ⟨b,o,cap,t,cs,rfl,h2,h3,h4,h5⟩
 ·omega
 ·refine⟨b,o,cap,t,cs,rfl,h2,?_,?_⟩
  ·have:(i + 1) * w≤rows.length * w:=aH w ω;rw[Nat.succ_mul] at this;omega
  ·rw[← OR hw hi,← h4,aU,aj,ah];congr 1;have:(i + 1) * w≤rows.length * w:=aH w ω;rw[Nat.succ_mul] at this;omega
def ThC (R:RM) (row:List Value) (t:AU):Prop:=∃rv nv,row = eTh t rv nv∧BG R rv t.refs∧BG R nv t.nums
theorem ThC.le {R R' : RM} {row:List Value} {t:AU} (h:R.le R') (H:ThC R row t):ThC R' row t:=by
 obtain⟨rv,nv,h1,h2,h3⟩:=H;exact⟨rv,nv,h1,h2.le h,h3.le h⟩
theorem ThC.len {R:RM} {row:List Value} {t:AU} (H:ThC R row t):row.length = 6:=by
 obtain⟨rv,nv,rfl,h2,h3⟩:=H;rfl
theorem ThC.flat {R:RM} {row:List Value} {t:AU} (H:ThC R row t):Br row = true:=by
 obtain⟨rv,nv,rfl,h2,h3⟩:=H;obtain⟨_,_,rfl⟩:=h2.sl;obtain⟨_,_,rfl⟩:=h3.sl;rfl
def Tgs (R:RM) (v:Value) (l:List AU):Prop:=∃rows,Rw (ThC R) rows l∧Fz R v 6 rows.length rows.flatten
theorem Tgs.le {R R' : RM} {v:Value} {l:List AU} (h:R.le R') (H:Tgs R v l):Tgs R' v l:=by
 obtain⟨rows,h1,h2⟩:=H;exact⟨rows,h1.mono λ_ _=>ThC.le h,h2.le h⟩
theorem Tgs.sl {R:RM} {v:Value} {l:List AU} (H:Tgs R v l):∃a c,v = .slice a l.length c:=by
 obtain⟨rows,h1,h2⟩:=H;obtain⟨a,cap,e,-⟩:=Fz.reads (D:=[]) h2;exact⟨a,cap,by rw[e,h1.1]⟩
theorem C4 {R:RM} {D:Chs} {v:Value} {n:Nat} {k:Value→M} (h:∃a c,v = .slice a n c) (H:J R D (k (I n))):J R D (LN v k):=by
 obtain⟨a,c,rfl⟩:=h;exact H
theorem jtg {R:RM} {D:Chs} {v:Value} {l:List AU} {i:Nat} {k:Value→M} (h:Tgs R v l) (hi:i < l.length)
  (H:∀b o t cs rv nv,BG R rv (l[i]).refs→BG R nv (l[i]).nums→R b = some (C t cs)→o + 6≤cs.length→(cs.drop o).take 6 = eTh l[i] rv nv→J R D (k (.pointer (some ⟨b,o,none⟩)))):J R D (IA 6 v (I (i:Int)) k):=by
 obtain⟨rows,h1,h2⟩:=h;have hi' : i < rows.length:=by rw[h1.1];exact hi
 obtain⟨b,o,cap,t,cs,rfl,hb,hl,hc⟩:=NF h2 (h1.all λ_ _=>ThC.len) hi';obtain⟨rv,nv,e,r1,r2⟩:=h1.2 i hi' hi;refine jia ω ω ?_;rw[Yj];exact H b (o + i * 6) t cs rv nv r1 r2 hb hl (by rw[hc,e])
theorem CB {cs row:List Value} {o w f:Nat} {x:Value} (h:(cs.drop o).take w = row) (hf:row[f]? = some x):cs[o + f]? = some x:=by
 rw[← h,Zl,ZY] at hf;split at hf
 ·exact hf
 ·cases hf
theorem Hb (s:Shp):0≤AF s∧AF s≤10:=by
 unfold AF;split
 ·rename_i h;unfold BP at h;simp only[z_b,z_d] at h;omega
 ·omega
theorem HG {w:List Int} {a:Int} (h:(Ap w a).2 = true):2≤AF (Ap w a).1.sh:=by
 unfold Ap at h ⊢;split at h
 ·rename_i h1;rw[if_pos h1];dsimp only at h ⊢;split at h
  ·rename_i h2;rw[if_pos h2];simp only[z_b] at h2;have:=Fg h2.1;dsimp only;omega
  ·exact absurd h δ
 ·exact absurd h δ
def QTs (r:Option (List AU)) (v:Value) (R:RM):Prop:=match r with
 | none=>v = .tuple #[SN,.bool false]
 | some l=>∃tv,Tgs R tv l∧v = .tuple #[tv,.bool true]
theorem Pp {R:RM} {wv:Value} {w:List Int} (r top:Int) (h:BG R wv w) (hl:w.length < 1000000000000) :
  Fn P Hh [wv,I r,I top] R [] (λv R' A=>A = []∧QTs (BN w r top) v R'):=by
 refine NO λF=>?_
 refine z_3 ?_;obtain⟨wa,wc,hwv⟩:=h.sl;have eq:(w.length:Int).tdiv 16 = (w.length / 16:Nat):=by rw[Zk ω];omega
 rw[hwv];have br:0≤AH r∧AH r≤176:=by unfold AH;split<;>omega
 refine jor [.slice wa w.length wc,I r,I top] ((!BM w.length) || (decide (r < 1))) (λK' hK'=>?_) (λe c u ho he=>?_)
 ·refine jp (IT wa w.length wc hl) (BR (λh1=>?_) (λh1=>?_))
  ·refine jlt (hK' _ _ _ (h1▸Ah) (by rw[h1,Yl]))
  ·exact hK' _ _ _ (h1▸Am) (by rw[h1,Yo])
 refine z_V ?_;refine jor [.slice wa w.length wc,I r,I top] ((!BM w.length || decide (r < 1)) || (decide (r≥(w.length:Int).tdiv 16))) (λK' hK'=>?_) (λe c u ho he=>?_)
 ·rw[ho];refine BR (λh1=>?_) (λh1=>?_)
  ·refine jln (MX δ ⟨ω,ω⟩ (jge (hK' _ _ _ (h1▸Ah) (by rw[h1,Yl]))))
  ·exact hK' _ _ _ (h1▸Am) (by rw[h1,Yo])
 refine z_V ?_;refine jor [.slice wa w.length wc,I r,I top] ((!BM w.length || decide (r < 1) || decide (r≥(w.length:Int).tdiv 16)) || (decide (top < AH r))) (λK' hK'=>?_) (λe c u ho he=>?_)
 ·rw[ho];refine BR (λh1=>?_) (λh1=>?_)
  ·refine jp (Bc r) (jlt (hK' _ _ _ (h1▸Ah) (by rw[h1,Yl])))
  ·exact hK' _ _ _ (h1▸Am) (by rw[h1,Yo])
 refine z_V ?_;refine jor [.slice wa w.length wc,I r,I top] ((!BM w.length || decide (r < 1) || decide (r≥(w.length:Int).tdiv 16) || decide (top < AH r)) || (decide (top > AH r + 16))) (λK' hK'=>?_) (λe c u ho he=>?_)
 ·rw[ho];refine BR (λh1=>?_) (λh1=>?_)
  ·refine jp (Bc r) (jad (jgr (hK' _ _ _ (h1▸Ah) (by rw[h1,Yl]))))
  ·exact hK' _ _ _ (h1▸Am) (by rw[h1,Yo])
 refine z_V ?_;rw[ho];refine jif (λh0=>?_) (λh0=>?_)
 ·refine B9 (A:=[]) (RM.le.refl R) ⟨rfl,?_⟩;have:BN w r top = none:=by
   unfold BN;rw[if_neg];intro hh;simp only[ZD,Z9,z_d,z_b] at h0 hh;rw[eq] at h0;obtain⟨⟨⟨⟨g1,g2⟩,g3⟩,g4⟩,g5⟩:=hh;rw[g1] at h0;rcases h0 with (((h0 | h0) | h0) | h0) | h0
   ·exact absurd h0 δ
   all_goals omega
  rw[this];exact rfl
 simp only[Z4,ZM,decide_eq_false_iff_not] at h0;rw[eq] at h0;obtain⟨⟨⟨⟨g1,g2⟩,g3⟩,g4⟩,g5⟩:=h0;have et:BN w r top = As w 16 (AH r) top:=by
  unfold BN;rw[if_pos];simp only[z_b,z_d];exact⟨⟨⟨⟨g1,ω⟩,ω⟩,ω⟩,ω⟩
 rw[← hwv];refine jp (Bc r) ?_;refine AR (λvs R' D'=>R.le R'∧∃l tv A,BN w r top = some l∧(∃rows,Rw (ThC R') rows l∧SW Az 6 rows tv A)∧D' = A ++ ([] ++ F)∧vs = [tv]) (λK hK=>?_) ?_;rotate_left
 ·rintro e R1 D1 ⟨hR,l,tv,A,hl,⟨rows,hrw,so⟩,hD,he⟩;refine z_W ?_;refine jfw so (hrw.all λ_ _=>ThC.len) λR2 hR2 hfz=>?_
  refine B9 (A:=[]) (hR.trans hR2) ⟨rfl,?_⟩;rw[hl];exact⟨tv,⟨rows,hrw.mono λ_ _=>ThC.le hR2,hfz⟩,rfl⟩
 refine AR (λvs R' D'=>R.le R'∧∃l tv A,BN w r top = some l∧(∃rows,Rw (ThC R') rows l∧SW Az 6 rows tv A)∧D' = A ++ ([] ++ F)∧vs = [tv]) (λK2 hK2=>?_) ?_;rotate_left
 ·rintro e R1 D1 ⟨hR,l,tv,A,hl,so,hD,he⟩;refine z_W ?_;exact hK _ _ _ ⟨hR,l,tv,A,hl,so,rfl,rfl⟩
 refine jlp (λm vs R' D'=>R.le R'∧∃(a:Int) (l:List AU) (tv:Value) (A:Chs) (rows:List (List Value)),m≤16∧AH r + 2 * (16 - m)≤a∧a≤top∧l.length≤16 - m∧(match As w m a top with | none=>none | some l2=>some (l ++ l2)) = BN w r top∧Rw (ThC R') rows l∧SW Az 6 rows tv A∧D' = A ++ ([] ++ F)∧vs = [wv,I top,tv,I a])
  (n:=16) ⟨RM.le.refl R,AH r,[],SN,[],[],ω,ω,ω,σ,by rw[et];cases As w 16 (AH r) top<;>rfl,Rw.nil,.inl ⟨rfl,rfl,rfl⟩,rfl,rfl⟩ ?_
 rintro m e R1 D1 K3 ⟨hR,a,l,tv,A,rows,hm,ha,hat,hll,hth,hrw,so,hD,he⟩ hK3;refine z_W ?_;have h1:=h.le hR;refine jlt (jif (λhc=>?_) (λhc=>?_));rotate_left
 ·have hc:=z_g hc;refine hK2 _ _ _ ⟨hR,l,tv,A,?_,⟨rows,hrw,so⟩,rfl,rfl⟩;rw[← hth];cases m<;>(unfold As;rw[if_neg hc];simp)
 have hc:=z_f hc;obtain⟨m,rfl⟩:∃k,m = k + 1:=⟨m - 1,ω⟩;unfold As at hth;rw[if_pos hc] at hth;dsimp only at hth;obtain⟨sz1,sz2⟩:=Hb (Ap w a).1.sh;have tsz:=@HG w a;refine jc (A:=[]) (Rd a h1 hl) ?_;rintro _ R2 _ hR2 ⟨rfl,x,⟨rv,nv,rfl,hrv,hnv⟩,rfl⟩;generalize Ap w a = t at hth hrv hnv sz1 sz2 tsz ⊢;obtain⟨t,tb⟩:=t;dsimp only at hth hrv hnv sz1 sz2 tsz ⊢;obtain⟨ra,rc,rfl⟩:=hrv.sl;obtain⟨na,nc,rfl⟩:=hnv.sl;refine jex rfl (jex rfl (ja λb=>?_));refine jS (eTh t (.slice ra t.refs.length rc) (.slice na t.nums.length nc)) ?_;refine jor [wv,I top,tv,I a,Pt b] ((!tb) || (decide (a + AF t.sh > top))) (λK' hK'=>?_) (λe c u ho he=>?_)
 ·refine BR (λh1=>?_) (λh1=>?_)
  ·refine jfo (jla (t:=Az) (cs:=eTh t (.slice ra t.refs.length rc) (.slice na t.nums.length nc)) (l:=[I t.sh.refs,I t.sh.nums]) (by exact (by decide:4≤6)) rfl (jp (CJ t.sh) (jad (jgr (hK' _ _ _ (h1▸Ah) (by rw[h1,Yl]))))))
  ·exact hK' _ _ _ (h1▸Am) (by rw[h1,Yo])
 refine z_V ?_;rw[ho];refine jif (λh0=>?_) (λh0=>?_)
 ·refine B9 (A:=[]) (hR.trans hR2) ⟨rfl,?_⟩;have:BN w r top = none:=by
   rw[← hth,if_neg];intro hh;simp only[ZD,Z9,z_d,z_b] at h0 hh;rcases h0 with h0 | h0
   ·rw[h0] at hh;exact absurd hh.1 δ
   ·omega
  rw[this];exact rfl
 simp only[Z4,ZM,decide_eq_false_iff_not] at h0;obtain⟨h2,h3⟩:=h0;rw[if_pos (by rw[h2];simp;omega)] at hth;have tsz:=tsz h2;refine jla (l:=eTh t (.slice ra t.refs.length rc) (.slice na t.nums.length nc)) (by exact z_n 6) rfl ?_;refine jbs (cs:=eTh t (.slice ra t.refs.length rc) (.slice na t.nums.length nc)) rfl rfl λb4=>?_
 refine BI (D':=(b4,C Az (eTh t (.slice ra t.refs.length rc) (.slice na t.nums.length nc))) :: ((b,C Az (eTh t (.slice ra t.refs.length rc) (.slice na t.nums.length nc))) :: (A ++ ([] ++ F)))) (ZU _) ?_;refine Aw A (G:=(b4,C Az (eTh t (.slice ra t.refs.length rc) (.slice na t.nums.length nc))) :: (b,C Az (eTh t (.slice ra t.refs.length rc) (.slice na t.nums.length nc))) :: ([] ++ F)) ?_;have hx:BY R2 (A ++ ((b4,C Az (eTh t (.slice ra t.refs.length rc) (.slice na t.nums.length nc))) :: (b,C Az (eTh t (.slice ra t.refs.length rc) (.slice na t.nums.length nc))) :: ([] ++ F))) (some ⟨b4,0,none⟩) (1 * 6) [eTh t (.slice ra t.refs.length rc) (.slice na t.nums.length nc)].flatten:=BY.held (t:=Az) (cs:=eTh t (.slice ra t.refs.length rc) (.slice na t.nums.length nc)) (o:=0) (n:=1 * 6) (z_n 6);have hrl:=hrw.1;refine jaw so (hrw.all λ_ _=>ThC.len) (by intro r hr;rw[Z8.1 hr];rfl) rfl rfl rfl δ (by rw[Z7];omega) hx λv' A' so'=>?_
 refine jfo (jla (t:=Az) (cs:=eTh t (.slice ra t.refs.length rc) (.slice na t.nums.length nc)) (l:=[I t.sh.refs,I t.sh.nums]) (by exact (by decide:4≤6)) rfl (jp (CJ t.sh) (jad ?_)));refine Aw A' (G:=[] ++ F) ?_;refine hK3 m _ _ _ ω ⟨hR.trans hR2,a + AF t.sh,l ++ [t],v',A',rows ++ [eTh t (.slice ra t.refs.length rc) (.slice na t.nums.length nc)],ω,ω,ω,by rw[Yk,Z7];omega,?_,(hrw.mono λ_ _=>ThC.le hR2).app (Rw.one ⟨_,_,rfl,hrv,hnv⟩),so',rfl,rfl⟩;rw[← hth];cases As w m (a + AF t.sh) top with
 | none=>rfl
 | some l2=>simp
def RdI (R:RM) (D:Chs) (v:Value) (l:List Int):Prop:=(∃a c,v = .slice a l.length c)∧∀(F:Chs) (i:Nat) (h:i < l.length) (k:Value→M),J R (D ++ F) (k (I l[i]))→J R (D ++ F) (IA 1 v (I (i:Int)) λx=>L1 x k)
theorem BG.rd {R:RM} {D:Chs} {v:Value} {l:List Int} (h:BG R v l):RdI R D v l:=
 ⟨h.sl,λF i hi k H=>CE h ω ω (by rw[getElem_congr_idx (Yj i)];exact H)⟩
theorem SO.rd {R:RM} {A E:Chs} {v:Value} {l:List Int} (h:SO l v A):RdI R (A ++ E) v l:=by
 rcases h with ⟨rfl,rfl,rfl⟩ | ⟨b,c,sp,hc,hsp,rfl,rfl⟩
 ·exact⟨⟨_,_,rfl⟩,λF i hi=>absurd hi σ⟩
 ·refine⟨⟨_,_,rfl⟩,λF i hi k H=>C5 hi ?_⟩;exact jl (v:=I l[i]) (by rw[Z6,Zo];exact Fj hi) H
theorem Hz {R:RM} {D:Chs} {v:Value} {l:List Int} (n:Int) (h:RdI R D v l) (hl:l.length < 1000000000000):Ro Iz [v,I n] (I (Bl l n)) R D:=by
 refine P8 λF=>?_
 refine z_2 ?_;obtain⟨hsl,h⟩:=h;refine jlp (λm vs R' D'=>R' = R∧D' = D ++ F∧∃i:Nat,i≤l.length∧vs = [v,I n,I i]∧m = l.length - i∧∀k (hk:k < l.length),k < i→l[k]≠n)
  (n:=l.length) ⟨rfl,rfl,0,ω,rfl,ω,λk _ h=>ω⟩ ?_
 rintro m e R1 D1 K ⟨hR1,hD,i,hi,he,hm,Bx⟩ hK;subst hR1;refine z_W ?_;refine C4 hsl (jlt (jif (λhc=>?_) (λhc=>?_)))
 ·have hc:i < l.length:=by have:=z_f hc;omega
  refine h F i hc _ (jeq (jif (λhq=>?_) (λhq=>?_)))
  ·refine BU ?_;have hq:=eq_of_beq hq;have hm:n∈l:=by rw[← hq];exact Yq hc
   unfold Bl;rw[if_pos hm,M4 hc hq Bx]
  ·have hq:=ne_of_beq_false hq;refine jad ?_;refine hK (l.length - (i + 1)) _ _ _ ω ⟨rfl,rfl,i + 1,ω,rfl,rfl,λk hk hki=>?_⟩;by_cases c:k = i
   ·subst c;exact hq
   ·exact Bx k hk ω
 ·have hc:¬ i < l.length:=by have:=z_g hc;omega
  refine BU ?_;have hm:n ∉ l:=by
   intro hm;obtain⟨k,hk,hkn⟩:=ZF hm;exact Bx k hk ω hkn
  unfold Bl;rw[if_neg hm]
theorem IC {R:RM} {A E G:Chs} {l:List Int} {v:Value} {x:Int} {b1 t cx:Nat} {k:Value→M} (so:SO l v A) (hl:l.length + 1 < 1000000000000)
  [s:Sp G A E] (H:∀v' A',SO (l ++ [x]) v' A'→J R (A' ++ E) (k v')):J R ((b1,C t [I x]) :: G) (AP AX 1 8 [I 0] v (S0 b1 1 cx) k):=by
 have hp:((b1,C t [I x]) :: G).Perm (A ++ ((b1,C t [I x]) :: E)):=(s.p.cons _).trans ZH.symm;refine BI hp ?_;have hx:BY R (A ++ ((b1,C t [I x]) :: E)) (some ⟨b1,0,none⟩) (1 * 1) ([x].map I):=BY.held (t:=t) (cs:=[I x]) (o:=0) (n:=1 * 1) (z_n 1);refine jas so rfl (by simpa using hl) hx λv' A' so'=>?_
 exact BI ZH (Bn (H v' A' so'))
theorem Jh {R:RM} {A:Chs} {v:Value} {l:List Int} (a:Int) (so:SO l v A) (hl:l.length < 1000000):Fn P MJ [v,I a] R A (λv' R' A'=>R' = R∧SO (CZ l a) v' A'):=by
 refine SG λF=>?_
 refine z_2 ?_;obtain⟨sa,sn,sc,hsl⟩:=so.sl;refine jor [v,I a] ((a == 0) || (decide (Bl l a≥0))) (λK' hK'=>?_) (λe c u ho he=>?_)
 ·refine jeq (BR (λh1=>?_) (λh1=>?_))
  ·refine jro (Hz a so.rd ω) (jge (hK' _ _ _ (h1▸Ah) (by rw[h1,Yl])))
  ·exact hK' _ _ _ (h1▸Am) (by rw[h1,Yo])
 refine z_V ?_;rw[ho];have hp:decide (Bl l a≥0) = decide (a∈l):=by
  unfold Bl;by_cases c:a∈l
  ·rw[if_pos c,decide_eq_true c,decide_eq_true ω]
  ·rw[if_neg c,decide_eq_false c,decide_eq_false ω]
 rw[hp];refine jif (λh0=>?_) (λh0=>?_)
 ·simp only[ZD,beq_iff_eq,z_d] at h0;refine B9 (A:=A) (RM.le.refl R) ?_;unfold CZ;rw[if_pos h0];exact⟨rfl,so⟩
 ·have h0:¬ (a = 0∨a∈l):=by simpa using h0
  refine jbs (cs:=[I a]) rfl rfl λb1=>?_
  refine IC (A:=A) so ω λv' A' so'=>?_
  refine B9 (A:=A') (RM.le.refl R) ?_;unfold CZ;rw[if_neg h0];exact⟨rfl,so'⟩
def Ml (l:List AU) (a:Int):Int:=match l.findIdx? λt=>t.at_ == a with | some i=>(i:Int) | none=>-1
theorem E9 {R:RM} {D:Chs} {v:Value} {l:List AU} (a:Int) (h:Tgs R v l) (hl:l.length < 1000000000000):Ro Jw [v,I a] (I (Ml l a)) R D:=by
 refine QK λF=>?_
 refine z_2 ?_;refine jlp (λm vs R' D'=>R' = R∧D' = D ++ F∧∃i:Nat,i≤l.length∧vs = [v,I a,I i]∧m = l.length - i∧∀k (hk:k < l.length),k < i→(l[k]).at_≠a)
  (n:=l.length) ⟨rfl,rfl,0,ω,rfl,ω,λk _ h=>ω⟩ ?_
 rintro m e R1 D1 K ⟨hR1,hD,i,hi,he,hm,Bx⟩ hK;subst hR1;refine z_W ?_;refine C4 h.sl (jlt (jif (λhc=>?_) (λhc=>?_)))
 ·have hc:i < l.length:=by have:=z_f hc;omega
  refine jtg h hc λb o t cs rv nv _ _ hb ho hrow=>?_
  refine jfo (jlr (v:=I (l[i]).at_) hb (CB hrow (f:=0) rfl) (jeq (jif (λhq=>?_) (λhq=>?_))))
  ·refine BU ?_;have hq:=eq_of_beq hq;unfold Ml;have:l.findIdx? (λt=>t.at_ == a) = some i:=by
    rw[List.findIdx?_eq_some_iff_getElem];exact⟨hc,by simpa using hq,λj hj=>by simpa using Bx j ω hj⟩
   rw[this]
  ·have hq:=ne_of_beq_false hq;refine jad ?_;refine hK (l.length - (i + 1)) _ _ _ ω ⟨rfl,rfl,i + 1,ω,rfl,rfl,λk hk hki=>?_⟩;by_cases c:k = i
   ·subst c;exact hq
   ·exact Bx k hk ω
 ·have hc:¬ i < l.length:=by have:=z_g hc;omega
  refine BU ?_;have:l.findIdx? (λt=>t.at_ == a) = none:=by
   rw[List.findIdx?_eq_none_iff];intro x hx;obtain⟨k,hk,rfl⟩:=ZF hx;have:=Bx k hk ω;simpa using this
  unfold Ml;rw[this]
theorem Ed {l:List AU} {a:Int} {t:AU} (h:BL l a = some t):∃(i:Nat) (hi:i < l.length),Ml l a = i∧l[i] = t:=by
 unfold BL at h;have h2:(l.findIdx? λt=>t.at_ == a)≠none:=by
  intro hn;rw[List.findIdx?_eq_none_iff] at hn;have:=List.find?_some h;have hm:=al h;rw[hn t hm] at this;cases this
 cases hi:l.findIdx? (λt=>t.at_ == a) with
 | none=>exact absurd hi h2
 | some i=>
  have hi2:=hi;rw[List.findIdx?_eq_some_iff_getElem] at hi2;obtain⟨hlt,hp,Bx⟩:=hi2;refine⟨i,hlt,by unfold Ml;rw[hi],?_⟩;have:l.find? (λt=>t.at_ == a) = some l[i]:=by
   rw[List.find?_eq_some_iff_getElem];exact⟨hp,i,hlt,rfl,λj hj=>by simpa using Bx j hj⟩
  rw[this] at h;exact (Yu _ _).mp h
theorem Gm {R:RM} {D:Chs} {v:Value} {l:List AU} {a x:Int} (h:Tgs R v l) (hl:l.length < 1000000000000) (hx:now l a = some x):Ro M3 [v,I a] (I x) R D:=by
 refine Rh λF=>?_
 refine z_2 ?_;unfold now at hx;refine jeq (jif (λh0=>?_) (λh0=>?_))
 ·rw[if_pos (eq_of_beq h0)] at hx;simp only[Yu] at hx;exact BU (by rw[hx])
 ·rw[if_neg (ne_of_beq_false h0)] at hx;obtain⟨t,ht,rfl⟩:=Option.map_eq_some_iff.1 hx;obtain⟨i,hi,hp,rfl⟩:=Ed ht;refine jro (E9 a h hl) ?_;rw[hp];refine jtg h hi λb o t cs rv nv _ _ hb ho hrow=>?_
  refine jfo (jlr (v:=I (l[i]).moved) hb (CB hrow (f:=1) rfl) ?_);exact BU rfl
def eSt (s:Sm.Al) (wv tv mv thv ov pv:Value):List Value:=[wv,tv,mv,I s.Ad,.bool s.stop,.bool s.full,.bool s.Ae,I s.want,thv,ov,pv,I s.Aj,I s.BA]
def Rgs (R:RM) (v:Value) (t:List Rg):Prop:=Fz R v 5 t.length (Ac eRg t)
def Bls (R:RM) (v:Value) (l:List Bool):Prop:=Fz R v 1 l.length (l.map Value.bool)
def Ct (R:RM) (row:List Value) (t:Th):Prop:=∃rv,row = [rv,I t.next,.bool t.busy,I t.Ai]∧BG R rv t.AC
def Ths (R:RM) (v:Value) (l:List Th):Prop:=∃rows,Rw (Ct R) rows l∧Fz R v 4 rows.length rows.flatten
structure StC (R:RM) (s:Sm.Al) (wv tv mv thv ov pv:Value):Prop where
 w:BG R wv s.AA
 t:Rgs R tv s.A0
 m:Bls R mv s.AK
 th:Ths R thv s.A6
 o:BG R ov s.old
 p:BG R pv s.AG
theorem Ct.le {R R' : RM} {row:List Value} {t:Th} (h:R.le R') (H:Ct R row t):Ct R' row t:=by
 obtain⟨rv,h1,h2⟩:=H;exact⟨rv,h1,h2.le h⟩
theorem Ct.len {R:RM} {row:List Value} {t:Th} (H:Ct R row t):row.length = 4:=by obtain⟨rv,rfl,h2⟩:=H;rfl
theorem Ct.flat {R:RM} {row:List Value} {t:Th} (H:Ct R row t):Br row = true:=by
 obtain⟨rv,rfl,h2⟩:=H;obtain⟨_,_,rfl⟩:=h2.sl;rfl
theorem Ths.le {R R' : RM} {v:Value} {l:List Th} (h:R.le R') (H:Ths R v l):Ths R' v l:=by
 obtain⟨rows,h1,h2⟩:=H;exact⟨rows,h1.mono λ_ _=>Ct.le h,h2.le h⟩
theorem Ths.sl {R:RM} {v:Value} {l:List Th} (H:Ths R v l):∃a c,v = .slice a l.length c:=by
 obtain⟨rows,h1,h2⟩:=H;obtain⟨a,cap,e,-⟩:=Fz.reads (D:=[]) h2;exact⟨a,cap,by rw[e,h1.1]⟩
theorem Fz.sl {R:RM} {v:Value} {w n:Nat} {cells:List Value} (H:Fz R v w n cells):∃a c,v = .slice a n c:=by
 obtain⟨a,cap,e,-⟩:=Fz.reads (D:=[]) H;exact⟨a,cap,e⟩
theorem StC.le {R R' : RM} {s:Sm.Al} {wv tv mv thv ov pv:Value} (h:R.le R') (H:StC R s wv tv mv thv ov pv):StC R' s wv tv mv thv ov pv:=
 ⟨H.w.le h,Fz.le h H.t,Fz.le h H.m,H.th.le h,H.o.le h,H.p.le h⟩
theorem Ug (t:List Rg):∀r∈t.map eRg,r.length = 5:=by
 intro r hr;obtain⟨x,_,rfl⟩:=ZK.1 hr;rfl
theorem jrg {R:RM} {D:Chs} {v:Value} {t:List Rg} {i:Nat} {k:Value→M} (h:Rgs R v t) (hi:i < t.length)
  (H:∀b o ty cs,R b = some (C ty cs)→o + 5≤cs.length→(cs.drop o).take 5 = eRg t[i]→J R D (k (.pointer (some ⟨b,o,none⟩)))):J R D (IA 5 v (I (i:Int)) k):=by
 have h' : Fz R v 5 (t.map eRg).length (t.map eRg).flatten:=by rw[Z1];exact h
 obtain⟨b,o,cap,ty,cs,rfl,hb,hl,hc⟩:=NF h' (Ug t) (by simpa using hi);refine jia ω (by rw[Z1];omega) ?_;rw[Yj];exact H b (o + i * 5) ty cs hb hl (by rw[hc,au])
theorem jtr {R:RM} {D:Chs} {v:Value} {l:List Th} {i:Nat} {k:Value→M} (h:Ths R v l) (hi:i < l.length)
  (H:∀b o ty cs rv,BG R rv (l[i]).AC→R b = some (C ty cs)→o + 4≤cs.length→(cs.drop o).take 4 = [rv,I (l[i]).next,.bool (l[i]).busy,I (l[i]).Ai]→J R D (k (.pointer (some ⟨b,o,none⟩)))):J R D (IA 4 v (I (i:Int)) k):=by
 obtain⟨rows,h1,h2⟩:=h;have hi' : i < rows.length:=by rw[h1.1];exact hi
 obtain⟨b,o,cap,ty,cs,rfl,hb,hl,hc⟩:=NF h2 (h1.all λ_ _=>Ct.len) hi';obtain⟨rv,e,r1⟩:=h1.2 i hi' hi;refine jia ω ω ?_;rw[Yj];exact H b (o + i * 4) ty cs rv r1 hb hl (by rw[hc,e])
theorem Om {rows:List (List Value)} (h:∀r∈rows,Br r = true):Br rows.flatten = true:=by
 unfold Br at h ⊢;rw[ZC];intro x hx;obtain⟨r,hr,hx⟩:=List.mem_flatten.1 hx;exact ZC.1 (h r hr) x hx
theorem Nr {w:List Int}:∀{n:Nat} {a top:Int} {l:List AU},As w n a top = some l→l.length≤n
 | 0,a,top,l,h=>by
  unfold As at h;split at h
  ·cases h
  ·cases h;simp
 | n + 1,a,top,l,h=>by
  unfold As at h;split at h
  ·dsimp only at h;split at h
   ·split at h
    ·rename_i l2 h2;cases h;have:=Nr h2;simp;omega
    ·cases h
   ·cases h
  ·cases h;simp
theorem QO {w:List Int} {r top:Int} {l:List AU} (h:BN w r top = some l):l.length≤16:=by
 unfold BN at h;split at h
 ·exact Nr h
 ·cases h
theorem LL {R:RM} {s:Sm.Al} {wv tv mv thv ov pv:Value} (h:StC R s wv tv mv thv ov pv) (hw:s.AA.length < 1000000) (ht:s.A0.length < 1000000) :
  Fn P IM [.agg (eSt s wv tv mv thv ov pv).toArray] R [] (λv R' A=>A = []∧QTs (BJ s) v R'):=by
 refine NA λF=>?_
 refine z_1 ?_;refine ja λb=>?_
 rw[show cl (.agg (eSt s wv tv mv thv ov pv).toArray) = eSt s wv tv mv thv ov pv from rfl];refine AR (λvs R' D'=>R.le R'∧∃l v A,BJ s = some l∧(∃rows,Rw (ThC R') rows l∧SW Az 6 rows v A)∧D' = A ++ ((b,C AQ (eSt s wv tv mv thv ov pv)) :: ([] ++ F))∧vs = [v]) (λK hK=>?_) ?_;rotate_left
 ·rintro e R1 D1 ⟨hR,l,v,A,hl,⟨rows,hrw,so⟩,hD,he⟩;refine z_W ?_;refine jfw so (hrw.all λ_ _=>ThC.len) λR2 hR2 hfz=>?_
  refine B9 (A:=[]) (hR.trans hR2) ⟨rfl,?_⟩;rw[hl];exact⟨v,⟨rows,hrw.mono λ_ _=>ThC.le hR2,hfz⟩,rfl⟩
 refine AR (λvs R' D'=>R.le R'∧∃l v A,BJ s = some l∧(∃rows,Rw (ThC R') rows l∧SW Az 6 rows v A)∧D' = A ++ ((b,C AQ (eSt s wv tv mv thv ov pv)) :: ([] ++ F))∧vs = [v]) (λK2 hK2=>?_) ?_;rotate_left
 ·rintro e R1 D1 ⟨hR,l,v,A,hl,so,hD,he⟩;refine z_W ?_;exact hK _ _ _ ⟨hR,l,v,A,hl,so,rfl,rfl⟩
 refine jlp (λm vs R' D'=>R.le R'∧∃(i:Nat) (l:List AU) (v:Value) (A:Chs) (rows:List (List Value)),1≤i∧i≤s.A0.length + 1∧l.length≤16 * i∧(match Be s.AA i (s.A0.drop i) with | none=>none | some l2=>some (l ++ l2)) = BJ s∧Rw (ThC R') rows l∧SW Az 6 rows v A∧D' = A ++ ((b,C AQ (eSt s wv tv mv thv ov pv)) :: ([] ++ F))∧vs = [Pt b,v,I i]∧m = s.A0.length + 1 - i)
  (n:=s.A0.length) ⟨RM.le.refl R,1,[],SN,[],[],ω,ω,σ,by unfold BJ;rw[List.drop_one];cases Be s.AA 1 s.A0.tail<;>rfl,Rw.nil,.inl ⟨rfl,rfl,rfl⟩,rfl,rfl,ω⟩ ?_
 rintro m e R1 D1 K3 ⟨hR,i,l,v,A,rows,hi0,hi1,hll,hth,hrw,so,hD,he,hm⟩ hK3;refine z_W ?_;have h1:=h.le hR;refine jl (v:=tv) rfl (C4 h1.t.sl (jlt (jif (λhc=>?_) (λhc=>?_))));rotate_left
 ·have hc:=z_g hc;refine hK2 _ _ _ ⟨hR,l,v,A,?_,⟨rows,hrw,so⟩,rfl,rfl⟩;rw[← hth,Yz ω];simp[Be]
 have hc:i < s.A0.length:=by have:=z_f hc;omega
 rw[Yv hc] at hth;unfold Be at hth;refine jl (v:=wv) rfl (jl (v:=tv) rfl (jrg h1.t hc λb2 o2 ty cs hb ho hrow=>?_));refine jfo (jlr (v:=I (s.A0[i]).top) hb (CB hrow (f:=2) rfl) ?_);refine jc (A:=[]) (Pp i (s.A0[i]).top h1.w ω) ?_;rintro _ R2 _ hR2 ⟨rfl,hq⟩;cases hti:BN s.AA i (s.A0[i]).top with
 | none=>
  rw[hti] at hq hth;subst hq;refine jex rfl (jex rfl (DI ?_));refine B9 (A:=[]) (hR.trans hR2) ⟨rfl,?_⟩;rw[← hth];exact rfl
 | some l1=>
  rw[hti] at hq hth;obtain⟨tv1,⟨rows1,hrw1,hfz1⟩,rfl⟩:=hq;refine NL (jex rfl (jex rfl (CL ?_)));obtain⟨xa,cx,hxv,hx⟩:=Fz.reads (D:=A ++ ((b,C AQ (eSt s wv tv mv thv ov pv)) :: ([] ++ F))) hfz1;rw[hxv];have hrl:=hrw.1;have hrl1:=hrw1.1;have hl1:=QO hti;refine jaw so (hrw.all λ_ _=>ThC.len) (hrw1.all λ_ _=>ThC.len) rfl (Om (hrw1.all λ_ _=>ThC.flat)) rfl δ ω hx λv' A' so'=>?_
  refine jad ?_;refine hK3 (s.A0.length + 1 - (i + 1)) _ _ _ ω ⟨hR.trans hR2,i + 1,l ++ l1,v',A',rows ++ rows1,ω,ω,by rw[Yk];omega,?_,(hrw.mono λ_ _=>ThC.le hR2).app hrw1,so',rfl,rfl,rfl⟩;rw[← hth];cases Be s.AA (i + 1) (s.A0.drop (i + 1)) with
  | none=>rfl
  | some l2=>simp
theorem L3 {R:RM} {D:Chs} {s:Sm.Al} {wv tv mv thv ov pv:Value} (r:Int) (h:StC R s wv tv mv thv ov pv) (hp:∀a∈s.AG,AN a≤9223372036854775807) (hl:s.AG.length < 1000000) :
  Ro Kc [.agg (eSt s wv tv mv thv ov pv).toArray,I r] (.bool (Ao s.AG r)) R D:=by
 refine PN λF=>?_
 refine z_2 ?_;refine ja λb=>?_
 rw[show cl (.agg (eSt s wv tv mv thv ov pv).toArray) = eSt s wv tv mv thv ov pv from rfl];refine jlp (λm vs R' D'=>R' = R∧D' = (b,C AQ (eSt s wv tv mv thv ov pv)) :: (D ++ F)∧∃i:Nat,i≤s.AG.length∧vs = [I r,Pt b,I i]∧m = s.AG.length - i∧Ao (s.AG.drop i) r = Ao s.AG r)
  (n:=s.AG.length) ⟨rfl,rfl,0,ω,rfl,ω,by rw[Zr]⟩ ?_
 rintro m e R1 D1 K ⟨hR1,hD,i,hi,he,hm,Bx⟩ hK;subst hR1;refine z_W ?_;refine jl (v:=pv) rfl (C4 h.p.sl (jlt (jif (λhc=>?_) (λhc=>?_))))
 ·have hc:i < s.AG.length:=by have:=z_f hc;omega
  refine jl (v:=pv) rfl (CE h.p ω ω ?_);rw[getElem_congr_idx (Yj i)];rw[Yv hc] at Bx;refine jp (CT _ (hp _ (Yq hc))) (jeq (jif (λhq=>?_) (λhq=>?_)))
  ·refine BU ?_;rw[← Bx];unfold Ao;rw[List.any_cons,hq,Yo]
  ·refine jad ?_;refine hK (s.AG.length - (i + 1)) _ _ _ ω ⟨rfl,rfl,i + 1,ω,rfl,rfl,?_⟩;rw[← Bx];unfold Ao;rw[List.any_cons,hq,Yl]
 ·have hc:¬ i < s.AG.length:=by have:=z_g hc;omega
  refine BU ?_;rw[← Bx,Yz ω];rfl
theorem KQ (had:List Int) (a:Int):had.length≤(CZ had a).length:=by
 unfold CZ;split<;>simp
theorem Dq {l:List AU}:∀{xs acc r:List Int},Au l xs acc = some r→acc.length≤r.length
 | [],acc,r,h=>by cases h;exact z_n _
 | x :: xs,acc,r,h=>by
  unfold Au at h;obtain⟨y,_,h⟩:=AD h;have:=Dq h;have:=KQ acc y;omega
theorem I6 {l:List AU}:∀{ts:List Th} {acc r:List Int},Dm l ts acc = some r→acc.length≤r.length
 | [],acc,r,h=>by cases h;exact z_n _
 | x :: xs,acc,r,h=>by
  unfold Dm at h;obtain⟨y,h1,h⟩:=AD h;have:=Dq h1;have:=I6 h;omega
theorem Jl:∀(ps acc:List Int),acc.length≤(ps.foldl CZ acc).length
 | [],acc=>z_n _
 | p :: ps,acc=>by
  have h1:=KQ acc p;have h2:=Jl ps (CZ acc p);rw[aZ];omega
theorem Gc {l:List AU}:∀{n i:Nat} {out r:List Int},BW l n i out = some r→out.length≤r.length∧r.length + 1≤i + n
 | 0,i,out,r,h=>by cases h
 | n + 1,i,out,r,h=>by
  unfold BW at h;split at h
  ·rename_i hn;cases h;have:=List.getElem?_eq_none_iff.1 hn;exact⟨z_n _,ω⟩
  ·obtain⟨t,_,h⟩:=AD h;obtain⟨y,h1,h⟩:=AD h;have:=Dq h1;obtain⟨h2,h3⟩:=Gc h;exact⟨ω,ω⟩
theorem Iw {s:Sm.Al} {l:List AU} {r:List Int} (h:DW s l = some r):r.length≤l.length + 1:=by
 unfold DW at h;obtain⟨y,_,h⟩:=AD h;have:=(Gc h).2;omega
theorem Qv {acc:List Int} {x:Int} {R:RM} {D:Chs} {v:Value} {A:Chs} (c:((x != 0) && decide (Bl acc x < 0)) = false) (so:SO acc v A):SO (CZ acc x) v A:=by
 unfold CZ;rw[if_pos]
 ·exact so
 ·unfold Bl at c;by_cases h:x = 0
  ·exact .inl h
  ·by_cases hm:x∈acc
   ·exact .inr hm
   ·rw[if_neg hm] at c;simp[h] at c
theorem M7 {acc:List Int} {x:Int} (c:((x != 0) && decide (Bl acc x < 0)) = true):CZ acc x = acc ++ [x]:=by
 unfold CZ;rw[if_neg];simp only[z_b,bne_iff_ne,ne_eq,z_d] at c;rintro (h | h)
 ·exact c.1 h
 ·unfold Bl at c;rw[if_pos h] at c;omega
theorem O4 {R:RM} {s:Sm.Al} {wv tv mv thv ov pv lv:Value} {l:List AU} {AO:List Int} (h:StC R s wv tv mv thv ov pv) (hlv:Tgs R lv l) (hll:l.length < 900000) (hr:DW s l = some AO) (hn:s.A6.length < 1000000) (hrl:∀t∈s.A6,t.AC.length < 1000000000) (hpl:s.AG.length < 1000000) (hrf:∀t∈l,t.refs.length < 1000000000) :
  Fn P HB [.agg (eSt s wv tv mv thv ov pv).toArray,lv] R [] (λv _ A=>SO AO v A):=by
 refine Ls λF=>?_
 refine z_2 ?_;have hlen:=Iw hr;unfold DW at hr;obtain⟨out0,hr0,hr1⟩:=AD hr;have hl1:=(Gc hr1).1;have hl0:=Jl s.AG out0;refine ja λb=>?_
 rw[show cl (.agg (eSt s wv tv mv thv ov pv).toArray) = eSt s wv tv mv thv ov pv from rfl];generalize hE:((b,C AQ (eSt s wv tv mv thv ov pv)) :: ([] ++ F)) = E;have ea:At E b (C AQ (eSt s wv tv mv thv ov pv)):=by rw[← hE];exact inferInstance
 have ef:Sf E F:=by rw[← hE];exact inferInstance
 refine AR (λvs R' D'=>R' = R∧∃v A,SO out0 v A∧D' = A ++ E∧vs = [lv,Pt b,v]) (λK hK=>?_) ?_
 ·refine AR (λvs R' D'=>R' = R∧∃v A,SO out0 v A∧D' = A ++ E∧vs = [lv,Pt b,v]) (λK2 hK2=>?_) ?_;rotate_left
  ·rintro e R1 D1 ⟨hR,v,A,so,hD,he⟩;refine z_W ?_;clear hD;exact hK _ _ _ ⟨hR,v,A,so,rfl,rfl⟩
  refine jlp (λm vs R' D'=>R' = R∧∃(i:Nat) (acc:List Int) (v:Value) (A:Chs),i≤s.A6.length∧Dm l (s.A6.drop i) acc = some out0∧SO acc v A∧D' = A ++ E∧vs = [lv,Pt b,v,I i]∧m = s.A6.length - i)
   (n:=s.A6.length) ⟨rfl,0,[],SN,[],ω,hr0,.inl ⟨rfl,rfl,rfl⟩,rfl,rfl,ω⟩ ?_
  rintro m e R1 D1 K3 ⟨hR,i,acc,v,A,hi,hra,so,hD,he,hm⟩ hK3;subst hR;refine z_W ?_;clear hD;refine jl (v:=thv) rfl (C4 h.th.sl (jlt (jif (λhc=>?_) (λhc=>?_))));rotate_left
  ·have hc:=z_g hc;rw[Yz ω] at hra;cases hra;exact hK2 _ _ _ ⟨rfl,v,A,so,rfl,rfl⟩
  have hc:i < s.A6.length:=by have:=z_f hc;omega
  rw[Yv hc] at hra;unfold Dm at hra;obtain⟨acc1,hna,hra⟩:=AD hra;have hl2:=I6 hra;have hri:=hrl _ (Yq hc);refine AR (λvs R' D'=>R' = R1∧∃v A,SO acc1 v A∧D' = A ++ E∧vs = [lv,Pt b,v,I i]) (λK4 hK4=>?_) ?_;rotate_left
  ·rintro e R2 D2 ⟨hR,v,A,so,hD,he⟩;subst hR;refine z_W ?_;clear hD;refine jad ?_;exact hK3 (s.A6.length - (i + 1)) _ _ _ ω ⟨rfl,i + 1,acc1,v,A,ω,hra,so,rfl,rfl,rfl⟩
  refine AR (λvs R' D'=>R' = R1∧∃v A,SO acc1 v A∧D' = A ++ E∧vs = [lv,Pt b,v,I i]) (λK5 hK5=>?_) ?_;rotate_left
  ·rintro e R2 D2 ⟨hR,v,A,so,hD,he⟩;refine z_W ?_;clear hD;exact hK4 _ _ _ ⟨hR,v,A,so,rfl,rfl⟩
  refine AR (λvs R' D'=>R' = R1∧∃v A,SO acc1 v A∧D' = A ++ E∧vs = [lv,Pt b,v,I i]) (λK6 hK6=>?_) ?_;rotate_left
  ·rintro e R2 D2 ⟨hR,v,A,so,hD,he⟩;refine z_W ?_;clear hD;exact hK5 _ _ _ ⟨hR,v,A,so,rfl,rfl⟩
  refine jlp (λm vs R' D'=>R' = R1∧∃(j:Nat) (acc:List Int) (v:Value) (A:Chs),j≤(s.A6[i]).AC.length∧Au l ((s.A6[i]).AC.drop j) acc = some acc1∧SO acc v A∧D' = A ++ E∧vs = [lv,Pt b,v,I i,I j]∧m = (s.A6[i]).AC.length - j)
   (n:=(s.A6[i]).AC.length) ⟨rfl,0,acc,v,A,ω,hna,so,rfl,rfl,ω⟩ ?_
  clear hna so;rintro m e R2 D2 K7 ⟨hR,j,acc,v,A,hj,hna,so,hD,he,hm⟩ hK7;subst hR;refine z_W ?_;clear hD;have hl3:=Dq hna;refine jl (v:=thv) rfl (jtr h.th hc λb2 o2 ty cs rv hrv hb ho hrow=>?_);refine jfo (jlr (v:=rv) hb (CB hrow (f:=0) rfl) (C4 hrv.sl (jlt (jif (λhd=>?_) (λhd=>?_)))));rotate_left
  ·have hd:=z_g hd;rw[Yz ω] at hna;cases hna;exact hK6 _ _ _ ⟨rfl,v,A,so,rfl,rfl⟩
  have hd:j < (s.A6[i]).AC.length:=by have:=z_f hd;omega
  rw[Yv hd] at hna;unfold Au at hna;obtain⟨x,hx,hna⟩:=AD hna;refine AR (λvs R' D'=>R' = R2∧∃v A,SO (CZ acc x) v A∧D' = A ++ E∧vs = [lv,Pt b,v,I i,I j]) (λK8 hK8=>?_) ?_;rotate_left
  ·rintro e R3 D3 ⟨hR,v,A,so,hD,he⟩;subst hR;refine z_W ?_;clear hD;refine jad ?_;exact hK7 ((s.A6[i]).AC.length - (j + 1)) _ _ _ ω ⟨rfl,j + 1,_,v,A,ω,hna,so,rfl,rfl,rfl⟩
  refine AR (λvs R' D'=>R' = R2∧∃v A,SO (CZ acc x) v A∧D' = A ++ E∧vs = [lv,Pt b,v,I i,I j]) (λK9 hK9=>?_) ?_;rotate_left
  ·rintro e R3 D3 ⟨hR,v,A,so,hD,he⟩;refine z_W ?_;clear hD;exact hK8 _ _ _ ⟨hR,v,A,so,rfl,rfl⟩
  refine jl (v:=thv) rfl (jtr h.th hc λb2 o2 ty cs rv hrv hb ho hrow=>?_);refine jfo (jlr (v:=rv) hb (CB hrow (f:=0) rfl) (CE hrv ω ω ?_));rw[getElem_congr_idx (Yj j)];refine jro (Gm hlv ω hx) ?_;obtain⟨sa,sn,sc,hsl⟩:=so.sl;refine jan [lv,Pt b,v,I i,I j,I x] (((x != 0)) && (decide (Bl acc x < 0))) (λK' hK'=>?_) (λe c u ho he=>?_)
  ·refine jne (Bt (λh1=>?_) (λh1=>?_))
   ·refine jro (Hz x so.rd ω) (jlt (hK' _ _ _ (h1▸Ax) (by rw[h1,Z2])))
   ·exact hK' _ _ _ (h1▸BB) (by rw[h1,Z3])
  refine z_V ?_;rw[ho];refine jif (λh0=>?_) (λh0=>?_)
  ·refine jbs (cs:=[I x]) rfl rfl λb1=>?_
   refine IC (A:=A) so ω λv' A' so'=>?_
   exact hK9 _ _ _ ⟨rfl,v',A',by rw[M7 h0];exact so',rfl,rfl⟩
  ·exact hK9 _ _ _ ⟨rfl,v,A,Qv (R:=R2) (D:=[]) h0 so,rfl,rfl⟩
 rintro e R1 D1 ⟨hR,v,A,so,hD,he⟩;subst hR;refine z_W ?_;clear hD;generalize hou:s.AG.foldl CZ out0 = out1 at hr1 hl1 hl0;refine AR (λvs R' D'=>R' = R1∧∃v A,SO out1 v A∧D' = A ++ E∧vs = [lv,v]) (λK hK=>?_) ?_
 ·refine AR (λvs R' D'=>R' = R1∧∃v A,SO out1 v A∧D' = A ++ E∧vs = [lv,v]) (λK2 hK2=>?_) ?_;rotate_left
  ·rintro e R1 D1 ⟨hR,v,A,so,hD,he⟩;refine z_W ?_;clear hD;exact hK _ _ _ ⟨hR,v,A,so,rfl,rfl⟩
  refine jlp (λm vs R' D'=>R' = R1∧∃(i:Nat) (acc:List Int) (v:Value) (A:Chs),i≤s.AG.length∧(s.AG.drop i).foldl CZ acc = out1∧SO acc v A∧D' = A ++ E∧vs = [lv,Pt b,v,I i]∧m = s.AG.length - i)
   (n:=s.AG.length) ⟨rfl,0,out0,v,A,ω,hou,so,rfl,rfl,ω⟩ ?_
  rintro m e R1 D1 K3 ⟨hR,i,acc,v,A,hi,hra,so,hD,he,hm⟩ hK3;subst hR;refine z_W ?_;clear hD;refine jl (v:=pv) rfl (C4 h.p.sl (jlt (jif (λhc=>?_) (λhc=>?_))));rotate_left
  ·have hc:=z_g hc;rw[Yz ω,List.foldl_nil] at hra;subst hra;exact hK2 _ _ _ ⟨rfl,v,A,so,rfl,rfl⟩
  have hc:i < s.AG.length:=by have:=z_f hc;omega
  rw[Yv hc,aZ] at hra;have hl2:=Jl (s.AG.drop (i + 1)) (CZ acc s.AG[i]);have hl3:=KQ acc s.AG[i];rw[hra] at hl2;refine jl (v:=pv) rfl (CE h.p ω ω ?_);rw[getElem_congr_idx (Yj i)];refine jc (A:=A) (Jh _ so ω) ?_;rintro v' R2 A' hR2 ⟨hRR,so'⟩;subst hRR;refine jad ?_;exact hK3 (s.AG.length - (i + 1)) _ _ _ ω ⟨rfl,i + 1,_,v',A',ω,hra,so',rfl,rfl,rfl⟩
 clear so hr0;rintro e R2 D2 ⟨hR,v,A,so,hD,he⟩;subst hR;refine z_W ?_;clear hD;refine AR (λvs R' D'=>R' = R2∧∃v A,SO AO v A∧D' = A ++ E∧vs = [v]) (λK hK=>?_) ?_;rotate_left
 ·rintro e R3 D3 ⟨hR,v,A,so,hD,he⟩;subst hR;refine z_W ?_;clear hD;exact B9 (A:=A) (RM.le.refl R3) so
 refine AR (λvs R' D'=>R' = R2∧∃v A,SO AO v A∧D' = A ++ E∧vs = [v]) (λK2 hK2=>?_) ?_;rotate_left
 ·rintro e R3 D3 ⟨hR,v,A,so,hD,he⟩;refine z_W ?_;clear hD;exact hK _ _ _ ⟨hR,v,A,so,rfl,rfl⟩
 refine jlp (λm vs R' D'=>R' = R2∧∃(k:Nat) (acc:List Int) (v:Value) (A:Chs),BW l m k acc = some AO∧SO acc v A∧D' = A ++ E∧vs = [lv,v,I k])
  (n:=l.length + 2) ⟨rfl,0,out1,v,A,hr1,so,rfl,rfl⟩ ?_
 clear so;rintro m e R3 D3 K3 ⟨hR,i,acc,v,A,hra,so,hD,he⟩ hK3;subst hR;refine z_W ?_;clear hD;obtain⟨hl2,hl3⟩:=Gc hra;obtain⟨m,rfl⟩:∃k,m = k + 1:=by
  cases m with
  | zero=>cases hra
  | succ m=>exact⟨m,rfl⟩
 unfold BW at hra;obtain⟨hsl,hrd⟩:=so.rd (R:=R3) (E:=E);refine C4 hsl (jlt (jif (λhc=>?_) (λhc=>?_)));rotate_left
 ·have hc:=z_g hc;rw[Zd ω] at hra;cases hra;exact hK2 _ _ _ ⟨rfl,v,A,so,rfl,rfl⟩
 have hc:i < acc.length:=by have:=z_f hc;omega
 rw[Yi hc] at hra;obtain⟨t,ht,hra⟩:=AD hra;obtain⟨acc1,hna,hra⟩:=AD hra;have hl4:=(Gc hra).1;refine AR (λvs R' D'=>R' = R3∧∃v A,SO acc1 v A∧D' = A ++ E∧vs = [lv,v,I i]) (λK4 hK4=>?_) ?_;rotate_left
 ·rintro e R2 D2 ⟨hR,v,A,so,hD,he⟩;subst hR;refine z_W ?_;clear hD;refine jad ?_;exact hK3 m _ _ _ ω ⟨rfl,i + 1,acc1,v,A,hra,so,rfl,rfl⟩
 refine AR (λvs R' D'=>R' = R3∧∃v A,SO acc1 v A∧D' = A ++ E∧vs = [lv,v,I i]) (λK5 hK5=>?_) ?_;rotate_left
 ·rintro e R2 D2 ⟨hR,v,A,so,hD,he⟩;refine z_W ?_;clear hD;exact hK4 _ _ _ ⟨hR,v,A,so,rfl,rfl⟩
 refine BI (D':=(A ++ E) ++ []) (by rw[ZN]) (hrd [] i hc _ ?_);rw[ZN];obtain⟨n,hn2,hp,rfl⟩:=Ed ht;refine jro (E9 _ hlv ω) ?_;rw[hp];refine jtg hlv hn2 λb2 o2 ty cs rv nv hrv hnv hb ho hrow=>?_
 have hrfn:=hrf _ (Yq hn2);obtain⟨ra,rc,rfl⟩:=hrv.sl;obtain⟨na,nc,rfl⟩:=hnv.sl;refine F0 hb ho hrow ?_;refine ja λb3=>?_
 refine jS (eTh l[n] (.slice ra l[n].refs.length rc) (.slice na l[n].nums.length nc)) ?_;refine BI ZH.symm ?_;refine AR (λvs R' D'=>R' = R3∧∃v A,SO acc1 v A∧D' = A ++ E∧vs = [lv,v,I i]) (λK6 hK6=>?_) ?_;rotate_left
 ·rintro e R2 D2 ⟨hR,v,A,so,hD,he⟩;refine z_W ?_;clear hD;exact hK5 _ _ _ ⟨hR,v,A,so,rfl,rfl⟩
 refine jlp (λm vs R' D'=>R' = R3∧∃(j:Nat) (acc:List Int) (v:Value) (A:Chs),j≤(l[n]).refs.length∧Au l ((l[n]).refs.drop j) acc = some acc1∧SO acc v A∧D' = A ++ ((b3,C Az (eTh l[n] (.slice ra l[n].refs.length rc) (.slice na l[n].nums.length nc))) :: E)∧vs = [lv,v,I i,Pt b3,I j]∧m = (l[n]).refs.length - j)
  (n:=(l[n]).refs.length) ⟨rfl,0,acc,v,A,ω,hna,so,rfl,rfl,ω⟩ ?_
 clear hna so hrd;rintro m2 e R2 D2 K7 ⟨hR,j,acc,v,A,hj,hna,so,hD,he,hm⟩ hK7;subst hR;refine z_W ?_;clear hD;have hl5:=Dq hna;refine jl (v:=.slice ra l[n].refs.length rc) rfl (jln (jlt (jif (λhd=>?_) (λhd=>?_))));rotate_left
 ·have hd:=z_g hd;rw[Yz ω] at hna;cases hna;refine Aw A (G:=E) ?_;exact hK6 _ _ _ ⟨rfl,v,A,so,rfl,rfl⟩
 have hd:j < (l[n]).refs.length:=by have:=z_f hd;omega
 rw[Yv hd] at hna;unfold Au at hna;obtain⟨x,hx,hna⟩:=AD hna;refine AR (λvs R' D'=>R' = R2∧∃v A,SO (CZ acc x) v A∧D' = A ++ ((b3,C Az (eTh l[n] (.slice ra l[n].refs.length rc) (.slice na l[n].nums.length nc))) :: E)∧vs = [lv,v,I i,Pt b3,I j]) (λK8 hK8=>?_) ?_;rotate_left
 ·rintro e R3 D3 ⟨hR,v,A,so,hD,he⟩;subst hR;refine z_W ?_;clear hD;refine jad ?_;exact hK7 ((l[n]).refs.length - (j + 1)) _ _ _ ω ⟨rfl,j + 1,_,v,A,ω,hna,so,rfl,rfl,rfl⟩
 refine AR (λvs R' D'=>R' = R2∧∃v A,SO (CZ acc x) v A∧D' = A ++ ((b3,C Az (eTh l[n] (.slice ra l[n].refs.length rc) (.slice na l[n].nums.length nc))) :: E)∧vs = [lv,v,I i,Pt b3,I j]) (λK9 hK9=>?_) ?_;rotate_left
 ·rintro e R3 D3 ⟨hR,v,A,so,hD,he⟩;refine z_W ?_;clear hD;exact hK8 _ _ _ ⟨hR,v,A,so,rfl,rfl⟩
 refine jl (v:=.slice ra l[n].refs.length rc) rfl (CE hrv ω ω ?_);rw[getElem_congr_idx (Yj j)];refine jro (Gm hlv ω hx) ?_;obtain⟨sa,sn,sc,hsl⟩:=so.sl;refine jan [lv,v,I i,Pt b3,I j,I x] (((x != 0)) && (decide (Bl acc x < 0))) (λK' hK'=>?_) (λe c u ho he=>?_)
 ·refine jne (Bt (λh1=>?_) (λh1=>?_))
  ·refine jro (Hz x so.rd ω) (jlt (hK' _ _ _ (h1▸Ax) (by rw[h1,Z2])))
  ·exact hK' _ _ _ (h1▸BB) (by rw[h1,Z3])
 refine z_V ?_;rw[ho];refine jif (λh0=>?_) (λh0=>?_)
 ·refine jbs (cs:=[I x]) rfl rfl λb1=>?_
  refine IC (A:=A) so ω λv' A' so'=>?_
  exact hK9 _ _ _ ⟨rfl,v',A',by rw[M7 h0];exact so',rfl,rfl⟩
 ·exact hK9 _ _ _ ⟨rfl,v,A,Qv (R:=R2) (D:=[]) h0 so,rfl,rfl⟩
end Go.Lf
end
section
namespace Go.Lf
open Go Sm
theorem Xd {R:RM} {A E:Chs} {l:List Int} {v:Value} {x:Int} {i:Nat} {m:M} (so:SO l v A) (hi:i < l.length) (H:∀A',SO (l.set i x) v A'→J R (A' ++ E) m):J R (A ++ E) (IA 1 v (I (i:Int)) λq=>ST 1 q (I x) m):=by
 rcases so with ⟨rfl,_,_⟩ | ⟨b,c,sp,hc,hsp,rfl,rfl⟩
 ·exact absurd hi σ
 ·refine C5 hi (jsi (l:=l) (sp:=sp) (D':=[(b,C AX ((l.set i x).map I ++ sp))] ++ E) (by exact hi) ?_);exact H _ (.inr ⟨b,c,sp,by simpa using hc,by simpa using hsp,by rw[ZV],rfl⟩)
theorem Nu (l:List Int) (x:Int):(GE l x).length = l.length + 1:=by
 unfold GE;have:∀k,Ds l x k≤k:=by
  intro k;induction k with
  | zero=>exact z_n 0
  | succ k ih=>unfold Ds;split<;>omega
 have:=this l.length;simp only[Yk,Z5,Yt,ZS];omega
theorem HV:∀(l acc:List Int),(l.foldl GE acc).length = acc.length + l.length
 | [],acc=>σ
 | a :: r,acc=>by rw[aZ,HV r,Nu];simp;omega
theorem PZ {R:RM} {v:Value} {l:List Int} (h:BG R v l) (hl:l.length < 1000000):Fn P Hw [v] R [] (λv' R' A=>R' = R∧SO (Aq l) v' A):=by
 refine MU λF=>?_
 refine z_1 ?_;refine AR (λvs R' D'=>R' = R∧∃v' A,SO (Aq l) v' A∧D' = A ++ F∧vs = [v']) (λK hK=>?_) ?_;rotate_left
 ·rintro e R3 D3 ⟨hR,v',A,so,hD,he⟩;subst hR;refine z_W ?_;clear hD;exact B9 (A:=A) (RM.le.refl R3) ⟨rfl,so⟩
 refine AR (λvs R' D'=>R' = R∧∃v' A,SO (Aq l) v' A∧D' = A ++ F∧vs = [v']) (λK2 hK2=>?_) ?_;rotate_left
 ·rintro e R3 D3 ⟨hR,v',A,so,hD,he⟩;refine z_W ?_;clear hD;exact hK _ _ _ ⟨hR,v',A,so,rfl,rfl⟩
 refine jlp (λm vs R' D'=>R' = R∧∃(k:Nat) (acc:List Int) (v' : Value) (A:Chs),k≤l.length∧acc.length = k∧(l.drop k).foldl GE acc = Aq l∧SO acc v' A∧D' = A ++ F∧vs = [v,v',I k]∧m = l.length - k)
  (n:=l.length) ⟨rfl,0,[],SN,[],ω,rfl,rfl,.inl ⟨rfl,rfl,rfl⟩,rfl,rfl,ω⟩ ?_
 rintro m e R1 D1 K3 ⟨hR,k,acc,v',A,hk,hal,hra,so,hD,he,hm⟩ hK3;subst hR;refine z_W ?_;clear hD;refine C4 h.sl (jlt (jif (λhc=>?_) (λhc=>?_)));rotate_left
 ·have hc:=z_g hc;rw[Yz ω,List.foldl_nil] at hra;subst hra;exact hK2 _ _ _ ⟨rfl,v',A,so,rfl,rfl⟩
 have hc:k < l.length:=by have:=z_f hc;omega
 rw[Yv hc,aZ] at hra;refine AR (λvs R' D'=>R' = R1∧∃v' A,SO (GE acc l[k]) v' A∧D' = A ++ F∧vs = [v,v',I k]) (λK4 hK4=>?_) ?_;rotate_left
 ·rintro e R2 D2 ⟨hR,v',A,so,hD,he⟩;subst hR;refine z_W ?_;clear hD;refine jad ?_;exact hK3 (l.length - (k + 1)) _ _ _ ω ⟨rfl,k + 1,_,v',A,ω,by rw[Nu,hal],hra,so,rfl,rfl,rfl⟩
 refine AR (λvs R' D'=>R' = R1∧∃v' A,SO (GE acc l[k]) v' A∧D' = A ++ F∧vs = [v,v',I k]) (λK5 hK5=>?_) ?_;rotate_left
 ·rintro e R2 D2 ⟨hR,v',A,so,hD,he⟩;refine z_W ?_;clear hD;exact hK4 _ _ _ ⟨hR,v',A,so,rfl,rfl⟩
 obtain⟨hsl,-⟩:=so.rd (R:=R1) (E:=F);refine C4 hsl (CE h ω ω ?_);rw[getElem_congr_idx (Yj k)];generalize l[k] = x at hK5;refine jbs (cs:=[I x]) rfl rfl λb1=>?_
 refine IC (A:=A) so ω λv2 A2 so2=>?_
 refine AR (λvs R' D'=>R' = R1∧∃v' A,SO (GE acc x) v' A∧D' = A ++ F∧vs = [v,v',I k]) (λK6 hK6=>?_) ?_;rotate_left
 ·rintro e R2 D2 ⟨hR,v',A,so,hD,he⟩;refine z_W ?_;clear hD;exact hK5 _ _ _ ⟨hR,v',A,so,rfl,rfl⟩
 refine jlp (λm vs R' D'=>R' = R1∧∃(i:Nat) (cur:List Int) (A:Chs),i≤acc.length∧cur = acc.take i ++ x :: acc.drop i∧Ds acc x i = Ds acc x acc.length∧SO cur v2 A∧D' = A ++ F∧vs = [v,v2,I k,I i]∧m = i)
  (n:=acc.length) ⟨rfl,acc.length,acc ++ [x],A2,ω,σ,rfl,so2,rfl,rfl,rfl⟩ ?_
 clear so so2;rintro m2 e R2 D2 K7 ⟨hR,i,cur,A,hi,hcur,hip,so,hD,he,hm⟩ hK7;subst hR;refine z_W ?_;clear hD;have hcl:cur.length = acc.length + 1:=by rw[hcur];simp;omega
 obtain⟨-,hrd⟩:=so.rd (R:=R2) (E:=F);have hrd' : ∀(i:Nat) (h:i < cur.length) (k:Value→M),J R2 (A ++ F) (k (I cur[i]))→J R2 (A ++ F) (IA 1 v2 (I (i:Int)) λx=>L1 x k):=λi h k H=>by
  have:=hrd [] i h k (by rw[ZN];exact H);rw[ZN] at this;exact this
 have gi:cur[i]'(ω) = x:=by
  subst hcur;rw[aB (by simp;omega)];simp[Nat.min_eq_left hi]
 cases i with
 | zero=>
  refine CQ (jgr ?_);rw[decide_eq_false δ];refine jft (Bv λe he=>?_);refine z_V ?_;refine EI (CL ?_);refine hK6 _ _ _ ⟨rfl,v2,A,?_,rfl,rfl⟩;have:GE acc x = cur:=by
   unfold GE;rw[← hip,hcur];rfl
  rw[this];exact so
 | succ i=>
  have gp:cur[i]'(ω) = acc[i]'(ω):=by
   subst hcur;rw[aE (by simp;omega),aW]
  obtain⟨y,hy⟩:∃y,acc[i]'(ω) = y:=⟨_,rfl⟩;rw[hy] at gp;have es:((i + 1:Nat):Int) - 1 = (i:Nat):=ω
  have hip2:(if x < acc.getD i 0 then Ds acc x i else i + 1) = Ds acc x acc.length:=hip;rw[Ym,Yi ω,Zi,hy] at hip2;refine CQ (jgr ?_);rw[decide_eq_true ω];refine jtt (jsu ?_);rw[es];refine hrd' i ω _ (hrd' (i + 1) ω _ (jgr (Bv λe he=>?_)));refine z_V ?_;rw[gp,gi];refine EA (jif (λh1=>?_) (λh1=>?_))
  ·have h1:x < y:=z_f h1;rw[if_pos h1] at hip2;refine jsu ?_;rw[es];refine hrd' i ω _ (jsu ?_);rw[es];refine hrd' (i + 1) ω _ ?_;refine Xd so ω λA3 so3=>?_
   refine Xd so3 (by rw[ZV];omega) λA4 so4=>?_
   refine jsu ?_;rw[es];rw[gp,gi] at so4;refine hK7 i _ _ _ ω ⟨rfl,i,_,A4,ω,?_,hip2,so4,rfl,rfl,rfl⟩;have e1:acc.take (i + 1) = acc.take i ++ [y]:=by rw[Yp ω,hy]
   have e2:acc.drop i = y :: acc.drop (i + 1):=by rw[Yv ω,hy]
   have l1:(acc.take i).length = i:=by simp;omega
   rw[hcur,e1,e2,Yr,aG _ _ ω,aG _ _ ω,l1];simp
  ·have h1:¬ x < y:=z_g h1;rw[if_neg h1] at hip2;refine hK6 _ _ _ ⟨rfl,v2,A,?_,rfl,rfl⟩;have:GE acc x = cur:=by
    unfold GE;rw[← hip2,hcur]
   rw[this];exact so
def TB (l:List AU):Prop:=∀t∈l,0≤t.at_∧t.at_ < 1000000∧t.refs.length≤4∧t.nums.length≤4
theorem Xc {w:List Int} {a:Int} (hl:w.length < 1000000) (h:(Ap w a).2 = true):0≤(Ap w a).1.at_∧(Ap w a).1.at_ < 1000000∧(Ap w a).1.refs.length≤4∧(Ap w a).1.nums.length≤4:=by
 unfold Ap at h ⊢;split at h
 ·rename_i h1;rw[if_pos h1];dsimp only at h ⊢;split at h
  ·rename_i h2;rw[if_pos h2];simp only[z_b] at h2;have:=Fg h2.1;have:=Eg h1;dsimp only;refine⟨ω,ω,?_,?_⟩
   ·unfold seg;rw[Z5];omega
   ·unfold seg;rw[Z5];omega
  ·exact absurd h δ
 ·exact absurd h δ
theorem Qr {w:List Int} (hl:w.length < 1000000):∀{n:Nat} {a top:Int} {l:List AU},As w n a top = some l→TB l
 | 0,a,top,l,h=>by
  unfold As at h;split at h
  ·cases h
  ·cases h;intro t ht;cases ht
 | n + 1,a,top,l,h=>by
  unfold As at h;split at h
  ·dsimp only at h;split at h
   ·rename_i hc;simp only[z_b] at hc;split at h
    ·rename_i l2 h2;cases h;intro t ht;rcases Yx.1 ht with rfl | ht
     ·exact Xc hl hc.1
     ·exact Qr hl h2 t ht
    ·cases h
   ·cases h
  ·cases h;intro t ht;cases ht
theorem Kr {w:List Int} (hl:w.length < 1000000):∀{t:List Rg} {r:Nat} {l:List AU},Be w r t = some l→TB l∧l.length≤16 * t.length
 | [],r,l,h=>by
  cases h;exact⟨λt ht=>(by cases ht),σ⟩
 | x :: t,r,l,h=>by
  unfold Be at h;split at h
  ·cases h
  ·rename_i a ha;split at h
   ·cases h
   ·rename_i b hb;cases h;obtain⟨h1,h2⟩:=Kr hl hb;have h3:=QO ha;have h4:TB a:=by
     unfold BN at ha;split at ha
     ·exact Qr hl ha
     ·cases ha
    refine⟨λt ht=>?_,by rw[Yk,Yt];omega⟩;rcases ZB.1 ht with ht | ht
    ·exact h4 t ht
    ·exact h1 t ht
theorem Fs {w w' : List Int} {a v:Int} (h:Sm.wr w a v = some w'):0≤a∧a < w.length∧w' = w.set a.toNat v:=by
 unfold Sm.wr at h;split at h
 ·rename_i hc;cases h;exact⟨hc.1,hc.2,rfl⟩
 ·cases h
theorem Tn {R:RM} {s:Sm.Al} {wv tv mv thv ov pv lv:Value} {l:List AU} {w w' : List Int} {t t' : List Rg} {wsp tsp:List Value} {bw cw bt ct:Nat} (h:StC R s wv tv mv thv ov pv) (hlv:Tgs R lv l) (htb:TB l) (hll:l.length < 1000000)
  (hp:∀a∈s.AG,AN a≤9223372036854775807) (hpl:s.AG.length < 1000000) (hS:stay s l w t = some (w',t')) :
  Fn P Kb [.agg (eSt s wv tv mv thv ov pv).toArray,lv,S0 bw w.length cw,S0 bt t.length ct] R
   [(bw,C AX (w.map I ++ wsp)),(bt,C AI (Ac eRg t ++ tsp))] (λ_ R' A=>R' = R∧w'.length = w.length∧t'.length = t.length∧A = [(bw,C AX (w'.map I ++ wsp)),(bt,C AI (Ac eRg t' ++ tsp))]):=by
 refine Pe λF=>?_
 refine z_4 ?_;refine ja λb=>?_
 rw[show cl (.agg (eSt s wv tv mv thv ov pv).toArray) = eSt s wv tv mv thv ov pv from rfl];refine jlp (λm vs R' D'=>R' = R∧∃(i:Nat) (w1:List Int) (t1:List Rg),i≤l.length∧w1.length = w.length∧t1.length = t.length∧stay s (l.drop i) w1 t1 = some (w',t')∧D' = (b,C AQ (eSt s wv tv mv thv ov pv)) :: (bw,C AX (w1.map I ++ wsp)) :: (bt,C AI (Ac eRg t1 ++ tsp)) :: F∧vs = [lv,S0 bw w.length cw,S0 bt t.length ct,Pt b,I i]∧m = l.length - i)
  (n:=l.length) ⟨rfl,0,w,t,ω,rfl,rfl,hS,rfl,rfl,ω⟩ ?_
 clear hS;rintro m e R1 D1 K ⟨hR,i,w1,t1,hi,hwl,htl,hS,hD,he,hm⟩ hK;subst hR;refine z_W ?_;clear hD;refine C4 hlv.sl (jlt (jif (λhc=>?_) (λhc=>?_)));rotate_left
 ·have hc:=z_g hc;rw[Yz ω] at hS;cases hS;refine B9 (A:=[(bw,C AX (w'.map I ++ wsp)),(bt,C AI (Ac eRg t' ++ tsp))]) (RM.le.refl R1) ⟨rfl,hwl,htl,rfl⟩
 have hc:i < l.length:=by have:=z_f hc;omega
 rw[Yv hc] at hS;obtain⟨a0,a1,r1,n1⟩:=htb _ (Yq hc);unfold stay at hS;dsimp only at hS;have hreg:AN (l[i]).at_≤9223372036854775807:=by unfold AN;split<;>omega
 refine AR (λvs R' D'=>R' = R1∧∃(w2:List Int) (t2:List Rg),w2.length = w.length∧t2.length = t.length∧stay s (l.drop (i + 1)) w2 t2 = some (w',t')∧D' = (b,C AQ (eSt s wv tv mv thv ov pv)) :: (bw,C AX (w2.map I ++ wsp)) :: (bt,C AI (Ac eRg t2 ++ tsp)) :: F∧vs = [lv,S0 bw w.length cw,S0 bt t.length ct,Pt b,I i]) (λK4 hK4=>?_) ?_;rotate_left
 ·rintro e R2 D2 ⟨hR,w2,t2,hwl2,htl2,hS2,hD,he⟩;subst hR;refine z_W ?_;clear hD;refine jad ?_;exact hK (l.length - (i + 1)) _ _ _ ω ⟨rfl,i + 1,w2,t2,ω,hwl2,htl2,hS2,rfl,rfl,rfl⟩
 refine AR (λvs R' D'=>R' = R1∧∃(w2:List Int) (t2:List Rg),w2.length = w.length∧t2.length = t.length∧stay s (l.drop (i + 1)) w2 t2 = some (w',t')∧D' = (b,C AQ (eSt s wv tv mv thv ov pv)) :: (bw,C AX (w2.map I ++ wsp)) :: (bt,C AI (Ac eRg t2 ++ tsp)) :: F∧vs = [lv,S0 bw w.length cw,S0 bt t.length ct,Pt b,I i]) (λK5 hK5=>?_) ?_;rotate_left
 ·rintro e R2 D2 ⟨hR,w2,t2,hwl2,htl2,hS2,hD,he⟩;refine z_W ?_;clear hD;exact hK4 _ _ _ ⟨hR,w2,t2,hwl2,htl2,hS2,rfl,rfl⟩
 obtain⟨rows,hrw,hfz⟩:=hlv;have hi' : i < rows.length:=by rw[hrw.1];exact hc
 obtain⟨bl,ol,capl,tyl,csl,hlve,hbl,hol,hcl⟩:=NF hfz (hrw.all λ_ _=>ThC.len) hi';obtain⟨rv,nv,erow,hrv,hnv⟩:=hrw.2 i hi' hc;rw[erow] at hcl;have hlv:Tgs R1 lv l:=⟨rows,hrw,hfz⟩;have ia:∀{D:Chs} {k:Value→M},J R1 D (k (.pointer (some ⟨bl,ol + i * 6,none⟩)))→J R1 D (IA 6 lv (I (i:Int)) k):=λH=>by
  rw[hlve];refine jia ω ω ?_;rw[Yj];exact H
 have g0:csl[ol + i * 6 + 0]? = some (I (l[i]).at_):=CB hcl (f:=0) rfl;have g4:csl[ol + i * 6 + 4]? = some rv:=CB hcl (f:=4) rfl;have g5:csl[ol + i * 6 + 5]? = some nv:=CB hcl (f:=5) rfl;have g2:(csl.drop (ol + i * 6 + 2)).take 2 = [I (l[i]).sh.refs,I (l[i]).sh.nums]:=by
  have:=congrArg (λx=>(x.drop 2).take 2) hcl;simp only[aU,aj,ah] at this;simpa [eTh] using this
 refine ia (jfo (jlr hbl g0 (jp (CT _ hreg) ?_)));refine jla (t:=AQ) (cs:=eSt s wv tv mv thv ov pv) (l:=eSt s wv tv mv thv ov pv) (by exact z_n 13) rfl ?_;refine jro (L3 (AN (l[i]).at_) h hp hpl) (jif (λhh=>?_) (λhh=>?_));rotate_left
 ·rw[if_neg (by rw[hh];decide)] at hS;exact hK5 _ _ _ ⟨rfl,w1,t1,hwl,htl,hS,rfl,rfl⟩
 rw[if_pos hh] at hS;obtain⟨w2,hw2,hS⟩:=AD hS;obtain⟨w3,hw3,hS⟩:=AD hS;obtain⟨w4,hw4,hS⟩:=AD hS;obtain⟨row,hrow,hS⟩:=AD hS;obtain⟨row2,hrow2,hS⟩:=AD hS;obtain⟨q1,q2,q3⟩:=Fs hw2;obtain⟨q4,q5,q6⟩:=Fs hw3;refine ia (jfo (jlr hbl g0 (ia (jfo (jlr hbl g0 ?_)))));refine jia q1 ω ?_;refine jsi (l:=w1) (sp:=wsp) ω ?_;rw[← q3];refine ia (jfo (jlr hbl g0 (jad (ia (jfo (F0 hbl ω g2 ?_))))));refine jp (EO (l[i]).sh) ?_;have hl2:w2.length = w1.length:=by rw[q3,ZV]
 refine jia q4 ω ?_;refine Af (jlr hbl g0 jev) ?_;refine jsi (l:=w2) (sp:=wsp) ω ?_;rw[← q6];have hl3:w3.length = w2.length:=by rw[q6,ZV]
 obtain⟨z0,z1,z2,z3⟩:=Av hrow;obtain⟨y0,y1,y2,y3⟩:=Av hrow2;obtain⟨k0,hk0⟩:∃k:Nat,AN (l[i]).at_ = k:=⟨(AN (l[i]).at_).toNat,ω⟩;refine AR (λvs R' D'=>R' = R1∧w4.length = w.length∧D' = (b,C AQ (eSt s wv tv mv thv ov pv)) :: (bw,C AX (w4.map I ++ wsp)) :: (bt,C AI (Ac eRg t1 ++ tsp)) :: F∧vs = [lv,S0 bw w.length cw,S0 bt t.length ct,Pt b,I i,I (AN (l[i]).at_)]) (λK6 hK6=>?_) ?_;rotate_left
 ·rintro e R2 D2 ⟨hR,hwl2,hD,he⟩;subst hR;refine z_W ?_;clear hD;rw[hk0] at hS ⊢;have hk1:k0 < s.A0.length:=ω
  have hk2:k0 < t1.length:=ω
  have ez:s.A0[k0] = row:=by rw[← z3];exact getElem_congr_idx ω
  refine jl (v:=tv) rfl (jrg h.t hk1 λb2 o2 ty cs hb ho hrw2=>?_);refine jfo (jlr (v:=I (s.A0[k0]).top) hb (CB hrw2 (f:=2) rfl) ?_);refine jl (v:=tv) rfl (jrg h.t hk1 λb3 o3 ty3 cs3 hb3 ho3 hrw3=>?_);refine jfo (jlr (v:=I (s.A0[k0]).top) hb3 (CB hrw3 (f:=2) rfl) ?_);rw[ez];refine jbd (cs:=eRg ⟨3,-1,row.top,row.top,0⟩) rfl rfl ?_;refine C5 ω (GR (x:=⟨3,-1,row.top,row.top,0⟩) hk2 ?_);exact hK5 _ _ _ ⟨rfl,w4,t1.set k0 ⟨3,-1,row.top,row.top,0⟩,hwl2,by rw[ZV];exact htl,by simpa [AT] using hS,rfl,rfl⟩
 refine AR (λvs R' D'=>R' = R1∧w4.length = w.length∧D' = (b,C AQ (eSt s wv tv mv thv ov pv)) :: (bw,C AX (w4.map I ++ wsp)) :: (bt,C AI (Ac eRg t1 ++ tsp)) :: F∧vs = [lv,S0 bw w.length cw,S0 bt t.length ct,Pt b,I i,I (AN (l[i]).at_)]) (λK7 hK7=>?_) ?_;rotate_left
 ·rintro e R2 D2 ⟨hR,hwl2,hD,he⟩;refine z_W ?_;clear hD;exact hK6 _ _ _ ⟨hR,hwl2,rfl,rfl⟩
 refine jlp (λm vs R' D'=>R' = R1∧∃(k:Nat) (w5:List Int),k≤(l[i]).nums.length∧w5.length = w.length∧wrs w5 ((l[i]).at_ + 2 + (l[i]).refs.length + k) ((l[i]).nums.drop k) = some w4∧D' = (b,C AQ (eSt s wv tv mv thv ov pv)) :: (bw,C AX (w5.map I ++ wsp)) :: (bt,C AI (Ac eRg t1 ++ tsp)) :: F∧vs = [lv,S0 bw w.length cw,S0 bt t.length ct,Pt b,I i,I (AN (l[i]).at_),I k]∧m = (l[i]).nums.length - k)
  (n:=(l[i]).nums.length) ⟨rfl,0,w3,ω,ω,by simpa using hw4,rfl,rfl,ω⟩ ?_
 rintro m3 e R2 D2 K8 ⟨hR,k,w5,hk,hwl5,hws,hD,he,hm⟩ hK8;subst hR;refine z_W ?_;clear hD;refine ia (jfo (jlr hbl g5 (C4 hnv.sl (jlt (jif (λhd=>?_) (λhd=>?_))))));rotate_left
 ·have hd:=z_g hd;rw[Yz ω] at hws;cases hws;exact hK7 _ _ _ ⟨rfl,hwl5,rfl,rfl⟩
 have hd:k < (l[i]).nums.length:=by have:=z_f hd;omega
 rw[Yv hd] at hws;unfold wrs at hws;obtain⟨w6,hw6,hws⟩:=AD hws;obtain⟨p1,p2,p3⟩:=Fs hw6;refine ia (jfo (jlr hbl g0 (jad (ia (jfo (jlr hbl g4 (C4 hrv.sl (jad (jad ?_)))))))));refine ia (jfo (jlr hbl g5 (CE hnv ω ω ?_)));rw[getElem_congr_idx (Yj k)];refine jia p1 ω ?_;refine jsi (l:=w5) (sp:=wsp) ω ?_;rw[← p3];refine jad ?_;exact hK8 ((l[i]).nums.length - (k + 1)) _ _ _ ω ⟨rfl,k + 1,w6,ω,by rw[p3,ZV];exact hwl5,by rw[← hws];congr 1;omega,rfl,rfl,rfl⟩
theorem KH (cf:Cfg):Pu I5 [.agg #[I cf.AB,I cf.A6,I cf.AS]] (.bool (Bf cf)):=by
 intro R;refine Mo λF=>?_
 refine z_1 ?_;refine ja λb=>?_
 rw[show cl (.agg #[I cf.AB,I cf.A6,I cf.AS]) = [I cf.AB,I cf.A6,I cf.AS] from rfl];refine jan [Pt b] ((decide (cf.AB≥3)) && (decide (cf.AB≤12))) (λK' hK'=>?_) (λe c u ho he=>?_)
 ·refine jl (v:=I cf.AB) rfl (jge (Bt (λh1=>?_) (λh1=>?_)))
  ·refine jl (v:=I cf.AB) rfl (jle (hK' _ _ _ (h1▸Ax) (by rw[h1,Z2])))
  ·exact hK' _ _ _ (h1▸BB) (by rw[h1,Z3])
 refine z_V ?_;refine jan [Pt b] ((decide (cf.AB≥3) && decide (cf.AB≤12)) && (decide (cf.A6≥1))) (λK' hK'=>?_) (λe c u ho he=>?_)
 ·rw[ho];refine Bt (λh1=>?_) (λh1=>?_)
  ·refine jl (v:=I cf.A6) rfl (jge (hK' _ _ _ (h1▸Ax) (by rw[h1,Z2])))
  ·exact hK' _ _ _ (h1▸BB) (by rw[h1,Z3])
 refine z_V ?_;refine jan [Pt b] ((decide (cf.AB≥3) && decide (cf.AB≤12) && decide (cf.A6≥1)) && (decide (cf.A6≤3))) (λK' hK'=>?_) (λe c u ho he=>?_)
 ·rw[ho];refine Bt (λh1=>?_) (λh1=>?_)
  ·refine jl (v:=I cf.A6) rfl (jle (hK' _ _ _ (h1▸Ax) (by rw[h1,Z2])))
  ·exact hK' _ _ _ (h1▸BB) (by rw[h1,Z3])
 refine z_V ?_;refine jan [Pt b] ((decide (cf.AB≥3) && decide (cf.AB≤12) && decide (cf.A6≥1) && decide (cf.A6≤3)) && (decide (cf.AS≥0))) (λK' hK'=>?_) (λe c u ho he=>?_)
 ·rw[ho];refine Bt (λh1=>?_) (λh1=>?_)
  ·refine jl (v:=I cf.AS) rfl (jge (hK' _ _ _ (h1▸Ax) (by rw[h1,Z2])))
  ·exact hK' _ _ _ (h1▸BB) (by rw[h1,Z3])
 refine z_V ?_;refine jan [] ((decide (cf.AB≥3) && decide (cf.AB≤12) && decide (cf.A6≥1) && decide (cf.A6≤3) && decide (cf.AS≥0)) && (decide (cf.AS≤100))) (λK' hK'=>?_) (λe c u ho he=>?_)
 ·rw[ho];refine Bt (λh1=>?_) (λh1=>?_)
  ·refine jl (v:=I cf.AS) rfl (jle (hK' _ _ _ (h1▸Ax) (by rw[h1,Z2])))
  ·exact hK' _ _ _ (h1▸BB) (by rw[h1,Z3])
 refine z_V ?_;rw[ho];exact B9 (A:=[]) (RM.le.refl R) rfl
def Vg (t:List Rg) (v:Value) (N:Chs):Prop:=if t = [] then v = .tuple #[SN,.bool false]∧N = [] else ∃sv,Vy t sv N∧v = .tuple #[sv,.bool true]
theorem Jx {R:RM} {D:Chs} (n:Int):Mk Hx [I n] R D (Vg (AW n)):=by
 refine N8 λF=>?_
 refine z_1 ?_;refine jor [I n] ((decide (n < 2)) || (decide (n > 12))) (λK' hK'=>?_) (λe c u ho he=>?_)
 ·refine jlt (BR (λh1=>?_) (λh1=>?_))
  ·refine jgr (hK' _ _ _ (h1▸Ah) (by rw[h1,Yl]))
  ·exact hK' _ _ _ (h1▸Am) (by rw[h1,Yo])
 refine z_V ?_;rw[ho];refine jif (λh0=>?_) (λh0=>?_)
 ·have:AW n = []:=by
   unfold AW;rw[if_pos];simpa using h0
  rw[this];exact DN [] ⟨rfl,rfl⟩
 simp only[Z4,decide_eq_false_iff_not] at h0;obtain⟨k,rfl⟩:∃k:Nat,n = k:=⟨n.toNat,ω⟩;have ht:AW k = DO :: (List.range (k - 1)).map λ(i:Nat)=>DH ((i:Int) + 1):=by
  unfold AW;rw[if_neg ω,Yj]
 have ht2:AW k = ((List.range k).map λj:Nat=>DH (j:Int)).set 0 DO:=by
  rw[ht,show k = (k - 1) + 1 by omega,List.range_succ_eq_map];simp
 refine AR (λvs R' D'=>R' = R∧∃v A,SW AI 5 (((List.range k).map λj:Nat=>DH (j:Int)).map eRg) v A∧D' = A ++ (D ++ F)∧vs = [v]) (λK hK=>?_) ?_
 ·refine AR (λvs R' D'=>R' = R∧∃v A,SW AI 5 (((List.range k).map λj:Nat=>DH (j:Int)).map eRg) v A∧D' = A ++ (D ++ F)∧vs = [v]) (λK2 hK2=>?_) ?_;rotate_left
  ·rintro e R1 D1 ⟨hR,v,A,so,hD,he⟩;refine z_W ?_;exact hK _ _ _ ⟨hR,v,A,so,rfl,rfl⟩
  refine jlp (λm vs R' D'=>R' = R∧∃(i:Nat) (v:Value) (A:Chs),i≤k∧SW AI 5 (((List.range i).map λj:Nat=>DH (j:Int)).map eRg) v A∧D' = A ++ (D ++ F)∧vs = [I k,v,I i]∧m = k - i)
   (n:=k) ⟨rfl,0,SN,[],ω,.inl ⟨rfl,rfl,rfl⟩,rfl,rfl,ω⟩ ?_
  rintro m e R1 D1 K3 ⟨hR,i,v,A,hi,so,hD,he,hm⟩ hK3;subst hR;refine z_W ?_;refine jlt (jif (λhc=>?_) (λhc=>?_));rotate_left
  ·have hc:i = k:=by have:=z_g hc;omega
   subst hc;exact hK2 _ _ _ ⟨rfl,v,A,so,rfl,rfl⟩
  have hc:i < k:=by have:=z_f hc;omega
  refine jp (Bc i) (jp (Bc i) ?_);refine jbd (cs:=eRg (DH (i:Int))) rfl rfl ?_;refine jbs (cs:=eRg (DH (i:Int))) rfl rfl λb4=>?_
  refine BI ZH.symm ?_;have hx:BY R1 (A ++ ((b4,C AI (eRg (DH (i:Int)))) :: (D ++ F))) (some ⟨b4,0,none⟩) (1 * 5) [eRg (DH (i:Int))].flatten:=BY.held (t:=AI) (cs:=eRg (DH (i:Int))) (o:=0) (n:=1 * 5) (z_n 5);refine jaw so (Ug _) (by intro r hr;rw[Z8.1 hr];rfl) rfl rfl rfl δ (by simp only[Z1,List.length_range,Z7];omega) hx λv' A' so'=>?_
  refine jad ?_;refine Aw A' (G:=D ++ F) ?_;refine hK3 (k - (i + 1)) _ _ _ ω ⟨rfl,i + 1,v',A',ω,?_,rfl,rfl,rfl⟩;rw[List.range_succ,Zf,Zf];exact so'
 rintro e R1 D1 ⟨hR,v,A,so,hD,he⟩;subst hR;refine z_W ?_;rcases so with ⟨h1,_,_⟩ | ⟨b,c,sp,hc,hsp,rfl,rfl⟩
 ·have:=congrArg List.length h1;simp at this;omega
 rw[Z1] at hc ⊢;refine jbd (cs:=eRg DO) rfl rfl ?_;have hlen:((List.range k).map λj:Nat=>DH (j:Int)).length = k:=σ
 refine BI (D':=(b,C AI (Ac eRg ((List.range k).map λj:Nat=>DH (j:Int)) ++ sp)) :: (D ++ F)) (ZU _) ?_;refine C5 (r:=0) ω (GR (i:=0) (x:=DO) ω ?_);refine DN [(b,C AI (Ac eRg (((List.range k).map λj:Nat=>DH (j:Int)).set 0 DO) ++ sp))] ?_;rw[ht2];unfold Vg;rw[if_neg (by intro hn;have:=congrArg List.length hn;simp at this;omega)];exact⟨_,⟨b,c,sp,by rw[ZV];exact hc,by rw[ZV],rfl⟩,rfl⟩
theorem Ti {w:List Int} {n k:Nat} (h:n + k < w.length):(w.take n ++ List.replicate k 0 ++ w.drop (n + k)).set (n + k) 0 = w.take n ++ List.replicate (k + 1) 0 ++ w.drop (n + (k + 1)):=by
 have l1:(w.take n ++ List.replicate k (0:Int)).length = n + k:=by simp;omega
 rw[aG _ _ ω,l1,Nat.sub_self,Yv h,List.set_cons_zero,List.replicate_succ',Yr,Yr,Yr,List.singleton_append,Nat.add_assoc]
def QMk (r:List Int × Bool) (v:Value) (A:Chs):Prop:=if r.2 then ∃sv,UR r.1 sv A∧v = .tuple #[sv,.bool true] else v = .tuple #[SN,.bool false]∧A = []
theorem Mu {w:List Int} {n z:Nat} {s:Shp} (h0:fits w.length n (AF s) = true) (hso:BP s = true) (hz:AF s = z) :
  CP w n s = ((((w.take n ++ List.replicate z 0 ++ w.drop (n + z)).set n (n:Int)).set (n + 1) (AZ s)),true):=by
 obtain⟨a0,a1,a2,a3⟩:=Eg h0;have hsz:AF s = 2 + s.refs + s.nums:=by unfold AF;rw[if_pos hso]
 have hrn:0≤s.refs∧0≤s.nums:=by
  unfold BP at hso;simp only[z_b,z_d] at hso;omega
 unfold CP;rw[if_pos h0];congr 1;unfold Sm.put;obtain⟨z',rfl⟩:∃k,z = k + 2:=⟨z - 2,ω⟩;have e1:s.refs.toNat + s.nums.toNat = z':=ω
 have l1:(w.take n).length = n:=by simp;omega
 have e2:w.take n ++ List.replicate (z' + 2) 0 ++ w.drop (n + (z' + 2)) = w.take n ++ (0 :: 0 :: (List.replicate z' 0 ++ w.drop (n + (z' + 2)))):=by simp[List.replicate_succ]
 rw[e1,e2,Yj,aG _ _ ω,l1,Nat.sub_self,List.set_cons_zero,aG _ _ ω,l1,Nat.add_sub_cancel_left];simp[Nat.add_comm,Nat.add_left_comm]
theorem Nm {R:RM} {wv:Value} {w:List Int} (a:Int) (s:Shp) (h:BG R wv w) (hl:w.length < 1000000) :
  Fn P HD [wv,I a,eSh s] R [] (λv R' A=>R' = R∧QMk (CP w a s) v A):=by
 refine Lt λF=>?_
 refine z_3 ?_;obtain⟨wa,wc,hwv,hr⟩:=Fz.reads (D:=[]) h;refine ja λb1=>?_
 rw[show cl (eSh s) = [I s.refs,I s.nums] from rfl];refine jla (l:=[I s.refs,I s.nums]) σ rfl (jp (CJ s) ?_);rw[hwv];refine jp (L5 wa w.length wc a (AF s) ω) (jif (λh0=>?_) (λh0=>?_))
 ·have h0:fits w.length a (AF s) = false:=by simpa using h0
  refine B9 (A:=[]) (RM.le.refl R) ⟨rfl,?_⟩;have:CP w a s = ([],false):=by unfold CP;rw[h0];rfl
  rw[this];exact⟨rfl,rfl⟩
 have h0:fits w.length a (AF s) = true:=by simpa using h0
 obtain⟨a0,a1,a2,a3⟩:=Eg h0;have hso:BP s = true:=by
  unfold AF at a2;split at a2
  ·assumption
  ·omega
 have hsz:AF s = 2 + s.refs + s.nums:=by unfold AF;rw[if_pos hso]
 have hrn:0≤s.refs∧0≤s.nums:=by
  unfold BP at hso;simp only[z_b,z_d] at hso;omega
 obtain⟨n,rfl⟩:∃n:Nat,a = n:=⟨a.toNat,ω⟩;obtain⟨z,hz⟩:∃z:Nat,AF s = z:=⟨(AF s).toNat,ω⟩;have em:=Mu h0 hso hz;rw[hz] at a1 a2 a3 ⊢;have fin:∀(b c:Nat) (sp:List Value) (E:Chs) (K:Value→M),w.length≤c→sp.length = c - w.length→Sf E F→True:=λ_ _ _ _ _ _ _ _=>trivial
 clear fin;refine jbs (cs:=[]) rfl rfl λb2=>?_
 have hl0:w.length≠0:=ω
 have rest:∀(b c:Nat) (sp:List Value) (E:Chs),w.length≤c→sp.length = c - w.length→At E b1 (C G4 [I s.refs,I s.nums])→Sf E F→
   J R ((b,C AX (w.map I ++ sp)) :: E) (CUT [1,5,9] (λJe8=>CUT [1,5,9] (λJe14=>LP [1,5,8,9,10] (λKe15 e15=>BO .lss (e15 10) (e15 8) λx16=>IF x16 (BO .add (e15 1) (e15 10) λx17=>IA 1 (e15 9) x17 λx18=>ST 1 x18 (I 0)<|BO .add (e15 10) (I 1) λx19=>Ke15 [(e15 1),(e15 5),(e15 8),(e15 9),x19]) (Je14 [(e15 1),(e15 5),(e15 9)])) [I n,Pt b1,I z,S0 b w.length c,(I 0)]) λe14=>Je8 [(e14 1),(e14 5),(e14 9)]) λe8=>IA 1 (e8 9) (e8 1) λx9=>ST 1 x9 (e8 1)<|BO .add (e8 1) (I 1) λx10=>LA 2 (e8 5) λx11=>CA P 109 [x11] λx12=>IA 1 (e8 9) x10 λx13=>ST 1 x13 x12<|Ey R F (λv R' A=>R' = R∧QMk (CP w n s) v A) (.tuple #[(e8 9),(.bool true)])):=by
  intro b c sp E hc hsp ea ef;refine AR (λvs R' D'=>R' = R∧∃cur:List Int,cur = w.take n ++ List.replicate z 0 ++ w.drop (n + z)∧D' = (b,C AX (cur.map I ++ sp)) :: E∧vs = [I n,Pt b1,S0 b w.length c]) (λK hK=>?_) ?_
  ·refine AR (λvs R' D'=>R' = R∧∃cur:List Int,cur = w.take n ++ List.replicate z 0 ++ w.drop (n + z)∧D' = (b,C AX (cur.map I ++ sp)) :: E∧vs = [I n,Pt b1,S0 b w.length c]) (λK2 hK2=>?_) ?_;rotate_left
   ·rintro e R1 D1 ⟨hR,cur,hcur,hD,he⟩;refine z_W ?_;clear hD;exact hK _ _ _ ⟨hR,cur,hcur,rfl,rfl⟩
   refine jlp (λm vs R' D'=>R' = R∧∃(k:Nat) (cur:List Int),k≤z∧cur = w.take n ++ List.replicate k 0 ++ w.drop (n + k)∧D' = (b,C AX (cur.map I ++ sp)) :: E∧vs = [I n,Pt b1,I z,S0 b w.length c,I k]∧m = z - k)
    (n:=z) ⟨rfl,0,w,ω,σ,rfl,rfl,ω⟩ ?_
   rintro m e R1 D1 K3 ⟨hR,k,cur,hk,hcur,hD,he,hm⟩ hK3;subst hR;refine z_W ?_;clear hD;have hcl:cur.length = w.length:=by rw[hcur];simp;omega
   refine jlt (jif (λhc=>?_) (λhc=>?_));rotate_left
   ·have hc:k = z:=by have:=z_g hc;omega
    subst hc;exact hK2 _ _ _ ⟨rfl,cur,hcur,rfl,rfl⟩
   have hc:k < z:=by have:=z_f hc;omega
   refine jad ?_;rw[show (n:Int) + k = ((n + k:Nat):Int) by omega];refine C5 ω (jsi (l:=cur) (sp:=sp) ω (jad ?_));exact hK3 (z - (k + 1)) _ _ _ ω ⟨rfl,k + 1,cur.set (n + k) 0,ω,by rw[hcur];exact Ti ω,rfl,rfl,rfl⟩
  rintro e R1 D1 ⟨hR,cur,hcur,hD,he⟩;subst hR;refine z_W ?_;clear hD;have hcl:cur.length = w.length:=by rw[hcur];simp;omega
  refine C5 ω (jsi (l:=cur) (sp:=sp) ω (jad ?_));refine jla (l:=[I s.refs,I s.nums]) σ rfl (jp (EO s) ?_);rw[show (n:Int) + 1 = ((n + 1:Nat):Int) by omega];refine C5 ω (jsi (l:=cur.set n n) (sp:=sp) (by rw[ZV];omega) ?_);refine B9 (A:=[(b,C AX (((cur.set n n).set (n + 1) (AZ s)).map I ++ sp))]) (RM.le.refl R1) ⟨rfl,?_⟩;rw[em,hcur];refine⟨_,⟨b,c,sp,?_,?_,?_,rfl⟩,rfl⟩
  all_goals simp only[ZV,← hcur,hcl]
  ·exact hc
  ·exact hsp
 refine T6 (new:=w.map I) ?_ δ ω (λ_=>rfl) (λh0=>?_) (λb' c hc=>?_)
 ·intro h' hs';exact hr h' (St.drop (A:=(b2,C 3 []) :: (b1,C G4 [I s.refs,I s.nums]) :: ([] ++ F)) (by simpa using hs'))
 ·omega
 ·exact rest b' c _ _ hc (by rw[Bw (w:=1) (by intro x hx;rw[(ZT.1 hx).2];rfl)];simp) inferInstance inferInstance
theorem jnc {R:RM} {D:Chs} {b o:Nat} {k:Value→M} (H:J R D (k (.pointer (some ⟨b,o,none⟩)))):J R D (NC (.pointer (some ⟨b,o,none⟩)) k):=H
def wS (S:Sim) (g:Img):Value:=.slice (some ⟨g.wb,0,none⟩) S.AA.length g.wc
def tS (S:Sim) (g:Img):Value:=.slice (some ⟨g.tb,0,none⟩) S.A0.length g.tc
def mS (S:Sim) (g:Img):Value:=.slice (some ⟨g.mb,0,none⟩) S.AK.length g.mc
def eVw (S:Sim) (g:Img) (av wv thv:Value):List Value:=[wS S g,tS S g,mS S g,I S.Ad,.bool S.stop,.bool S.full,av,wv,thv,g.old,g.AG,I S.Aj,I S.BA]
theorem Kk {R:RM} {S:Sim} {g:Img} (ok:Ok R S g) {av wv thv:Value} (h1:flat av = true) (h2:flat wv = true) (h3:flat thv = true):Br (eVw S g av wv thv) = true:=by
 have h4:=Fz.flat ok.old;have h5:=Fz.flat ok.AG;show (true && (true && (true && (true && (true && (true && (flat av && (flat wv && (flat thv && (flat g.old && (flat g.AG && (true && (true && true))))))))))))) = true;rw[h1,h2,h3,h4,h5];rfl
def RU (t:Thr):Th:=⟨t.AC,t.next,t.pc != 0,t.Ai⟩
theorem RL {p:Nat} {S:Sim} {g:Img} {R:RM} (hok:Ok R S g) (hsz:S.sz = true) :
  Fn P HU [Pt p] R (Ab p S g) (λv R' A=>∃rows thv A',Rw (Ct R') rows S.view.A6∧SW 83 4 rows thv A'∧A = A' ++ Ab p S g∧v = .agg (eSt S.view (wS S g) (tS S g) (mS S g) thv g.old g.AG).toArray):=by
 refine QT λF=>?_
 refine z_1 ?_;have hsz:=G5 hsz;have hhl:=hok.hl;obtain⟨f1,f2,f3⟩:=hok.fl;refine ja λb1=>?_
 refine jnc (jfo ?_);refine jla (o:=0 + 4) (t:=Bg) (cs:=C0 S g) (l:=eVw S g g.Ae g.want g.A6) (by show 4 + 13≤35;omega) rfl ?_;refine ja λb2=>?_
 refine js (cs':=eVw S g g.Ae g.want g.A6) rfl (Kk hok f1 f2 f3) (by exact z_n 13) rfl ?_;refine jS (eVw S g g.Ae g.want (SN)) ?_;refine BI (D':=(b2,C AQ (eVw S g g.Ae g.want (SN))) :: (b1,C AQ (cl z28)) :: (Ab p S g ++ F)) (ZU _) ?_;refine AR (λvs R' D'=>R.le R'∧∃rows v A,Rw (Ct R') rows (S.th.map RU)∧SW 83 4 rows v A∧D' = A ++ (b2,C AQ (eVw S g g.Ae g.want v)) :: (b1,C AQ (cl z28)) :: (Ab p S g ++ F)∧vs = [Pt p,Pt b1,Pt b2]) (λK hK=>?_) ?_
 ·refine AR (λvs R' D'=>R.le R'∧∃rows v A,Rw (Ct R') rows (S.th.map RU)∧SW 83 4 rows v A∧D' = A ++ (b2,C AQ (eVw S g g.Ae g.want v)) :: (b1,C AQ (cl z28)) :: (Ab p S g ++ F)∧vs = [Pt p,Pt b1,Pt b2]) (λK2 hK2=>?_) ?_;rotate_left
  ·rintro e R1 D1 ⟨hR,rows,v,A,hrw,so,hD,he⟩;refine z_W ?_;exact hK _ _ _ ⟨hR,rows,v,A,hrw,so,rfl,rfl⟩
  refine jlp (λm vs R' D'=>R.le R'∧∃(i:Nat) (rows:List (List Value)) (v:Value) (A:Chs),i≤S.th.length∧Rw (Ct R') rows ((S.th.take i).map RU)∧SW 83 4 rows v A∧D' = A ++ (b2,C AQ (eVw S g g.Ae g.want v)) :: (b1,C AQ (cl z28)) :: (Ab p S g ++ F)∧vs = [Pt p,Pt b1,Pt b2,I i]∧m = S.th.length - i)
   (n:=S.th.length) ⟨RM.le.refl R,0,[],SN,[],ω,Rw.nil,.inl ⟨rfl,rfl,rfl⟩,rfl,rfl,ω⟩ ?_
  rintro m e R1 D1 K3 ⟨hR,i,rows,v,A,hi,hrw,so,hD,he,hm⟩ hK3;refine z_W ?_;have ok1:=hok.le hR;refine jl (v:=.slice (some ⟨g.hb,0,none⟩) S.th.length g.hc) rfl (jln (jlt (jif (λhc=>?_) (λhc=>?_))));rotate_left
  ·have hc:=z_g hc;rw[Ys ω] at hrw;exact hK2 _ _ _ ⟨hR,rows,v,A,hrw,so,rfl,rfl⟩
  have hc:i < S.th.length:=by have:=z_f hc;omega
  have hti:idx S.th i = some (S.th[i]):=by unfold idx;rw[if_pos ω,Yj,Yi hc]
  have hri:=hsz.2.2.2.2 _ (Yq hc);refine GI (p:=p) ok1 hti rfl λb a cap hv=>?_
  obtain⟨sa,sc,hsl⟩:=so.sl;subst hsl;have htk:(S.th.take (i + 1)).map RU = (S.th.take i).map RU ++ [RU S.th[i]]:=by
   rw[Yp hc,Zf];rfl
  generalize S.th[i] = t at hti hri hv htk ⊢;refine jfo (jl (v:=.slice sa rows.length sc) rfl ?_);refine jfo (jl (v:=.slice a t.AC.length cap) rfl (jfo (jl (v:=I t.next) rfl (jfo (jl (v:=I t.Ai) rfl (jfo (jl (v:=I t.pc) rfl (jne ?_))))))));refine jc (A:=[]) (CN hv hri) ?_;rintro _ R2 _ hR2 ⟨b4,c4,sp4,hc4,hsp4,rfl,rfl⟩;refine BQ (b:=b4) λR3 hR3 hb4=>?_
  have hv2:=CH (c:=c4) hb4 hc4;refine jbd (cs:=[S0 b4 t.AC.length c4,I t.next,.bool (t.pc != 0),I t.Ai]) rfl rfl ?_;refine Af (jl (v:=.slice sa rows.length sc) rfl jev) (Af (jl (v:=I t.next) rfl jev) (Af (jl (v:=I t.Ai) rfl jev) (Af (jl (v:=I t.pc) rfl jev) ?_)));refine jbs (cs:=[S0 b4 t.AC.length c4,I t.next,.bool (t.pc != 0),I t.Ai]) rfl rfl λb6=>?_
  refine Af (jl (v:=.slice sa rows.length sc) rfl jev) ?_;refine BI (D':=(b6,C 83 [S0 b4 t.AC.length c4,I t.next,.bool (t.pc != 0),I t.Ai]) :: (b,C AY (Ak t (.slice a t.AC.length cap))) :: (A ++ ((b2,C AQ (eVw S g g.Ae g.want (.slice sa rows.length sc))) :: (b1,C AQ (cl z28)) :: (Ab p S g ++ F)))) (ZU _) ?_;refine Aw A (G:=(b6,C 83 [S0 b4 t.AC.length c4,I t.next,.bool (t.pc != 0),I t.Ai]) :: (b,C AY (Ak t (.slice a t.AC.length cap))) :: (b2,C AQ (eVw S g g.Ae g.want (.slice sa rows.length sc))) :: (b1,C AQ (cl z28)) :: (Ab p S g ++ F)) ?_;have hx:BY R3 (A ++ ((b6,C 83 [S0 b4 t.AC.length c4,I t.next,.bool (t.pc != 0),I t.Ai]) :: (b,C AY (Ak t (.slice a t.AC.length cap))) :: (b2,C AQ (eVw S g g.Ae g.want (.slice sa rows.length sc))) :: (b1,C AQ (cl z28)) :: (Ab p S g ++ F))) (some ⟨b6,0,none⟩) (1 * 4) [[S0 b4 t.AC.length c4,I t.next,.bool (t.pc != 0),I t.Ai]].flatten:=BY.held (t:=83) (cs:=[S0 b4 t.AC.length c4,I t.next,.bool (t.pc != 0),I t.Ai]) (o:=0) (n:=1 * 4) (z_n 4);have hrl:=hrw.1;rw[Z1,Z5] at hrl;refine jaw so (hrw.all λ_ _=>Ct.len) (by intro r hr;rw[Z8.1 hr];rfl) rfl rfl rfl δ (by rw[Z7];omega) hx λv' A' so'=>?_
  obtain⟨sa',sc',hsl'⟩:=so'.sl;subst hsl';refine jS (eVw S g g.Ae g.want (.slice sa' (rows ++ [[S0 b4 t.AC.length c4,I t.next,.bool (t.pc != 0),I t.Ai]]).length sc')) ?_;refine jad ?_;refine Aw A' (G:=(b2,C AQ (eVw S g g.Ae g.want (.slice sa' (rows ++ [[S0 b4 t.AC.length c4,I t.next,.bool (t.pc != 0),I t.Ai]]).length sc'))) :: (b1,C AQ (cl z28)) :: (Ab p S g ++ F)) ?_;refine hK3 (S.th.length - (i + 1)) _ _ _ ω ⟨(hR.trans hR2).trans hR3,i + 1,_,_,A',ω,?_,so',rfl,rfl,rfl⟩;rw[htk];exact (hrw.mono λ_ _=>Ct.le (hR2.trans hR3)).app (Rw.one ⟨_,rfl,hv2⟩)
 rintro e R1 D1 ⟨hR,rows,v,A,hrw,so,hD,he⟩;refine z_W ?_;obtain⟨sa,sc,hsl⟩:=so.sl;subst hsl;refine jl (v:=.bool S.col.Ae) rfl ?_;refine jS (eVw S g (.bool S.col.Ae) g.want (.slice sa rows.length sc)) ?_;refine jl (v:=I S.col.want) rfl ?_;refine jS (eVw S g (.bool S.col.Ae) (I S.col.want) (.slice sa rows.length sc)) ?_;refine jla (l:=eVw S g (.bool S.col.Ae) (I S.col.want) (.slice sa rows.length sc)) (by exact z_n 13) rfl ?_;refine js (cs':=eVw S g (.bool S.col.Ae) (I S.col.want) (.slice sa rows.length sc)) rfl (Kk hok rfl rfl rfl) (by exact z_n 13) rfl ?_;refine jla (l:=eVw S g (.bool S.col.Ae) (I S.col.want) (.slice sa rows.length sc)) (by exact z_n 13) rfl ?_;refine BI (D':=(A ++ Ab p S g) ++ ((b2,C AQ (eVw S g (.bool S.col.Ae) (I S.col.want) (.slice sa rows.length sc))) :: (b1,C AQ (eVw S g (.bool S.col.Ae) (I S.col.want) (.slice sa rows.length sc))) :: F)) ?_ ?_
 ·rw[Yr];exact (Zu [_,_] (Ab p S g) F).append_left A
 exact B9 (A:=A ++ Ab p S g) hR ⟨rows,.slice sa rows.length sc,A,hrw,so,rfl,rfl⟩
theorem XU {p:Nat} {S:Sim} {g:Img} {R:RM} (hok:Ok R S g) (hsz:S.sz = true) :
  Fn P HU [Pt p] R (Ab p S g) (λv R' A=>R.le R'∧A = Ab p S g∧∃thv,Ths R' thv S.view.A6∧v = .agg (eSt S.view (wS S g) (tS S g) (mS S g) thv g.old g.AG).toArray):=by
 intro F h hs;refine FB ?_ (RL hok hsz F h hs);rintro v h' ⟨R',A,h1,h2,rows,thv,A',hrw,so,rfl,rfl⟩;rw[Yr] at h2;refine (jfw (E:=Ab p S g ++ F) (m:=Ey R F _ _) so (hrw.all λ_ _=>Ct.len) λR2 hR2 hfz=>?_) h' h2;exact B9 (A:=Ab p S g) (h1.trans hR2) ⟨h1.trans hR2,rfl,thv,⟨rows,hrw.mono λ_ _=>Ct.le hR2,hfz⟩,rfl⟩
end Go.Lf
end
