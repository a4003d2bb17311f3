/- A part of the proof of the given row: the walk of the law and of all that it calls. Conditions: none. -/
import Derived.Test.YtlagojobcbkpdaaGreatCJ
set_option linter.unusedVariables false
set_option linter.unusedSimpArgs false
section
namespace Go.Lf
open Go Sm
def SW (t w:Nat) (rows:List (List Value)) (v:Value) (A:Chs):Prop:=
 (rows = []∧v = .slice none 0 0∧A = [])∨∃b c sp,rows.length≤c∧sp.length = (c - rows.length) * w∧v = S0 b rows.length c∧A = [(b,C t (rows.flatten ++ sp))]
theorem SW.sl {t w:Nat} {rows:List (List Value)} {v:Value} {A:Chs} (h:SW t w rows v A):∃a c,v = .slice a rows.length c:=by
 rcases h with ⟨rfl,rfl,_⟩ | ⟨b,c,sp,_,_,rfl,_⟩<;>exact⟨_,_,rfl⟩
theorem jaw {R:RM} {A E:Chs} {t w by_:Nat} {rows rows2:List (List Value)} {v:Value} {xa:Option Addr} {m cx:Nat} {zs:List Value} {k:Value→M} (so:SW t w rows v A)
  (hw:∀r∈rows,r.length = w) (hw2:∀r∈rows2,r.length = w) (hz:zs.length = w) (hf:CG rows2.flatten = true) (hm:m = rows2.length) (hb:by_≠0) (hl:by_ * (2 * (rows.length + rows2.length) + 200)≤2 ^ 48) (hx:BQ R (A ++ E) xa (m * w) rows2.flatten)
  (H:∀v' A',SW t w (rows ++ rows2) v' A'→J R (A' ++ E) (k v')):J R (A ++ E) (AP t w by_ zs v (.slice xa m cx) k):=by
 subst hm;have fl:∀n,(List.replicate n zs).flatten.length = n * w:=λn=>by
  rw[CE (w:=w) (by intro x hx;rw[(Za.1 hx).2,hz])];simp
 have l1:=CE hw;have l2:=CE hw2;rcases so with ⟨rfl,rfl,rfl⟩ | ⟨b,c,sp,hc,hsp,rfl,rfl⟩
 ·refine jap hx (sl:=0) (old:=[]) (by rw[aR];exact BQ.none_) hb (by simpa using hl) (λhc h hst=>?_) (λb c hc=>?_)
  ·have h0:rows2 = []:=ZK.1 (by omega);subst h0;have:=H (.slice none 0 0) [] (.inl ⟨rfl,rfl,rfl⟩) h hst;simpa using this
  ·have:=H (S0 b rows2.length c) [(b,C t (rows2.flatten ++ (List.replicate (c - rows2.length) zs).flatten))] (.inr ⟨b,c,(List.replicate (c - rows2.length) zs).flatten,by simpa using hc,by rw[fl];simp,by simp,by simp⟩);simpa using this
 ·refine Uo hx (E:=E) (tk:=⟨ZP _⟩) (by rw[Yn,l1,hsp,← Nat.add_mul];congr 1;omega) hc l2 hf hb hl (λh=>?_) (λb' c' h=>?_)
  ·have el:lay (rows.flatten ++ sp) (rows.length * w) rows2.flatten = (rows ++ rows2).flatten ++ sp.drop (rows2.length * w):=by
    rw[GP (by omega),l1,Nat.sub_self];simp[lay,l2]
   rw[el];have:=H (S0 b (rows ++ rows2).length c) [(b,C t ((rows ++ rows2).flatten ++ sp.drop (rows2.length * w)))] (.inr ⟨b,c,_,by simpa using h,by rw[ZO,hsp,← Nat.sub_mul,Yn];congr 1;omega,rfl,rfl⟩);simpa using this
  ·refine BH (aC _ _ _) (C4 ?_);have:=H (.slice (some ⟨b',0,none⟩) (rows ++ rows2).length c') [(b',C t ((rows ++ rows2).flatten ++ (List.replicate (c' - (rows.length + rows2.length)) zs).flatten))] (.inr ⟨b',c',_,by simpa using h,by rw[fl,Yn],rfl,rfl⟩);rw[Zd (by omega),Yz (by omega)];simpa using this
theorem jfw {R:RM} {A E:Chs} {t w:Nat} {rows:List (List Value)} {v:Value} {m:M} (so:SW t w rows v A) (hw:∀r∈rows,r.length = w) (H:∀R',R.le R'→Fz R' v w rows.length rows.flatten→J R' E m):J R (A ++ E) m:=by
 rcases so with ⟨rfl,rfl,rfl⟩ | ⟨b,c,sp,hc,hsp,rfl,rfl⟩
 ·exact H R (RM.le.refl _) (.inl ⟨rfl,rfl,rfl⟩)
 ·refine Bh (b:=b) (E:=E) (t:=⟨ZP _⟩) λR2 hR2 hb=>?_
  exact H R2 hR2 (.inr ⟨b,0,c,t,_,rfl,hb,by rw[Yn,CE hw];omega,by rw[aD,← CE hw];simp,hc⟩)
def Rw {α:Type} (p:List Value→α→Prop) (rows:List (List Value)) (l:List α):Prop:=rows.length = l.length∧∀i (h:i < rows.length) (h' : i < l.length),p rows[i] l[i]
theorem Rw.nil {α:Type} {p:List Value→α→Prop}:Rw p [] []:=⟨rfl,λi h=>absurd h (by simp)⟩
theorem Rw.app {α:Type} {p:List Value→α→Prop} {r1 r2:List (List Value)} {l1 l2:List α} (h1:Rw p r1 l1) (h2:Rw p r2 l2):Rw p (r1 ++ r2) (l1 ++ l2):=by
 refine⟨by rw[Yn,Yn,h1.1,h2.1],λi h h'=>?_⟩;by_cases c:i < r1.length
 ·rw[Zs c,Zs (by rw[← h1.1];exact c)];exact h1.2 i c _
 ·rw[Zq (by omega),Zq (by rw[← h1.1];omega)];have e:i - l1.length = i - r1.length:=by rw[h1.1]
  rw[getElem_congr_idx e];rw[Yn] at h h';have:=h1.1;exact h2.2 _ (by omega) (by omega)
theorem Rw.one {α:Type} {p:List Value→α→Prop} {r:List Value} {x:α} (h:p r x):Rw p [r] [x]:=by
 refine⟨rfl,λi h1 h2=>?_⟩;have:i = 0:=by simp at h1;omega
 subst this;exact h
theorem Rw.mono {α:Type} {p q:List Value→α→Prop} {r:List (List Value)} {l:List α} (h:Rw p r l) (H:∀x y,p x y→q x y):Rw q r l:=⟨h.1,λi h1 h2=>H _ _ (h.2 i h1 h2)⟩
theorem Rw.all {α:Type} {p:List Value→α→Prop} {r:List (List Value)} {l:List α} (h:Rw p r l) {q:List Value→Prop} (H:∀x y,p x y→q x):∀x∈r,q x:=by
 intro x hx;obtain⟨i,hi,rfl⟩:=ZH hx;exact H _ _ (h.2 i hi (by rw[← h.1];exact hi))
theorem P8 {w:Nat}:∀{rows:List (List Value)} {i:Nat} (_:∀r∈rows,r.length = w) (h:i < rows.length),(rows.flatten.drop (i * w)).take w = rows[i]
 | [],i,_,h=>absurd h (by simp)
 | a :: r,0,hw,_=>by
  have:a.length = w:=hw a (by simp);rw[aR,aD,Zo,Zd (by omega),Yz (by omega)];rfl
 | a :: r,i + 1,hw,h=>by
  have h1:a.length = w:=hw a (by simp);rw[Zo,Nat.succ_mul,List.drop_append,List.drop_of_length_le (by omega),zl,h1,Nat.add_sub_cancel];exact P8 (λr hr=>hw r (by simp[hr])) (by simpa using h)
theorem O0 {R:RM} {v:Value} {w:Nat} {rows:List (List Value)} {i:Nat} (h:Fz R v w rows.length rows.flatten) (hw:∀r∈rows,r.length = w) (hi:i < rows.length) :
  ∃b o cap t cs,v = .slice (some ⟨b,o,none⟩) rows.length cap∧R b = some (C t cs)∧o + i * w + w≤cs.length∧(cs.drop (o + i * w)).take w = rows[i]:=by
 rcases h with ⟨_,h2,_⟩ | ⟨b,o,cap,t,cs,rfl,h2,h3,h4,h5⟩
 ·omega
 ·refine⟨b,o,cap,t,cs,rfl,h2,?_,?_⟩
  ·have:(i + 1) * w≤rows.length * w:=aE w (by omega);rw[Nat.succ_mul] at this;omega
  ·rw[← P8 hw hi,← h4,aO,ad,aV];congr 1;have:(i + 1) * w≤rows.length * w:=aE w (by omega);rw[Nat.succ_mul] at this;omega
def ThC (R:RM) (row:List Value) (t:AZ):Prop:=∃rv nv,row = eTh t rv nv∧BC R rv t.refs∧BC R nv t.nums
theorem ThC.le {R R' : RM} {row:List Value} {t:AZ} (h:R.le R') (H:ThC R row t):ThC R' row t:=by
 obtain⟨rv,nv,h1,h2,h3⟩:=H;exact⟨rv,nv,h1,h2.le h,h3.le h⟩
theorem ThC.len {R:RM} {row:List Value} {t:AZ} (H:ThC R row t):row.length = 6:=by
 obtain⟨rv,nv,rfl,h2,h3⟩:=H;rfl
theorem ThC.flat {R:RM} {row:List Value} {t:AZ} (H:ThC R row t):CG row = true:=by
 obtain⟨rv,nv,rfl,h2,h3⟩:=H;obtain⟨_,_,rfl⟩:=h2.sl;obtain⟨_,_,rfl⟩:=h3.sl;rfl
def Tgs (R:RM) (v:Value) (l:List AZ):Prop:=∃rows,Rw (ThC R) rows l∧Fz R v 6 rows.length rows.flatten
theorem Tgs.le {R R' : RM} {v:Value} {l:List AZ} (h:R.le R') (H:Tgs R v l):Tgs R' v l:=by
 obtain⟨rows,h1,h2⟩:=H;exact⟨rows,h1.mono λ_ _=>ThC.le h,h2.le h⟩
theorem Tgs.sl {R:RM} {v:Value} {l:List AZ} (H:Tgs R v l):∃a c,v = .slice a l.length c:=by
 obtain⟨rows,h1,h2⟩:=H;obtain⟨a,cap,e,-⟩:=Fz.reads (D:=[]) h2;exact⟨a,cap,by rw[e,h1.1]⟩
theorem CN {R:RM} {D:Chs} {v:Value} {n:Nat} {k:Value→M} (h:∃a c,v = .slice a n c) (H:J R D (k (I n))):J R D (LN v k):=by
 obtain⟨a,c,rfl⟩:=h;exact H
theorem jtg {R:RM} {D:Chs} {v:Value} {l:List AZ} {i:Nat} {k:Value→M} (h:Tgs R v l) (hi:i < l.length)
  (H:∀b o t cs rv nv,BC R rv (l[i]).refs→BC R nv (l[i]).nums→R b = some (C t cs)→o + 6≤cs.length→(cs.drop o).take 6 = eTh l[i] rv nv→J R D (k (.pointer (some ⟨b,o,none⟩)))):J R D (IA 6 v (I (i:Int)) k):=by
 obtain⟨rows,h1,h2⟩:=h;have hi' : i < rows.length:=by rw[h1.1];exact hi
 obtain⟨b,o,cap,t,cs,rfl,hb,hl,hc⟩:=O0 h2 (h1.all λ_ _=>ThC.len) hi';obtain⟨rv,nv,e,r1,r2⟩:=h1.2 i hi' hi;refine jia (by omega) (by omega) ?_;rw[Yj];exact H b (o + i * 6) t cs rv nv r1 r2 hb hl (by rw[hc,e])
theorem C6 {cs row:List Value} {o w f:Nat} {x:Value} (h:(cs.drop o).take w = row) (hf:row[f]? = some x):cs[o + f]? = some x:=by
 rw[← h,Zr,Zl] at hf;split at hf
 ·exact hf
 ·cases hf
theorem IK (s:Shp):0≤AF s∧AF s≤10:=by
 unfold AF;split
 ·rename_i h;unfold BG at h;simp only[z_b,z_d] at h;omega
 ·omega
theorem HG {w:List Int} {a:Int} (h:(BB w a).2 = true):2≤AF (BB w a).1.sh:=by
 unfold BB at h ⊢;split at h
 ·rename_i h1;rw[if_pos h1];dsimp only at h ⊢;split at h
  ·rename_i h2;rw[if_pos h2];simp only[z_b] at h2;have:=F6 h2.1;dsimp only;omega
  ·exact absurd h (by decide)
 ·exact absurd h (by decide)
def QTs (r:Option (List AZ)) (v:Value) (R:RM):Prop:=match r with
 | none=>v = .tuple #[.slice none 0 0,.bool false]
 | some l=>∃tv,Tgs R tv l∧v = .tuple #[tv,.bool true]
theorem Qn {R:RM} {wv:Value} {w:List Int} (r top:Int) (h:BC R wv w) (hl:w.length < 1000000000000) :
  Fn P HS [wv,I r,I top] R [] (λv R' A=>A = []∧QTs (BL w r top) v R'):=by
 refine OJ λF=>?_
 unfold HZ;obtain⟨wa,wc,hwv⟩:=h.sl;have eq:(w.length:Int).tdiv 16 = (w.length / 16:Nat):=by rw[Ze (by omega)];omega
 rw[hwv];have br:0≤AM r∧AM r≤176:=by unfold AM;split<;>omega
 refine jor [.slice wa w.length wc,I r,I top] ((!BJ w.length) || (decide (r < 1))) (λK' hK'=>?_) (λe c u ho he=>?_)
 ·refine jp (In wa w.length wc hl) (BM (λh1=>?_) (λh1=>?_))
  ·refine jlt (hK' _ _ _ (h1▸Aj) (by rw[h1,Yk]))
  ·exact hK' _ _ _ (h1▸Al) (by rw[h1,Ym])
 simp only[List.map,zc,zl,zj,z_t] at he;simp only[he];refine jor [.slice wa w.length wc,I r,I top] ((!BJ w.length || decide (r < 1)) || (decide (r≥(w.length:Int).tdiv 16))) (λK' hK'=>?_) (λe c u ho he=>?_)
 ·rw[ho];refine BM (λh1=>?_) (λh1=>?_)
  ·refine jln (OL (by decide) ⟨by omega,by omega⟩ (jge (hK' _ _ _ (h1▸Aj) (by rw[h1,Yk]))))
  ·exact hK' _ _ _ (h1▸Al) (by rw[h1,Ym])
 simp only[List.map,zc,zl,zj,z_t] at he;simp only[he];refine jor [.slice wa w.length wc,I r,I top] ((!BJ w.length || decide (r < 1) || decide (r≥(w.length:Int).tdiv 16)) || (decide (top < AM r))) (λK' hK'=>?_) (λe c u ho he=>?_)
 ·rw[ho];refine BM (λh1=>?_) (λh1=>?_)
  ·refine jp (BV r) (jlt (hK' _ _ _ (h1▸Aj) (by rw[h1,Yk])))
  ·exact hK' _ _ _ (h1▸Al) (by rw[h1,Ym])
 simp only[List.map,zc,zl,zj,z_t] at he;simp only[he];refine jor [.slice wa w.length wc,I r,I top] ((!BJ w.length || decide (r < 1) || decide (r≥(w.length:Int).tdiv 16) || decide (top < AM r)) || (decide (top > AM r + 16))) (λK' hK'=>?_) (λe c u ho he=>?_)
 ·rw[ho];refine BM (λh1=>?_) (λh1=>?_)
  ·refine jp (BV r) (jad (jgr (hK' _ _ _ (h1▸Aj) (by rw[h1,Yk]))))
  ·exact hK' _ _ _ (h1▸Al) (by rw[h1,Ym])
 simp only[List.map,zc,zl,zj,z_t] at he;simp only[he];rw[ho];refine jif (λh0=>?_) (λh0=>?_)
 ·refine BA (A:=[]) (RM.le.refl R) ⟨rfl,?_⟩;have:BL w r top = none:=by
   unfold BL;rw[if_neg];intro hh;simp only[ZA,Z7,z_d,z_b] at h0 hh;rw[eq] at h0;obtain⟨⟨⟨⟨g1,g2⟩,g3⟩,g4⟩,g5⟩:=hh;rw[g1] at h0;rcases h0 with (((h0 | h0) | h0) | h0) | h0
   ·exact absurd h0 (by decide)
   all_goals omega
  rw[this];exact rfl
 simp only[Z1,ZJ,decide_eq_false_iff_not] at h0;rw[eq] at h0;obtain⟨⟨⟨⟨g1,g2⟩,g3⟩,g4⟩,g5⟩:=h0;have et:BL w r top = Ay w 16 (AM r) top:=by
  unfold BL;rw[if_pos];simp only[z_b,z_d];exact⟨⟨⟨⟨g1,by omega⟩,by omega⟩,by omega⟩,by omega⟩
 rw[← hwv];refine jp (BV r) ?_;refine AJ (λvs R' D'=>R.le R'∧∃l tv A,BL w r top = some l∧(∃rows,Rw (ThC R') rows l∧SW As 6 rows tv A)∧D' = A ++ ([] ++ F)∧vs = [tv]) (λK hK=>?_) ?_;rotate_left
 ·rintro e R1 D1 ⟨hR,l,tv,A,hl,⟨rows,hrw,so⟩,hD,he⟩;rw[hD];clear hD;simp only[List.map,zc,zl,zj,z_t] at he;simp only[he];refine jfw so (hrw.all λ_ _=>ThC.len) λR2 hR2 hfz=>?_
  refine BA (A:=[]) (hR.trans hR2) ⟨rfl,?_⟩;rw[hl];exact⟨tv,⟨rows,hrw.mono λ_ _=>ThC.le hR2,hfz⟩,rfl⟩
 refine AJ (λvs R' D'=>R.le R'∧∃l tv A,BL w r top = some l∧(∃rows,Rw (ThC R') rows l∧SW As 6 rows tv A)∧D' = A ++ ([] ++ F)∧vs = [tv]) (λK2 hK2=>?_) ?_;rotate_left
 ·rintro e R1 D1 ⟨hR,l,tv,A,hl,so,hD,he⟩;rw[hD];clear hD;simp only[List.map,zc,zl,zj,z_t] at he;simp only[he];exact hK _ _ _ ⟨hR,l,tv,A,hl,so,rfl,rfl⟩
 refine jlp (λm vs R' D'=>R.le R'∧∃(a:Int) (l:List AZ) (tv:Value) (A:Chs) (rows:List (List Value)),m≤16∧AM r + 2 * (16 - m)≤a∧a≤top∧l.length≤16 - m∧(match Ay w m a top with | none=>none | some l2=>some (l ++ l2)) = BL w r top∧Rw (ThC R') rows l∧SW As 6 rows tv A∧D' = A ++ ([] ++ F)∧vs = [wv,I top,tv,I a])
  (n:=16) ⟨RM.le.refl R,AM r,[],.slice none 0 0,[],[],by omega,by omega,by omega,by simp,by rw[et];cases Ay w 16 (AM r) top<;>rfl,Rw.nil,.inl ⟨rfl,rfl,rfl⟩,rfl,rfl⟩ ?_
 rintro m e R1 D1 K3 ⟨hR,a,l,tv,A,rows,hm,ha,hat,hll,hth,hrw,so,hD,he⟩ hK3;rw[hD];clear hD;simp only[List.map,zc,zl,zj,z_t] at he;simp only[he];have h1:=h.le hR;refine jlt (jif (λhc=>?_) (λhc=>?_));rotate_left
 ·have hc:=z_g hc;refine hK2 _ _ _ ⟨hR,l,tv,A,?_,⟨rows,hrw,so⟩,rfl,rfl⟩;rw[← hth];cases m<;>(unfold Ay;rw[if_neg hc];simp)
 have hc:=z_f hc;obtain⟨m,rfl⟩:∃k,m = k + 1:=⟨m - 1,by omega⟩;unfold Ay at hth;rw[if_pos hc] at hth;dsimp only at hth;obtain⟨sz1,sz2⟩:=IK (BB w a).1.sh;have tsz:=@HG w a;refine jc (A:=[]) (Tb a h1 hl) ?_;rintro _ R2 _ hR2 ⟨rfl,x,⟨rv,nv,rfl,hrv,hnv⟩,rfl⟩;generalize BB w a = t at hth hrv hnv sz1 sz2 tsz ⊢;obtain⟨t,tb⟩:=t;dsimp only at hth hrv hnv sz1 sz2 tsz ⊢;obtain⟨ra,rc,rfl⟩:=hrv.sl;obtain⟨na,nc,rfl⟩:=hnv.sl;refine jex rfl (jex rfl (ja λb=>?_));refine js (cs':=eTh t (.slice ra t.refs.length rc) (.slice na t.nums.length nc)) rfl rfl (by exact z_n 6) rfl ?_;refine jor [wv,I top,tv,I a,Pt b] ((!tb) || (decide (a + AF t.sh > top))) (λK' hK'=>?_) (λe c u ho he=>?_)
 ·refine BM (λh1=>?_) (λh1=>?_)
  ·refine jfo (jla (t:=As) (cs:=eTh t (.slice ra t.refs.length rc) (.slice na t.nums.length nc)) (l:=[I t.sh.refs,I t.sh.nums]) (by exact (by decide:4≤6)) rfl (jp (CC t.sh) (jad (jgr (hK' _ _ _ (h1▸Aj) (by rw[h1,Yk]))))))
  ·exact hK' _ _ _ (h1▸Al) (by rw[h1,Ym])
 simp only[List.map,zc,zl,zj,z_t] at he;simp only[he];rw[ho];refine jif (λh0=>?_) (λh0=>?_)
 ·refine BA (A:=[]) (hR.trans hR2) ⟨rfl,?_⟩;have:BL w r top = none:=by
   rw[← hth,if_neg];intro hh;simp only[ZA,Z7,z_d,z_b] at h0 hh;rcases h0 with h0 | h0
   ·rw[h0] at hh;exact absurd hh.1 (by decide)
   ·omega
  rw[this];exact rfl
 simp only[Z1,ZJ,decide_eq_false_iff_not] at h0;obtain⟨h2,h3⟩:=h0;rw[if_pos (by rw[h2];simp;omega)] at hth;have tsz:=tsz h2;refine jla (l:=eTh t (.slice ra t.refs.length rc) (.slice na t.nums.length nc)) (by exact z_n 6) rfl ?_;refine jbs (cs:=eTh t (.slice ra t.refs.length rc) (.slice na t.nums.length nc)) rfl rfl λb4=>?_
 refine BH (D':=(b4,C As (eTh t (.slice ra t.refs.length rc) (.slice na t.nums.length nc))) :: ((b,C As (eTh t (.slice ra t.refs.length rc) (.slice na t.nums.length nc))) :: (A ++ ([] ++ F)))) (ZP _) ?_;refine Ai A (G:=(b4,C As (eTh t (.slice ra t.refs.length rc) (.slice na t.nums.length nc))) :: (b,C As (eTh t (.slice ra t.refs.length rc) (.slice na t.nums.length nc))) :: ([] ++ F)) ?_;have hx:BQ R2 (A ++ ((b4,C As (eTh t (.slice ra t.refs.length rc) (.slice na t.nums.length nc))) :: (b,C As (eTh t (.slice ra t.refs.length rc) (.slice na t.nums.length nc))) :: ([] ++ F))) (some ⟨b4,0,none⟩) (1 * 6) [eTh t (.slice ra t.refs.length rc) (.slice na t.nums.length nc)].flatten:=BQ.held (t:=As) (cs:=eTh t (.slice ra t.refs.length rc) (.slice na t.nums.length nc)) (o:=0) (n:=1 * 6) (z_n 6);have hrl:=hrw.1;refine jaw so (hrw.all λ_ _=>ThC.len) (by intro r hr;rw[Z3.1 hr];rfl) rfl rfl rfl (by decide) (by rw[Z4];omega) hx λv' A' so'=>?_
 refine jfo (jla (t:=As) (cs:=eTh t (.slice ra t.refs.length rc) (.slice na t.nums.length nc)) (l:=[I t.sh.refs,I t.sh.nums]) (by exact (by decide:4≤6)) rfl (jp (CC t.sh) (jad ?_)));refine Ai A' (G:=[] ++ F) ?_;refine hK3 m _ _ _ (by omega) ⟨hR.trans hR2,a + AF t.sh,l ++ [t],v',A',rows ++ [eTh t (.slice ra t.refs.length rc) (.slice na t.nums.length nc)],by omega,by omega,by omega,by rw[Yn,Z4];omega,?_,(hrw.mono λ_ _=>ThC.le hR2).app (Rw.one ⟨_,_,rfl,hrv,hnv⟩),so',rfl,rfl⟩;rw[← hth];cases Ay w m (a + AF t.sh) top with
 | none=>rfl
 | some l2=>simp
def RdI (R:RM) (D:Chs) (v:Value) (l:List Int):Prop:=(∃a c,v = .slice a l.length c)∧∀(F:Chs) (i:Nat) (h:i < l.length) (k:Value→M),J R (D ++ F) (k (I l[i]))→J R (D ++ F) (IA 1 v (I (i:Int)) λx=>L1 x k)
theorem BC.rd {R:RM} {D:Chs} {v:Value} {l:List Int} (h:BC R v l):RdI R D v l:=
 ⟨h.sl,λF i hi k H=>Bv h (by omega) (by omega) (by rw[getElem_congr_idx (Yj i)];exact H)⟩
theorem SO.rd {R:RM} {A E:Chs} {v:Value} {l:List Int} (h:SO l v A):RdI R (A ++ E) v l:=by
 rcases h with ⟨rfl,rfl,rfl⟩ | ⟨b,c,sp,hc,hsp,rfl,rfl⟩
 ·exact⟨⟨_,_,rfl⟩,λF i hi=>absurd hi (by simp)⟩
 ·refine⟨⟨_,_,rfl⟩,λF i hi k H=>Cs hi ?_⟩;exact jl (v:=I l[i]) (by rw[Z6,Zt];exact HR hi) H
theorem HQ {R:RM} {D:Chs} {v:Value} {l:List Int} (n:Int) (h:RdI R D v l) (hl:l.length < 1000000000000):Ro Jf [v,I n] (I (Bi l n)) R D:=by
 refine OT λF=>?_
 unfold KF;obtain⟨hsl,h⟩:=h;refine jlp (λm vs R' D'=>R' = R∧D' = D ++ F∧∃i:Nat,i≤l.length∧vs = [v,I n,I i]∧m = l.length - i∧∀k (hk:k < l.length),k < i→l[k]≠n)
  (n:=l.length) ⟨rfl,rfl,0,by omega,rfl,by omega,λk _ h=>by omega⟩ ?_
 rintro m e R1 D1 K ⟨hR1,hD,i,hi,he,hm,Bp⟩ hK;subst hR1;rw[hD];clear hD;simp only[List.map,zc,zl,zj,z_t] at he;simp only[he];refine CN hsl (jlt (jif (λhc=>?_) (λhc=>?_)))
 ·have hc:i < l.length:=by have:=z_f hc;omega
  refine h F i hc _ (jeq (jif (λhq=>?_) (λhq=>?_)))
  ·refine Bc ?_;have hq:=eq_of_beq hq;have hm:n∈l:=by rw[← hq];exact Yv hc
   unfold Bi;rw[if_pos hm,N3 hc hq Bp]
  ·have hq:=ne_of_beq_false hq;refine jad ?_;refine hK (l.length - (i + 1)) _ _ _ (by omega) ⟨rfl,rfl,i + 1,by omega,rfl,rfl,λk hk hki=>?_⟩;by_cases c:k = i
   ·subst c;exact hq
   ·exact Bp k hk (by omega)
 ·have hc:¬ i < l.length:=by have:=z_g hc;omega
  refine Bc ?_;have hm:n ∉ l:=by
   intro hm;obtain⟨k,hk,hkn⟩:=ZH hm;exact Bp k hk (by omega) hkn
  unfold Bi;rw[if_neg hm]
theorem Hr {R:RM} {A E G:Chs} {l:List Int} {v:Value} {x:Int} {b1 t cx:Nat} {k:Value→M} (so:SO l v A) (hl:l.length + 1 < 1000000000000)
  [s:Sp G A E] (H:∀v' A',SO (l ++ [x]) v' A'→J R (A' ++ E) (k v')):J R ((b1,C t [I x]) :: G) (AP Ac 1 8 [I 0] v (S0 b1 1 cx) k):=by
 have hp:((b1,C t [I x]) :: G).Perm (A ++ ((b1,C t [I x]) :: E)):=(s.p.cons _).trans ZG.symm;refine BH hp ?_;have hx:BQ R (A ++ ((b1,C t [I x]) :: E)) (some ⟨b1,0,none⟩) (1 * 1) ([x].map I):=BQ.held (t:=t) (cs:=[I x]) (o:=0) (n:=1 * 1) (z_n 1);refine jas so rfl (by simpa using hl) hx λv' A' so'=>?_
 exact BH ZG (C4 (H v' A' so'))
theorem KT {R:RM} {A:Chs} {v:Value} {l:List Int} (a:Int) (so:SO l v A) (hl:l.length < 1000000):Fn P NJ [v,I a] R A (λv' R' A'=>R' = R∧SO (CQ l a) v' A'):=by
 refine TN λF=>?_
 unfold NL;obtain⟨sa,sn,sc,hsl⟩:=so.sl;refine jor [v,I a] ((a == 0) || (decide (Bi l a≥0))) (λK' hK'=>?_) (λe c u ho he=>?_)
 ·refine jeq (BM (λh1=>?_) (λh1=>?_))
  ·refine jro (HQ a so.rd (by omega)) (jge (hK' _ _ _ (h1▸Aj) (by rw[h1,Yk])))
  ·exact hK' _ _ _ (h1▸Al) (by rw[h1,Ym])
 simp only[List.map,zc,zl,zj,z_t] at he;simp only[he];rw[ho];have hp:decide (Bi l a≥0) = decide (a∈l):=by
  unfold Bi;by_cases c:a∈l
  ·rw[if_pos c,decide_eq_true c,decide_eq_true (by omega)]
  ·rw[if_neg c,decide_eq_false c,decide_eq_false (by omega)]
 rw[hp];refine jif (λh0=>?_) (λh0=>?_)
 ·simp only[ZA,beq_iff_eq,z_d] at h0;refine BA (A:=A) (RM.le.refl R) ?_;unfold CQ;rw[if_pos h0];exact⟨rfl,so⟩
 ·have h0:¬ (a = 0∨a∈l):=by simpa using h0
  refine jbs (cs:=[I a]) rfl rfl λb1=>?_
  refine Hr (A:=A) so (by omega) λv' A' so'=>?_
  refine BA (A:=A') (RM.le.refl R) ?_;unfold CQ;rw[if_neg h0];exact⟨rfl,so'⟩
def Nn (l:List AZ) (a:Int):Int:=match l.findIdx? λt=>t.at_ == a with | some i=>(i:Int) | none=>-1
theorem Dj {R:RM} {D:Chs} {v:Value} {l:List AZ} (a:Int) (h:Tgs R v l) (hl:l.length < 1000000000000):Ro Lb [v,I a] (I (Nn l a)) R D:=by
 refine RL λF=>?_
 unfold MJ;refine jlp (λm vs R' D'=>R' = R∧D' = D ++ F∧∃i:Nat,i≤l.length∧vs = [v,I a,I i]∧m = l.length - i∧∀k (hk:k < l.length),k < i→(l[k]).at_≠a)
  (n:=l.length) ⟨rfl,rfl,0,by omega,rfl,by omega,λk _ h=>by omega⟩ ?_
 rintro m e R1 D1 K ⟨hR1,hD,i,hi,he,hm,Bp⟩ hK;subst hR1;rw[hD];clear hD;simp only[List.map,zc,zl,zj,z_t] at he;simp only[he];refine CN h.sl (jlt (jif (λhc=>?_) (λhc=>?_)))
 ·have hc:i < l.length:=by have:=z_f hc;omega
  refine jtg h hc λb o t cs rv nv _ _ hb ho hrow=>?_
  refine jfo (jlr (v:=I (l[i]).at_) hb (C6 hrow (f:=0) rfl) (jeq (jif (λhq=>?_) (λhq=>?_))))
  ·refine Bc ?_;have hq:=eq_of_beq hq;unfold Nn;have:l.findIdx? (λt=>t.at_ == a) = some i:=by
    rw[List.findIdx?_eq_some_iff_getElem];exact⟨hc,by simpa using hq,λj hj=>by simpa using Bp j (by omega) hj⟩
   rw[this]
  ·have hq:=ne_of_beq_false hq;refine jad ?_;refine hK (l.length - (i + 1)) _ _ _ (by omega) ⟨rfl,rfl,i + 1,by omega,rfl,rfl,λk hk hki=>?_⟩;by_cases c:k = i
   ·subst c;exact hq
   ·exact Bp k hk (by omega)
 ·have hc:¬ i < l.length:=by have:=z_g hc;omega
  refine Bc ?_;have:l.findIdx? (λt=>t.at_ == a) = none:=by
   rw[List.findIdx?_eq_none_iff];intro x hx;obtain⟨k,hk,rfl⟩:=ZH hx;have:=Bp k hk (by omega);simpa using this
  unfold Nn;rw[this]
theorem EE {l:List AZ} {a:Int} {t:AZ} (h:BW l a = some t):∃(i:Nat) (hi:i < l.length),Nn l a = i∧l[i] = t:=by
 unfold BW at h;have h2:(l.findIdx? λt=>t.at_ == a)≠none:=by
  intro hn;rw[List.findIdx?_eq_none_iff] at hn;have:=List.find?_some h;have hm:=aX h;rw[hn t hm] at this;cases this
 cases hi:l.findIdx? (λt=>t.at_ == a) with
 | none=>exact absurd hi h2
 | some i=>
  have hi2:=hi;rw[List.findIdx?_eq_some_iff_getElem] at hi2;obtain⟨hlt,hp,Bp⟩:=hi2;refine⟨i,hlt,by unfold Nn;rw[hi],?_⟩;have:l.find? (λt=>t.at_ == a) = some l[i]:=by
   rw[List.find?_eq_some_iff_getElem];exact⟨hp,i,hlt,rfl,λj hj=>by simpa using Bp j hj⟩
  rw[this] at h;exact (Yr _ _).mp h
theorem GV {R:RM} {D:Chs} {v:Value} {l:List AZ} {a x:Int} (h:Tgs R v l) (hl:l.length < 1000000000000) (hx:now l a = some x):Ro N8 [v,I a] (I x) R D:=by
 refine Sj λF=>?_
 unfold NQ;unfold now at hx;refine jeq (jif (λh0=>?_) (λh0=>?_))
 ·rw[if_pos (eq_of_beq h0)] at hx;simp only[Yr] at hx;exact Bc (by rw[hx])
 ·rw[if_neg (ne_of_beq_false h0)] at hx;obtain⟨t,ht,rfl⟩:=aS.1 hx;obtain⟨i,hi,hp,rfl⟩:=EE ht;refine jro (Dj a h hl) ?_;rw[hp];refine jtg h hi λb o t cs rv nv _ _ hb ho hrow=>?_
  refine jfo (jlr (v:=I (l[i]).moved) hb (C6 hrow (f:=1) rfl) ?_);exact Bc rfl
def eSt (s:Sm.B7) (wv tv mv thv ov pv:Value):List Value:=[wv,tv,mv,I s.Aa,.bool s.stop,.bool s.full,.bool s.Ag,I s.want,thv,ov,pv,I s.B8,I s.Bf]
def Rgs (R:RM) (v:Value) (t:List Rg):Prop:=Fz R v 5 t.length (Ab eRg t)
def Bls (R:RM) (v:Value) (l:List Bool):Prop:=Fz R v 1 l.length (l.map Value.bool)
def Co (R:RM) (row:List Value) (t:Th):Prop:=∃rv,row = [rv,I t.next,.bool t.busy,I t.Au]∧BC R rv t.AD
def Ths (R:RM) (v:Value) (l:List Th):Prop:=∃rows,Rw (Co R) rows l∧Fz R v 4 rows.length rows.flatten
structure StC (R:RM) (s:Sm.B7) (wv tv mv thv ov pv:Value):Prop where
 w:BC R wv s.AB
 t:Rgs R tv s.A0
 m:Bls R mv s.AR
 th:Ths R thv s.AA
 o:BC R ov s.old
 p:BC R pv s.AO
theorem Co.le {R R' : RM} {row:List Value} {t:Th} (h:R.le R') (H:Co R row t):Co R' row t:=by
 obtain⟨rv,h1,h2⟩:=H;exact⟨rv,h1,h2.le h⟩
theorem Co.len {R:RM} {row:List Value} {t:Th} (H:Co R row t):row.length = 4:=by obtain⟨rv,rfl,h2⟩:=H;rfl
theorem Co.flat {R:RM} {row:List Value} {t:Th} (H:Co R row t):CG row = true:=by
 obtain⟨rv,rfl,h2⟩:=H;obtain⟨_,_,rfl⟩:=h2.sl;rfl
theorem Ths.le {R R' : RM} {v:Value} {l:List Th} (h:R.le R') (H:Ths R v l):Ths R' v l:=by
 obtain⟨rows,h1,h2⟩:=H;exact⟨rows,h1.mono λ_ _=>Co.le h,h2.le h⟩
theorem Ths.sl {R:RM} {v:Value} {l:List Th} (H:Ths R v l):∃a c,v = .slice a l.length c:=by
 obtain⟨rows,h1,h2⟩:=H;obtain⟨a,cap,e,-⟩:=Fz.reads (D:=[]) h2;exact⟨a,cap,by rw[e,h1.1]⟩
theorem Fz.sl {R:RM} {v:Value} {w n:Nat} {cells:List Value} (H:Fz R v w n cells):∃a c,v = .slice a n c:=by
 obtain⟨a,cap,e,-⟩:=Fz.reads (D:=[]) H;exact⟨a,cap,e⟩
theorem StC.le {R R' : RM} {s:Sm.B7} {wv tv mv thv ov pv:Value} (h:R.le R') (H:StC R s wv tv mv thv ov pv):StC R' s wv tv mv thv ov pv:=
 ⟨H.w.le h,Fz.le h H.t,Fz.le h H.m,H.th.le h,H.o.le h,H.p.le h⟩
theorem Uc (t:List Rg):∀r∈t.map eRg,r.length = 5:=by
 intro r hr;obtain⟨x,_,rfl⟩:=ZU.1 hr;rfl
theorem jrg {R:RM} {D:Chs} {v:Value} {t:List Rg} {i:Nat} {k:Value→M} (h:Rgs R v t) (hi:i < t.length)
  (H:∀b o ty cs,R b = some (C ty cs)→o + 5≤cs.length→(cs.drop o).take 5 = eRg t[i]→J R D (k (.pointer (some ⟨b,o,none⟩)))):J R D (IA 5 v (I (i:Int)) k):=by
 have h' : Fz R v 5 (t.map eRg).length (t.map eRg).flatten:=by rw[ZF];exact h
 obtain⟨b,o,cap,ty,cs,rfl,hb,hl,hc⟩:=O0 h' (Uc t) (by simpa using hi);refine jia (by omega) (by rw[ZF];omega) ?_;rw[Yj];exact H b (o + i * 5) ty cs hb hl (by rw[hc,List.getElem_map])
theorem jtr {R:RM} {D:Chs} {v:Value} {l:List Th} {i:Nat} {k:Value→M} (h:Ths R v l) (hi:i < l.length)
  (H:∀b o ty cs rv,BC R rv (l[i]).AD→R b = some (C ty cs)→o + 4≤cs.length→(cs.drop o).take 4 = [rv,I (l[i]).next,.bool (l[i]).busy,I (l[i]).Au]→J R D (k (.pointer (some ⟨b,o,none⟩)))):J R D (IA 4 v (I (i:Int)) k):=by
 obtain⟨rows,h1,h2⟩:=h;have hi' : i < rows.length:=by rw[h1.1];exact hi
 obtain⟨b,o,cap,ty,cs,rfl,hb,hl,hc⟩:=O0 h2 (h1.all λ_ _=>Co.len) hi';obtain⟨rv,e,r1⟩:=h1.2 i hi' hi;refine jia (by omega) (by omega) ?_;rw[Yj];exact H b (o + i * 4) ty cs rv r1 hb hl (by rw[hc,e])
theorem Oo {rows:List (List Value)} (h:∀r∈rows,CG r = true):CG rows.flatten = true:=by
 unfold CG at h ⊢;rw[ZE];intro x hx;obtain⟨r,hr,hx⟩:=List.mem_flatten.1 hx;exact ZE.1 (h r hr) x hx
theorem Ou {w:List Int}:∀{n:Nat} {a top:Int} {l:List AZ},Ay w n a top = some l→l.length≤n
 | 0,a,top,l,h=>by
  unfold Ay at h;split at h
  ·cases h
  ·cases h;simp
 | n + 1,a,top,l,h=>by
  unfold Ay at h;split at h
  ·dsimp only at h;split at h
   ·split at h
    ·rename_i l2 h2;cases h;have:=Ou h2;simp;omega
    ·cases h
   ·cases h
  ·cases h;simp
theorem Qw {w:List Int} {r top:Int} {l:List AZ} (h:BL w r top = some l):l.length≤16:=by
 unfold BL at h;split at h
 ·exact Ou h
 ·cases h
theorem HI {R:RM} {s:Sm.B7} {wv tv mv thv ov pv:Value} (h:StC R s wv tv mv thv ov pv) (hw:s.AB.length < 1000000) (ht:s.A0.length < 1000000) :
  Fn P HW [.agg (eSt s wv tv mv thv ov pv).toArray] R [] (λv R' A=>A = []∧QTs (BE s) v R'):=by
 refine Nb λF=>?_
 unfold If;refine ja λb=>?_
 rw[show cl (.agg (eSt s wv tv mv thv ov pv).toArray) = eSt s wv tv mv thv ov pv from rfl];refine AJ (λvs R' D'=>R.le R'∧∃l v A,BE s = some l∧(∃rows,Rw (ThC R') rows l∧SW As 6 rows v A)∧D' = A ++ ((b,C AK (eSt s wv tv mv thv ov pv)) :: ([] ++ F))∧vs = [v]) (λK hK=>?_) ?_;rotate_left
 ·rintro e R1 D1 ⟨hR,l,v,A,hl,⟨rows,hrw,so⟩,hD,he⟩;rw[hD];clear hD;simp only[List.map,zc,zl,zj,z_t] at he;simp only[he];refine jfw so (hrw.all λ_ _=>ThC.len) λR2 hR2 hfz=>?_
  refine BA (A:=[]) (hR.trans hR2) ⟨rfl,?_⟩;rw[hl];exact⟨v,⟨rows,hrw.mono λ_ _=>ThC.le hR2,hfz⟩,rfl⟩
 refine AJ (λvs R' D'=>R.le R'∧∃l v A,BE s = some l∧(∃rows,Rw (ThC R') rows l∧SW As 6 rows v A)∧D' = A ++ ((b,C AK (eSt s wv tv mv thv ov pv)) :: ([] ++ F))∧vs = [v]) (λK2 hK2=>?_) ?_;rotate_left
 ·rintro e R1 D1 ⟨hR,l,v,A,hl,so,hD,he⟩;rw[hD];clear hD;simp only[List.map,zc,zl,zj,z_t] at he;simp only[he];exact hK _ _ _ ⟨hR,l,v,A,hl,so,rfl,rfl⟩
 refine jlp (λm vs R' D'=>R.le R'∧∃(i:Nat) (l:List AZ) (v:Value) (A:Chs) (rows:List (List Value)),1≤i∧i≤s.A0.length + 1∧l.length≤16 * i∧(match Bg s.AB i (s.A0.drop i) with | none=>none | some l2=>some (l ++ l2)) = BE s∧Rw (ThC R') rows l∧SW As 6 rows v A∧D' = A ++ ((b,C AK (eSt s wv tv mv thv ov pv)) :: ([] ++ F))∧vs = [Pt b,v,I i]∧m = s.A0.length + 1 - i)
  (n:=s.A0.length) ⟨RM.le.refl R,1,[],.slice none 0 0,[],[],by omega,by omega,by simp,by unfold BE;rw[List.drop_one];cases Bg s.AB 1 s.A0.tail<;>rfl,Rw.nil,.inl ⟨rfl,rfl,rfl⟩,rfl,rfl,by omega⟩ ?_
 rintro m e R1 D1 K3 ⟨hR,i,l,v,A,rows,hi0,hi1,hll,hth,hrw,so,hD,he,hm⟩ hK3;rw[hD];clear hD;simp only[List.map,zc,zl,zj,z_t] at he;simp only[he];have h1:=h.le hR;refine jl (v:=tv) rfl (CN h1.t.sl (jlt (jif (λhc=>?_) (λhc=>?_))));rotate_left
 ·have hc:=z_g hc;refine hK2 _ _ _ ⟨hR,l,v,A,?_,⟨rows,hrw,so⟩,rfl,rfl⟩;rw[← hth,Z2 (by omega)];simp[Bg]
 have hc:i < s.A0.length:=by have:=z_f hc;omega
 rw[Yu hc] at hth;unfold Bg at hth;refine jl (v:=wv) rfl (jl (v:=tv) rfl (jrg h1.t hc λb2 o2 ty cs hb ho hrow=>?_));refine jfo (jlr (v:=I (s.A0[i]).top) hb (C6 hrow (f:=2) rfl) ?_);refine jc (A:=[]) (Qn i (s.A0[i]).top h1.w (by omega)) ?_;rintro _ R2 _ hR2 ⟨rfl,hq⟩;cases hti:BL s.AB i (s.A0[i]).top with
 | none=>
  rw[hti] at hq hth;subst hq;refine jex rfl (jex rfl (DO ?_));refine BA (A:=[]) (hR.trans hR2) ⟨rfl,?_⟩;rw[← hth];exact rfl
 | some l1=>
  rw[hti] at hq hth;obtain⟨tv1,⟨rows1,hrw1,hfz1⟩,rfl⟩:=hq;refine OH (jex rfl (jex rfl (Cn ?_)));obtain⟨xa,cx,hxv,hx⟩:=Fz.reads (D:=A ++ ((b,C AK (eSt s wv tv mv thv ov pv)) :: ([] ++ F))) hfz1;rw[hxv];have hrl:=hrw.1;have hrl1:=hrw1.1;have hl1:=Qw hti;refine jaw so (hrw.all λ_ _=>ThC.len) (hrw1.all λ_ _=>ThC.len) rfl (Oo (hrw1.all λ_ _=>ThC.flat)) rfl (by decide) (by omega) hx λv' A' so'=>?_
  refine jad ?_;refine hK3 (s.A0.length + 1 - (i + 1)) _ _ _ (by omega) ⟨hR.trans hR2,i + 1,l ++ l1,v',A',rows ++ rows1,by omega,by omega,by rw[Yn];omega,?_,(hrw.mono λ_ _=>ThC.le hR2).app hrw1,so',rfl,rfl,rfl⟩;rw[← hth];cases Bg s.AB (i + 1) (s.A0.drop (i + 1)) with
  | none=>rfl
  | some l2=>simp
theorem Kd {R:RM} {D:Chs} {s:Sm.B7} {wv tv mv thv ov pv:Value} (r:Int) (h:StC R s wv tv mv thv ov pv) (hp:∀a∈s.AO,AS a≤9223372036854775807) (hl:s.AO.length < 1000000) :
  Ro LR [.agg (eSt s wv tv mv thv ov pv).toArray,I r] (.bool (CB s.AO r)) R D:=by
 refine Ql λF=>?_
 unfold Kk;refine ja λb=>?_
 rw[show cl (.agg (eSt s wv tv mv thv ov pv).toArray) = eSt s wv tv mv thv ov pv from rfl];refine jlp (λm vs R' D'=>R' = R∧D' = (b,C AK (eSt s wv tv mv thv ov pv)) :: (D ++ F)∧∃i:Nat,i≤s.AO.length∧vs = [I r,Pt b,I i]∧m = s.AO.length - i∧CB (s.AO.drop i) r = CB s.AO r)
  (n:=s.AO.length) ⟨rfl,rfl,0,by omega,rfl,by omega,by rw[aD]⟩ ?_
 rintro m e R1 D1 K ⟨hR1,hD,i,hi,he,hm,Bp⟩ hK;subst hR1;rw[hD];clear hD;simp only[List.map,zc,zl,zj,z_t] at he;simp only[he];refine jl (v:=pv) rfl (CN h.p.sl (jlt (jif (λhc=>?_) (λhc=>?_))))
 ·have hc:i < s.AO.length:=by have:=z_f hc;omega
  refine jl (v:=pv) rfl (Bv h.p (by omega) (by omega) ?_);rw[getElem_congr_idx (Yj i)];rw[Yu hc] at Bp;refine jp (CJ _ (hp _ (Yv hc))) (jeq (jif (λhq=>?_) (λhq=>?_)))
  ·refine Bc ?_;rw[← Bp];unfold CB;rw[List.any_cons,hq,Ym]
  ·refine jad ?_;refine hK (s.AO.length - (i + 1)) _ _ _ (by omega) ⟨rfl,rfl,i + 1,by omega,rfl,rfl,?_⟩;rw[← Bp];unfold CB;rw[List.any_cons,hq,Yk]
 ·have hc:¬ i < s.AO.length:=by have:=z_g hc;omega
  refine Bc ?_;rw[← Bp,Z2 (by omega)];rfl
theorem LZ (had:List Int) (a:Int):had.length≤(CQ had a).length:=by
 unfold CQ;split<;>simp
theorem DZ {l:List AZ}:∀{xs acc r:List Int},Ao l xs acc = some r→acc.length≤r.length
 | [],acc,r,h=>by cases h;exact z_n _
 | x :: xs,acc,r,h=>by
  unfold Ao at h;obtain⟨y,_,h⟩:=AE h;have:=DZ h;have:=LZ acc y;omega
theorem Ig {l:List AZ}:∀{ts:List Th} {acc r:List Int},DU l ts acc = some r→acc.length≤r.length
 | [],acc,r,h=>by cases h;exact z_n _
 | x :: xs,acc,r,h=>by
  unfold DU at h;obtain⟨y,h1,h⟩:=AE h;have:=DZ h1;have:=Ig h;omega
theorem Lq:∀(ps acc:List Int),acc.length≤(ps.foldl CQ acc).length
 | [],acc=>z_n _
 | p :: ps,acc=>by
  have h1:=LZ acc p;have h2:=Lq ps (CQ acc p);rw[aQ];omega
theorem GM {l:List AZ}:∀{n i:Nat} {out r:List Int},BN l n i out = some r→out.length≤r.length∧r.length + 1≤i + n
 | 0,i,out,r,h=>by cases h
 | n + 1,i,out,r,h=>by
  unfold BN at h;split at h
  ·rename_i hn;cases h;have:=List.getElem?_eq_none_iff.1 hn;exact⟨z_n _,by omega⟩
  ·obtain⟨t,_,h⟩:=AE h;obtain⟨y,h1,h⟩:=AE h;have:=DZ h1;obtain⟨h2,h3⟩:=GM h;exact⟨by omega,by omega⟩
theorem Jc {s:Sm.B7} {l:List AZ} {r:List Int} (h:DE s l = some r):r.length≤l.length + 1:=by
 unfold DE at h;obtain⟨y,_,h⟩:=AE h;have:=(GM h).2;omega
theorem SG {acc:List Int} {x:Int} {R:RM} {D:Chs} {v:Value} {A:Chs} (c:((x != 0) && decide (Bi acc x < 0)) = false) (so:SO acc v A):SO (CQ acc x) v A:=by
 unfold CQ;rw[if_pos]
 ·exact so
 ·unfold Bi at c;by_cases h:x = 0
  ·exact .inl h
  ·by_cases hm:x∈acc
   ·exact .inr hm
   ·rw[if_neg hm] at c;simp[h] at c
theorem N5 {acc:List Int} {x:Int} (c:((x != 0) && decide (Bi acc x < 0)) = true):CQ acc x = acc ++ [x]:=by
 unfold CQ;rw[if_neg];simp only[z_b,bne_iff_ne,ne_eq,z_d] at c;rintro (h | h)
 ·exact c.1 h
 ·unfold Bi at c;rw[if_pos h] at c;omega
theorem KA {R:RM} {s:Sm.B7} {wv tv mv thv ov pv lv:Value} {l:List AZ} {AQ:List Int} (h:StC R s wv tv mv thv ov pv) (hlv:Tgs R lv l) (hll:l.length < 900000) (hr:DE s l = some AQ) (hn:s.AA.length < 1000000) (hrl:∀t∈s.AA,t.AD.length < 1000000000) (hpl:s.AO.length < 1000000) (hrf:∀t∈l,t.refs.length < 1000000000) :
  Fn P GZ [.agg (eSt s wv tv mv thv ov pv).toArray,lv] R [] (λv _ A=>SO AQ v A):=by
 refine Mh λF=>?_
 unfold Gp;have hlen:=Jc hr;unfold DE at hr;obtain⟨out0,hr0,hr1⟩:=AE hr;have hl1:=(GM hr1).1;have hl0:=Lq s.AO out0;refine ja λb=>?_
 rw[show cl (.agg (eSt s wv tv mv thv ov pv).toArray) = eSt s wv tv mv thv ov pv from rfl];generalize hE:((b,C AK (eSt s wv tv mv thv ov pv)) :: ([] ++ F)) = E;have ea:At E b (C AK (eSt s wv tv mv thv ov pv)):=by rw[← hE];exact inferInstance
 have ef:Sf E F:=by rw[← hE];exact inferInstance
 refine AJ (λvs R' D'=>R' = R∧∃v A,SO out0 v A∧D' = A ++ E∧vs = [lv,Pt b,v]) (λK hK=>?_) ?_
 ·refine AJ (λvs R' D'=>R' = R∧∃v A,SO out0 v A∧D' = A ++ E∧vs = [lv,Pt b,v]) (λK2 hK2=>?_) ?_;rotate_left
  ·rintro e R1 D1 ⟨hR,v,A,so,hD,he⟩;rw[hD];clear hD;simp only[List.map,zc,zl,zj,z_t] at he;simp only[he];exact hK _ _ _ ⟨hR,v,A,so,rfl,rfl⟩
  refine jlp (λm vs R' D'=>R' = R∧∃(i:Nat) (acc:List Int) (v:Value) (A:Chs),i≤s.AA.length∧DU l (s.AA.drop i) acc = some out0∧SO acc v A∧D' = A ++ E∧vs = [lv,Pt b,v,I i]∧m = s.AA.length - i)
   (n:=s.AA.length) ⟨rfl,0,[],.slice none 0 0,[],by omega,hr0,.inl ⟨rfl,rfl,rfl⟩,rfl,rfl,by omega⟩ ?_
  rintro m e R1 D1 K3 ⟨hR,i,acc,v,A,hi,hra,so,hD,he,hm⟩ hK3;subst hR;rw[hD];clear hD;simp only[List.map,zc,zl,zj,z_t] at he;simp only[he];refine jl (v:=thv) rfl (CN h.th.sl (jlt (jif (λhc=>?_) (λhc=>?_))));rotate_left
  ·have hc:=z_g hc;rw[Z2 (by omega)] at hra;cases hra;exact hK2 _ _ _ ⟨rfl,v,A,so,rfl,rfl⟩
  have hc:i < s.AA.length:=by have:=z_f hc;omega
  rw[Yu hc] at hra;unfold DU at hra;obtain⟨acc1,hna,hra⟩:=AE hra;have hl2:=Ig hra;have hri:=hrl _ (Yv hc);refine AJ (λvs R' D'=>R' = R1∧∃v A,SO acc1 v A∧D' = A ++ E∧vs = [lv,Pt b,v,I i]) (λK4 hK4=>?_) ?_;rotate_left
  ·rintro e R2 D2 ⟨hR,v,A,so,hD,he⟩;subst hR;rw[hD];clear hD;simp only[List.map,zc,zl,zj,z_t] at he;simp only[he];refine jad ?_;exact hK3 (s.AA.length - (i + 1)) _ _ _ (by omega) ⟨rfl,i + 1,acc1,v,A,by omega,hra,so,rfl,rfl,rfl⟩
  refine AJ (λvs R' D'=>R' = R1∧∃v A,SO acc1 v A∧D' = A ++ E∧vs = [lv,Pt b,v,I i]) (λK5 hK5=>?_) ?_;rotate_left
  ·rintro e R2 D2 ⟨hR,v,A,so,hD,he⟩;rw[hD];clear hD;simp only[List.map,zc,zl,zj,z_t] at he;simp only[he];exact hK4 _ _ _ ⟨hR,v,A,so,rfl,rfl⟩
  refine AJ (λvs R' D'=>R' = R1∧∃v A,SO acc1 v A∧D' = A ++ E∧vs = [lv,Pt b,v,I i]) (λK6 hK6=>?_) ?_;rotate_left
  ·rintro e R2 D2 ⟨hR,v,A,so,hD,he⟩;rw[hD];clear hD;simp only[List.map,zc,zl,zj,z_t] at he;simp only[he];exact hK5 _ _ _ ⟨hR,v,A,so,rfl,rfl⟩
  refine jlp (λm vs R' D'=>R' = R1∧∃(j:Nat) (acc:List Int) (v:Value) (A:Chs),j≤(s.AA[i]).AD.length∧Ao l ((s.AA[i]).AD.drop j) acc = some acc1∧SO acc v A∧D' = A ++ E∧vs = [lv,Pt b,v,I i,I j]∧m = (s.AA[i]).AD.length - j)
   (n:=(s.AA[i]).AD.length) ⟨rfl,0,acc,v,A,by omega,hna,so,rfl,rfl,by omega⟩ ?_
  clear hna so;rintro m e R2 D2 K7 ⟨hR,j,acc,v,A,hj,hna,so,hD,he,hm⟩ hK7;subst hR;rw[hD];clear hD;simp only[List.map,zc,zl,zj,z_t] at he;simp only[he];have hl3:=DZ hna;refine jl (v:=thv) rfl (jtr h.th hc λb2 o2 ty cs rv hrv hb ho hrow=>?_);refine jfo (jlr (v:=rv) hb (C6 hrow (f:=0) rfl) (CN hrv.sl (jlt (jif (λhd=>?_) (λhd=>?_)))));rotate_left
  ·have hd:=z_g hd;rw[Z2 (by omega)] at hna;cases hna;exact hK6 _ _ _ ⟨rfl,v,A,so,rfl,rfl⟩
  have hd:j < (s.AA[i]).AD.length:=by have:=z_f hd;omega
  rw[Yu hd] at hna;unfold Ao at hna;obtain⟨x,hx,hna⟩:=AE hna;refine AJ (λvs R' D'=>R' = R2∧∃v A,SO (CQ acc x) v A∧D' = A ++ E∧vs = [lv,Pt b,v,I i,I j]) (λK8 hK8=>?_) ?_;rotate_left
  ·rintro e R3 D3 ⟨hR,v,A,so,hD,he⟩;subst hR;rw[hD];clear hD;simp only[List.map,zc,zl,zj,z_t] at he;simp only[he];refine jad ?_;exact hK7 ((s.AA[i]).AD.length - (j + 1)) _ _ _ (by omega) ⟨rfl,j + 1,_,v,A,by omega,hna,so,rfl,rfl,rfl⟩
  refine AJ (λvs R' D'=>R' = R2∧∃v A,SO (CQ acc x) v A∧D' = A ++ E∧vs = [lv,Pt b,v,I i,I j]) (λK9 hK9=>?_) ?_;rotate_left
  ·rintro e R3 D3 ⟨hR,v,A,so,hD,he⟩;rw[hD];clear hD;simp only[List.map,zc,zl,zj,z_t] at he;simp only[he];exact hK8 _ _ _ ⟨hR,v,A,so,rfl,rfl⟩
  refine jl (v:=thv) rfl (jtr h.th hc λb2 o2 ty cs rv hrv hb ho hrow=>?_);refine jfo (jlr (v:=rv) hb (C6 hrow (f:=0) rfl) (Bv hrv (by omega) (by omega) ?_));rw[getElem_congr_idx (Yj j)];refine jro (GV hlv (by omega) hx) ?_;obtain⟨sa,sn,sc,hsl⟩:=so.sl;refine jan [lv,Pt b,v,I i,I j,I x] (((x != 0)) && (decide (Bi acc x < 0))) (λK' hK'=>?_) (λe c u ho he=>?_)
  ·refine jne (Bm (λh1=>?_) (λh1=>?_))
   ·refine jro (HQ x so.rd (by omega)) (jlt (hK' _ _ _ (h1▸Aq) (by rw[h1,Yx])))
   ·exact hK' _ _ _ (h1▸Av) (by rw[h1,Yy])
  simp only[List.map,zc,zl,zj,z_t] at he;simp only[he];rw[ho];refine jif (λh0=>?_) (λh0=>?_)
  ·refine jbs (cs:=[I x]) rfl rfl λb1=>?_
   refine Hr (A:=A) so (by omega) λv' A' so'=>?_
   exact hK9 _ _ _ ⟨rfl,v',A',by rw[N5 h0];exact so',rfl,rfl⟩
  ·exact hK9 _ _ _ ⟨rfl,v,A,SG (R:=R2) (D:=[]) h0 so,rfl,rfl⟩
 rintro e R1 D1 ⟨hR,v,A,so,hD,he⟩;subst hR;rw[hD];clear hD;simp only[List.map,zc,zl,zj,z_t] at he;simp only[he];generalize hou:s.AO.foldl CQ out0 = out1 at hr1 hl1 hl0;refine AJ (λvs R' D'=>R' = R1∧∃v A,SO out1 v A∧D' = A ++ E∧vs = [lv,v]) (λK hK=>?_) ?_
 ·refine AJ (λvs R' D'=>R' = R1∧∃v A,SO out1 v A∧D' = A ++ E∧vs = [lv,v]) (λK2 hK2=>?_) ?_;rotate_left
  ·rintro e R1 D1 ⟨hR,v,A,so,hD,he⟩;rw[hD];clear hD;simp only[List.map,zc,zl,zj,z_t] at he;simp only[he];exact hK _ _ _ ⟨hR,v,A,so,rfl,rfl⟩
  refine jlp (λm vs R' D'=>R' = R1∧∃(i:Nat) (acc:List Int) (v:Value) (A:Chs),i≤s.AO.length∧(s.AO.drop i).foldl CQ acc = out1∧SO acc v A∧D' = A ++ E∧vs = [lv,Pt b,v,I i]∧m = s.AO.length - i)
   (n:=s.AO.length) ⟨rfl,0,out0,v,A,by omega,hou,so,rfl,rfl,by omega⟩ ?_
  rintro m e R1 D1 K3 ⟨hR,i,acc,v,A,hi,hra,so,hD,he,hm⟩ hK3;subst hR;rw[hD];clear hD;simp only[List.map,zc,zl,zj,z_t] at he;simp only[he];refine jl (v:=pv) rfl (CN h.p.sl (jlt (jif (λhc=>?_) (λhc=>?_))));rotate_left
  ·have hc:=z_g hc;rw[Z2 (by omega),List.foldl_nil] at hra;subst hra;exact hK2 _ _ _ ⟨rfl,v,A,so,rfl,rfl⟩
  have hc:i < s.AO.length:=by have:=z_f hc;omega
  rw[Yu hc,aQ] at hra;have hl2:=Lq (s.AO.drop (i + 1)) (CQ acc s.AO[i]);have hl3:=LZ acc s.AO[i];rw[hra] at hl2;refine jl (v:=pv) rfl (Bv h.p (by omega) (by omega) ?_);rw[getElem_congr_idx (Yj i)];refine jc (A:=A) (KT _ so (by omega)) ?_;rintro v' R2 A' hR2 ⟨hRR,so'⟩;subst hRR;refine jad ?_;exact hK3 (s.AO.length - (i + 1)) _ _ _ (by omega) ⟨rfl,i + 1,_,v',A',by omega,hra,so',rfl,rfl,rfl⟩
 clear so hr0;rintro e R2 D2 ⟨hR,v,A,so,hD,he⟩;subst hR;rw[hD];clear hD;simp only[List.map,zc,zl,zj,z_t] at he;simp only[he];refine AJ (λvs R' D'=>R' = R2∧∃v A,SO AQ v A∧D' = A ++ E∧vs = [v]) (λK hK=>?_) ?_;rotate_left
 ·rintro e R3 D3 ⟨hR,v,A,so,hD,he⟩;subst hR;rw[hD];clear hD;simp only[List.map,zc,zl,zj,z_t] at he;simp only[he];exact BA (A:=A) (RM.le.refl R3) so
 refine AJ (λvs R' D'=>R' = R2∧∃v A,SO AQ v A∧D' = A ++ E∧vs = [v]) (λK2 hK2=>?_) ?_;rotate_left
 ·rintro e R3 D3 ⟨hR,v,A,so,hD,he⟩;rw[hD];clear hD;simp only[List.map,zc,zl,zj,z_t] at he;simp only[he];exact hK _ _ _ ⟨hR,v,A,so,rfl,rfl⟩
 refine jlp (λm vs R' D'=>R' = R2∧∃(k:Nat) (acc:List Int) (v:Value) (A:Chs),BN l m k acc = some AQ∧SO acc v A∧D' = A ++ E∧vs = [lv,v,I k])
  (n:=l.length + 2) ⟨rfl,0,out1,v,A,hr1,so,rfl,rfl⟩ ?_
 clear so;rintro m e R3 D3 K3 ⟨hR,i,acc,v,A,hra,so,hD,he⟩ hK3;subst hR;rw[hD];clear hD;simp only[List.map,zc,zl,zj,z_t] at he;simp only[he];obtain⟨hl2,hl3⟩:=GM hra;obtain⟨m,rfl⟩:∃k,m = k + 1:=by
  cases m with
  | zero=>cases hra
  | succ m=>exact⟨m,rfl⟩
 unfold BN at hra;obtain⟨hsl,hrd⟩:=so.rd (R:=R3) (E:=E);refine CN hsl (jlt (jif (λhc=>?_) (λhc=>?_)));rotate_left
 ·have hc:=z_g hc;rw[ZW (by omega)] at hra;cases hra;exact hK2 _ _ _ ⟨rfl,v,A,so,rfl,rfl⟩
 have hc:i < acc.length:=by have:=z_f hc;omega
 rw[Yl hc] at hra;obtain⟨t,ht,hra⟩:=AE hra;obtain⟨acc1,hna,hra⟩:=AE hra;have hl4:=(GM hra).1;refine AJ (λvs R' D'=>R' = R3∧∃v A,SO acc1 v A∧D' = A ++ E∧vs = [lv,v,I i]) (λK4 hK4=>?_) ?_;rotate_left
 ·rintro e R2 D2 ⟨hR,v,A,so,hD,he⟩;subst hR;rw[hD];clear hD;simp only[List.map,zc,zl,zj,z_t] at he;simp only[he];refine jad ?_;exact hK3 m _ _ _ (by omega) ⟨rfl,i + 1,acc1,v,A,hra,so,rfl,rfl⟩
 refine AJ (λvs R' D'=>R' = R3∧∃v A,SO acc1 v A∧D' = A ++ E∧vs = [lv,v,I i]) (λK5 hK5=>?_) ?_;rotate_left
 ·rintro e R2 D2 ⟨hR,v,A,so,hD,he⟩;rw[hD];clear hD;simp only[List.map,zc,zl,zj,z_t] at he;simp only[he];exact hK4 _ _ _ ⟨hR,v,A,so,rfl,rfl⟩
 refine BH (D':=(A ++ E) ++ []) (by rw[ZV]) (hrd [] i hc _ ?_);rw[ZV];obtain⟨n,hn2,hp,rfl⟩:=EE ht;refine jro (Dj _ hlv (by omega)) ?_;rw[hp];refine jtg hlv hn2 λb2 o2 ty cs rv nv hrv hnv hb ho hrow=>?_
 have hrfn:=hrf _ (Yv hn2);obtain⟨ra,rc,rfl⟩:=hrv.sl;obtain⟨na,nc,rfl⟩:=hnv.sl;refine HL hb ho hrow ?_;refine ja λb3=>?_
 refine js (cs':=eTh l[n] (.slice ra l[n].refs.length rc) (.slice na l[n].nums.length nc)) rfl rfl (by exact z_n 6) rfl ?_;refine BH ZG.symm ?_;refine AJ (λvs R' D'=>R' = R3∧∃v A,SO acc1 v A∧D' = A ++ E∧vs = [lv,v,I i]) (λK6 hK6=>?_) ?_;rotate_left
 ·rintro e R2 D2 ⟨hR,v,A,so,hD,he⟩;rw[hD];clear hD;simp only[List.map,zc,zl,zj,z_t] at he;simp only[he];exact hK5 _ _ _ ⟨hR,v,A,so,rfl,rfl⟩
 refine jlp (λm vs R' D'=>R' = R3∧∃(j:Nat) (acc:List Int) (v:Value) (A:Chs),j≤(l[n]).refs.length∧Ao l ((l[n]).refs.drop j) acc = some acc1∧SO acc v A∧D' = A ++ ((b3,C As (eTh l[n] (.slice ra l[n].refs.length rc) (.slice na l[n].nums.length nc))) :: E)∧vs = [lv,v,I i,Pt b3,I j]∧m = (l[n]).refs.length - j)
  (n:=(l[n]).refs.length) ⟨rfl,0,acc,v,A,by omega,hna,so,rfl,rfl,by omega⟩ ?_
 clear hna so hrd;rintro m2 e R2 D2 K7 ⟨hR,j,acc,v,A,hj,hna,so,hD,he,hm⟩ hK7;subst hR;rw[hD];clear hD;simp only[List.map,zc,zl,zj,z_t] at he;simp only[he];have hl5:=DZ hna;refine jl (v:=.slice ra l[n].refs.length rc) rfl (jln (jlt (jif (λhd=>?_) (λhd=>?_))));rotate_left
 ·have hd:=z_g hd;rw[Z2 (by omega)] at hna;cases hna;refine Ai A (G:=E) ?_;exact hK6 _ _ _ ⟨rfl,v,A,so,rfl,rfl⟩
 have hd:j < (l[n]).refs.length:=by have:=z_f hd;omega
 rw[Yu hd] at hna;unfold Ao at hna;obtain⟨x,hx,hna⟩:=AE hna;refine AJ (λvs R' D'=>R' = R2∧∃v A,SO (CQ acc x) v A∧D' = A ++ ((b3,C As (eTh l[n] (.slice ra l[n].refs.length rc) (.slice na l[n].nums.length nc))) :: E)∧vs = [lv,v,I i,Pt b3,I j]) (λK8 hK8=>?_) ?_;rotate_left
 ·rintro e R3 D3 ⟨hR,v,A,so,hD,he⟩;subst hR;rw[hD];clear hD;simp only[List.map,zc,zl,zj,z_t] at he;simp only[he];refine jad ?_;exact hK7 ((l[n]).refs.length - (j + 1)) _ _ _ (by omega) ⟨rfl,j + 1,_,v,A,by omega,hna,so,rfl,rfl,rfl⟩
 refine AJ (λvs R' D'=>R' = R2∧∃v A,SO (CQ acc x) v A∧D' = A ++ ((b3,C As (eTh l[n] (.slice ra l[n].refs.length rc) (.slice na l[n].nums.length nc))) :: E)∧vs = [lv,v,I i,Pt b3,I j]) (λK9 hK9=>?_) ?_;rotate_left
 ·rintro e R3 D3 ⟨hR,v,A,so,hD,he⟩;rw[hD];clear hD;simp only[List.map,zc,zl,zj,z_t] at he;simp only[he];exact hK8 _ _ _ ⟨hR,v,A,so,rfl,rfl⟩
 refine jl (v:=.slice ra l[n].refs.length rc) rfl (Bv hrv (by omega) (by omega) ?_);rw[getElem_congr_idx (Yj j)];refine jro (GV hlv (by omega) hx) ?_;obtain⟨sa,sn,sc,hsl⟩:=so.sl;refine jan [lv,v,I i,Pt b3,I j,I x] (((x != 0)) && (decide (Bi acc x < 0))) (λK' hK'=>?_) (λe c u ho he=>?_)
 ·refine jne (Bm (λh1=>?_) (λh1=>?_))
  ·refine jro (HQ x so.rd (by omega)) (jlt (hK' _ _ _ (h1▸Aq) (by rw[h1,Yx])))
  ·exact hK' _ _ _ (h1▸Av) (by rw[h1,Yy])
 simp only[List.map,zc,zl,zj,z_t] at he;simp only[he];rw[ho];refine jif (λh0=>?_) (λh0=>?_)
 ·refine jbs (cs:=[I x]) rfl rfl λb1=>?_
  refine Hr (A:=A) so (by omega) λv' A' so'=>?_
  exact hK9 _ _ _ ⟨rfl,v',A',by rw[N5 h0];exact so',rfl,rfl⟩
 ·exact hK9 _ _ _ ⟨rfl,v,A,SG (R:=R2) (D:=[]) h0 so,rfl,rfl⟩
end Go.Lf
end
section
namespace Go.Lf
open Go Sm
theorem WJ {R:RM} {A E:Chs} {l:List Int} {v:Value} {x:Int} {i:Nat} {m:M} (so:SO l v A) (hi:i < l.length) (H:∀A',SO (l.set i x) v A'→J R (A' ++ E) m):J R (A ++ E) (IA 1 v (I (i:Int)) λq=>ST 1 q (I x) m):=by
 rcases so with ⟨rfl,_,_⟩ | ⟨b,c,sp,hc,hsp,rfl,rfl⟩
 ·exact absurd hi (by simp)
 ·refine Cs hi (jsi (l:=l) (sp:=sp) (D':=[(b,C Ac ((l.set i x).map I ++ sp))] ++ E) (by exact hi) ?_);exact H _ (.inr ⟨b,c,sp,by simpa using hc,by simpa using hsp,by rw[ZX],rfl⟩)
theorem PO (l:List Int) (x:Int):(Fi l x).length = l.length + 1:=by
 unfold Fi;have:∀k,DX l x k≤k:=by
  intro k;induction k with
  | zero=>exact z_n 0
  | succ k ih=>unfold DX;split<;>omega
 have:=this l.length;simp only[Yn,Z0,Z8,ZO];omega
theorem FQ:∀(l acc:List Int),(l.foldl Fi acc).length = acc.length + l.length
 | [],acc=>by simp
 | a :: r,acc=>by rw[aQ,FQ r,PO];simp;omega
theorem LY {R:RM} {v:Value} {l:List Int} (h:BC R v l) (hl:l.length < 1000000):Fn P HV [v] R [] (λv' R' A=>R' = R∧SO (Ak l) v' A):=by
 refine O8 λF=>?_
 unfold IU;refine AJ (λvs R' D'=>R' = R∧∃v' A,SO (Ak l) v' A∧D' = A ++ F∧vs = [v']) (λK hK=>?_) ?_;rotate_left
 ·rintro e R3 D3 ⟨hR,v',A,so,hD,he⟩;subst hR;rw[hD];clear hD;simp only[List.map,zc,zl,zj,z_t] at he;simp only[he];exact BA (A:=A) (RM.le.refl R3) ⟨rfl,so⟩
 refine AJ (λvs R' D'=>R' = R∧∃v' A,SO (Ak l) v' A∧D' = A ++ F∧vs = [v']) (λK2 hK2=>?_) ?_;rotate_left
 ·rintro e R3 D3 ⟨hR,v',A,so,hD,he⟩;rw[hD];clear hD;simp only[List.map,zc,zl,zj,z_t] at he;simp only[he];exact hK _ _ _ ⟨hR,v',A,so,rfl,rfl⟩
 refine jlp (λm vs R' D'=>R' = R∧∃(k:Nat) (acc:List Int) (v' : Value) (A:Chs),k≤l.length∧acc.length = k∧(l.drop k).foldl Fi acc = Ak l∧SO acc v' A∧D' = A ++ F∧vs = [v,v',I k]∧m = l.length - k)
  (n:=l.length) ⟨rfl,0,[],.slice none 0 0,[],by omega,rfl,rfl,.inl ⟨rfl,rfl,rfl⟩,rfl,rfl,by omega⟩ ?_
 rintro m e R1 D1 K3 ⟨hR,k,acc,v',A,hk,hal,hra,so,hD,he,hm⟩ hK3;subst hR;rw[hD];clear hD;simp only[List.map,zc,zl,zj,z_t] at he;simp only[he];refine CN h.sl (jlt (jif (λhc=>?_) (λhc=>?_)));rotate_left
 ·have hc:=z_g hc;rw[Z2 (by omega),List.foldl_nil] at hra;subst hra;exact hK2 _ _ _ ⟨rfl,v',A,so,rfl,rfl⟩
 have hc:k < l.length:=by have:=z_f hc;omega
 rw[Yu hc,aQ] at hra;refine AJ (λvs R' D'=>R' = R1∧∃v' A,SO (Fi acc l[k]) v' A∧D' = A ++ F∧vs = [v,v',I k]) (λK4 hK4=>?_) ?_;rotate_left
 ·rintro e R2 D2 ⟨hR,v',A,so,hD,he⟩;subst hR;rw[hD];clear hD;simp only[List.map,zc,zl,zj,z_t] at he;simp only[he];refine jad ?_;exact hK3 (l.length - (k + 1)) _ _ _ (by omega) ⟨rfl,k + 1,_,v',A,by omega,by rw[PO,hal],hra,so,rfl,rfl,rfl⟩
 refine AJ (λvs R' D'=>R' = R1∧∃v' A,SO (Fi acc l[k]) v' A∧D' = A ++ F∧vs = [v,v',I k]) (λK5 hK5=>?_) ?_;rotate_left
 ·rintro e R2 D2 ⟨hR,v',A,so,hD,he⟩;rw[hD];clear hD;simp only[List.map,zc,zl,zj,z_t] at he;simp only[he];exact hK4 _ _ _ ⟨hR,v',A,so,rfl,rfl⟩
 obtain⟨hsl,-⟩:=so.rd (R:=R1) (E:=F);refine CN hsl (Bv h (by omega) (by omega) ?_);rw[getElem_congr_idx (Yj k)];generalize l[k] = x at hK5;refine jbs (cs:=[I x]) rfl rfl λb1=>?_
 refine Hr (A:=A) so (by omega) λv2 A2 so2=>?_
 refine AJ (λvs R' D'=>R' = R1∧∃v' A,SO (Fi acc x) v' A∧D' = A ++ F∧vs = [v,v',I k]) (λK6 hK6=>?_) ?_;rotate_left
 ·rintro e R2 D2 ⟨hR,v',A,so,hD,he⟩;rw[hD];clear hD;simp only[List.map,zc,zl,zj,z_t] at he;simp only[he];exact hK5 _ _ _ ⟨hR,v',A,so,rfl,rfl⟩
 refine jlp (λm vs R' D'=>R' = R1∧∃(i:Nat) (cur:List Int) (A:Chs),i≤acc.length∧cur = acc.take i ++ x :: acc.drop i∧DX acc x i = DX acc x acc.length∧SO cur v2 A∧D' = A ++ F∧vs = [v,v2,I k,I i]∧m = i)
  (n:=acc.length) ⟨rfl,acc.length,acc ++ [x],A2,by omega,by simp,rfl,so2,rfl,rfl,rfl⟩ ?_
 clear so so2;rintro m2 e R2 D2 K7 ⟨hR,i,cur,A,hi,hcur,hip,so,hD,he,hm⟩ hK7;subst hR;rw[hD];clear hD;simp only[List.map,zc,zl,zj,z_t] at he;simp only[he];have hcl:cur.length = acc.length + 1:=by rw[hcur];simp;omega
 obtain⟨-,hrd⟩:=so.rd (R:=R2) (E:=F);have hrd' : ∀(i:Nat) (h:i < cur.length) (k:Value→M),J R2 (A ++ F) (k (I cur[i]))→J R2 (A ++ F) (IA 1 v2 (I (i:Int)) λx=>L1 x k):=λi h k H=>by
  have:=hrd [] i h k (by rw[ZV];exact H);rw[ZV] at this;exact this
 have gi:cur[i]'(by omega) = x:=by
  subst hcur;rw[Zq (by simp;omega)];simp[Nat.min_eq_left hi]
 cases i with
 | zero=>
  refine Ct (jgr ?_);rw[decide_eq_false (by decide)];refine jft (CH λe he=>?_);simp only[List.map,zc,zl,zj,z_t] at he;simp only[he];refine EC (Cn ?_);refine hK6 _ _ _ ⟨rfl,v2,A,?_,rfl,rfl⟩;have:Fi acc x = cur:=by
   unfold Fi;rw[← hip,hcur];rfl
  rw[this];exact so
 | succ i=>
  have gp:cur[i]'(by omega) = acc[i]'(by omega):=by
   subst hcur;rw[Zs (by simp;omega),aZ]
  obtain⟨y,hy⟩:∃y,acc[i]'(by omega) = y:=⟨_,rfl⟩;rw[hy] at gp;have es:((i + 1:Nat):Int) - 1 = (i:Nat):=by omega
  have hip2:(if x < acc.getD i 0 then DX acc x i else i + 1) = DX acc x acc.length:=hip;rw[Z5,Yl (by omega),Zx,hy] at hip2;refine Ct (jgr ?_);rw[decide_eq_true (by omega)];refine jtt (jsu ?_);rw[es];refine hrd' i (by omega) _ (hrd' (i + 1) (by omega) _ (jgr (CH λe he=>?_)));simp only[List.map,zc,zl,zj,z_t] at he;simp only[he];rw[gp,gi];refine ED (jif (λh1=>?_) (λh1=>?_))
  ·have h1:x < y:=z_f h1;rw[if_pos h1] at hip2;refine jsu ?_;rw[es];refine hrd' i (by omega) _ (jsu ?_);rw[es];refine hrd' (i + 1) (by omega) _ ?_;refine WJ so (by omega) λA3 so3=>?_
   refine WJ so3 (by rw[ZX];omega) λA4 so4=>?_
   refine jsu ?_;rw[es];rw[gp,gi] at so4;refine hK7 i _ _ _ (by omega) ⟨rfl,i,_,A4,by omega,?_,hip2,so4,rfl,rfl,rfl⟩;have e1:acc.take (i + 1) = acc.take i ++ [y]:=by rw[Yq (by omega),hy]
   have e2:acc.drop i = y :: acc.drop (i + 1):=by rw[Yu (by omega),hy]
   have l1:(acc.take i).length = i:=by simp;omega
   rw[hcur,e1,e2,Ys,Zw _ _ (by omega),Zw _ _ (by omega),l1];simp
  ·have h1:¬ x < y:=z_g h1;rw[if_neg h1] at hip2;refine hK6 _ _ _ ⟨rfl,v2,A,?_,rfl,rfl⟩;have:Fi acc x = cur:=by
    unfold Fi;rw[← hip2,hcur]
   rw[this];exact so
def TB (l:List AZ):Prop:=∀t∈l,0≤t.at_∧t.at_ < 1000000∧t.refs.length≤4∧t.nums.length≤4
theorem Xx {w:List Int} {a:Int} (hl:w.length < 1000000) (h:(BB w a).2 = true):0≤(BB w a).1.at_∧(BB w a).1.at_ < 1000000∧(BB w a).1.refs.length≤4∧(BB w a).1.nums.length≤4:=by
 unfold BB at h ⊢;split at h
 ·rename_i h1;rw[if_pos h1];dsimp only at h ⊢;split at h
  ·rename_i h2;rw[if_pos h2];simp only[z_b] at h2;have:=F6 h2.1;have:=FG h1;dsimp only;refine⟨by omega,by omega,?_,?_⟩
   ·unfold seg;rw[Z0];omega
   ·unfold seg;rw[Z0];omega
  ·exact absurd h (by decide)
 ·exact absurd h (by decide)
theorem SK {w:List Int} (hl:w.length < 1000000):∀{n:Nat} {a top:Int} {l:List AZ},Ay w n a top = some l→TB l
 | 0,a,top,l,h=>by
  unfold Ay at h;split at h
  ·cases h
  ·cases h;intro t ht;cases ht
 | n + 1,a,top,l,h=>by
  unfold Ay at h;split at h
  ·dsimp only at h;split at h
   ·rename_i hc;simp only[z_b] at hc;split at h
    ·rename_i l2 h2;cases h;intro t ht;rcases Yw.1 ht with rfl | ht
     ·exact Xx hl hc.1
     ·exact SK hl h2 t ht
    ·cases h
   ·cases h
  ·cases h;intro t ht;cases ht
theorem Ko {w:List Int} (hl:w.length < 1000000):∀{t:List Rg} {r:Nat} {l:List AZ},Bg w r t = some l→TB l∧l.length≤16 * t.length
 | [],r,l,h=>by
  cases h;exact⟨λt ht=>(by cases ht),by simp⟩
 | x :: t,r,l,h=>by
  unfold Bg at h;split at h
  ·cases h
  ·rename_i a ha;split at h
   ·cases h
   ·rename_i b hb;cases h;obtain⟨h1,h2⟩:=Ko hl hb;have h3:=Qw ha;have h4:TB a:=by
     unfold BL at ha;split at ha
     ·exact SK hl ha
     ·cases ha
    refine⟨λt ht=>?_,by rw[Yn,Z8];omega⟩;rcases ZD.1 ht with ht | ht
    ·exact h4 t ht
    ·exact h1 t ht
theorem FT {w w' : List Int} {a v:Int} (h:Sm.wr w a v = some w'):0≤a∧a < w.length∧w' = w.set a.toNat v:=by
 unfold Sm.wr at h;split at h
 ·rename_i hc;cases h;exact⟨hc.1,hc.2,rfl⟩
 ·cases h
theorem Ts {R:RM} {s:Sm.B7} {wv tv mv thv ov pv lv:Value} {l:List AZ} {w w' : List Int} {t t' : List Rg} {wsp tsp:List Value} {bw cw bt ct:Nat} (h:StC R s wv tv mv thv ov pv) (hlv:Tgs R lv l) (htb:TB l) (hll:l.length < 1000000)
  (hp:∀a∈s.AO,AS a≤9223372036854775807) (hpl:s.AO.length < 1000000) (hS:stay s l w t = some (w',t')) :
  Fn P L4 [.agg (eSt s wv tv mv thv ov pv).toArray,lv,S0 bw w.length cw,S0 bt t.length ct] R
   [(bw,C Ac (w.map I ++ wsp)),(bt,C AI (Ab eRg t ++ tsp))] (λ_ R' A=>R' = R∧w'.length = w.length∧t'.length = t.length∧A = [(bw,C Ac (w'.map I ++ wsp)),(bt,C AI (Ab eRg t' ++ tsp))]):=by
 refine RB λF=>?_
 unfold L5;refine ja λb=>?_
 rw[show cl (.agg (eSt s wv tv mv thv ov pv).toArray) = eSt s wv tv mv thv ov pv from rfl];refine jlp (λm vs R' D'=>R' = R∧∃(i:Nat) (w1:List Int) (t1:List Rg),i≤l.length∧w1.length = w.length∧t1.length = t.length∧stay s (l.drop i) w1 t1 = some (w',t')∧D' = (b,C AK (eSt s wv tv mv thv ov pv)) :: (bw,C Ac (w1.map I ++ wsp)) :: (bt,C AI (Ab eRg t1 ++ tsp)) :: F∧vs = [lv,S0 bw w.length cw,S0 bt t.length ct,Pt b,I i]∧m = l.length - i)
  (n:=l.length) ⟨rfl,0,w,t,by omega,rfl,rfl,hS,rfl,rfl,by omega⟩ ?_
 clear hS;rintro m e R1 D1 K ⟨hR,i,w1,t1,hi,hwl,htl,hS,hD,he,hm⟩ hK;subst hR;rw[hD];clear hD;simp only[List.map,zc,zl,zj,z_t] at he;simp only[he];refine CN hlv.sl (jlt (jif (λhc=>?_) (λhc=>?_)));rotate_left
 ·have hc:=z_g hc;rw[Z2 (by omega)] at hS;cases hS;refine BA (A:=[(bw,C Ac (w'.map I ++ wsp)),(bt,C AI (Ab eRg t' ++ tsp))]) (RM.le.refl R1) ⟨rfl,hwl,htl,rfl⟩
 have hc:i < l.length:=by have:=z_f hc;omega
 rw[Yu hc] at hS;obtain⟨a0,a1,r1,n1⟩:=htb _ (Yv hc);unfold stay at hS;dsimp only at hS;have hreg:AS (l[i]).at_≤9223372036854775807:=by unfold AS;split<;>omega
 refine AJ (λvs R' D'=>R' = R1∧∃(w2:List Int) (t2:List Rg),w2.length = w.length∧t2.length = t.length∧stay s (l.drop (i + 1)) w2 t2 = some (w',t')∧D' = (b,C AK (eSt s wv tv mv thv ov pv)) :: (bw,C Ac (w2.map I ++ wsp)) :: (bt,C AI (Ab eRg t2 ++ tsp)) :: F∧vs = [lv,S0 bw w.length cw,S0 bt t.length ct,Pt b,I i]) (λK4 hK4=>?_) ?_;rotate_left
 ·rintro e R2 D2 ⟨hR,w2,t2,hwl2,htl2,hS2,hD,he⟩;subst hR;rw[hD];clear hD;simp only[List.map,zc,zl,zj,z_t] at he;simp only[he];refine jad ?_;exact hK (l.length - (i + 1)) _ _ _ (by omega) ⟨rfl,i + 1,w2,t2,by omega,hwl2,htl2,hS2,rfl,rfl,rfl⟩
 refine AJ (λvs R' D'=>R' = R1∧∃(w2:List Int) (t2:List Rg),w2.length = w.length∧t2.length = t.length∧stay s (l.drop (i + 1)) w2 t2 = some (w',t')∧D' = (b,C AK (eSt s wv tv mv thv ov pv)) :: (bw,C Ac (w2.map I ++ wsp)) :: (bt,C AI (Ab eRg t2 ++ tsp)) :: F∧vs = [lv,S0 bw w.length cw,S0 bt t.length ct,Pt b,I i]) (λK5 hK5=>?_) ?_;rotate_left
 ·rintro e R2 D2 ⟨hR,w2,t2,hwl2,htl2,hS2,hD,he⟩;rw[hD];clear hD;simp only[List.map,zc,zl,zj,z_t] at he;simp only[he];exact hK4 _ _ _ ⟨hR,w2,t2,hwl2,htl2,hS2,rfl,rfl⟩
 obtain⟨rows,hrw,hfz⟩:=hlv;have hi' : i < rows.length:=by rw[hrw.1];exact hc
 obtain⟨bl,ol,capl,tyl,csl,hlve,hbl,hol,hcl⟩:=O0 hfz (hrw.all λ_ _=>ThC.len) hi';obtain⟨rv,nv,erow,hrv,hnv⟩:=hrw.2 i hi' hc;rw[erow] at hcl;have hlv:Tgs R1 lv l:=⟨rows,hrw,hfz⟩;have ia:∀{D:Chs} {k:Value→M},J R1 D (k (.pointer (some ⟨bl,ol + i * 6,none⟩)))→J R1 D (IA 6 lv (I (i:Int)) k):=λH=>by
  rw[hlve];refine jia (by omega) (by omega) ?_;rw[Yj];exact H
 have g0:csl[ol + i * 6 + 0]? = some (I (l[i]).at_):=C6 hcl (f:=0) rfl;have g4:csl[ol + i * 6 + 4]? = some rv:=C6 hcl (f:=4) rfl;have g5:csl[ol + i * 6 + 5]? = some nv:=C6 hcl (f:=5) rfl;have g2:(csl.drop (ol + i * 6 + 2)).take 2 = [I (l[i]).sh.refs,I (l[i]).sh.nums]:=by
  have:=congrArg (λx=>(x.drop 2).take 2) hcl;simp only[aO,ad,aV] at this;simpa [eTh] using this
 refine ia (jfo (jlr hbl g0 (jp (CJ _ hreg) ?_)));refine jla (t:=AK) (cs:=eSt s wv tv mv thv ov pv) (l:=eSt s wv tv mv thv ov pv) (by exact z_n 13) rfl ?_;refine jro (Kd (AS (l[i]).at_) h hp hpl) (jif (λhh=>?_) (λhh=>?_));rotate_left
 ·rw[if_neg (by rw[hh];decide)] at hS;exact hK5 _ _ _ ⟨rfl,w1,t1,hwl,htl,hS,rfl,rfl⟩
 rw[if_pos hh] at hS;obtain⟨w2,hw2,hS⟩:=AE hS;obtain⟨w3,hw3,hS⟩:=AE hS;obtain⟨w4,hw4,hS⟩:=AE hS;obtain⟨row,hrow,hS⟩:=AE hS;obtain⟨row2,hrow2,hS⟩:=AE hS;obtain⟨q1,q2,q3⟩:=FT hw2;obtain⟨q4,q5,q6⟩:=FT hw3;refine ia (jfo (jlr hbl g0 (ia (jfo (jlr hbl g0 ?_)))));refine jia q1 (by omega) ?_;refine jsi (l:=w1) (sp:=wsp) (by omega) ?_;rw[← q3];refine ia (jfo (jlr hbl g0 (jad (ia (jfo (HL hbl (by omega) g2 ?_))))));refine jp (E2 (l[i]).sh) ?_;have hl2:w2.length = w1.length:=by rw[q3,ZX]
 refine jia q4 (by omega) ?_;refine Ae (jlr hbl g0 jev) ?_;refine jsi (l:=w2) (sp:=wsp) (by omega) ?_;rw[← q6];have hl3:w3.length = w2.length:=by rw[q6,ZX]
 obtain⟨z0,z1,z2,z3⟩:=Ap hrow;obtain⟨y0,y1,y2,y3⟩:=Ap hrow2;obtain⟨k0,hk0⟩:∃k:Nat,AS (l[i]).at_ = k:=⟨(AS (l[i]).at_).toNat,by omega⟩;refine AJ (λvs R' D'=>R' = R1∧w4.length = w.length∧D' = (b,C AK (eSt s wv tv mv thv ov pv)) :: (bw,C Ac (w4.map I ++ wsp)) :: (bt,C AI (Ab eRg t1 ++ tsp)) :: F∧vs = [lv,S0 bw w.length cw,S0 bt t.length ct,Pt b,I i,I (AS (l[i]).at_)]) (λK6 hK6=>?_) ?_;rotate_left
 ·rintro e R2 D2 ⟨hR,hwl2,hD,he⟩;subst hR;rw[hD];clear hD;simp only[List.map,zc,zl,zj,z_t] at he;simp only[he];rw[hk0] at hS ⊢;have hk1:k0 < s.A0.length:=by omega
  have hk2:k0 < t1.length:=by omega
  have ez:s.A0[k0] = row:=by rw[← z3];exact getElem_congr_idx (by omega)
  refine jl (v:=tv) rfl (jrg h.t hk1 λb2 o2 ty cs hb ho hrw2=>?_);refine jfo (jlr (v:=I (s.A0[k0]).top) hb (C6 hrw2 (f:=2) rfl) ?_);refine jl (v:=tv) rfl (jrg h.t hk1 λb3 o3 ty3 cs3 hb3 ho3 hrw3=>?_);refine jfo (jlr (v:=I (s.A0[k0]).top) hb3 (C6 hrw3 (f:=2) rfl) ?_);rw[ez];refine jbd (cs:=eRg ⟨3,-1,row.top,row.top,0⟩) rfl rfl ?_;refine Cs (by omega) (Ha (x:=⟨3,-1,row.top,row.top,0⟩) hk2 ?_);exact hK5 _ _ _ ⟨rfl,w4,t1.set k0 ⟨3,-1,row.top,row.top,0⟩,hwl2,by rw[ZX];exact htl,by simpa [AW] using hS,rfl,rfl⟩
 refine AJ (λvs R' D'=>R' = R1∧w4.length = w.length∧D' = (b,C AK (eSt s wv tv mv thv ov pv)) :: (bw,C Ac (w4.map I ++ wsp)) :: (bt,C AI (Ab eRg t1 ++ tsp)) :: F∧vs = [lv,S0 bw w.length cw,S0 bt t.length ct,Pt b,I i,I (AS (l[i]).at_)]) (λK7 hK7=>?_) ?_;rotate_left
 ·rintro e R2 D2 ⟨hR,hwl2,hD,he⟩;rw[hD];clear hD;simp only[List.map,zc,zl,zj,z_t] at he;simp only[he];exact hK6 _ _ _ ⟨hR,hwl2,rfl,rfl⟩
 refine jlp (λm vs R' D'=>R' = R1∧∃(k:Nat) (w5:List Int),k≤(l[i]).nums.length∧w5.length = w.length∧wrs w5 ((l[i]).at_ + 2 + (l[i]).refs.length + k) ((l[i]).nums.drop k) = some w4∧D' = (b,C AK (eSt s wv tv mv thv ov pv)) :: (bw,C Ac (w5.map I ++ wsp)) :: (bt,C AI (Ab eRg t1 ++ tsp)) :: F∧vs = [lv,S0 bw w.length cw,S0 bt t.length ct,Pt b,I i,I (AS (l[i]).at_),I k]∧m = (l[i]).nums.length - k)
  (n:=(l[i]).nums.length) ⟨rfl,0,w3,by omega,by omega,by simpa using hw4,rfl,rfl,by omega⟩ ?_
 rintro m3 e R2 D2 K8 ⟨hR,k,w5,hk,hwl5,hws,hD,he,hm⟩ hK8;subst hR;rw[hD];clear hD;simp only[List.map,zc,zl,zj,z_t] at he;simp only[he];refine ia (jfo (jlr hbl g5 (CN hnv.sl (jlt (jif (λhd=>?_) (λhd=>?_))))));rotate_left
 ·have hd:=z_g hd;rw[Z2 (by omega)] at hws;cases hws;exact hK7 _ _ _ ⟨rfl,hwl5,rfl,rfl⟩
 have hd:k < (l[i]).nums.length:=by have:=z_f hd;omega
 rw[Yu hd] at hws;unfold wrs at hws;obtain⟨w6,hw6,hws⟩:=AE hws;obtain⟨p1,p2,p3⟩:=FT hw6;refine ia (jfo (jlr hbl g0 (jad (ia (jfo (jlr hbl g4 (CN hrv.sl (jad (jad ?_)))))))));refine ia (jfo (jlr hbl g5 (Bv hnv (by omega) (by omega) ?_)));rw[getElem_congr_idx (Yj k)];refine jia p1 (by omega) ?_;refine jsi (l:=w5) (sp:=wsp) (by omega) ?_;rw[← p3];refine jad ?_;exact hK8 ((l[i]).nums.length - (k + 1)) _ _ _ (by omega) ⟨rfl,k + 1,w6,by omega,by rw[p3,ZX];exact hwl5,by rw[← hws];congr 1;omega,rfl,rfl,rfl⟩
theorem MP (cf:Cfg):Pu IP [.agg #[I cf.AC,I cf.AA,I cf.AN]] (.bool (BY cf)):=by
 intro R;refine OE λF=>?_
 unfold IH;refine ja λb=>?_
 rw[show cl (.agg #[I cf.AC,I cf.AA,I cf.AN]) = [I cf.AC,I cf.AA,I cf.AN] from rfl];refine jan [Pt b] ((decide (cf.AC≥3)) && (decide (cf.AC≤12))) (λK' hK'=>?_) (λe c u ho he=>?_)
 ·refine jl (v:=I cf.AC) rfl (jge (Bm (λh1=>?_) (λh1=>?_)))
  ·refine jl (v:=I cf.AC) rfl (jle (hK' _ _ _ (h1▸Aq) (by rw[h1,Yx])))
  ·exact hK' _ _ _ (h1▸Av) (by rw[h1,Yy])
 simp only[List.map,zc,zl,zj,z_t] at he;simp only[he];refine jan [Pt b] ((decide (cf.AC≥3) && decide (cf.AC≤12)) && (decide (cf.AA≥1))) (λK' hK'=>?_) (λe c u ho he=>?_)
 ·rw[ho];refine Bm (λh1=>?_) (λh1=>?_)
  ·refine jl (v:=I cf.AA) rfl (jge (hK' _ _ _ (h1▸Aq) (by rw[h1,Yx])))
  ·exact hK' _ _ _ (h1▸Av) (by rw[h1,Yy])
 simp only[List.map,zc,zl,zj,z_t] at he;simp only[he];refine jan [Pt b] ((decide (cf.AC≥3) && decide (cf.AC≤12) && decide (cf.AA≥1)) && (decide (cf.AA≤3))) (λK' hK'=>?_) (λe c u ho he=>?_)
 ·rw[ho];refine Bm (λh1=>?_) (λh1=>?_)
  ·refine jl (v:=I cf.AA) rfl (jle (hK' _ _ _ (h1▸Aq) (by rw[h1,Yx])))
  ·exact hK' _ _ _ (h1▸Av) (by rw[h1,Yy])
 simp only[List.map,zc,zl,zj,z_t] at he;simp only[he];refine jan [Pt b] ((decide (cf.AC≥3) && decide (cf.AC≤12) && decide (cf.AA≥1) && decide (cf.AA≤3)) && (decide (cf.AN≥0))) (λK' hK'=>?_) (λe c u ho he=>?_)
 ·rw[ho];refine Bm (λh1=>?_) (λh1=>?_)
  ·refine jl (v:=I cf.AN) rfl (jge (hK' _ _ _ (h1▸Aq) (by rw[h1,Yx])))
  ·exact hK' _ _ _ (h1▸Av) (by rw[h1,Yy])
 simp only[List.map,zc,zl,zj,z_t] at he;simp only[he];refine jan [] ((decide (cf.AC≥3) && decide (cf.AC≤12) && decide (cf.AA≥1) && decide (cf.AA≤3) && decide (cf.AN≥0)) && (decide (cf.AN≤100))) (λK' hK'=>?_) (λe c u ho he=>?_)
 ·rw[ho];refine Bm (λh1=>?_) (λh1=>?_)
  ·refine jl (v:=I cf.AN) rfl (jle (hK' _ _ _ (h1▸Aq) (by rw[h1,Yx])))
  ·exact hK' _ _ _ (h1▸Av) (by rw[h1,Yy])
 simp only[List.map,zc,zl,zj,z_t] at he;simp only[he];rw[ho];exact BA (A:=[]) (RM.le.refl R) rfl
def W7 (t:List Rg) (v:Value) (N:Chs):Prop:=if t = [] then v = .tuple #[.slice none 0 0,.bool false]∧N = [] else ∃sv,Vx t sv N∧v = .tuple #[sv,.bool true]
theorem M7 {R:RM} {D:Chs} (n:Int):Mk Ic [I n] R D (W7 (AU n)):=by
 refine O9 λF=>?_
 unfold Hf;refine jor [I n] ((decide (n < 2)) || (decide (n > 12))) (λK' hK'=>?_) (λe c u ho he=>?_)
 ·refine jlt (BM (λh1=>?_) (λh1=>?_))
  ·refine jgr (hK' _ _ _ (h1▸Aj) (by rw[h1,Yk]))
  ·exact hK' _ _ _ (h1▸Al) (by rw[h1,Ym])
 simp only[List.map,zc,zl,zj,z_t] at he;simp only[he];rw[ho];refine jif (λh0=>?_) (λh0=>?_)
 ·have:AU n = []:=by
   unfold AU;rw[if_pos];simpa using h0
  rw[this];exact Cz [] ⟨rfl,rfl⟩
 simp only[Z1,decide_eq_false_iff_not] at h0;obtain⟨k,rfl⟩:∃k:Nat,n = k:=⟨n.toNat,by omega⟩;have ht:AU k = DY :: (List.range (k - 1)).map λ(i:Nat)=>DR ((i:Int) + 1):=by
  unfold AU;rw[if_neg (by omega),Yj]
 have ht2:AU k = ((List.range k).map λj:Nat=>DR (j:Int)).set 0 DY:=by
  rw[ht,show k = (k - 1) + 1 by omega,List.range_succ_eq_map];simp
 refine AJ (λvs R' D'=>R' = R∧∃v A,SW AI 5 (((List.range k).map λj:Nat=>DR (j:Int)).map eRg) v A∧D' = A ++ (D ++ F)∧vs = [v]) (λK hK=>?_) ?_
 ·refine AJ (λvs R' D'=>R' = R∧∃v A,SW AI 5 (((List.range k).map λj:Nat=>DR (j:Int)).map eRg) v A∧D' = A ++ (D ++ F)∧vs = [v]) (λK2 hK2=>?_) ?_;rotate_left
  ·rintro e R1 D1 ⟨hR,v,A,so,hD,he⟩;rw[hD];clear hD;simp only[List.map,zc,zl,zj,z_t] at he;simp only[he];exact hK _ _ _ ⟨hR,v,A,so,rfl,rfl⟩
  refine jlp (λm vs R' D'=>R' = R∧∃(i:Nat) (v:Value) (A:Chs),i≤k∧SW AI 5 (((List.range i).map λj:Nat=>DR (j:Int)).map eRg) v A∧D' = A ++ (D ++ F)∧vs = [I k,v,I i]∧m = k - i)
   (n:=k) ⟨rfl,0,.slice none 0 0,[],by omega,.inl ⟨rfl,rfl,rfl⟩,rfl,rfl,by omega⟩ ?_
  rintro m e R1 D1 K3 ⟨hR,i,v,A,hi,so,hD,he,hm⟩ hK3;subst hR;rw[hD];clear hD;simp only[List.map,zc,zl,zj,z_t] at he;simp only[he];refine jlt (jif (λhc=>?_) (λhc=>?_));rotate_left
  ·have hc:i = k:=by have:=z_g hc;omega
   subst hc;exact hK2 _ _ _ ⟨rfl,v,A,so,rfl,rfl⟩
  have hc:i < k:=by have:=z_f hc;omega
  refine jp (BV i) (jp (BV i) ?_);refine jbd (cs:=eRg (DR (i:Int))) rfl rfl ?_;refine jbs (cs:=eRg (DR (i:Int))) rfl rfl λb4=>?_
  refine BH ZG.symm ?_;have hx:BQ R1 (A ++ ((b4,C AI (eRg (DR (i:Int)))) :: (D ++ F))) (some ⟨b4,0,none⟩) (1 * 5) [eRg (DR (i:Int))].flatten:=BQ.held (t:=AI) (cs:=eRg (DR (i:Int))) (o:=0) (n:=1 * 5) (z_n 5);refine jaw so (Uc _) (by intro r hr;rw[Z3.1 hr];rfl) rfl rfl rfl (by decide) (by simp only[ZF,List.length_range,Z4];omega) hx λv' A' so'=>?_
  refine jad ?_;refine Ai A' (G:=D ++ F) ?_;refine hK3 (k - (i + 1)) _ _ _ (by omega) ⟨rfl,i + 1,v',A',by omega,?_,rfl,rfl,rfl⟩;rw[List.range_succ,Zg,Zg];exact so'
 rintro e R1 D1 ⟨hR,v,A,so,hD,he⟩;subst hR;rw[hD];clear hD;simp only[List.map,zc,zl,zj,z_t] at he;simp only[he];rcases so with ⟨h1,_,_⟩ | ⟨b,c,sp,hc,hsp,rfl,rfl⟩
 ·have:=congrArg List.length h1;simp at this;omega
 rw[ZF] at hc ⊢;refine jbd (cs:=eRg DY) rfl rfl ?_;have hlen:((List.range k).map λj:Nat=>DR (j:Int)).length = k:=by simp
 refine BH (D':=(b,C AI (Ab eRg ((List.range k).map λj:Nat=>DR (j:Int)) ++ sp)) :: (D ++ F)) (ZP _) ?_;refine Cs (r:=0) (by omega) (Ha (i:=0) (x:=DY) (by omega) ?_);refine Cz [(b,C AI (Ab eRg (((List.range k).map λj:Nat=>DR (j:Int)).set 0 DY) ++ sp))] ?_;rw[ht2];unfold W7;rw[if_neg (by intro hn;have:=congrArg List.length hn;simp at this;omega)];exact⟨_,⟨b,c,sp,by rw[ZX];exact hc,by rw[ZX],rfl⟩,rfl⟩
theorem VJ {w:List Int} {n k:Nat} (h:n + k < w.length):(w.take n ++ List.replicate k 0 ++ w.drop (n + k)).set (n + k) 0 = w.take n ++ List.replicate (k + 1) 0 ++ w.drop (n + (k + 1)):=by
 have l1:(w.take n ++ List.replicate k (0:Int)).length = n + k:=by simp;omega
 rw[Zw _ _ (by omega),l1,Nat.sub_self,Yu h,List.set_cons_zero,List.replicate_succ',Ys,Ys,Ys,List.singleton_append,Nat.add_assoc]
def QMk (r:List Int × Bool) (v:Value) (A:Chs):Prop:=if r.2 then ∃sv,Um r.1 sv A∧v = .tuple #[sv,.bool true] else v = .tuple #[.slice none 0 0,.bool false]∧A = []
theorem O4 {w:List Int} {n z:Nat} {s:Shp} (h0:fits w.length n (AF s) = true) (hso:BG s = true) (hz:AF s = z) :
  CF w n s = ((((w.take n ++ List.replicate z 0 ++ w.drop (n + z)).set n (n:Int)).set (n + 1) (Am s)),true):=by
 obtain⟨a0,a1,a2,a3⟩:=FG h0;have hsz:AF s = 2 + s.refs + s.nums:=by unfold AF;rw[if_pos hso]
 have hrn:0≤s.refs∧0≤s.nums:=by
  unfold BG at hso;simp only[z_b,z_d] at hso;omega
 unfold CF;rw[if_pos h0];congr 1;unfold Sm.put;obtain⟨z',rfl⟩:∃k,z = k + 2:=⟨z - 2,by omega⟩;have e1:s.refs.toNat + s.nums.toNat = z':=by omega
 have l1:(w.take n).length = n:=by simp;omega
 have e2:w.take n ++ List.replicate (z' + 2) 0 ++ w.drop (n + (z' + 2)) = w.take n ++ (0 :: 0 :: (List.replicate z' 0 ++ w.drop (n + (z' + 2)))):=by simp[List.replicate_succ]
 rw[e1,e2,Yj,Zw _ _ (by omega),l1,Nat.sub_self,List.set_cons_zero,Zw _ _ (by omega),l1,Nat.add_sub_cancel_left];simp[Nat.add_comm,Nat.add_left_comm]
theorem Pv {R:RM} {wv:Value} {w:List Int} (a:Int) (s:Shp) (h:BC R wv w) (hl:w.length < 1000000) :
  Fn P Gw [wv,I a,eSh s] R [] (λv R' A=>R' = R∧QMk (CF w a s) v A):=by
 refine Mn λF=>?_
 unfold Gk;obtain⟨wa,wc,hwv,hr⟩:=Fz.reads (D:=[]) h;refine ja λb1=>?_
 rw[show cl (eSh s) = [I s.refs,I s.nums] from rfl];refine jla (l:=[I s.refs,I s.nums]) (by simp) rfl (jp (CC s) ?_);rw[hwv];refine jp (Lu wa w.length wc a (AF s) (by omega)) (jif (λh0=>?_) (λh0=>?_))
 ·have h0:fits w.length a (AF s) = false:=by simpa using h0
  refine BA (A:=[]) (RM.le.refl R) ⟨rfl,?_⟩;have:CF w a s = ([],false):=by unfold CF;rw[h0];rfl
  rw[this];exact⟨rfl,rfl⟩
 have h0:fits w.length a (AF s) = true:=by simpa using h0
 obtain⟨a0,a1,a2,a3⟩:=FG h0;have hso:BG s = true:=by
  unfold AF at a2;split at a2
  ·assumption
  ·omega
 have hsz:AF s = 2 + s.refs + s.nums:=by unfold AF;rw[if_pos hso]
 have hrn:0≤s.refs∧0≤s.nums:=by
  unfold BG at hso;simp only[z_b,z_d] at hso;omega
 obtain⟨n,rfl⟩:∃n:Nat,a = n:=⟨a.toNat,by omega⟩;obtain⟨z,hz⟩:∃z:Nat,AF s = z:=⟨(AF s).toNat,by omega⟩;have em:=O4 h0 hso hz;rw[hz] at a1 a2 a3 ⊢;have fin:∀(b c:Nat) (sp:List Value) (E:Chs) (K:Value→M),w.length≤c→sp.length = c - w.length→Sf E F→True:=λ_ _ _ _ _ _ _ _=>trivial
 clear fin;refine jbs (cs:=[]) rfl rfl λb2=>?_
 have hl0:w.length≠0:=by omega
 have rest:∀(b c:Nat) (sp:List Value) (E:Chs),w.length≤c→sp.length = c - w.length→At E b1 (C FI [I s.refs,I s.nums])→Sf E F→
   J R ((b,C Ac (w.map I ++ sp)) :: E) (CUT [1,5,9] (λJe8=>CUT [1,5,9] (λJe14=>LP [1,5,8,9,10] (λKe15 e15=>BO .lss (e15 10) (e15 8) λx16=>IF x16 (BO .add (e15 1) (e15 10) λx17=>IA 1 (e15 9) x17 λx18=>ST 1 x18 (I 0)<|BO .add (e15 10) (I 1) λx19=>Ke15 [(e15 1),(e15 5),(e15 8),(e15 9),x19]) (Je14 [(e15 1),(e15 5),(e15 9)])) [I n,Pt b1,I z,S0 b w.length c,(I 0)]) λe14=>Je8 [(e14 1),(e14 5),(e14 9)]) λe8=>IA 1 (e8 9) (e8 1) λx9=>ST 1 x9 (e8 1)<|BO .add (e8 1) (I 1) λx10=>LA 2 (e8 5) λx11=>CA P 109 [x11] λx12=>IA 1 (e8 9) x10 λx13=>ST 1 x13 x12<|Er R F (λv R' A=>R' = R∧QMk (CF w n s) v A) (.tuple #[(e8 9),(.bool true)])):=by
  intro b c sp E hc hsp ea ef;refine AJ (λvs R' D'=>R' = R∧∃cur:List Int,cur = w.take n ++ List.replicate z 0 ++ w.drop (n + z)∧D' = (b,C Ac (cur.map I ++ sp)) :: E∧vs = [I n,Pt b1,S0 b w.length c]) (λK hK=>?_) ?_
  ·refine AJ (λvs R' D'=>R' = R∧∃cur:List Int,cur = w.take n ++ List.replicate z 0 ++ w.drop (n + z)∧D' = (b,C Ac (cur.map I ++ sp)) :: E∧vs = [I n,Pt b1,S0 b w.length c]) (λK2 hK2=>?_) ?_;rotate_left
   ·rintro e R1 D1 ⟨hR,cur,hcur,hD,he⟩;rw[hD];clear hD;simp only[List.map,zc,zl,zj,z_t] at he;simp only[he];exact hK _ _ _ ⟨hR,cur,hcur,rfl,rfl⟩
   refine jlp (λm vs R' D'=>R' = R∧∃(k:Nat) (cur:List Int),k≤z∧cur = w.take n ++ List.replicate k 0 ++ w.drop (n + k)∧D' = (b,C Ac (cur.map I ++ sp)) :: E∧vs = [I n,Pt b1,I z,S0 b w.length c,I k]∧m = z - k)
    (n:=z) ⟨rfl,0,w,by omega,by simp,rfl,rfl,by omega⟩ ?_
   rintro m e R1 D1 K3 ⟨hR,k,cur,hk,hcur,hD,he,hm⟩ hK3;subst hR;rw[hD];clear hD;simp only[List.map,zc,zl,zj,z_t] at he;simp only[he];have hcl:cur.length = w.length:=by rw[hcur];simp;omega
   refine jlt (jif (λhc=>?_) (λhc=>?_));rotate_left
   ·have hc:k = z:=by have:=z_g hc;omega
    subst hc;exact hK2 _ _ _ ⟨rfl,cur,hcur,rfl,rfl⟩
   have hc:k < z:=by have:=z_f hc;omega
   refine jad ?_;rw[show (n:Int) + k = ((n + k:Nat):Int) by omega];refine Cs (by omega) (jsi (l:=cur) (sp:=sp) (by omega) (jad ?_));exact hK3 (z - (k + 1)) _ _ _ (by omega) ⟨rfl,k + 1,cur.set (n + k) 0,by omega,by rw[hcur];exact VJ (by omega),rfl,rfl,rfl⟩
  rintro e R1 D1 ⟨hR,cur,hcur,hD,he⟩;subst hR;rw[hD];clear hD;simp only[List.map,zc,zl,zj,z_t] at he;simp only[he];have hcl:cur.length = w.length:=by rw[hcur];simp;omega
  refine Cs (by omega) (jsi (l:=cur) (sp:=sp) (by omega) (jad ?_));refine jla (l:=[I s.refs,I s.nums]) (by simp) rfl (jp (E2 s) ?_);rw[show (n:Int) + 1 = ((n + 1:Nat):Int) by omega];refine Cs (by omega) (jsi (l:=cur.set n n) (sp:=sp) (by rw[ZX];omega) ?_);refine BA (A:=[(b,C Ac (((cur.set n n).set (n + 1) (Am s)).map I ++ sp))]) (RM.le.refl R1) ⟨rfl,?_⟩;rw[em,hcur];refine⟨_,⟨b,c,sp,?_,?_,?_,rfl⟩,rfl⟩
  all_goals simp only[ZX,← hcur,hcl]
  ·exact hc
  ·exact hsp
 refine Ve (new:=w.map I) ?_ (by decide) (by omega) (λ_=>rfl) (λh0=>?_) (λb' c hc=>?_)
 ·intro h' hs';exact hr h' (St.drop (A:=(b2,C 3 []) :: (b1,C FI [I s.refs,I s.nums]) :: ([] ++ F)) (by simpa using hs'))
 ·omega
 ·exact rest b' c _ _ hc (by rw[CE (w:=1) (by intro x hx;rw[(Za.1 hx).2];rfl)];simp) inferInstance inferInstance
theorem jnc {R:RM} {D:Chs} {b o:Nat} {k:Value→M} (H:J R D (k (.pointer (some ⟨b,o,none⟩)))):J R D (NC (.pointer (some ⟨b,o,none⟩)) k):=H
def wS (S:Sim) (g:Img):Value:=.slice (some ⟨g.wb,0,none⟩) S.AB.length g.wc
def tS (S:Sim) (g:Img):Value:=.slice (some ⟨g.tb,0,none⟩) S.A0.length g.tc
def mS (S:Sim) (g:Img):Value:=.slice (some ⟨g.mb,0,none⟩) S.AR.length g.mc
def eVw (S:Sim) (g:Img) (av wv thv:Value):List Value:=[wS S g,tS S g,mS S g,I S.Aa,.bool S.stop,.bool S.full,av,wv,thv,g.old,g.AO,I S.B8,I S.Bf]
theorem Ka {R:RM} {S:Sim} {g:Img} (ok:Ok R S g) {av wv thv:Value} (h1:flat av = true) (h2:flat wv = true) (h3:flat thv = true):CG (eVw S g av wv thv) = true:=by
 have h4:=Fz.flat ok.old;have h5:=Fz.flat ok.AO;show (true && (true && (true && (true && (true && (true && (flat av && (flat wv && (flat thv && (flat g.old && (flat g.AO && (true && (true && true))))))))))))) = true;rw[h1,h2,h3,h4,h5];rfl
def Su (t:Thr):Th:=⟨t.AD,t.next,t.pc != 0,t.Au⟩
theorem Rq {p:Nat} {S:Sim} {g:Img} {R:RM} (hok:Ok R S g) (hsz:S.sz = true) :
  Fn P HF [Pt p] R (AY p S g) (λv R' A=>∃rows thv A',Rw (Co R') rows S.view.AA∧SW 83 4 rows thv A'∧A = A' ++ AY p S g∧v = .agg (eSt S.view (wS S g) (tS S g) (mS S g) thv g.old g.AO).toArray):=by
 refine Qa λF=>?_
 unfold MK;have hsz:=Fa hsz;have hhl:=hok.hl;obtain⟨f1,f2,f3⟩:=hok.fl;refine ja λb1=>?_
 refine jnc (jfo ?_);refine jla (o:=0 + 4) (t:=BZ) (cs:=Br S g) (l:=eVw S g g.Ag g.want g.AA) (by show 4 + 13≤35;omega) rfl ?_;refine ja λb2=>?_
 refine js (cs':=eVw S g g.Ag g.want g.AA) rfl (Ka hok f1 f2 f3) (by exact z_n 13) rfl ?_;refine js (cs':=eVw S g g.Ag g.want (.slice none 0 0)) rfl rfl (by simp[eVw]) rfl ?_;refine BH (D':=(b2,C AK (eVw S g g.Ag g.want (.slice none 0 0))) :: (b1,C AK (cl z28)) :: (AY p S g ++ F)) (ZP _) ?_;refine AJ (λvs R' D'=>R.le R'∧∃rows v A,Rw (Co R') rows (S.th.map Su)∧SW 83 4 rows v A∧D' = A ++ (b2,C AK (eVw S g g.Ag g.want v)) :: (b1,C AK (cl z28)) :: (AY p S g ++ F)∧vs = [Pt p,Pt b1,Pt b2]) (λK hK=>?_) ?_
 ·refine AJ (λvs R' D'=>R.le R'∧∃rows v A,Rw (Co R') rows (S.th.map Su)∧SW 83 4 rows v A∧D' = A ++ (b2,C AK (eVw S g g.Ag g.want v)) :: (b1,C AK (cl z28)) :: (AY p S g ++ F)∧vs = [Pt p,Pt b1,Pt b2]) (λK2 hK2=>?_) ?_;rotate_left
  ·rintro e R1 D1 ⟨hR,rows,v,A,hrw,so,hD,he⟩;rw[hD];clear hD;simp only[List.map,zc,zl,zj,z_t] at he;simp only[he];exact hK _ _ _ ⟨hR,rows,v,A,hrw,so,rfl,rfl⟩
  refine jlp (λm vs R' D'=>R.le R'∧∃(i:Nat) (rows:List (List Value)) (v:Value) (A:Chs),i≤S.th.length∧Rw (Co R') rows ((S.th.take i).map Su)∧SW 83 4 rows v A∧D' = A ++ (b2,C AK (eVw S g g.Ag g.want v)) :: (b1,C AK (cl z28)) :: (AY p S g ++ F)∧vs = [Pt p,Pt b1,Pt b2,I i]∧m = S.th.length - i)
   (n:=S.th.length) ⟨RM.le.refl R,0,[],.slice none 0 0,[],by omega,Rw.nil,.inl ⟨rfl,rfl,rfl⟩,rfl,rfl,by omega⟩ ?_
  rintro m e R1 D1 K3 ⟨hR,i,rows,v,A,hi,hrw,so,hD,he,hm⟩ hK3;rw[hD];clear hD;simp only[List.map,zc,zl,zj,z_t] at he;simp only[he];have ok1:=hok.le hR;refine jl (v:=.slice (some ⟨g.hb,0,none⟩) S.th.length g.hc) rfl (jln (jlt (jif (λhc=>?_) (λhc=>?_))));rotate_left
  ·have hc:=z_g hc;rw[Yz (by omega)] at hrw;exact hK2 _ _ _ ⟨hR,rows,v,A,hrw,so,rfl,rfl⟩
  have hc:i < S.th.length:=by have:=z_f hc;omega
  have hti:idx S.th i = some (S.th[i]):=by unfold idx;rw[if_pos (by omega),Yj,Yl hc]
  have hri:=hsz.2.2.2.2 _ (Yv hc);refine GC (p:=p) ok1 hti rfl λb a cap hv=>?_
  obtain⟨sa,sc,hsl⟩:=so.sl;subst hsl;have htk:(S.th.take (i + 1)).map Su = (S.th.take i).map Su ++ [Su S.th[i]]:=by
   rw[Yq hc,Zg];rfl
  generalize S.th[i] = t at hti hri hv htk ⊢;refine jfo (jl (v:=.slice sa rows.length sc) rfl ?_);refine jfo (jl (v:=.slice a t.AD.length cap) rfl (jfo (jl (v:=I t.next) rfl (jfo (jl (v:=I t.Au) rfl (jfo (jl (v:=I t.pc) rfl (jne ?_))))))));refine jc (A:=[]) (C9 hv hri) ?_;rintro _ R2 _ hR2 ⟨b4,c4,sp4,hc4,hsp4,rfl,rfl⟩;refine Bh (b:=b4) λR3 hR3 hb4=>?_
  have hv2:=C7 (c:=c4) hb4 hc4;refine jbd (cs:=[S0 b4 t.AD.length c4,I t.next,.bool (t.pc != 0),I t.Au]) rfl rfl ?_;refine Ae (jl (v:=.slice sa rows.length sc) rfl jev) (Ae (jl (v:=I t.next) rfl jev) (Ae (jl (v:=I t.Au) rfl jev) (Ae (jl (v:=I t.pc) rfl jev) ?_)));refine jbs (cs:=[S0 b4 t.AD.length c4,I t.next,.bool (t.pc != 0),I t.Au]) rfl rfl λb6=>?_
  refine Ae (jl (v:=.slice sa rows.length sc) rfl jev) ?_;refine BH (D':=(b6,C 83 [S0 b4 t.AD.length c4,I t.next,.bool (t.pc != 0),I t.Au]) :: (b,C AV (Ad t (.slice a t.AD.length cap))) :: (A ++ ((b2,C AK (eVw S g g.Ag g.want (.slice sa rows.length sc))) :: (b1,C AK (cl z28)) :: (AY p S g ++ F)))) (ZP _) ?_;refine Ai A (G:=(b6,C 83 [S0 b4 t.AD.length c4,I t.next,.bool (t.pc != 0),I t.Au]) :: (b,C AV (Ad t (.slice a t.AD.length cap))) :: (b2,C AK (eVw S g g.Ag g.want (.slice sa rows.length sc))) :: (b1,C AK (cl z28)) :: (AY p S g ++ F)) ?_;have hx:BQ R3 (A ++ ((b6,C 83 [S0 b4 t.AD.length c4,I t.next,.bool (t.pc != 0),I t.Au]) :: (b,C AV (Ad t (.slice a t.AD.length cap))) :: (b2,C AK (eVw S g g.Ag g.want (.slice sa rows.length sc))) :: (b1,C AK (cl z28)) :: (AY p S g ++ F))) (some ⟨b6,0,none⟩) (1 * 4) [[S0 b4 t.AD.length c4,I t.next,.bool (t.pc != 0),I t.Au]].flatten:=BQ.held (t:=83) (cs:=[S0 b4 t.AD.length c4,I t.next,.bool (t.pc != 0),I t.Au]) (o:=0) (n:=1 * 4) (z_n 4);have hrl:=hrw.1;rw[ZF,Z0] at hrl;refine jaw so (hrw.all λ_ _=>Co.len) (by intro r hr;rw[Z3.1 hr];rfl) rfl rfl rfl (by decide) (by rw[Z4];omega) hx λv' A' so'=>?_
  obtain⟨sa',sc',hsl'⟩:=so'.sl;subst hsl';refine js (cs':=eVw S g g.Ag g.want (.slice sa' (rows ++ [[S0 b4 t.AD.length c4,I t.next,.bool (t.pc != 0),I t.Au]]).length sc')) rfl rfl (by simp[eVw]) rfl ?_;refine jad ?_;refine Ai A' (G:=(b2,C AK (eVw S g g.Ag g.want (.slice sa' (rows ++ [[S0 b4 t.AD.length c4,I t.next,.bool (t.pc != 0),I t.Au]]).length sc'))) :: (b1,C AK (cl z28)) :: (AY p S g ++ F)) ?_;refine hK3 (S.th.length - (i + 1)) _ _ _ (by omega) ⟨(hR.trans hR2).trans hR3,i + 1,_,_,A',by omega,?_,so',rfl,rfl,rfl⟩;rw[htk];exact (hrw.mono λ_ _=>Co.le (hR2.trans hR3)).app (Rw.one ⟨_,rfl,hv2⟩)
 rintro e R1 D1 ⟨hR,rows,v,A,hrw,so,hD,he⟩;rw[hD];clear hD;simp only[List.map,zc,zl,zj,z_t] at he;simp only[he];obtain⟨sa,sc,hsl⟩:=so.sl;subst hsl;refine jl (v:=.bool S.col.Ag) rfl ?_;refine js (cs':=eVw S g (.bool S.col.Ag) g.want (.slice sa rows.length sc)) rfl rfl (by simp[eVw]) rfl ?_;refine jl (v:=I S.col.want) rfl ?_;refine js (cs':=eVw S g (.bool S.col.Ag) (I S.col.want) (.slice sa rows.length sc)) rfl rfl (by simp[eVw]) rfl ?_;refine jla (l:=eVw S g (.bool S.col.Ag) (I S.col.want) (.slice sa rows.length sc)) (by exact z_n 13) rfl ?_;refine js (cs':=eVw S g (.bool S.col.Ag) (I S.col.want) (.slice sa rows.length sc)) rfl (Ka hok rfl rfl rfl) (by exact z_n 13) rfl ?_;refine jla (l:=eVw S g (.bool S.col.Ag) (I S.col.want) (.slice sa rows.length sc)) (by exact z_n 13) rfl ?_;refine BH (D':=(A ++ AY p S g) ++ ((b2,C AK (eVw S g (.bool S.col.Ag) (I S.col.want) (.slice sa rows.length sc))) :: (b1,C AK (eVw S g (.bool S.col.Ag) (I S.col.want) (.slice sa rows.length sc))) :: F)) ?_ ?_
 ·rw[Ys];exact (List.perm_append_comm_assoc [_,_] (AY p S g) F).append_left A
 exact BA (A:=A ++ AY p S g) hR ⟨rows,.slice sa rows.length sc,A,hrw,so,rfl,rfl⟩
theorem XZ {p:Nat} {S:Sim} {g:Img} {R:RM} (hok:Ok R S g) (hsz:S.sz = true) :
  Fn P HF [Pt p] R (AY p S g) (λv R' A=>R.le R'∧A = AY p S g∧∃thv,Ths R' thv S.view.AA∧v = .agg (eSt S.view (wS S g) (tS S g) (mS S g) thv g.old g.AO).toArray):=by
 intro F h hs;refine EW ?_ (Rq hok hsz F h hs);rintro v h' ⟨R',A,h1,h2,rows,thv,A',hrw,so,rfl,rfl⟩;rw[Ys] at h2;refine (jfw (E:=AY p S g ++ F) (m:=Er R F _ _) so (hrw.all λ_ _=>Co.len) λR2 hR2 hfz=>?_) h' h2;exact BA (A:=AY p S g) (h1.trans hR2) ⟨h1.trans hR2,rfl,thv,⟨rows,hrw.mono λ_ _=>Co.le hR2,hfz⟩,rfl⟩
end Go.Lf
end
