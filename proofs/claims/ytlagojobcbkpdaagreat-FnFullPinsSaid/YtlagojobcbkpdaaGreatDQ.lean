/- A part of the proof of the given row: the walk of the law and of all that it calls. Conditions: none. -/
import Derived.Test.YtlagojobcbkpdaaGreatDP
set_option linter.unusedVariables false
set_option linter.unusedSimpArgs false
set_option maxRecDepth 100000
section
namespace Sm
open Go.Lf
theorem O2:∀{c w:List Int} {a:Nat},a + c.length≤w.length→By w a c = w.take a ++ c ++ w.drop (a + c.length)
 | [],w,a,_=>by simp[By]
 | v :: c,w,a,h=>by
  simp only[Yt] at h;unfold By;rw[show (a:Int) + 1 = ((a + 1:Nat):Int) from rfl,O2 (by simp[AT];omega)];unfold AT;simp only[Yj];have e1:(w.take a ++ [v]).length = a + 1:=by rw[Yk,Z5];simp;omega
  rw[List.set_eq_take_append_cons_drop,if_pos ω,show w.take a ++ v :: w.drop (a + 1) = (w.take a ++ [v]) ++ w.drop (a + 1) from σ,List.take_left' e1,List.drop_append,e1,Yz ω,aj,zl];simp only[Yr,zc,zl,Yt];rw[show a + 1 + (a + 1 + c.length - (a + 1)) = a + (c.length + 1) from ω]
theorem So {c w:List Int} {a v:Int}:By w a (c ++ [v]) = AT (By w a c) (a + c.length) v:=by
 rw[Ge];rfl
end Sm
namespace Go.Lf
open Go Sm
theorem QZ {u:Int}:∀{xs ys:List Int},ys.length = xs.length→lk (prs xs ys) u = if u∈xs then some (I (ys.getD (xs.idxOf u) 0)) else none
 | [],[],_=>rfl
 | x :: xs,y :: ys,h=>by
  have ih:=QZ (u:=u) (xs:=xs) (ys:=ys) (by simpa using h);by_cases c:x = u
  ·subst c;rw[if_pos σ];simp[prs,lk]
  ·have e:lk (prs (x :: xs) (y :: ys)) u = lk (prs xs ys) u:=by
    unfold prs lk;rw[aT,ZX,aQ (by simpa using c)]
   rw[e,ih];have c' : ¬ u = x:=λh=>c h.symm
   by_cases d:u∈xs
   ·rw[if_pos d,if_pos (ZG _ d),List.idxOf_cons,beq_eq_false_iff_ne.2 c];rfl
   ·rw[if_neg d,if_neg (by simp[c',d])]
section rules
variable {R:RM} {D:Chs} {k:Value→M}
theorem Vn (a:Addr) (n c:Nat) (w:World):(Builtin.copy_ #[23,23] 3 #[.slice (some a) n c,SN]).run P w = (do storeCells a (#[]:Array Value).toList;pure (goInt (Nat.min 0 n)):Sem Value).run P w:=by
 kernel_rfl
theorem YR {b o len cap n:Nat} {lo:Int} (h0:0≤lo) (h1:lo≤len) (h2:len≤cap) (H:∀o',(lo < cap→o' = o + lo.toNat * n)→(o' = o∨o' = o + lo.toNat * n)→J R D (k (.slice (some ⟨b,o',none⟩) (len - lo.toNat) (cap - lo.toNat)))) :
  J R D (SL n (.slice (some ⟨b,o,none⟩) len cap) (some (I lo)) none k):=λh hs=>by
 refine⟨⟨h0,ω,ω⟩,?_⟩;split
 ·exact H o (λc=>ω) (.inl rfl) h hs
 ·exact H _ (λ_=>rfl) (.inr rfl) h hs
theorem YS {b o n c lo:Nat} {sv:Value} {l ws:List Int} {sp:List Value} {D' : Chs} (hl:BG R sv l) (hn:l.length≤n) (ho:l.length≠0→o = lo) (ho2:o≤ws.length) (hw:lo + l.length≤ws.length) [a:At D b (C AX (ws.map I ++ sp))] [u:Up D b (C AX (ws.map I ++ sp)) (C AX ((By ws lo l).map I ++ sp)) D'] (H:J R D' (k (I l.length))) :
  J R D (X P (Builtin.copy_ #[23,23] 3 #[.slice (some ⟨b,o,none⟩) n c,sv]) k):=by
 have hm:Nat.min l.length n = l.length:=Nat.min_eq_left hn;obtain⟨xa,cap,e,hr⟩:=BG.reads (D:=D) hl;rcases hl with ⟨rfl,h3,h4⟩ | ⟨b2,o2,cap2,t2,cs2,rfl,h3,h4,h5,h6⟩
 ·have e0:l = []:=ZL.1 h3;subst e0;have hk:∀h,St h R D→∀w:World,w.heap = h→∃v w',(Builtin.copy_ #[23,23] 3 #[.slice (some ⟨b,o,none⟩) n c,SN]).run P w = .ok v w'∧BK w w'∧k v w'.heap:=by
   intro h hs w hw;subst hw;obtain⟨h',w1,w2,w3⟩:=Fa [] o (hs.at_ b _ a.m).1 (by rw[Zp,Yk,Z1];omega) rfl;obtain⟨w',e1,hsm,e2⟩:=EB (P:=P) b [] o 0 w h' w1;refine⟨I (Nat.min 0 n:Nat),w',?_,hsm,?_⟩
   ·rw[Vn];simp only[ZA,e1,Yw];rfl
   rw[e2,show Nat.min 0 n = 0 from Nat.min_eq_left (Nat.zero_le _)];refine H h' (hs.turn (b:=b) (o:=C AX (ws.map I ++ sp)) (o':=C AX ((By ws lo []).map I ++ sp)) ?_ w3);rw[w2];unfold lay By;simp
  exact @jX _ _ _ _ hk
 ·cases e;refine @Xn R D k b o n c AX _ _ _ (l.map I) (ws.map I ++ sp) ((By ws lo l).map I ++ sp) D' (by rw[hm];exact hr) (by rw[Z1,hm]) (by unfold Br;rw[ZC];intro x hx;obtain⟨y,_,rfl⟩:=ZK.1 hx;rfl) a ?_ ?_ u (by rw[hm];exact H)
  ·rw[Z1,Yk,Z1];by_cases c0:l.length = 0
   ·omega
   ·have:=ho c0;omega
  ·by_cases c0:l.length = 0
   ·have e0:l = []:=ZL.1 c0;subst e0;unfold lay By;simp
   ·have e1:=ho c0;subst e1;rw[O2 hw,show o = 0 + o * 1 from ω,Vt rfl ω];simp
end rules
section st
variable {R:RM} {s:Sm.Al} {wv tv mv thv ov pv:Value} {l:List AU} {met:List Int}
def RFn (R:RM) (f:Value) (g:Int→Int) (x:Int):Prop:=∀(D:Chs) (k:Value→M),J R D (k (I (g x)))→J R D (CV P f [I x] k)
theorem X4 (x:Int):RFn R (.func (.func 136) #[] #[]) (λ_=>0) x:=λD k H=>by
 refine PT (by kernel_rfl) ?_;refine jro (v:=I 0) (D:=D) ?_ H;refine HW λF=>?_
 refine z_1 ?_
 exact BU rfl
theorem TG {hb mb tb kb cb:Nat} {v:Value} {o:Obj} {order to:List Int} {x:Int} (hv:HpV R s wv tv mv thv ov pv l met hb mb v) (hlen:to.length = order.length) (ho:R tb = some o) (hm:Mg o (prs order to)) (h0:0 ∉ order) (hk:R kb = some (C 144 [.map (some tb)])) (hc:R cb = some (C 86 [Pt hb])) (hx:∃u,now l x = some u) :
  RFn R (.func (.func 134) #[] #[Pt kb,Pt cb]) (plc l order to) x:=λD k H=>by
 refine PT (by kernel_rfl) ?_;refine jro (v:=I (plc l order to x)) (D:=D) ?_ H;refine HN λF=>?_
 refine z_3 ?_;obtain⟨u,hu⟩:=hx;refine jeq (jif (λh=>?_) (λh=>?_))
 ·have e:x = 0:=by simpa using h
  subst e;have:now l 0 = some 0:=rfl;refine BU ?_;unfold plc;rw[this];dsimp only;rw[if_neg h0]
 refine jlr (v:=.map (some tb)) hk rfl (jlr (v:=Pt hb) hc rfl (jrp (Vh hv hu) (Af (jlr (v:=.map (some tb)) hk rfl jev) ?_)));refine @Un _ _ _ 144 3 tb o (prs order to) u (I 0) false (Li.fz ho) Ie VJ hm (BU ?_);rw[QZ hlen];unfold plc;rw[hu];show (if u∈order then some (I (to.getD (order.idxOf u) 0)) else none).getD (I 0) = I (if u∈order then to.getD (order.idxOf u) 0 else 0);split<;>rfl
set_option maxHeartbeats 1000000 in
set_option maxRecDepth 4000 in
theorem WK {ob bw n cw d:Nat} {cs sp:List Value} {ws:List Int} {t:AU} {rv nv f:Value} {g:Int→Int} (hr:BG R rv t.refs) (hn:BG R nv t.nums) (hwl:ws.length = n) (hcw:n≤cw) (hd:d + (2 + t.refs.length + t.nums.length)≤n) (hn1:n < 1000000) (hf:∀x∈t.refs,RFn R f g x) :
  Fn P Ep [.agg (eTh t rv nv).toArray,I d,f,Pt ob] R [(ob,C 28 (S0 bw n cw :: cs)),(bw,C AX (ws.map I ++ sp))] (λ_ R' A=>R' = R∧A = [(ob,C 28 (S0 bw n cw :: cs)),(bw,C AX ((By ws d (d :: AZ t.sh :: (t.refs.map g ++ t.nums))).map I ++ sp))]):=by
 refine HZ λF=>?_
 refine z_4 ?_;obtain⟨ra,rc,rfl⟩:=hr.sl;obtain⟨na,nc,rfl⟩:=hn.sl;refine ja λtb=>?_
 refine jfo (jl (v:=S0 bw n cw) rfl (jfo (jl (v:=S0 bw n cw) rfl (jad (jfo (jla (l:=[I t.sh.refs,I t.sh.nums]) (Z0 rfl) rfl ?_))))));refine jp (LU t.sh) ?_;rw[show (d:Int) + 1 = ((d + 1:Nat):Int) from rfl];refine C5 ω (Af (jl (v:=S0 bw n cw) rfl jev) (Af (jl (v:=S0 bw n cw) rfl jev) (jsi ω ?_)));refine C5 ω (Af (jl (v:=S0 bw n cw) rfl jev) (jsi (by simp;omega) ?_));have hw0:(ws.set d (d:Int)).set (d + 1) (AZ t.sh) = By ws d [(d:Int),AZ t.sh]:=by
  show _ = AT (AT ws d d) (d + 1) (AZ t.sh);unfold AT;rw[show (d:Int) + 1 = ((d + 1:Nat):Int) from rfl];simp only[Yj]
 rw[hw0];refine jk3 (F:=F) tb ob bw ?_;generalize hW:S0 bw n cw = W;refine jci (λ_:Unit=>[I d,Pt ob,Pt tb])
  (λ_=>(tb,C 62 (eTh t (.slice ra t.refs.length rc) (.slice na t.nums.length nc))) :: (ob,C 28 (W :: cs)) :: (bw,C AX ((By ws d ([(d:Int),AZ t.sh] ++ t.refs.map g)).map I ++ sp)) :: F) (λR' _=>R' = R) (λK1 k1=>?_) ?_
 ·refine jfo (jl (v:=.slice ra t.refs.length rc) rfl (jln ?_));refine jci (λ_:Unit=>[I d,Pt ob,Pt tb])
   (λ_=>(tb,C 62 (eTh t (.slice ra t.refs.length rc) (.slice na t.nums.length nc))) :: (ob,C 28 (W :: cs)) :: (bw,C AX ((By ws d ([(d:Int),AZ t.sh] ++ t.refs.map g)).map I ++ sp)) :: F) (λR' _=>R' = R) (λK2 k2=>?_) ?_
  rotate_left
  ·rintro e R' q hp he;refine z_V ?_;exact k1 R' q hp
  refine jli (λi:Nat=>t.refs.length - i) (λi=>[I d,f,Pt ob,Pt tb,.slice ra t.refs.length rc,I t.refs.length,I i])
   (λi=>(tb,C 62 (eTh t (.slice ra t.refs.length rc) (.slice na t.nums.length nc))) :: (ob,C 28 (W :: cs)) :: (bw,C AX ((By ws d ([(d:Int),AZ t.sh] ++ (t.refs.take i).map g)).map I ++ sp)) :: F) (λR' i=>R' = R∧i≤t.refs.length) 0 ⟨rfl,ω⟩ rfl σ ?_
  rintro K e R' i ⟨hR,hi⟩ he hK;subst hR;refine z_V ?_;refine jlt (jif (λc=>?_) (λc=>?_));rotate_left
  ·have c:=z_g c;rw[Ys ω];exact k2 R' () rfl
  have c:i < t.refs.length:=by have:=z_f c;omega
  refine CE hr ω ω ?_;simp only[Yj];refine jfo (jl (v:=W) rfl (jad (jad ?_)));refine hf _ (Yq c) _ _ ?_;subst hW;rw[show (d:Int) + 2 + i = ((d + 2 + i:Nat):Int) from ω];refine C5 ω (Af (jl (v:=S0 bw n cw) rfl jev) (jsi (by rw[Dh];omega) (jad ?_)));have e2:(By ws d ([(d:Int),AZ t.sh] ++ (t.refs.take i).map g)).set (d + 2 + i) (g t.refs[i]) = By ws d ([(d:Int),AZ t.sh] ++ (t.refs.take (i + 1)).map g):=by
   rw[Yp c,Zf,← Yr];show _ = By ws d (_ ++ [g t.refs[i]]);rw[So];unfold AT;congr 1;simp only[Yk,Yt,Zp,Z1,Z5];omega
  rw[e2];exact hK R' (i + 1) ω ⟨rfl,c⟩
 rintro e R' _ hR he;subst hR;refine z_V ?_;subst hW;refine jfo (jl (v:=S0 bw n cw) rfl (jad (jfo (jl (v:=.slice ra t.refs.length rc) rfl (jln (jad ?_))))));rw[show (d:Int) + 2 + t.refs.length = ((d + 2 + t.refs.length:Nat):Int) from ω];refine YR ω ω hcw λo' ho1 ho2=>?_
 simp only[Yj,Zo,Z6] at ho1 ho2 ⊢;refine jfo (jl (v:=.slice na t.nums.length nc) rfl ?_);have ho3:t.nums.length≠0→o' = d + 2 + t.refs.length:=λh0=>ho1 ω
 refine YS (lo:=d + 2 + t.refs.length) hn ω ho3 (by rw[Dh];omega) (by rw[Dh];omega) ?_;have e3:By (By ws d ([(d:Int),AZ t.sh] ++ t.refs.map g)) ((d + 2 + t.refs.length:Nat):Int) t.nums = By ws d ((d:Int) :: AZ t.sh :: (t.refs.map g ++ t.nums)):=by
  rw[show (d:Int) :: AZ t.sh :: (t.refs.map g ++ t.nums) = ([(d:Int),AZ t.sh] ++ t.refs.map g) ++ t.nums from σ,Ge (c:=[(d:Int),AZ t.sh] ++ t.refs.map g) (d:=t.nums)];congr 1;simp only[Yk,Yt,Zp,Z1];omega
 rw[e3];exact B9 (A:=[(ob,C 28 (S0 bw n cw :: cs)),(bw,C AX ((By ws d ((d:Int) :: AZ t.sh :: (t.refs.map g ++ t.nums))).map I ++ sp))]) (RM.le.refl _) ⟨rfl,rfl⟩
end st
end Go.Lf
end
section
namespace Sm
open Go.Lf
def Ch (AG order:List Int) (a:Int):Bool:=Ao AG (AN a) && !order.contains a
def Ft (l:List AU) (a:Int):Int × List Int:=match BL l a with | some t=>EQ t | none=>(a,[])
def VT (AG:List Int) (t:List Rg) (tops:List Int) (r:Nat):Rg:=if r = 0 then rv t 0 else LY AG r (tops.getD r 0)
def OV (AG:List Int) (t:List Rg) (tops:List Int):List Rg:=(List.range t.length).map (VT AG t tops)
def I3 (l:List AU) (order to:List Int) (t:Th):Th:=⟨t.AC.map (plc l order to),t.next,false,if t.Ai = 1 then 2 else t.Ai⟩
structure YB (s s' : Al) (l:List AU) (order to tops:List Int):Prop where
 wd:∀xs:List Int,xs.Perm (l.map AU.at_)→s'.AA = Bi (Bi (List.replicate s.AA.length 0) ((xs.filter (Ch s.AG order)).map (Ft l))) ((order.zip to).map λp=>DY l order to p.1 p.2)
 hlen:to.length = order.length
 tl:tops.length = s.A0.length
 tb:s'.A0 = OV s.AG s.A0 tops
 th:s'.A6 = s.A6.map (I3 l order to)
 eq:s' = ⟨s'.AA,s'.A0,List.replicate s.AK.length false,0,false,false,s.Ae,0,s'.A6,[],s.AG,s.Aj,s.BA + 1⟩
 rn:∀i (h:i < order.length) (h' : i < to.length),0≤to[i]∧∀t,BL l order[i] = some t→to[i] + (2 + t.refs.length + t.nums.length:Nat)≤s.AA.length
theorem JB {w:List Int} {bl:List (Int × List Int)} {b:Int × List Int}:Bi w (bl ++ [b]) = By (Bi w bl) b.1 b.2:=by
 unfold Bi;rw[List.foldl_append];rfl
theorem Kf {AG:List Int} {t:List Rg} {tops:List Int}:(OV AG t tops).length = t.length:=by simp[OV]
theorem Nx {AG:List Int} {t:List Rg} {tops:List Int} {r:Nat} (h:r < (OV AG t tops).length):(OV AG t tops)[r] = VT AG t tops r:=by simp[OV]
end Sm
namespace Go.Lf
open Go Sm
section rules
variable {R:RM} {D:Chs} {k:Value→M}
theorem UW (a:Addr) (n c:Nat) (w:World):(Builtin.clear_ #[25] 0 #[.slice (some a) (n + 1) c]).run P w = (do storeCells a (Builtin.zeroCells #[.bool false] (n + 1)).toList;pure (.tuple #[]):Sem Value).run P w:=by
 kernel_rfl
theorem OE (n:Nat):(Builtin.zeroCells #[.bool false] n).toList = List.replicate n (.bool false):=by
 unfold Builtin.zeroCells;rw[ar];apply aM
 ·simp
 ·intro i h1 h2;simp[Nat.mod_one]
theorem Vk {b o n c t:Nat} {cs cs' : List Value} {D' : Chs} (hn:0 < n) [a:At D b (C t cs)] (ho:o + n≤cs.length) (hc:lay cs o (List.replicate n (.bool false)) = cs') [u:Up D b (C t cs) (C t cs') D'] (H:J R D' (k (.tuple #[]))) :
  J R D (X P (Builtin.clear_ #[25] 0 #[.slice (some ⟨b,o,none⟩) n c]) k):=by
 have hk:∀h,St h R D→∀w:World,w.heap = h→∃v w',(Builtin.clear_ #[25] 0 #[.slice (some ⟨b,o,none⟩) n c]).run P w = .ok v w'∧BK w w'∧k v w'.heap:=by
  intro h hs w hw;subst hw;obtain⟨n,rfl⟩:∃m,n = m + 1:=⟨n - 1,ω⟩;obtain⟨h',w1,w2,w3⟩:=Fa (List.replicate (n + 1) (.bool false)) o (hs.at_ b _ a.m).1 (by rw[Yy];exact ho) (by unfold Br;rw[ZC];intro x hx;rw[(ZT.1 hx).2];rfl);obtain⟨w',e1,hsm,e2⟩:=EB (P:=P) b (List.replicate (n + 1) (.bool false)) o 0 w h' w1;refine⟨.tuple #[],w',?_,hsm,?_⟩
  ·rw[UW,OE];simp only[ZA,e1,Yw];rfl
  ·rw[e2];exact H h' (hs.turn (b:=b) (o:=C t cs) (o':=C t cs') (by rw[w2,hc]) w3)
 exact @jX _ _ _ _ hk
theorem Xv {E:Chs} {m:M}:∀{ts:List Th} {rows:List (List Value)} {A:Chs} {R:RM},Fr ts rows A→(∀R',R.le R'→Rw (Ct R') rows ts→J R' E m)→J R (A ++ E) m
 | [],rows,A,R,h,H=>by
  obtain⟨rfl,rfl⟩:=h;exact H R (RM.le.refl _) Rw.nil
 | t :: ts,rows,A,R,h,H=>by
  obtain⟨rv,rest,A1,A2,rfl,so,h2,rfl⟩:=h;rw[Yr];refine FG so λR1 hR1 hi=>Xv h2 λR2 hR2 hr=>H R2 (hR1.trans hR2) ⟨by simp[hr.1],λi h h'=>?_⟩
  cases i with
  | zero=>exact⟨rv,rfl,hi.le hR2⟩
  | succ i=>exact hr.2 i (by simpa using h) (by simpa using h')
theorem Yf {A E:Chs} {l:List Int} {v:Value} {x:Int} {i:Nat} {a m:M} (so:SO l v A) (hi:i < l.length) (ha:J R (A ++ E) a) (H:∀A',SO (l.set i x) v A'→J R (A' ++ E) m):J R (A ++ E) (IA 1 v (I (i:Int)) λq=>AND a (ST 1 q (I x) m)):=by
 rcases so with ⟨rfl,_,_⟩ | ⟨b,c,sp,hc,hsp,rfl,rfl⟩
 ·exact absurd hi σ
 ·refine C5 hi (Af ha (jsi (l:=l) (sp:=sp) (D':=[(b,C AX ((l.set i x).map I ++ sp))] ++ E) (by exact hi) ?_));exact H _ (.inr ⟨b,c,sp,by simpa using hc,by simpa using hsp,by rw[ZV],rfl⟩)
theorem Fr.split:∀{ts:List Th} {rows:List (List Value)} {A:Chs} {i:Nat},Fr ts rows A→(h:i < ts.length)→∃rv A1 A2 A3,A = A1 ++ (A2 ++ A3)∧SO (ts[i]).AC rv A2∧rows[i]? = some [rv,I (ts[i]).next,.bool (ts[i]).busy,I (ts[i]).Ai]∧∀(t' : Th) (A2' : Chs),SO t'.AC rv A2'→Fr (ts.set i t') (rows.set i [rv,I t'.next,.bool t'.busy,I t'.Ai]) (A1 ++ (A2' ++ A3))
 | [],rows,A,i,h,hi=>absurd hi σ
 | t :: ts,rows,A,0,h,hi=>by
  obtain⟨rv,rest,A1,A2,rfl,so,h2,rfl⟩:=h;exact⟨rv,[],A1,A2,rfl,so,rfl,λt' A2' so'=>⟨rv,rest,A2',A2,rfl,so',h2,rfl⟩⟩
 | t :: ts,rows,A,i + 1,h,hi=>by
  obtain⟨rv,rest,B1,B2,rfl,so,h2,rfl⟩:=h;obtain⟨rv2,A1,A2,A3,rfl,so2,hr,hn⟩:=h2.split (i:=i) (by simpa using hi);exact⟨rv2,B1 ++ A1,A2,A3,σ,so2,hr,λt' A2' so'=>⟨rv,_,B1,_,rfl,so,hn t' A2' so',σ⟩⟩
end rules
end Go.Lf
end
section
namespace Go.Lf
open Go Sm
section st
variable {R:RM} {s:Sm.Al} {wv tv mv thv ov pv:Value} {l:List AU} {met:List Int}
set_option maxHeartbeats 4000000 in
set_option maxRecDepth 8000 in
theorem Nh {hb mb:Nat} {v ordv:Value} {order:List Int} {r:Option Sm.Al} (h:SF R s wv tv mv thv ov pv) (hv:HpV R s wv tv mv thv ov pv l met hb mb v) (hrv:BG R ordv order) (hol:order.length≤192) (hth:∀a∈order,∃t,BL l a = some t) (hnd:order.Nodup) (h16:∀a∈order,0 < a∧a < 1000000) (htz:∀t∈l,0≤AF t.sh∧AF t.sh≤10) (hat:(l.map AU.at_).Nodup)
  (hin:∀t∈l,0≤t.at_∧t.at_ + (2 + t.refs.length + t.nums.length:Nat)≤s.AA.length) (href:∀a∈order,∀t,BL l a = some t→∀x∈t.refs,∃u,now l x = some u) (hroot:∀t∈s.A6,∀x∈t.AC,∃u,now l x = some u)
  (hcr:match Dd s.AG l order (CG s) 1 with | none=>r = none | some (to,tops)=>∃s',r = some s'∧YB s s' l order to tops) :
  Fn P Fe [Pt hb,ordv] R [] (λv R' A=>A = []∧QFd r v R'):=by
 refine Ik λF=>?_
 refine z_2 ?_;have t0:=h.b.t0;have t1:=h.b.t1;have wl:=h.b.wl;have ml:=h.b.ml;have n0:=h.b.n0;have n1:=h.b.n1;have rl:=h.b.rl;have fu:=h.b.fu;refine ja λcb=>BQ (b:=cb) λR0 hR0 hcb=>ja λgb=>?_
 have hcb:R0 cb = some (C 86 [Pt hb]):=hcb;have h:=h.le hR0;have hv:=hv.le hR0;have hrv:=hrv.le hR0;refine jlr (v:=Pt hb) hcb rfl ?_;refine jc (A:=[]) (Sr h hv) ?_;rintro _ R1 _ _ ⟨hR,sb,so,rfl,hst,rfl⟩;subst hR;refine jlr (v:=Pt hb) hcb rfl ?_;refine jc (A:=[(sb,so)]) (Uc h hv hrv hol hth hnd hst (λa ha=>by have:=h16 a ha;omega) htz) ?_;rintro x R2 A2 _ ⟨hR,hq⟩;subst hR;cases hlp:Dd s.AG l order (CG s) 1 with
 | none=>
  rw[hlp] at hq hcr;obtain⟨rfl,rfl⟩:=hq;obtain rfl:r = none:=hcr;refine jex rfl (jex rfl (jex rfl (ja λkb=>jS [.map none] (DI ?_))));refine jbd (cs:=cl z28) rfl rfl (jS (cl z28) (jla (l:=cl z28) (Z0 rfl) rfl ?_));exact B9 (A:=[]) hR0 ⟨rfl,rfl⟩
 | some q=>
 obtain⟨to,tops⟩:=q;rw[hlp] at hq hcr;obtain⟨s',rfl,CR⟩:=hcr;obtain⟨hlen,m2,o2,tb,rfl,hmg,rfl⟩:=hq;have htl:=CR.tl;refine jex rfl (jex rfl (jex rfl (ja λkb=>jS [.map (some m2)] (CL ?_))));refine BQ (b:=kb) λR3 hR3 hkb=>BQ (b:=m2) λR4 hR4 hm2=>BQ (b:=tb) λR5 hR5 htb=>?_
 have hkb:=(hR4.trans hR5) _ _ hkb;have hm2:=hR5 _ _ hm2;have hR35:=hR3.trans (hR4.trans hR5);have hcb:=hR35 _ _ hcb;have h:=h.le hR35;have hv:=hv.le hR35;have hrv:=hrv.le hR35;have hR05:=hR0.trans hR35;clear hR0 hR3 hR4 hR5 hR35;have hv0:=hv;obtain⟨o,g1,g2,g3,g4⟩:=hv0;refine jlr (v:=Pt hb) hcb rfl (jnc (jfo (F0 (l:=eSt s wv tv mv thv ov pv) g1 (Z0 rfl) rfl ?_)));refine jc (A:=[]) (TK h) ?_;rintro _ R6 _ hR6 ⟨bw,cw,wsp,bt,tc,tsp,bm,mc,msp,bh,hc,hsp,rows,Ar,oov,ppv,hcw,hwsp,htc,hmc,hmsp,hhc,hths,hoo,hpp,rfl,rfl⟩;have hkb:=hR6 _ _ hkb;have hm2:=hR6 _ _ hm2;have htb:=hR6 _ _ htb;have hcb:=hR6 _ _ hcb;have h:=h.le hR6;have hv:=hv.le hR6;have hrv:=hrv.le hR6;have g1:=hR6 _ _ g1;have g2:=hR6 _ _ g2;have g3:=g3.le hR6;have hR06:=hR05.trans hR6;clear hR05 hR6;obtain⟨oa,oc,rfl⟩:=hoo.sl;obtain⟨pa,pc,rfl⟩:=hpp.sl;refine ja λob=>jS (eSt s (S0 bw s.AA.length cw) (S0 bt s.A0.length tc) (S0 bm s.AK.length mc) (S0 bh s.A6.length hc) (.slice oa s.old.length oc) (.slice pa s.AG.length pc)) ?_
 refine jfo (jl (v:=S0 bw s.AA.length cw) rfl (WO (cs':=(List.replicate s.AA.length (0:Int)).map I ++ wsp) ω σ (by unfold lay;simp) ?_));obtain⟨cs,hcs⟩:∃cs:List Value,cs = [S0 bt s.A0.length tc,S0 bm s.AK.length mc,I s.Ad,.bool s.stop,.bool s.full,.bool s.Ae,I s.want,S0 bh s.A6.length hc,.slice oa s.old.length oc,.slice pa s.AG.length pc,I s.Aj,I s.BA]:=⟨_,rfl⟩;obtain⟨E,hE⟩:∃E:Chs,E = (gb,C 28 (cl z28)) :: (bt,C AI (Ac eRg s.A0 ++ tsp)) :: (bm,C B7 (s.AK.map Value.bool ++ msp)) :: (bh,C 83 (rows.flatten ++ hsp)) :: (Ar ++ F):=⟨_,rfl⟩;obtain⟨Z,hZ⟩:∃Z:List Int,Z = List.replicate s.AA.length 0:=⟨_,rfl⟩;have hZl:Z.length = s.AA.length:=by rw[hZ,Yy]
 obtain⟨W,hW⟩:∃W:Value,W = S0 bw s.AA.length cw:=⟨_,rfl⟩;refine BI (D':=(ob,C 28 (W :: cs)) :: (bw,C AX (Z.map I ++ wsp)) :: (sb,so) :: E) ?_ ?_
 ·subst hcs hE hZ hW;refine Zs _ (Zs _ ?_);exact (ZH (l₁:=_ :: _ :: _ :: Ar)).trans (Zs _ (ZH (l₁:=_ :: _ :: _ :: Ar)))
 obtain⟨ps,hmT,hp2,hp3⟩:=g3;have plm:∀p∈ps,∃t∈l,p.1 = t.at_∧ThV R6 p.2 t:=λp hp=>Tt (o:=o) hp2 hp3 hp
 have pfst:ps.map Prod.fst = l.map AU.at_:=by
  apply aM (by simpa using hp2);intro i h1 h2;rw[au,au];exact (hp3 i (by simpa using h1) (by simpa using h2)).1
 have hstep:∀(xs:List Int) (a:Int) (t:AU),BL l a = some t→Ch s.AG order a = true→Bi Z (((xs ++ [a]).filter (Ch s.AG order)).map (Ft l)) = By (Bi Z ((xs.filter (Ch s.AG order)).map (Ft l))) a (a :: AZ t.sh :: (t.refs.map (λ_=>0) ++ t.nums)):=λxs a t ht hd=>by
  have ha:=(Bh ht).2;rw[List.filter_append,List.filter_cons_of_pos hd,List.filter_nil,Zf,ZX,List.map_nil,JB];unfold Ft;rw[ht];unfold EQ;dsimp only;rw[ha,List.map_const']
 have hskip:∀(xs:List Int) (a:Int),Ch s.AG order a = false→(xs ++ [a]).filter (Ch s.AG order) = xs.filter (Ch s.AG order):=λxs a hd=>by
  rw[List.filter_append,List.filter_cons_of_neg (by rw[hd];decide),List.filter_nil,ZN]
 have hfound:∀a:Int,(lk (prs order to) a).isSome = order.contains a:=λa=>by
  rw[QZ hlen];by_cases c:a∈order
  ·rw[if_pos c];simpa using c
  ·rw[if_neg c];simpa using c
 refine jci (λ_:List Int=>[ordv,Pt cb,Pt gb,.map (some sb),Pt kb,S0 tb tops.length tops.length,.func (.func 134) #[] #[Pt kb,Pt cb],Pt ob,.func (.func 135) #[] #[Pt ob]])
  (λxs=>(ob,C 28 (W :: cs)) :: (bw,C AX ((Bi Z ((xs.filter (Ch s.AG order)).map (Ft l))).map I ++ wsp)) :: (sb,so) :: E)
  (λR' xs=>R' = R6∧xs.Perm (l.map AU.at_)) (λK1 k1=>?_) ?_
 ·refine jlr (v:=Pt hb) hcb rfl (jnc (jfo (jlr (v:=.map (some mb)) g1 rfl ?_)));refine @XZ _ _ _ 73 62 mb o ps (Li.fz g2) Mh hmT λib it hit=>?_
  refine jci (λ_:List Int=>[ordv,Pt cb,Pt gb,.map (some sb),Pt kb,S0 tb tops.length tops.length,.func (.func 134) #[] #[Pt kb,Pt cb],Pt ob,.func (.func 135) #[] #[Pt ob]])
   (λxs=>(ob,C 28 (W :: cs)) :: (bw,C AX ((Bi Z ((xs.filter (Ch s.AG order)).map (Ft l))).map I ++ wsp)) :: (sb,so) :: E)
   (λR' xs=>R' = R6∧xs.Perm (l.map AU.at_)) (λK2 k2=>?_) ?_
  rotate_left
  ·rintro e R' q hp he;refine z_V ?_;exact k1 R' q hp
  refine jli (λi:List (Int × Value) × List (Int × Value) × Obj × Option (Int × Value)=>i.1.length) (λ_=>[ordv,Pt cb,Pt gb,.map (some sb),Pt kb,S0 tb tops.length tops.length,.func (.func 134) #[] #[Pt kb,Pt cb],Pt ob,.func (.func 135) #[] #[Pt ob],Pt ib])
   (λi=>(ib,i.2.2.1) :: (ob,C 28 (W :: cs)) :: (bw,C AX ((Bi Z (((i.2.1.map Prod.fst).filter (Ch s.AG order)).map (Ft l))).map I ++ wsp)) :: (sb,so) :: E)
   (λR' i=>R' = R6∧ps.Perm (i.2.1 ++ i.1)∧ItG mb o i.2.2.1 i.1 i.2.2.2) (ps,[],it,none) ⟨rfl,ZU _,hit⟩ rfl rfl ?_
  rintro K e R' ⟨rem,don,it2,cur⟩ ⟨hR,hpm,hit2⟩ he hK;subst hR;dsimp only at hpm hit2 he hK ⊢;refine z_V ?_;refine @Y4 _ _ _ mb ib o it2 _ ps rem cur _ (Li.fz g2) hmT hit2 (λh0=>?_) (λp rem' it' hpr hit'=>?_)
  ·subst h0;refine jex rfl (CL (Bn (k2 _ (don.map Prod.fst) ⟨rfl,?_⟩)));rw[← pfst];rw[ZN] at hpm;exact (hpm.symm.map Prod.fst)
  have hpp:p∈ps:=hpm.mem_iff.2 (ZB.2 (.inr (hpr.mem_iff.2 (.head _))));obtain⟨t,ht,hpt,rv,nv,hpv,hrr,hnn⟩:=plm p hpp;have hlen' : rem'.length < rem.length:=by rw[hpr.length_eq,Yt];omega
  have hpm' : ps.Perm ((don ++ [p]) ++ rem'):=hpm.trans (by
   rw[Yr]
   exact List.Perm.append_left don hpr)
  obtain⟨pa',pv'⟩:=p;dsimp only at hpt hpv;subst hpt;obtain⟨hi0,hi1⟩:=hin t ht;obtain⟨d,hd⟩:=Int.eq_ofNat_of_zero_le hi0;have htf:=Dn hat ht;refine jex rfl (DI ?_);obtain⟨xs,hxs⟩:∃xs:List Int,xs = don.map Prod.fst:=⟨_,rfl⟩;have hxs2:(don ++ [((t.at_,pv'):Int × Value)]).map Prod.fst = xs ++ [t.at_]:=by rw[Zf,← hxs];rfl
  rw[← hxs];refine jci (λ_:Unit=>[ordv,Pt cb,Pt gb,.map (some sb),Pt kb,S0 tb tops.length tops.length,.func (.func 134) #[] #[Pt kb,Pt cb],Pt ob,.func (.func 135) #[] #[Pt ob],Pt ib])
   (λ_=>(ib,it') :: (ob,C 28 (W :: cs)) :: (bw,C AX ((Bi Z (((xs ++ [t.at_]).filter (Ch s.AG order)).map (Ft l))).map I ++ wsp)) :: (sb,so) :: E)
   (λR3 _=>R3 = R') (λK3 k3=>?_) ?_
  rotate_left
  ·rintro e R3 _ hR he;subst hR;refine z_V ?_;refine hK _ (rem',don ++ [(t.at_,pv')],it',some (t.at_,pv')) (by dsimp only;omega) ⟨rfl,hpm',hit'⟩ |> λz=>?_
   dsimp only at z;rw[hxs2] at z;exact z
  refine @Xr _ _ _ mb ib o it' ps rem' (t.at_,pv') _ (Li.fz g2) hmT hit' ?_;obtain⟨ra,rc,rfl⟩:=hrr.sl;obtain⟨na,nc,rfl⟩:=hnn.sl;refine jex rfl (jex rfl (ja λtk=>?_));subst hpv;refine jS (eTh t (.slice ra t.refs.length rc) (.slice na t.nums.length nc)) ?_;refine jlr (v:=.map (some m2)) hkb rfl ?_;refine @Un _ _ _ 144 3 m2 o2 (prs order to) t.at_ (I 0) true (Li.fz hm2) Ie VJ hmg ?_;rw[if_pos rfl,hfound];refine jex rfl (jex rfl ?_);refine jci (λu:Value=>[ordv,Pt cb,Pt gb,.map (some sb),Pt kb,S0 tb tops.length tops.length,.func (.func 134) #[] #[Pt kb,Pt cb],Pt ob,.func (.func 135) #[] #[Pt ob],I t.at_,Pt tk,Pt ib,.bool (!order.contains t.at_),u])
   (λ_=>(tk,C 62 (eTh t (.slice ra t.refs.length rc) (.slice na t.nums.length nc))) :: (ib,it') :: (ob,C 28 (W :: cs)) :: (bw,C AX ((Bi Z ((xs.filter (Ch s.AG order)).map (Ft l))).map I ++ wsp)) :: (sb,so) :: E)
   (λR3 u=>R3 = R'∧(order.contains t.at_ = false→u = .bool (Ao s.AG (AN t.at_)))) (λK4 k4=>?_) ?_
  ·refine Bt (λg=>?_) (λg=>?_)
   ·refine jp (Ef hi0 ω) ?_;refine @jlk _ _ _ sb so _ _ (Ao s.AG (AN t.at_)) _ hst Iff.rfl ?_;exact k4 _ _ ⟨rfl,λ_=>rfl⟩
   ·exact k4 _ _ ⟨rfl,λhh=>by rw[hh] at g;cases g⟩
  rintro e R3 u ⟨hR,hu⟩ he;subst hR;refine z_V ?_;cases hoc:order.contains t.at_ with
  | true=>
   have hd0:Ch s.AG order t.at_ = false:=by unfold Ch;rw[hoc];simp
   refine EI (CL (Bn ?_));have z:=k3 R3 () rfl;rw[hskip _ _ hd0] at z;exact z
  | false=>
   rw[hu hoc];refine EA (jif (λg=>?_) (λg=>?_));rotate_left
   ·have hd0:Ch s.AG order t.at_ = false:=by unfold Ch;rw[g];rfl
    have z:=k3 R3 () rfl;rw[hskip _ _ hd0] at z;exact Bn z
   have hd1:Ch s.AG order t.at_ = true:=by unfold Ch;rw[g,hoc];rfl
   refine jla (l:=eTh t (.slice ra t.refs.length rc) (.slice na t.nums.length nc)) (Z0 rfl) rfl ?_;refine PT (by kernel_rfl) ?_;have z:=k3 R3 () rfl;rw[hstep xs t.at_ t htf hd1] at z;rw[hd] at z ⊢;subst hW;refine jc (A:=[(ob,C 28 (S0 bw s.AA.length cw :: cs)),(bw,C AX ((Bi Z ((xs.filter (Ch s.AG order)).map (Ft l))).map I ++ wsp))]) (WK (g:=λ_=>0) (d:=d) hrr hnn (by rw[C8,hZl]) hcw ω ω λx _=>X4 x) ?_;rintro _ R4 A4 _ ⟨hR,rfl⟩;subst hR;refine Aw [(ib,it'),(ob,C 28 (S0 bw s.AA.length cw :: cs)),(bw,C AX ((By (Bi Z ((xs.filter (Ch s.AG order)).map (Ft l))) d (d :: AZ t.sh :: (t.refs.map (λ_=>0) ++ t.nums))).map I ++ wsp)),(sb,so)] (G:=E) ?_;exact z
 rintro e R' xs ⟨hR,hxs⟩ he;subst hR;refine z_V ?_;obtain⟨w1,hw1⟩:∃w1:List Int,w1 = Bi Z ((xs.filter (Ch s.AG order)).map (Ft l)):=⟨_,rfl⟩;have hw1l:w1.length = s.AA.length:=by rw[hw1,C8,hZl]
 have hfin:=CR.wd xs hxs;rw[← hZ,← hw1] at hfin;rw[← hw1];have hwl' : s'.AA.length = s.AA.length:=by rw[hfin,C8,hw1l]
 obtain⟨oa',oc',hrsl⟩:=BG.sl hrv;refine jci (λ_:Unit=>[Pt gb,.map (some sb),S0 tb tops.length tops.length,.func (.func 134) #[] #[Pt kb,Pt cb],Pt ob])
  (λ_=>(ob,C 28 (W :: cs)) :: (bw,C AX (s'.AA.map I ++ wsp)) :: (sb,so) :: E)
  (λR3 _=>R3 = R') (λK1 k1=>?_) ?_
 ·refine C4 ⟨oa',oc',hrsl⟩ ?_;refine jci (λ_:Unit=>[Pt gb,.map (some sb),S0 tb tops.length tops.length,.func (.func 134) #[] #[Pt kb,Pt cb],Pt ob])
   (λ_=>(ob,C 28 (W :: cs)) :: (bw,C AX (s'.AA.map I ++ wsp)) :: (sb,so) :: E)
   (λR3 _=>R3 = R') (λK2 k2=>?_) ?_
  rotate_left
  ·rintro e R3 q hp he;refine z_V ?_;exact k1 R3 q hp
  refine jli (λi:Nat=>order.length - i) (λi=>[Pt cb,Pt gb,.map (some sb),Pt kb,S0 tb tops.length tops.length,.func (.func 134) #[] #[Pt kb,Pt cb],Pt ob,.func (.func 135) #[] #[Pt ob],ordv,I order.length,I i])
   (λi=>(ob,C 28 (W :: cs)) :: (bw,C AX ((Bi w1 (((order.zip to).take i).map λp=>DY l order to p.1 p.2)).map I ++ wsp)) :: (sb,so) :: E)
   (λR3 i=>R3 = R'∧i≤order.length) 0 ⟨rfl,ω⟩ rfl τ ?_
  rintro K e R3 i ⟨hR,hi⟩ he hK;subst hR;refine z_V ?_;refine jlt (jif (λc=>?_) (λc=>?_));rotate_left
  ·have c:=z_g c;rw[Ys (by rw[List.length_zip,hlen];omega),← hfin];exact k2 R3 () rfl
  have c:i < order.length:=by have:=z_f c;omega
  refine jci (λ_:Unit=>[Pt cb,Pt gb,.map (some sb),Pt kb,S0 tb tops.length tops.length,.func (.func 134) #[] #[Pt kb,Pt cb],Pt ob,.func (.func 135) #[] #[Pt ob],ordv,I order.length,I i])
   (λ_=>(ob,C 28 (W :: cs)) :: (bw,C AX ((Bi w1 (((order.zip to).take (i + 1)).map λp=>DY l order to p.1 p.2)).map I ++ wsp)) :: (sb,so) :: E)
   (λR4 _=>R4 = R3) (λK3 k3=>?_) ?_
  rotate_left
  ·rintro e R4 q hR he;subst hR;refine z_V ?_;exact jad (hK _ (i + 1) ω ⟨rfl,c⟩)
  refine jci (λ_:Unit=>[Pt cb,Pt gb,.map (some sb),Pt kb,S0 tb tops.length tops.length,.func (.func 134) #[] #[Pt kb,Pt cb],Pt ob,.func (.func 135) #[] #[Pt ob],ordv,I order.length,I i])
   (λ_=>(ob,C 28 (W :: cs)) :: (bw,C AX ((Bi w1 (((order.zip to).take (i + 1)).map λp=>DY l order to p.1 p.2)).map I ++ wsp)) :: (sb,so) :: E)
   (λR4 _=>R4 = R3) (λK4 k4=>?_) ?_
  rotate_left
  ·rintro e R4 q hp he;refine z_V ?_;exact k3 R4 q hp
  have hio:=Yq c;obtain⟨t,ht⟩:=hth _ hio;obtain⟨hr0,hr1⟩:=CR.rn i c ω;have hr1:=hr1 t ht;obtain⟨d,hd⟩:=Int.eq_ofNat_of_zero_le hr0;have hlk:lk (prs order to) order[i] = some (I (to[i]'(ω))):=by
   refine Mf hmg.nd (p:=(order[i],I (to[i]'(ω)))) ?_;unfold prs;have hz:(order[i],to[i]'(ω))∈order.zip to:=by
    have hiz:i < (order.zip to).length:=by rw[List.length_zip,hlen];omega
    have:=Yq hiz;rwa [List.getElem_zip] at this
   exact ZK.2 ⟨_,hz,rfl⟩
  have hput:∀(v' : Value) (k:Value→M),ThV R3 v' t→(∀x,J R3 ((ob,C 28 (W :: cs)) :: (bw,C AX ((Bi w1 (((order.zip to).take (i + 1)).map λp=>DY l order to p.1 p.2)).map I ++ wsp)) :: (sb,so) :: E) (k x))→J R3 ((ob,C 28 (W :: cs)) :: (bw,C AX ((Bi w1 (((order.zip to).take i).map λp=>DY l order to p.1 p.2)).map I ++ wsp)) :: (sb,so) :: E) (CV P (.func (.func 135) #[] #[Pt ob]) [v',I (to[i]'(ω)),.func (.func 134) #[] #[Pt kb,Pt cb]] k):=λv' k hv' H=>by
   obtain⟨rv,nv,rfl,hrr,hnn⟩:=hv';obtain⟨ra,rc,rfl⟩:=hrr.sl;obtain⟨na,nc,rfl⟩:=hnn.sl;refine PT (by kernel_rfl) ?_;have hiz:i < (order.zip to).length:=by rw[List.length_zip,hlen];omega
   have hnew:Bi w1 (((order.zip to).take (i + 1)).map λp=>DY l order to p.1 p.2) = By (Bi w1 (((order.zip to).take i).map λp=>DY l order to p.1 p.2)) d (d :: AZ t.sh :: (t.refs.map (plc l order to) ++ t.nums)):=by
    rw[Yp hiz,Zf,ZX,List.map_nil,JB,List.getElem_zip];unfold DY;dsimp only;rw[ht,hd]
   rw[hnew] at H;rw[hd];subst hW;refine jc (A:=[(ob,C 28 (S0 bw s.AA.length cw :: cs)),(bw,C AX ((Bi w1 (((order.zip to).take i).map λp=>DY l order to p.1 p.2)).map I ++ wsp))]) (WK (g:=plc l order to) (d:=d) hrr hnn (by rw[C8,hw1l]) hcw ω ω λx hx=>TG hv hlen hm2 hmg (λh0=>by have:=h16 0 h0;omega) hkb hcb (href _ hio t ht x hx)) ?_;rintro x R4 A4 _ ⟨hR,rfl⟩;subst hR;exact H x
  have hMT:MpT R3 o l:=⟨ps,hmT,hp2,hp3⟩;refine CE hrv ω ω ?_;simp only[Yj];refine jlr (v:=Pt hb) hcb rfl (jnc (jfo (jlr (v:=.map (some mb)) g1 rfl (jlr (v:=.map (some m2)) hkb rfl ?_))));refine EP ?_ (Dk ?_)
  ·refine @Pm _ _ _ mb o l order[i] false (Li.fz g2) hMT (λe=>by rw[ht] at e;cases e) (λt' v' e hv'=>?_);rw[ht] at e;cases e;refine Af (jlr (v:=.map (some m2)) hkb rfl jev) ?_;refine @Un _ _ _ 144 3 m2 o2 (prs order to) order[i] (I 0) false (Li.fz hm2) Ie VJ hmg ?_;rw[hlk];exact hput v' _ hv' λx=>k4 _ () rfl
  ·refine @Un _ _ _ 144 3 m2 o2 (prs order to) order[i] (I 0) false (Li.fz hm2) Ie VJ hmg ?_;rw[hlk];refine Af (jlr (v:=Pt hb) hcb rfl jev) (Af (jlr (v:=.map (some mb)) g1 rfl jev) ?_);refine @Pm _ _ _ mb o l order[i] false (Li.fz g2) hMT (λe=>by rw[ht] at e;cases e) (λt' v' e hv'=>?_);rw[ht] at e;cases e;exact hput v' _ hv' λx=>k4 _ () rfl
 rintro e R3 _ hR he;subst hR;refine z_V ?_;obtain⟨cs2,hcs2⟩:∃cs2:List Value,cs2 = [S0 bm s.AK.length mc,I s.Ad,.bool s.stop,.bool s.full,.bool s.Ae,I s.want,S0 bh s.A6.length hc,.slice oa s.old.length oc,.slice pa s.AG.length pc,I s.Aj,I s.BA]:=⟨_,rfl⟩;rw[← hcs2] at hcs;subst hcs;subst hE;refine Aw [(ob,C 28 (W :: S0 bt s.A0.length tc :: cs2)),(bt,C AI (Ac eRg s.A0 ++ tsp)),(sb,so)] (G:=(bw,C AX (s'.AA.map I ++ wsp)) :: (gb,C 28 (cl z28)) :: (bm,C B7 (s.AK.map Value.bool ++ msp)) :: (bh,C 83 (rows.flatten ++ hsp)) :: (Ar ++ F)) ?_;obtain⟨E2,hE2⟩:∃E2:Chs,E2 = (bw,C AX (s'.AA.map I ++ wsp)) :: (gb,C 28 (cl z28)) :: (bm,C B7 (s.AK.map Value.bool ++ msp)) :: (bh,C 83 (rows.flatten ++ hsp)) :: (Ar ++ F):=⟨_,rfl⟩;rw[← hE2];obtain⟨TN,hTN⟩:∃TN,TN = OV s.AG s.A0 tops:=⟨_,rfl⟩;have hTl:TN.length = s.A0.length:=by rw[hTN,Kf]
 have hT1:TN.take 1 ++ s.A0.drop 1 = s.A0:=by
  rw[hTN];cases hc:s.A0 with
  | nil=>rw[hc] at t0;simp at t0
  | cons x t=>
   unfold OV;rw[Yt,List.range_succ_eq_map,ZX];rfl
 refine jci (λ_:Unit=>[Pt gb,.func (.func 134) #[] #[Pt kb,Pt cb],Pt ob]) (λ_=>(ob,C 28 (W :: S0 bt s.A0.length tc :: cs2)) :: (bt,C AI (Ac eRg (TN) ++ tsp)) :: (sb,so) :: E2) (λR4 _=>R4 = R3) (λK1 k1=>?_) ?_
 ·refine jci (λ_:Unit=>[Pt gb,.func (.func 134) #[] #[Pt kb,Pt cb],Pt ob]) (λ_=>(ob,C 28 (W :: S0 bt s.A0.length tc :: cs2)) :: (bt,C AI (Ac eRg (TN) ++ tsp)) :: (sb,so) :: E2) (λR4 _=>R4 = R3) (λK2 k2=>?_) ?_;rotate_left
  ·rintro e R4 q hp he;refine z_V ?_;exact k1 R4 q hp
  refine jli (λi:Nat=>s.A0.length - i) (λi=>[Pt gb,.map (some sb),S0 tb tops.length tops.length,.func (.func 134) #[] #[Pt kb,Pt cb],Pt ob,I i]) (λi=>(ob,C 28 (W :: S0 bt s.A0.length tc :: cs2)) :: (bt,C AI (Ac eRg (TN.take i ++ s.A0.drop i) ++ tsp)) :: (sb,so) :: E2) (λR4 i=>R4 = R3∧1≤i∧i≤s.A0.length) 1 ⟨rfl,ω,ω⟩ rfl (by show _ = (ob,C 28 (W :: S0 bt s.A0.length tc :: cs2)) :: (bt,C AI (Ac eRg (TN.take 1 ++ s.A0.drop 1) ++ tsp)) :: (sb,so) :: E2;rw[hT1];rfl) ?_;rintro K e R4 i ⟨hR,hi1,hi⟩ he hK;subst hR;refine z_V ?_;refine jfo (jl (v:=S0 bt s.A0.length tc) rfl (jln (jlt (jif (λc=>?_) (λc=>?_)))));rotate_left
  ·have c:=z_g c;rw[Ys ω,Yz ω,ZN];exact k2 R4 () rfl
  have c:i < s.A0.length:=by have:=z_f c;omega
  have hul:=Do (l':=TN) (l:=s.A0) (k:=i) hTl;have ES:∀x,((TN.take i ++ s.A0.drop i).set i x).set i (TN[i]'(ω)) = TN.take (i + 1) ++ s.A0.drop (i + 1):=λx=>by
   rw[List.set_set];exact Ff hTl c
  have hrow:TN[i]'(ω) = LY s.AG i (tops[i]'(ω)):=by
   subst hTN;rw[Nx];unfold VT;rw[if_neg ω,Ym,Yi ω];rfl
  refine jci (λ_:Unit=>[Pt gb,.map (some sb),S0 tb tops.length tops.length,.func (.func 134) #[] #[Pt kb,Pt cb],Pt ob,I i]) (λ_=>(ob,C 28 (W :: S0 bt s.A0.length tc :: cs2)) :: (bt,C AI (Ac eRg (TN.take (i + 1) ++ s.A0.drop (i + 1)) ++ tsp)) :: (sb,so) :: E2) (λR5 _=>R5 = R4) (λK3 k3=>?_) ?_;rotate_left
  ·rintro e R5 q hR he;subst hR;refine z_V ?_;exact jad (hK _ (i + 1) ω ⟨rfl,ω,c⟩)
  refine jci (λ_:Unit=>[Pt gb,.map (some sb),S0 tb tops.length tops.length,.func (.func 134) #[] #[Pt kb,Pt cb],Pt ob,I i]) (λ_=>(ob,C 28 (W :: S0 bt s.A0.length tc :: cs2)) :: (bt,C AI (Ac eRg (TN.take (i + 1) ++ s.A0.drop (i + 1)) ++ tsp)) :: (sb,so) :: E2) (λR5 _=>R5 = R4) (λK4 k4=>?_) ?_;rotate_left
  ·rintro e R5 q hp he;refine z_V ?_;exact k3 R5 q hp
  refine jfo (jl (v:=S0 bt s.A0.length tc) rfl (jp (UZ i) (C5 c (Af (jl (v:=S0 bt s.A0.length tc) rfl jev) ?_))));refine GR (t:=TN.take i ++ s.A0.drop i) (x:=DH i) ω ?_;have hgt:(tops.map I ++ [])[0 + i * 1]? = some (I (tops[i]'(ω))):=by
   rw[Z6,Zo];exact Fj ω
  refine jci (λ_:Unit=>[Pt gb,.map (some sb),S0 tb tops.length tops.length,.func (.func 134) #[] #[Pt kb,Pt cb],Pt ob,I i,.bool (decide (tops[i]'(ω) > AH i) || Ao s.AG i)]) (λ_=>(ob,C 28 (W :: S0 bt s.A0.length tc :: cs2)) :: (bt,C AI (Ac eRg ((TN.take i ++ s.A0.drop i).set i (DH i)) ++ tsp)) :: (sb,so) :: E2) (λR5 _=>R5 = R4) (λK5 k5=>?_) ?_
  ·refine C5 ω (jlr (v:=I (tops[i]'(ω))) htb hgt (jp (CK i) ?_));refine jci (λu:Value × Value=>[Pt gb,.map (some sb),S0 tb tops.length tops.length,.func (.func 134) #[] #[Pt kb,Pt cb],Pt ob,I i,.pointer (some ⟨tb,0 + i * 1,none⟩),I (tops[i]'(ω)),.bool (decide (tops[i]'(ω) > AH i)),u.1,u.2]) (λ_=>(ob,C 28 (W :: S0 bt s.A0.length tc :: cs2)) :: (bt,C AI (Ac eRg ((TN.take i ++ s.A0.drop i).set i (DH i)) ++ tsp)) :: (sb,so) :: E2) (λR5 u=>R5 = R4∧(decide (tops[i]'(ω) > AH i) = false→u = (.map (some sb),I i))) (λK6 k6=>?_) ?_
   ·refine jgr (BR (λg=>?_) (λg=>?_))
    ·exact k6 R4 (.map (some sb),I i) ⟨rfl,λ_=>rfl⟩
    ·exact k6 R4 (U,U) ⟨rfl,λhh=>by rw[hh] at g;cases g⟩
   rintro e R5 ⟨u1,u2⟩ ⟨hR,hu⟩ he;subst hR;dsimp only at he;refine z_V ?_;refine Af (jlr (v:=I (tops[i]'(ω))) htb hgt jev) (BR (λg=>?_) (λg=>?_))
   ·have z:=k5 R5 () rfl;cases hu g;rw[g,Yl] at z;refine @jlk _ _ _ sb so _ _ (Ao s.AG i) _ hst Iff.rfl ?_;rw[g];exact EI z
   ·have z:=k5 R5 () rfl;rw[g,Yo] at z;rw[g];exact EA z
  rintro e R5 _ hR he;subst hR;refine z_V ?_;refine jif (λg=>?_) (λg=>?_)
  ·refine jfo (jl (v:=S0 bt s.A0.length tc) rfl (C5 ω (jlr (v:=I (tops[i]'(ω))) htb hgt (C5 ω (jlr (v:=I (tops[i]'(ω))) htb hgt ?_)))));refine jbd (cs:=eRg ⟨3,-1,tops[i]'(ω),tops[i]'(ω),0⟩) rfl rfl (C5 c ?_);refine GR (t:=(TN.take i ++ s.A0.drop i).set i (DH i)) (x:=⟨3,-1,tops[i]'(ω),tops[i]'(ω),0⟩) (by rw[ZV];omega) ?_;have e1:(⟨3,-1,tops[i]'(ω),tops[i]'(ω),0⟩:Rg) = TN[i]'(ω):=by
    rw[hrow];unfold LY;rw[if_pos (by simpa using g)]
   rw[e1,ES];exact k4 _ () rfl
  ·have e1:DH i = TN[i]'(ω):=by
    rw[hrow];unfold LY;rw[if_neg (by simpa using g)]
   have e2:=ES (DH i);rw[List.set_set,← e1] at e2;have z:=k4 R5 () rfl;rw[← e2] at z;exact z
 rintro e R4 _ hR he;subst hR;refine z_V ?_;subst hE2 hcs2;refine jfo (jl (v:=S0 bm s.AK.length mc) rfl (Vk (cs':=(List.replicate s.AK.length false).map Value.bool ++ msp) ω σ (by unfold lay;simp) ?_));refine jfo (jS [W,S0 bt s.A0.length tc,S0 bm s.AK.length mc,I 0,.bool s.stop,.bool s.full,.bool s.Ae,I s.want,S0 bh s.A6.length hc,.slice oa s.old.length oc,.slice pa s.AG.length pc,I s.Aj,I s.BA] ?_);refine jfo (jS [W,S0 bt s.A0.length tc,S0 bm s.AK.length mc,I 0,.bool false,.bool s.full,.bool s.Ae,I s.want,S0 bh s.A6.length hc,.slice oa s.old.length oc,.slice pa s.AG.length pc,I s.Aj,I s.BA] ?_);refine jfo (jS [W,S0 bt s.A0.length tc,S0 bm s.AK.length mc,I 0,.bool false,.bool false,.bool s.Ae,I s.want,S0 bh s.A6.length hc,.slice oa s.old.length oc,.slice pa s.AG.length pc,I s.Aj,I s.BA] ?_);refine jfo (jS [W,S0 bt s.A0.length tc,S0 bm s.AK.length mc,I 0,.bool false,.bool false,.bool s.Ae,I 0,S0 bh s.A6.length hc,.slice oa s.old.length oc,.slice pa s.AG.length pc,I s.Aj,I s.BA] ?_);refine jfo (jS [W,S0 bt s.A0.length tc,S0 bm s.AK.length mc,I 0,.bool false,.bool false,.bool s.Ae,I 0,S0 bh s.A6.length hc,SN,.slice pa s.AG.length pc,I s.Aj,I s.BA] ?_);refine jfo (jl (v:=I s.BA) rfl (jad (jfo (jS [W,S0 bt s.A0.length tc,S0 bm s.AK.length mc,I 0,.bool false,.bool false,.bool s.Ae,I 0,S0 bh s.A6.length hc,SN,.slice pa s.AG.length pc,I s.Aj,I (s.BA + 1)] ?_))));obtain⟨csF,hcsF⟩:∃csF:List Value,csF = [W,S0 bt s.A0.length tc,S0 bm s.AK.length mc,I 0,.bool false,.bool false,.bool s.Ae,I 0,S0 bh s.A6.length hc,SN,.slice pa s.AG.length pc,I s.Aj,I (s.BA + 1)]:=⟨_,rfl⟩;rw[← hcsF];have hc8:csF[0 + 8]? = some (S0 bh s.A6.length hc):=by rw[hcsF];rfl
 refine Aw [(bh,C 83 (rows.flatten ++ hsp)),(ob,C 28 csF)] (G:=(bt,C AI (Ac eRg TN ++ tsp)) :: (sb,so) :: (bw,C AX (s'.AA.map I ++ wsp)) :: (gb,C 28 (cl z28)) :: (bm,C B7 ((List.replicate s.AK.length false).map Value.bool ++ msp)) :: (Ar ++ F)) ?_;obtain⟨G1,hG1⟩:∃G1:Chs,G1 = (bt,C AI (Ac eRg TN ++ tsp)) :: (sb,so) :: (bw,C AX (s'.AA.map I ++ wsp)) :: (gb,C 28 (cl z28)) :: (bm,C B7 ((List.replicate s.AK.length false).map Value.bool ++ msp)) :: F:=⟨_,rfl⟩;refine BI (D':=(bh,C 83 (rows.flatten ++ hsp)) :: (ob,C 28 csF) :: (Ar ++ G1)) ?_ ?_
 ·rw[hG1];exact Zs _ (Zs _ (Zu [_,_,_,_,_] Ar F))
 have hsl:=hths.len;refine jci (λ_:List (List Value) × Chs=>[Pt gb,Pt ob])
  (λq=>(bh,C 83 (q.1.flatten ++ hsp)) :: (ob,C 28 csF) :: (q.2 ++ G1))
  (λR5 q=>R5 = R4∧Fr s'.A6 q.1 q.2) (λK1 k1=>?_) ?_
 ·refine jfo (jl (v:=S0 bh s.A6.length hc) hc8 (jln ?_));refine jci (λ_:List (List Value) × Chs=>[Pt gb,Pt ob])
   (λq=>(bh,C 83 (q.1.flatten ++ hsp)) :: (ob,C 28 csF) :: (q.2 ++ G1))
   (λR5 q=>R5 = R4∧Fr s'.A6 q.1 q.2) (λK2 k2=>?_) ?_
  rotate_left
  ·rintro e R5 q hp he;refine z_V ?_;exact k1 R5 q hp
  obtain⟨NT',hNT⟩:∃NT' : List Th,NT' = s.A6.map (I3 l order to):=⟨_,rfl⟩;have hNl:NT'.length = s.A6.length:=by rw[hNT,Z1]
  refine jli (λi:Nat × List (List Value) × Chs=>s.A6.length - i.1) (λi=>[Pt gb,.func (.func 134) #[] #[Pt kb,Pt cb],Pt ob,I s.A6.length,I i.1])
   (λi=>(bh,C 83 (i.2.1.flatten ++ hsp)) :: (ob,C 28 csF) :: (i.2.2 ++ G1))
   (λR5 i=>R5 = R4∧i.1≤s.A6.length∧Fr (NT'.take i.1 ++ s.A6.drop i.1) i.2.1 i.2.2) (0,rows,Ar) ⟨rfl,σ,hths⟩ τ τ ?_
  rintro K e R5 ⟨i,rw',A⟩ ⟨hR,hi,hT⟩ he hK;subst hR;dsimp only at hi hT he hK ⊢;refine z_V ?_;refine jlt (jif (λc=>?_) (λc=>?_));rotate_left
  ·have c:=z_g c;rw[Ys ω,Yz ω,ZN,hNT,← CR.th] at hT;exact k2 R5 (rw',A) ⟨rfl,hT⟩
  have c:i < s.A6.length:=by have:=z_f c;omega
  have hul:i < (NT'.take i ++ s.A6.drop i).length:=by rw[Do hNl];exact c
  have hgi:(NT'.take i ++ s.A6.drop i)[i] = s.A6[i]:=IP hNl c hul;have hnext:(NT'.take i ++ s.A6.drop i).set i (I3 l order to s.A6[i]) = NT'.take (i + 1) ++ s.A6.drop (i + 1):=by
   have e1:I3 l order to s.A6[i] = NT'[i]'(ω):=by subst hNT;rw[au]
   rw[e1];exact Ff hNl c
  obtain⟨rv,A1,A2,A3,rfl,so2,hrow,hnx⟩:=hT.split (i:=i) hul;rw[hgi] at so2 hrow;have hrl:=hT.len;rw[Do hNl] at hrl;have hq4:∀r∈rw',r.length = 4:=hrl.2;have hir:i < rw'.length:=ω
  have hri:rw'[i] = [rv,I (s.A6[i]).next,.bool (s.A6[i]).busy,I (s.A6[i]).Ai]:=by
   rw[Yi hir] at hrow;exact Zc hrow
  have hcell:∀(f:Nat) (x:Value),f < 4→[rv,I (s.A6[i]).next,.bool (s.A6[i]).busy,I (s.A6[i]).Ai][f]? = some x→(rw'.flatten ++ hsp)[0 + i * 4 + f]? = some x:=λf x hf hx=>by
   have e1:=FZ (sp:=hsp) i hir hq4;rw[hri] at e1;have e2:=congrArg (λz=>z[f]?) e1;simp only[ao hf,ZY] at e2;rw[show 0 + i * 4 + f = i * 4 + f from ω,e2,hx]
  have hper:∀A' : Chs,(A' ++ ((bh,C 83 (rw'.flatten ++ hsp)) :: (ob,C 28 csF) :: (A1 ++ (A3 ++ G1)))).Perm ((bh,C 83 (rw'.flatten ++ hsp)) :: (ob,C 28 csF) :: ((A1 ++ (A' ++ A3)) ++ G1)):=λA'=>by
   refine (Zu A' [_,_] _).trans ?_;refine Zs _ (Zs _ ?_);refine (Zu A' A1 _).trans ?_;simp only[Yr];exact ZU _
  have hrt:=rl _ (Yq c);refine jci (λ_:List (List Value) × Chs=>[Pt gb,.func (.func 134) #[] #[Pt kb,Pt cb],Pt ob,I s.A6.length,I i]) (λq=>(bh,C 83 (q.1.flatten ++ hsp)) :: (ob,C 28 csF) :: (q.2 ++ G1))
   (λR6 q=>R6 = R5∧Fr (NT'.take (i + 1) ++ s.A6.drop (i + 1)) q.1 q.2) (λK3 k3=>?_) ?_
  rotate_left
  ·rintro e R6 q ⟨hR,hq⟩ he;subst hR;refine z_V ?_;exact jad (hK _ (i + 1,q.1,q.2) (by dsimp only;omega) ⟨rfl,c,hq⟩)
  refine jci (λ_:List (List Value) × Chs=>[Pt gb,.func (.func 134) #[] #[Pt kb,Pt cb],Pt ob,I s.A6.length,I i]) (λq=>(bh,C 83 (q.1.flatten ++ hsp)) :: (ob,C 28 csF) :: (q.2 ++ G1))
   (λR6 q=>R6 = R5∧Fr (NT'.take (i + 1) ++ s.A6.drop (i + 1)) q.1 q.2) (λK4 k4=>?_) ?_
  rotate_left
  ·rintro e R6 q hp he;refine z_V ?_;exact k3 R6 q hp
  refine jfo (jl (v:=S0 bh s.A6.length hc) hc8 (C5 c ?_));refine jci (λ_:Chs=>[Pt gb,.func (.func 134) #[] #[Pt kb,Pt cb],Pt ob,.pointer (some ⟨bh,0 + i * 4,none⟩),I s.A6.length,I i]) (λA'=>A' ++ ((bh,C 83 (rw'.flatten ++ hsp)) :: (ob,C 28 csF) :: (A1 ++ (A3 ++ G1)))) (λR6 A'=>R6 = R5∧SO ((s.A6[i]).AC.map (plc l order to)) rv A') (λK5 k5=>?_) ?_
  ·refine jnc (jfo (jl (v:=rv) (hcell 0 rv ω rfl) (C4 so2.sln ?_)));refine BI (hper A2).symm ?_;refine jci (λ_:Chs=>[Pt gb,.func (.func 134) #[] #[Pt kb,Pt cb],Pt ob,.pointer (some ⟨bh,0 + i * 4,none⟩),I s.A6.length,I i]) (λA'=>A' ++ ((bh,C 83 (rw'.flatten ++ hsp)) :: (ob,C 28 csF) :: (A1 ++ (A3 ++ G1)))) (λR6 A'=>R6 = R5∧SO ((s.A6[i]).AC.map (plc l order to)) rv A') (λK6 k6=>?_) ?_;rotate_left
   ·rintro e R6 q hp he;refine z_V ?_;exact k5 R6 q hp
   refine jli (λk:Nat × Chs=>(s.A6[i]).AC.length - k.1) (λk=>[Pt gb,.func (.func 134) #[] #[Pt kb,Pt cb],Pt ob,.pointer (some ⟨bh,0 + i * 4,none⟩),I s.A6.length,I i,rv,I (s.A6[i]).AC.length,I k.1]) (λk=>k.2 ++ ((bh,C 83 (rw'.flatten ++ hsp)) :: (ob,C 28 csF) :: (A1 ++ (A3 ++ G1))))
    (λR6 k=>R6 = R5∧k.1≤(s.A6[i]).AC.length∧SO (((s.A6[i]).AC.map (plc l order to)).take k.1 ++ (s.A6[i]).AC.drop k.1) rv k.2) (0,A2) ⟨rfl,σ,so2⟩ τ τ ?_
   rintro K e R6 ⟨k,A'⟩ ⟨hR,hk,so3⟩ he hK2;subst hR;dsimp only at hk so3 he hK2 ⊢;refine z_V ?_;refine jlt (jif (λc2=>?_) (λc2=>?_));rotate_left
   ·have c2:=z_g c2;rw[Ys (by rw[Z1];omega),Yz ω,ZN] at so3;exact k6 R6 A' ⟨rfl,so3⟩
   have c2:k < (s.A6[i]).AC.length:=by have:=z_f c2;omega
   have hml:((s.A6[i]).AC.map (plc l order to)).length = (s.A6[i]).AC.length:=Z1 _;have hkl:=Do (l':=(s.A6[i]).AC.map (plc l order to)) (l:=(s.A6[i]).AC) (k:=k) hml;refine @X5 _ _ _ _ _ A' _ k so3 ⟨ZU _⟩ ω ?_;rw[IP hml c2];refine jnc (jfo ?_);have hL1:∀{k:Value→M},J R6 (A' ++ ((bh,C 83 (rw'.flatten ++ hsp)) :: (ob,C 28 csF) :: (A1 ++ (A3 ++ G1)))) (k rv)→J R6 (A' ++ ((bh,C 83 (rw'.flatten ++ hsp)) :: (ob,C 28 csF) :: (A1 ++ (A3 ++ G1)))) (L1 (.pointer (some ⟨bh,0 + i * 4 + 0,none⟩)) k):=λH=>BI (hper A') (jl (v:=rv) (hcell 0 rv ω rfl) (BI (hper A').symm H))
   refine hL1 ?_;refine TG hv hlen hm2 hmg (λh0=>by have:=h16 0 h0;omega) hkb hcb (hroot _ (Yq c) _ (Yq c2)) _ _ ?_;refine Yf so3 ω (hL1 jev) λA4 so4=>jad (hK2 _ (k + 1,A4) (by dsimp only;omega) ⟨rfl,c2,?_⟩)
   have e1:plc l order to (s.A6[i]).AC[k] = ((s.A6[i]).AC.map (plc l order to))[k]'(ω):=by rw[au]
   rw[e1,Ff hml c2] at so4;exact so4
  rintro e R6 A' ⟨hR,so5⟩ he;subst hR;refine z_V ?_;refine BI (hper A') ?_;obtain⟨ra,rc,hrv2⟩:=so5.sln;have hz:=k4 R6;have hfin:∀tr:Int,tr = (if (s.A6[i]).Ai = 1 then 2 else (s.A6[i]).Ai)→J R6 ((bh,C 83 ((rw'.set i [rv,I (s.A6[i]).next,.bool false,I tr]).flatten ++ hsp)) :: (ob,C 28 csF) :: ((A1 ++ (A' ++ A3)) ++ G1)) (K4 [Pt gb,.func (.func 134) #[] #[Pt kb,Pt cb],Pt ob,I s.A6.length,I i]):=λtr htr=>by
   have e1:=hnx (I3 l order to s.A6[i]) A' so5;rw[hnext] at e1;subst htr;exact k4 R6 (_,_) ⟨rfl,e1⟩
  refine jnc (jfo ?_);refine Wx (rows:=rw') (i:=i) (f:=2) hq4 hir ω rfl rfl ?_;rw[hri];have hq4' : ∀r∈rw'.set i [rv,I (s.A6[i]).next,.bool false,I (s.A6[i]).Ai],r.length = 4:=λr hr=>by
   rcases Zm hr with h1 | h1
   ·exact hq4 r h1
   ·rw[h1];rfl
  have hir' : i < (rw'.set i [rv,I (s.A6[i]).next,.bool false,I (s.A6[i]).Ai]).length:=by rw[ZV];exact hir
  have hcell' : ((rw'.set i [rv,I (s.A6[i]).next,.bool false,I (s.A6[i]).Ai]).flatten ++ hsp)[0 + i * 4 + 3]? = some (I (s.A6[i]).Ai):=by
   have e1:=FZ (sp:=hsp) i hir' hq4';rw[List.getElem_set_self] at e1;have e2:=congrArg (λz=>z[3]?) e1;simp only[ao (show 3 < 4 by omega),ZY] at e2;rw[show 0 + i * 4 + 3 = i * 4 + 3 from ω,e2];rfl
  refine jnc (jfo (jl (v:=I (s.A6[i]).Ai) hcell' (jeq (jif (λg=>?_) (λg=>?_)))))
  ·have g:(s.A6[i]).Ai = 1:=by simpa using g
   refine jnc (jfo (Wx (rows:=rw'.set i [rv,I (s.A6[i]).next,.bool false,I (s.A6[i]).Ai]) (i:=i) (f:=3) hq4' hir' ω rfl rfl ?_));rw[List.getElem_set_self,List.set_set];exact hfin 2 (by rw[if_pos g])
  ·have g:¬ (s.A6[i]).Ai = 1:=by simpa using g
   exact hfin _ (by rw[if_neg g])
 rintro e R5 ⟨rwE,AE⟩ ⟨hR,hT⟩ he;subst hR;dsimp only at hT ⊢;refine z_V ?_;subst hW hcsF hG1;refine BI (D':=AE ++ ((bh,C 83 (rwE.flatten ++ hsp)) :: (ob,C 28 [S0 bw s.AA.length cw,S0 bt s.A0.length tc,S0 bm s.AK.length mc,I 0,.bool false,.bool false,.bool s.Ae,I 0,S0 bh s.A6.length hc,SN,.slice pa s.AG.length pc,I s.Aj,I (s.BA + 1)]) :: (bt,C AI (Ac eRg TN ++ tsp)) :: (sb,so) :: (bw,C AX (s'.AA.map I ++ wsp)) :: (gb,C 28 (cl z28)) :: (bm,C B7 ((List.replicate s.AK.length false).map Value.bool ++ msp)) :: F)) (Zu [_,_] AE _) ?_;refine Xv hT λR6 hR6 hrw=>?_
 refine jla (l:=[S0 bw s.AA.length cw,S0 bt s.A0.length tc,S0 bm s.AK.length mc,I 0,.bool false,.bool false,.bool s.Ae,I 0,S0 bh s.A6.length hc,SN,.slice pa s.AG.length pc,I s.Aj,I (s.BA + 1)]) (Z0 rfl) rfl ?_;refine jS [S0 bw s.AA.length cw,S0 bt s.A0.length tc,S0 bm s.AK.length mc,I 0,.bool false,.bool false,.bool s.Ae,I 0,S0 bh s.A6.length hc,SN,.slice pa s.AG.length pc,I s.Aj,I (s.BA + 1)] ?_;refine jla (l:=[S0 bw s.AA.length cw,S0 bt s.A0.length tc,S0 bm s.AK.length mc,I 0,.bool false,.bool false,.bool s.Ae,I 0,S0 bh s.A6.length hc,SN,.slice pa s.AG.length pc,I s.Aj,I (s.BA + 1)]) (Z0 rfl) rfl ?_;refine BQ (b:=bh) λR7 hR7 hbh=>BQ (b:=bt) λR8 hR8 hbt=>BQ (b:=bw) λR9 hR9 hbw=>BQ (b:=bm) λRA hRA hbm=>?_
 have hbh:=(hR8.trans (hR9.trans hRA)) _ _ hbh;have hbt:=(hR9.trans hRA) _ _ hbt;have hbw:=hRA _ _ hbw;have h6A:=hR7.trans (hR8.trans (hR9.trans hRA));have hTb:s'.A0.length = s.A0.length:=by rw[CR.tb,Kf]
 have hTh:s'.A6.length = s.A6.length:=by rw[CR.th,Z1]
 have hMk:s'.AK = List.replicate s.AK.length false:=by rw[CR.eq]
 have hMl:s'.AK.length = s.AK.length:=by rw[hMk,Yy]
 have hPl:s'.AG = s.AG:=by rw[CR.eq]
 have hOl:s'.old = []:=by rw[CR.eq]
 refine B9 (A:=[]) (hR06.trans (hR6.trans h6A)) ⟨rfl,?_⟩;refine⟨S0 bw s.AA.length cw,S0 bt s.A0.length tc,S0 bm s.AK.length mc,S0 bh s.A6.length hc,SN,.slice pa s.AG.length pc,⟨?_,?_,?_,?_,?_,?_⟩,?_,?_⟩
 ·rw[← hwl'];exact KC hbw σ ω
 ·rw[← hTb,CR.tb,← hTN];exact KC hbt (by rw[DL (w:=5) (λ_=>rfl)]) ω
 ·rw[← hMl,hMk];exact KC hbm σ (by simp;omega)
 ·refine⟨rwE,hrw.mono λ_ _=>Ct.le h6A,?_⟩;have h4:=hT.len;rw[show s.A6.length = rwE.length from ω];exact KC hbh (Bw h4.2) ω
 ·rw[hOl];exact .inl ⟨rfl,rfl,rfl⟩
 ·rw[hPl];exact hpp.le (hR6.trans h6A)
 ·exact⟨bt,tc,tsp,by rw[hTb],by rw[CR.tb,← hTN];exact hbt,ω⟩
 ·have:eSt s' (S0 bw s.AA.length cw) (S0 bt s.A0.length tc) (S0 bm s.AK.length mc) (S0 bh s.A6.length hc) (SN) (.slice pa s.AG.length pc) = [S0 bw s.AA.length cw,S0 bt s.A0.length tc,S0 bm s.AK.length mc,I 0,.bool false,.bool false,.bool s.Ae,I 0,S0 bh s.A6.length hc,SN,.slice pa s.AG.length pc,I s.Aj,I (s.BA + 1)]:=by
   rw[CR.eq];rfl
  rw[this]
end st
end Go.Lf
end
section
namespace Sm
open Go.Lf
theorem Ix {l:List AU} {AO to:List Int} (hlen:to.length = AO.length):∀{xs ys:List Int},Cw l AO to xs = some ys→ys = xs.map (plc l AO to)
 | [],ys,h=>by cases h;rfl
 | a :: r,ys,h=>by
  unfold Cw at h;simp only[Yn,z_i] at h;obtain⟨u,hu,b,hb,zs,hz,e⟩:=h;cases e;rw[ZX,← Ix hlen hz];congr 1;unfold plc;rw[hu];dsimp only;by_cases c:u∈AO
  ·have hp:=(Cv (l:=AO) (n:=u)).1 c;have e1:Bl AO u = (AO.idxOf u:Nat):=by unfold Bl;rw[if_pos c]
   rw[if_neg ω] at hb;rw[if_pos c];have hk:AO.idxOf u < to.length:=by rw[hlen];exact ad c
   rw[e1] at hb;unfold idx at hb;rw[if_pos ω] at hb;simp only[Yj,Yi hk,Yu] at hb;rw[Ym,Yi hk,Zi,hb]
  ·have hp:=(Cv (l:=AO) (n:=u)).2 c;rw[if_pos ω] at hb;cases hb;rw[if_neg c]
theorem Ib {l:List AU} {AO to:List Int} (hlen:to.length = AO.length):∀{ts ts' : List Th},DT l AO to ts = some ts'→ts' = ts.map (I3 l AO to)
 | [],ts',h=>by cases h;rfl
 | t :: r,ts',h=>by
  unfold DT at h;simp only[Yn,z_i] at h;obtain⟨u,hu,zs,hz,e⟩:=h;cases e;rw[ZX,← Ib hlen hz];unfold I3;rw[← Ix hlen hu]
theorem Ni {t:AU}:(EQ t).2.length = 2 + t.refs.length + t.nums.length:=by
 unfold EQ;simp only[Yt,Yk,Yy];omega
theorem VA {s s' : Al} {l:List AU} {met to tops:List Int} (hf:HpF s l met) (hml:s.AK.length = s.AA.length) (F1:JJ s s' l (Aq met) to tops):YB s s' l (Aq met) to tops:=by
 obtain⟨G,T,-⟩:=Ih hf.ths;have hS:=hf.S;have hin:∀t∈l,16≤t.at_∧t.at_ + (2 + t.refs.length + t.nums.length:Nat)≤s.AA.length:=λt ht=>by
  obtain⟨h1,h2⟩:=T.all t ht;have i:=G.inn h1;have j:=(FF G h1).2.2;rw[← h2] at j;omega
 obtain⟨AO,hlv⟩:∃AO,AO = Aq met:=⟨_,rfl⟩;rw[← hlv] at F1 ⊢;have hzip:∀i (h:i < AO.length) (h' : i < to.length),(AO[i],to[i])∈AO.zip to:=λi h h'=>by
  have hiz:i < (AO.zip to).length:=by rw[List.length_zip];omega
  have:=Yq hiz;rwa [List.getElem_zip] at this
 have hLb:∀(w:List Int),w.length = s.AA.length→∀b∈(AO.zip to).map λp=>DY l AO to p.1 p.2,0≤b.1∧b.1 + b.2.length≤w.length:=λw hw b hb=>by
  obtain⟨p,hp,rfl⟩:=ZK.1 hb;obtain⟨h1,h2⟩:=F1.rn p hp;unfold DY;dsimp only;refine⟨ω,?_⟩;cases ht:BL l p.1 with
  | none=>
   have hpm:=(aC hp).1;rw[hlv,(Cx hf.M.nd).2] at hpm;obtain⟨t,ht2⟩:=hf.M.th _ hpm;rw[ht] at ht2;cases ht2
  | some t=>
   have h3:=(h2 t ht).1;dsimp only;rw[hw];simp only[Yt,Yk,Z1];omega
 have hDb:∀(w:List Int),w.length = s.AA.length→∀t∈l,0≤(EQ t).1∧(EQ t).1 + (EQ t).2.length≤w.length:=λw hw t ht=>by
  have h:=hin t ht;rw[Ni,hw];show 0≤t.at_∧t.at_ + _≤_;omega
 refine⟨λxs hxs=>?_,F1.hlen,F1.tl.1.trans F1.tn,?_,Ib F1.hlen F1.th,?_,λi h h'=>?_⟩
 ·rw[F1.wd];obtain⟨Z,hZ⟩:∃Z:List Int,Z = List.replicate s.AA.length 0:=⟨_,rfl⟩;have hZl:Z.length = s.AA.length:=by rw[hZ,Yy]
  rw[← hZ];have sym:∀{b c:Int × List Int},(∀x,¬ (inB b x∧inB c x))→∀x,¬ (inB c x∧inB b x):=λh x hx=>h x ⟨hx.2,hx.1⟩
  have hBA:∀t∈l,Ft l t.at_ = EQ t:=λt ht=>by
   unfold Ft;rw[Dn hS.nd ht]
  have hperm:((xs.filter (Ch s.AG AO)).map (Ft l)).Perm ((l.filter λt=>Ch s.AG AO t.at_).map EQ):=by
   refine ((hxs.filter _).map _).trans ?_;rw[List.filter_map,List.map_map];refine List.Perm.of_eq (List.map_congr_left λt ht=>?_);exact hBA t (Ze.1 ht).1
  have hsub:((l.filter λt=>Ch s.AG AO t.at_).map EQ).Sublist ((l.filter λx=>Ao s.AG (AN x.at_)).map EQ):=by
   refine List.Sublist.map _ ?_;have e:(l.filter λt=>Ch s.AG AO t.at_) = (l.filter λx=>Ao s.AG (AN x.at_)).filter λt=>!AO.contains t.at_:=by
    rw[List.filter_filter];congr 1;funext t;unfold Ch;rw[Bool.and_comm]
   rw[e];exact List.filter_sublist
  have hp2:((xs.filter (Ch s.AG AO)).map (Ft l)).Pairwise (λb c=>∀x,¬ (inB b x∧inB c x)):=(hperm.pairwise_iff sym).2 (F1.dd.sublist hsub);have hb2:∀b∈(xs.filter (Ch s.AG AO)).map (Ft l),∃t∈l,Ch s.AG AO t.at_ = true∧b = EQ t:=λb hb=>by
   obtain⟨t,ht,rfl⟩:=ZK.1 (hperm.mem_iff.1 hb);exact⟨t,(Ze.1 ht).1,(Ze.1 ht).2,rfl⟩
  have hb1:∀b∈(l.filter λx=>Ao s.AG (AN x.at_)).map EQ,∃t∈l,Ao s.AG (AN t.at_) = true∧b = EQ t:=λb hb=>by
   obtain⟨t,ht,rfl⟩:=ZK.1 hb;exact⟨t,(Ze.1 ht).1,(Ze.1 ht).2,rfl⟩
  have bd1:∀b∈(l.filter λx=>Ao s.AG (AN x.at_)).map EQ,0≤b.1∧b.1 + b.2.length≤Z.length:=λb hb=>by
   obtain⟨t,ht,_,rfl⟩:=hb1 b hb;exact hDb Z hZl t ht
  have bd2:∀b∈(xs.filter (Ch s.AG AO)).map (Ft l),0≤b.1∧b.1 + b.2.length≤Z.length:=λb hb=>by
   obtain⟨t,ht,_,rfl⟩:=hb2 b hb;exact hDb Z hZl t ht
  refine Sz (by simp only[C8]) λx hx=>?_
  by_cases cL:∃b∈(AO.zip to).map λp=>DY l AO to p.1 p.2,inB b x
  ·obtain⟨b,hb,hbx⟩:=cL;rw[Ek (hLb _ (by rw[C8,hZl])) F1.hd hb hbx,Ek (hLb _ (by rw[C8,hZl])) F1.hd hb hbx]
  have cL:∀b∈(AO.zip to).map λp=>DY l AO to p.1 p.2,¬ inB b x:=λb hb h=>cL ⟨b,hb,h⟩
  rw[EC (hLb _ (by rw[C8,hZl])) hx cL,EC (hLb _ (by rw[C8,hZl])) hx cL];by_cases c2:∃b∈(xs.filter (Ch s.AG AO)).map (Ft l),inB b x
  ·obtain⟨b,hb,hbx⟩:=c2;rw[Ek bd2 hp2 hb hbx,Ek bd1 F1.dd (hsub.subset (hperm.mem_iff.1 hb)) hbx]
  rw[EC bd2 hx λb hb h=>c2 ⟨b,hb,h⟩];refine EC bd1 hx λb hb hbx=>?_
  obtain⟨t,ht,hh,rfl⟩:=hb1 b hb;have hat:=hin t ht;by_cases ca:t.at_∈AO
  ·obtain⟨i,hi,hie⟩:=ZF ca;have hi' : i < to.length:=by rw[F1.hlen];exact hi
   have hz:=hzip i hi hi';have hreg:AN t.at_ = t.at_ / 16:=Bq ω;rcases F1.rg _ hz with ⟨h1,h2⟩ | ⟨h1,h2⟩
   ·dsimp only at h1 h2;refine cL _ (ZK.2 ⟨_,hz,rfl⟩) ?_;dsimp only;rw[h2,hie];unfold inB DY;dsimp only;rw[Dn hS.nd ht];dsimp only;have h3:=hbx;unfold inB at h3;rw[Ni] at h3;simp only[Yt,Yk,Z1];have h4:(EQ t).1 = t.at_:=rfl;omega
   ·dsimp only at h1;rw[hie,← hreg,hh] at h1;cases h1
  ·refine c2 ⟨EQ t,hperm.mem_iff.2 (ZK.2 ⟨t,Ze.2 ⟨ht,?_⟩,rfl⟩),hbx⟩;unfold Ch;rw[hh];simpa using ca
 ·apply aM (by rw[Kf,F1.tn]);intro i h1 h2;rw[Nx];have hgv:rv s'.A0 i = s'.A0[i]:=by
   unfold rv gv;simp only[Yj,Ym,Yi h1,Zi]
  rw[← hgv];unfold VT;by_cases c:i = 0
  ·subst c;rw[if_pos rfl,G.ok.e];exact F1.e0
  ·rw[if_neg c,F1.tl.2 i ω h1];exact F1.rw_ i ω (by rw[F1.tn] at h1;omega)
 ·have e:=F1.eq;rw[hml];exact e
 ·obtain⟨h1,h2⟩:=F1.rn _ (hzip i h h');exact⟨by dsimp only at h1;omega,λt ht=>(h2 t ht).1⟩
end Sm
end
section
namespace Go.Lf
open Go Sm
theorem Uk {n:Nat} {a z:Int} (h:fits n a z = true) (hz:2≤z):fits n a 2 = true:=by
 obtain⟨a0,a1,a2,a3⟩:=Eg h;unfold fits at h ⊢;simp only[z_b,z_d,beq_iff_eq] at h ⊢;obtain⟨⟨⟨⟨⟨p0,p1⟩,p2⟩,p3⟩,p4⟩,p5⟩:=h;refine⟨⟨⟨⟨⟨p0,δ⟩,δ⟩,p3⟩,p4⟩,?_⟩;unfold AN at p5 ⊢;rw[if_neg ω,if_neg ω] at p5;rw[if_neg ω,if_neg ω];omega
theorem Y6 {w:List Int} {a:Int} {sh:Shp} (hf:fits w.length a 2 = true) (hs:AJ (w.getD (a.toNat + 1) 0) = (sh,true)) (hz:fits w.length a (AF sh) = true) :
  Ap w a = (⟨a,w.getD a.toNat 0,sh,seg w (a + 2) sh.refs,seg w (a + 2 + sh.refs) sh.nums⟩,true):=by
 unfold Ap;rw[if_pos hf,hs];dsimp only;rw[hz];rfl
theorem XQ {w:List Int} {a:Int} (h:(Ap w a).2 = true):∃sh,AJ (w.getD (a.toNat + 1) 0) = (sh,true)∧fits w.length a 2 = true∧fits w.length a (AF sh) = true:=by
 unfold Ap at h;split at h
 ·rename_i h0;dsimp only at h;split at h
  ·rename_i h1;simp only[z_b] at h1;exact⟨(AJ (w.getD (a.toNat + 1) 0)).1,Prod.ext rfl h1.1,h0,h1.2⟩
  ·cases h
 ·cases h
end Go.Lf
end
section
namespace Sm
open Go.Lf
theorem Tz {w xs:List Int} {a n:Int} (h0:0≤a) (hn:(xs.length:Int) = n) (hb:a + n≤w.length) (h:∀j:Nat,j < xs.length→wv w (a + j) = xs.getD j 0):seg w a n = xs:=by
 unfold seg;apply aM
 ·rw[Z5,ZS];omega
 ·intro j h1 h2;have:=h j h2;unfold wv gv at this;rw[show (a + (j:Int)).toNat = a.toNat + j from ω,Ym,Ym,Yi ω,Yi h2] at this;rw[aW,aX];exact this
theorem Wq {α:Type} {d:α} {xs ys:List α} {i:Nat} (h:i < xs.length):(xs ++ ys).getD i d = xs.getD i d:=by
 rw[Ym,Ym,Zg h]
theorem XG {α:Type} {d:α} {xs ys:List α} {i:Nat} (h:xs.length≤i):(xs ++ ys).getD i d = ys.getD (i - xs.length) d:=by
 rw[Ym,Ym,Zy h]
theorem O8 {s s' : Al} {l:List AU} {met to tops:List Int} (F1:JJ s s' l (Aq met) to tops):s'.AA.length = s.AA.length:=by
 rw[F1.wd,C8,C8,Yy]
theorem Ve {s s' : Al} {l:List AU} {met to tops:List Int} (hf:HpF s l met) (F1:JJ s s' l (Aq met) to tops) {p:Int × Int} (hp:p∈(Aq met).zip to) :
  ∃t,BL l p.1 = some t∧Ap s.AA p.1 = (t,true)∧Ap s'.AA p.2 = (⟨p.2,p.2,t.sh,t.refs.map (plc l (Aq met) to),t.nums⟩,true):=by
 have hpm:=((Cx hf.M.nd).2 _).1 (aC hp).1;obtain⟨t,ht,hta⟩:=TR hf hpm;obtain⟨htm,hat⟩:=Bh ht;obtain⟨G,T,-⟩:=Ih hf.ths;have hbg:bgs l p.1:=⟨t,htm,hat⟩;have i:=G.inn hbg;have hl:=O8 F1;obtain⟨r1,r2⟩:=F1.rn p hp;obtain⟨r2,r3⟩:=r2 t ht;obtain⟨e1,e2,e3⟩:=M5 (x:=t) (by rw[hat];exact hta);rw[hat] at e1 e2 e3;obtain⟨n1,n2,n3⟩:=FF G hbg;rw[← e3] at n1 n2 n3;have esh:t.sh = shp s.AA p.1:=congrArg AU.sh e3;have sok:=L7 s.AA p.1;rw[← esh] at sok n1 n2;obtain⟨sh,a1,a2,a3⟩:=XQ (w:=s.AA) (a:=p.1) (by rw[hta]);have ⟨z1,z2⟩:=Ec sok;have hLb:∀b∈((Aq met).zip to).map λp=>DY l (Aq met) to p.1 p.2,0≤b.1∧b.1 + b.2.length≤s.AA.length:=λb hb=>by
  obtain⟨q,hq,rfl⟩:=ZK.1 hb;obtain⟨h1,h2⟩:=F1.rn q hq;obtain⟨t',ht',_⟩:=TR hf (((Cx hf.M.nd).2 _).1 (aC hq).1);have h3:=(h2 t' ht').1;unfold DY;rw[ht'];simp only[Yt,Yk,Z1];omega
 have cell:∀k:Nat,k < 2 + t.refs.length + t.nums.length→wv s'.AA (p.2 + k) = (p.2 :: AZ t.sh :: (t.refs.map (plc l (Aq met) to) ++ t.nums)).getD k 0:=λk hk=>by
  have hb:DY l (Aq met) to p.1 p.2 = (p.2,p.2 :: AZ t.sh :: (t.refs.map (plc l (Aq met) to) ++ t.nums)):=by unfold DY;rw[ht]
  have hm:DY l (Aq met) to p.1 p.2∈((Aq met).zip to).map λp=>DY l (Aq met) to p.1 p.2:=ZK.2 ⟨p,hp,rfl⟩
  rw[hb] at hm;rw[F1.wd,Ek (λb hb=>by rw[C8,Yy];exact hLb b hb) F1.hd hm (by unfold inB;simp only[Yt,Yk,Z1];omega)];simp only;rw[show (p.2 + (k:Int) - p.2).toNat = k from ω]
 have c0:=cell 0 ω;have c1:=cell 1 ω;simp only[Int.natCast_zero,Int.add_zero,List.getD_cons_zero] at c0;simp only[aq,List.getD_cons_zero] at c1;have w0:s'.AA.getD p.2.toNat 0 = p.2:=c0;have w1:s'.AA.getD (p.2.toNat + 1) 0 = AZ t.sh:=by
  rw[← c1];unfold wv gv;rw[show (p.2 + ((1:Nat):Int)).toNat = p.2.toNat + 1 from ω]
 have wok:BM s'.AA.length = true:=by
  rw[hl];unfold fits at a2;simp only[z_b] at a2;exact a2.1.1.1.1.1
 have esz:AF t.sh = 2 + t.refs.length + t.nums.length:=by
  rw[e1,← n3];omega
 have hfit:fits s'.AA.length p.2 (AF t.sh) = true:=by
  unfold fits AN;rw[wok,if_neg ω,if_neg ω];simp only[Z2,z_b,z_d,beq_iff_eq];omega
 refine⟨t,ht,hta,?_⟩;rw[Y6 (Uk hfit ω) (by rw[w1,Ea sok]) hfit,w0];rw[Tz (xs:=t.refs.map (plc l (Aq met) to)) ω (by rw[Z1];exact n1) ω (λj hj=>?_),Tz (xs:=t.nums) ω n2 ω (λj hj=>?_)]
 ·rw[show p.2 + 2 + t.sh.refs + (j:Int) = p.2 + ((2 + t.refs.length + j:Nat):Int) from ω,cell _ ω,show 2 + t.refs.length + j = (t.refs.length + j) + 1 + 1 from ω,aq,aq,XG (by rw[Z1];omega),Z1,show t.refs.length + j - t.refs.length = j from ω]
 ·rw[Z1] at hj;rw[show p.2 + 2 + (j:Int) = p.2 + ((2 + j:Nat):Int) from ω,cell _ ω,show 2 + j = j + 1 + 1 from ω,aq,aq,Wq (by rw[Z1];exact hj)]
theorem HpF.pin {s:Al} {l:List AU} {met:List Int} (hf:HpF s l met) {a:Int} (h:a∈s.AG):a∈met:=by
 obtain⟨x,hx,h2⟩:=hf.closed.1 a (Za _ h);have hh:=hf.head;unfold CU at hh;simp only[z_b] at hh;have:=ZC.1 hh.2 a h;unfold Dl at this;cases ht:BL l a with
 | none=>rw[ht] at this;cases this
 | some t=>
  rw[ht] at this;obtain⟨h3,h4⟩:=Bh ht;have h16:=hf.S.at16 t h3;unfold now at hx;rw[if_neg ω,ht] at hx;simp only[aY,Yu] at hx;have hm:t.moved = a:=(by simpa using this:t.moved = a∧_).1;rcases h2 with h2 | h2
  ·omega
  ·rwa [← hx,hm] at h2
theorem WU {s s' : Al} {l:List AU} {met to tops:List Int} (hf:HpF s l met) (F1:JJ s s' l (Aq met) to tops) {a:Int} (h:a∈s.AG) :
  ∃t rs,Ap s.AA a = (t,true)∧Ap s'.AA a = (⟨a,a,t.sh,rs,t.nums⟩,true):=by
 have hm:=((Cx hf.M.nd).2 _).2 (hf.pin h);obtain⟨i,hi,e⟩:=ZF hm;have hi' : i < to.length:=by rw[F1.hlen];exact hi
 have hz:((Aq met)[i],to[i])∈(Aq met).zip to:=by
  have hiz:i < ((Aq met).zip to).length:=by rw[List.length_zip];omega
  have:=Yq hiz;rwa [List.getElem_zip] at this
 obtain⟨t,h1,h2,h3⟩:=Ve hf F1 hz;dsimp only at h1 h2 h3;rw[e] at h1 h2;have h16:16≤a:=by
  obtain⟨h4,h5⟩:=Bh h1;have:=hf.S.at16 t h4;omega
 have hto:to[i] = a:=by
  rcases F1.rg _ hz with ⟨g1,g2⟩ | ⟨g1,g2⟩
  ·dsimp only at g2;rw[g2,e]
  ·dsimp only at g1;rw[e] at g1;have:Ao s.AG (a / 16) = true:=by
    unfold Ao;rw[List.any_eq_true];exact⟨a,h,by rw[Bq ω];simp⟩
   rw[this] at g1;cases g1
 rw[hto] at h3;exact⟨t,_,h2,h3⟩
end Sm
end
section
namespace Go.Lf
open Go Sm
theorem jbz {R:RM} {D:Chs} {v:Value} {l:List Bool} {i:Nat} {k:Value→M} (h:Bls R v l) (h1:i < l.length) (H:J R D (k (.bool l[i]))):J R D (IA 1 v (I (i:Int)) λx=>L1 x k):=by
 rcases h with ⟨_,h2,_⟩ | ⟨b,o,cap,t,cs,rfl,h2,h3,h4,h5⟩
 ·omega
 ·refine jia ω ω (jlr h2 ?_ H);rw[Yj,Zo];have e:=congrArg (·[i]?) h4;simp only[Zl,ZY] at e;rw[if_pos ω] at e;rw[e,ZQ,Yi h1];rfl
structure StZ (s:Sm.Al):Prop where
 w:s.AA.length < 1000000
 t:s.A0.length < 1000000
 m:s.AK.length < 1000000
 o:s.old.length < 1000000
 p:s.AG.length < 1000000
 n:s.A6.length < 1000000
 r:∀t∈s.A6,t.AC.length < 1000000
section
variable {R:RM} {D:Chs} {s:Sm.Al} {wv tv mv thv ov pv wv' tv' mv' thv' ov' pv' : Value}
set_option maxHeartbeats 1000000 in
set_option maxRecDepth 8000 in
theorem Sb (h:StC R s wv tv mv thv ov pv) (h' : StC R s wv' tv' mv' thv' ov' pv') (z:StZ s) :
  Ro JW [.agg (eSt s wv tv mv thv ov pv).toArray,.agg (eSt s wv' tv' mv' thv' ov' pv').toArray] (.bool true) R D:=by
 refine OU λF=>?_
 refine z_2 ?_;obtain⟨zw,zt,zm,zo,zp,zn,zr⟩:=z;refine ja λb1=>ja λb2=>?_
 refine jor [Pt b1,Pt b2] false (λK' hK'=>?_) (λe c u ho he=>?_)
 ·refine jfo (jl (v:=wv) rfl (jfo (jl (v:=wv') rfl (jro (Fb h.w h'.w zw zw) ?_))));rw[beq_self_eq_true];refine jff (jfo (jl (v:=tv) rfl (C4 h.t.sl (jfo (jl (v:=tv') rfl (C4 h'.t.sl (jne ?_)))))));rw[bne_self_eq_false];exact hK' _ _ _ Ah rfl
 refine z_V ?_;refine jor [Pt b1,Pt b2] false (λK' hK'=>?_) (λe c u ho2 he=>?_)
 ·rw[ho];refine jff (jfo (jl (v:=mv) rfl (C4 h.m.sl (jfo (jl (v:=mv') rfl (C4 h'.m.sl (jne ?_)))))));rw[bne_self_eq_false];exact hK' _ _ _ Ah rfl
 refine z_V ?_;refine jor [Pt b1,Pt b2] false (λK' hK'=>?_) (λe c u ho3 he=>?_)
 ·rw[ho2];refine jff (jfo (jl (v:=I s.Ad) rfl (jfo (jl (v:=I s.Ad) rfl (jne ?_)))));rw[bne_self_eq_false];exact hK' _ _ _ Ah rfl
 refine z_V ?_;refine jor [Pt b1,Pt b2] false (λK' hK'=>?_) (λe c u ho4 he=>?_)
 ·rw[ho3];refine jff (jfo (jl (v:=.bool s.stop) rfl (jfo (jl (v:=.bool s.stop) rfl (@jxb _ _ _ _ _ _ _ ?_)))));rw[bne_self_eq_false];exact hK' _ _ _ Ah rfl
 refine z_V ?_;refine jor [Pt b1,Pt b2] false (λK' hK'=>?_) (λe c u ho5 he=>?_)
 ·rw[ho4];refine jff (jfo (jl (v:=.bool s.full) rfl (jfo (jl (v:=.bool s.full) rfl (@jxb _ _ _ _ _ _ _ ?_)))));rw[bne_self_eq_false];exact hK' _ _ _ Ah rfl
 refine z_V ?_;refine jor [Pt b1,Pt b2] false (λK' hK'=>?_) (λe c u ho6 he=>?_)
 ·rw[ho5];refine jff (jfo (jl (v:=.bool s.Ae) rfl (jfo (jl (v:=.bool s.Ae) rfl (@jxb _ _ _ _ _ _ _ ?_)))));rw[bne_self_eq_false];exact hK' _ _ _ Ah rfl
 refine z_V ?_;refine jor [Pt b1,Pt b2] false (λK' hK'=>?_) (λe c u ho7 he=>?_)
 ·rw[ho6];refine jff (jfo (jl (v:=I s.want) rfl (jfo (jl (v:=I s.want) rfl (jne ?_)))));rw[bne_self_eq_false];exact hK' _ _ _ Ah rfl
 refine z_V ?_;refine jor [Pt b1,Pt b2] false (λK' hK'=>?_) (λe c u ho8 he=>?_)
 ·rw[ho7];refine jff (jfo (jl (v:=I s.Aj) rfl (jfo (jl (v:=I s.Aj) rfl (jne ?_)))));rw[bne_self_eq_false];exact hK' _ _ _ Ah rfl
 refine z_V ?_;refine jor [Pt b1,Pt b2] false (λK' hK'=>?_) (λe c u ho9 he=>?_)
 ·rw[ho8];refine jff (jfo (jl (v:=I s.BA) rfl (jfo (jl (v:=I s.BA) rfl (jne ?_)))));rw[bne_self_eq_false];exact hK' _ _ _ Ah rfl
 refine z_V ?_;refine jor [Pt b1,Pt b2] false (λK' hK'=>?_) (λe c u hoa he=>?_)
 ·rw[ho9];refine jff (jfo (jl (v:=ov) rfl (jfo (jl (v:=ov') rfl (jro (Fb h.o h'.o zo zo) ?_)))));rw[beq_self_eq_true];exact hK' _ _ _ Ah rfl
 refine z_V ?_;refine jor [Pt b1,Pt b2] false (λK' hK'=>?_) (λe c u hob he=>?_)
 ·rw[hoa];refine jff (jfo (jl (v:=pv) rfl (jfo (jl (v:=pv') rfl (jro (Fb h.p h'.p zp zp) ?_)))));rw[beq_self_eq_true];exact hK' _ _ _ Ah rfl
 refine z_V ?_;refine jor [Pt b1,Pt b2] false (λK' hK'=>?_) (λe c u hoc he=>?_)
 ·rw[hob];refine jff (jfo (jl (v:=thv) rfl (C4 h.th.sl (jfo (jl (v:=thv') rfl (C4 h'.th.sl (jne ?_)))))));rw[bne_self_eq_false];exact hK' _ _ _ Ah rfl
 refine z_V ?_;rw[hoc];refine CL ?_;refine C9 [Pt b1,Pt b2] (λK1 h1=>?_) (λe he=>?_)
 ·refine C9 [Pt b1,Pt b2] (λK2 h2=>?_) (λe he=>?_);rotate_left
  ·refine z_V ?_;exact h1
  refine W0 [Pt b1,Pt b2] s.A0.length (λ_=>True) trivial λi K e hi _ hK he=>?_
  refine z_V ?_;refine jfo (jl (v:=tv) rfl (C4 h.t.sl (jlt (jif (λc=>?_) (λc=>h2)))));have c:i < s.A0.length:=by have:=z_f c;omega
  refine jfo (jl (v:=tv) rfl (jrg h.t c λx o ty cs hb ho hrow=>F0 hb ho hrow (jfo (jl (v:=tv') rfl (jrg h'.t c λx o ty cs hb ho hrow=>F0 hb ho hrow ?_)))));refine @XI _ _ _ _ _ _ _ ?_;rw[beq_self_eq_true];exact CL (jad (hK c trivial))
 refine z_V ?_;refine C9 [Pt b1,Pt b2] (λK1 h1=>?_) (λe he=>?_)
 ·refine C9 [Pt b1,Pt b2] (λK2 h2=>?_) (λe he=>?_);rotate_left
  ·refine z_V ?_;exact h1
  refine W0 [Pt b1,Pt b2] s.AK.length (λ_=>True) trivial λi K e hi _ hK he=>?_
  refine z_V ?_;refine jfo (jl (v:=mv) rfl (C4 h.m.sl (jlt (jif (λc=>?_) (λc=>h2)))));have c:i < s.AK.length:=by have:=z_f c;omega
  refine jfo (jl (v:=mv) rfl (jbz h.m c (jfo (jl (v:=mv') rfl (jbz h'.m c (@jxb _ _ _ _ _ _ _ ?_))))));rw[bne_self_eq_false];exact CL (jad (hK c trivial))
 refine z_V ?_;refine W0 [Pt b1,Pt b2] s.A6.length (λ_=>True) trivial λi K e hi _ hK he=>?_
 refine z_V ?_;refine jfo (jl (v:=thv) rfl (C4 h.th.sl (jlt (jif (λc=>?_) (λc=>Bn (Bn (BU rfl)))))));have c:i < s.A6.length:=by have:=z_f c;omega
 have zr:=zr _ (Yq c);refine jfo (jl (v:=thv) rfl (jtr h.th c λx o ty cs rv hrv hb ho hrow=>F0 hb ho hrow ?_));obtain⟨ra,rc,rfl⟩:=hrv.sl;refine ja λb3=>jS ([.slice ra s.A6[i].AC.length rc,I (s.A6[i]).next,.bool (s.A6[i]).busy,I (s.A6[i]).Ai]) ?_
 refine jfo (jl (v:=thv') rfl (jtr h'.th c λx o ty cs rv hrv' hb ho hrow=>F0 hb ho hrow ?_));obtain⟨ra',rc',rfl⟩:=hrv'.sl;refine ja λb4=>jS ([.slice ra' s.A6[i].AC.length rc',I (s.A6[i]).next,.bool (s.A6[i]).busy,I (s.A6[i]).Ai]) ?_
 refine jor [Pt b1,Pt b2,I i,Pt b3,Pt b4] false (λK' hK'=>?_) (λe c2 u ho1 he=>?_)
 ·refine jfo (jl (v:=.slice ra s.A6[i].AC.length rc) rfl (jfo (jl (v:=.slice ra' s.A6[i].AC.length rc') rfl (jro (Fb hrv hrv' zr zr) ?_))));rw[beq_self_eq_true];refine jff (jfo (jl (v:=I (s.A6[i]).next) rfl (jfo (jl (v:=I (s.A6[i]).next) rfl (jne ?_)))));rw[bne_self_eq_false];exact hK' _ _ _ Ah rfl
 refine z_V ?_;refine jor [Pt b1,Pt b2,I i,Pt b3,Pt b4] false (λK' hK'=>?_) (λe c2 u ho2 he=>?_)
 ·rw[ho1];refine jff (jfo (jl (v:=.bool (s.A6[i]).busy) rfl (jfo (jl (v:=.bool (s.A6[i]).busy) rfl (@jxb _ _ _ _ _ _ _ ?_)))));rw[bne_self_eq_false];exact hK' _ _ _ Ah rfl
 refine z_V ?_;refine jor [Pt b1,Pt b2,I i] false (λK' hK'=>?_) (λe c2 u ho3 he=>?_)
 ·rw[ho2];refine jff (jfo (jl (v:=I (s.A6[i]).Ai) rfl (jfo (jl (v:=I (s.A6[i]).Ai) rfl (jne ?_)))));rw[bne_self_eq_false];exact hK' _ _ _ Ah rfl
 refine z_V ?_;rw[ho3];exact CL (jad (Bn (Bn (hK c trivial))))
end
section st
variable {R:RM} {s:Sm.Al} {wv tv mv thv ov pv:Value}
set_option maxRecDepth 4000 in
theorem PU (h:SF R s wv tv mv thv ov pv):Fn P KN [.agg (eSt s wv tv mv thv ov pv).toArray] R [] (λv R' A=>A = []∧QFd (fdO s) v R'):=by
 refine QF λF=>?_
 refine z_1 ?_;refine ja λsb=>ja λgb=>jla (l:=eSt s wv tv mv thv ov pv) (by exact z_n 13) rfl ?_
 have fu:=h.b.fu;have ml:=h.b.ml;refine jc (A:=[]) (SD h) ?_;rintro x R1 _ hR1 ⟨rfl,hq⟩;have h:=h.le hR1;unfold fdO;cases hc:Dj s with
 | none=>
  rw[hc] at hq;obtain rfl:x = _:=hq;refine jxr (λw=>WE w _ _) (DI (jbd (cs:=cl z28) rfl rfl (jS (cl z28) (jla (l:=cl z28) (Z0 rfl) rfl ?_))));exact B9 (A:=[]) hR1 ⟨rfl,rfl⟩
 | some q=>
  obtain⟨l,met⟩:=q;rw[hc] at hq;obtain⟨hb,mb,v,rfl,hv⟩:=hq;have hh:Ci s = some (l,met):=by
   unfold Dj at hc;split at hc
   ·cases hc
   ·exact hc
  have hf:=EL hh;obtain⟨hll,tbl⟩:=W5 h hf.ths;have hml:=hf.M.len;obtain⟨s',to,tops,F1⟩:=Ji hf ω;have CR:=VA hf ml F1;obtain⟨G,T,-⟩:=Ih hf.ths;obtain⟨hc1,hc2⟩:=hf.closed;obtain⟨sp,sm⟩:=Cx hf.M.nd;have wl:=h.b.wl;have t1:=h.b.t1;refine jxr (λw=>WH w _ _ hb) (CL ?_);refine jc (A:=[]) (Tb hv hf.M.nd ω) ?_;rintro sv R2 A2 _ ⟨hR2,so⟩;subst hR2;refine FG so λR3 hR3 hi=>?_
  have hsl:=HV met [];have hsl:(Aq met).length = met.length:=by simpa [Aq] using hsl
  have hin:∀t∈l,16≤t.at_∧t.at_ + (2 + t.refs.length + t.nums.length:Nat)≤s.AA.length:=λt ht=>by
   obtain⟨h1,h2⟩:=T.all t ht;have i:=G.inn h1;have j:=(FF G h1).2.2;rw[← h2] at j;omega
  refine jc (A:=[]) (Nh (r:=some s') (h.le hR3) (hv.le hR3) hi ω (λa ha=>hf.M.th a ((sm a).1 ha)) (sp.imp λh=>ω) (λa ha=>?_) (λt _=>Hb t.sh) hf.S.nd (λt ht=>by have:=hin t ht;omega)
   (λa ha t ht x hx=>by obtain⟨u,hu,_⟩:=hc2 a ((sm a).1 ha) t ht x hx;exact⟨u,hu⟩)
   (λt ht x hx=>by obtain⟨u,hu,_⟩:=hc1 x (ZP _ (List.mem_flatMap.2 ⟨t,ht,hx⟩));exact⟨u,hu⟩)
   (by rw[F1.ld];exact⟨s',rfl,CR⟩)) ?_
  ·obtain⟨t,ht⟩:=hf.M.th a ((sm a).1 ha);obtain⟨h1,h2⟩:=Bh ht;have:=hin t h1;omega
  rintro v R4 A4 hR4 ⟨rfl,wv',tv',mv',thv',ov',pv',hst,hz,rfl⟩;refine jex rfl (jex rfl ?_);obtain⟨wa,wc,rfl⟩:=hst.w.sl;obtain⟨ta,tc,rfl⟩:=hst.t.sl;obtain⟨ma,mc,rfl⟩:=hst.m.sl;obtain⟨tha,thc,rfl⟩:=hst.th.sl;obtain⟨oa,oc,rfl⟩:=hst.o.sl;obtain⟨pa,pc,rfl⟩:=hst.p.sl;refine jS (eSt s' (.slice wa s'.AA.length wc) (.slice ta s'.A0.length tc) (.slice ma s'.AK.length mc) (.slice tha s'.A6.length thc) (.slice oa s'.old.length oc) (.slice pa s'.AG.length pc)) ?_;refine jla (l:=eSt s' (.slice wa s'.AA.length wc) (.slice ta s'.A0.length tc) (.slice ma s'.AK.length mc) (.slice tha s'.A6.length thc) (.slice oa s'.old.length oc) (.slice pa s'.AG.length pc)) (Z0 rfl) rfl ?_;refine B9 (A:=[]) (hR1.trans (hR3.trans hR4)) ⟨rfl,?_⟩;show QFd (Ex s) _ _;rw[F1.st];exact⟨_,_,_,_,_,_,hst,hz,rfl⟩
end st
theorem NR {R:RM} {v:Value} (hc:Cod R v):Fn P Gb [v] R [] (λx R' A=>A = []∧DSF x R'):=by
 refine Ka λF=>?_
 refine z_1 ?_;obtain⟨n,hf⟩:=hc;refine ja λb=>?_
 refine jc (A:=[]) (TX hf) ?_;rintro _ R1 _ _ ⟨hR,rb,v',rfl,rfl,hb⟩;subst hR;refine jc (A:=[(rb,rdO v' 0)]) (PH hb δ) ?_;rintro x R2 A hR2 hd;refine WP hd λR3 hR3 hx=>?_
 exact Wm hx (B9 (A:=[]) (hR2.trans hR3) ⟨rfl,hx⟩)
def st0:Sm.Al:=⟨[],[],[],0,false,false,false,0,[],[],[],0,0⟩
theorem Wp {R:RM} {s s' : Sm.Al} {wv tv mv thv ov pv:Value} {l:List AU} {met to tops:List Int} (h:SF R s wv tv mv thv ov pv) (F1:JJ s s' l (Aq met) to tops):StZ s':=by
 have wl:=h.b.wl;have t1:=h.b.t1;have n1:=h.b.n1;have pl:=h.b.pl;have e:=F1.eq;have e1:=O8 F1;have th:s'.A6 = s.A6.map (I3 l (Aq met) to):=Ib F1.hlen F1.th;refine⟨ω,by have:=F1.tn;omega,by rw[e];simp;omega,by rw[e];simp,by rw[e];show s.AG.length < _;omega,by rw[th];simp;omega,λt ht=>?_⟩;rw[th] at ht;obtain⟨u,hu,rfl⟩:=ZK.1 ht;have:=h.b.rl u hu;unfold I3;simp only[Z1];omega
theorem QFd.u {r:Option Sm.Al} {v:Value} {R:RM} (h:QFd r v R):∃(wa ta ma ha oa pa:Option Addr) (wc tc mc hc oc pc:Nat),
  StC R (r.getD st0) (.slice wa (r.getD st0).AA.length wc) (.slice ta (r.getD st0).A0.length tc) (.slice ma (r.getD st0).AK.length mc) (.slice ha (r.getD st0).A6.length hc) (.slice oa (r.getD st0).old.length oc) (.slice pa (r.getD st0).AG.length pc)∧
  v = .tuple #[.agg (eSt (r.getD st0) (.slice wa (r.getD st0).AA.length wc) (.slice ta (r.getD st0).A0.length tc) (.slice ma (r.getD st0).AK.length mc) (.slice ha (r.getD st0).A6.length hc) (.slice oa (r.getD st0).old.length oc) (.slice pa (r.getD st0).AG.length pc)).toArray,.bool r.isSome]:=by
 cases r with
 | none=>
  obtain rfl:v = _:=h;exact⟨none,none,none,none,none,none,0,0,0,0,0,0,⟨.inl ⟨rfl,rfl,rfl⟩,.inl ⟨rfl,rfl,rfl⟩,.inl ⟨rfl,rfl,rfl⟩,⟨[],Rw.nil,.inl ⟨rfl,rfl,rfl⟩⟩,.inl ⟨rfl,rfl,rfl⟩,.inl ⟨rfl,rfl,rfl⟩⟩,rfl⟩
 | some s=>
  obtain⟨wv,tv,mv,thv,ov,pv,h,_,rfl⟩:=h;show ∃wa ta ma ha oa pa wc tc mc hc oc pc,_∧_;obtain⟨wa,wc,rfl⟩:=h.w.sl;obtain⟨ta,tc,rfl⟩:=h.t.sl;obtain⟨ma,mc,rfl⟩:=h.m.sl;obtain⟨ha,hc,rfl⟩:=h.th.sl;obtain⟨oa,oc,rfl⟩:=h.o.sl;obtain⟨pa,pc,rfl⟩:=h.p.sl;exact⟨wa,ta,ma,ha,oa,pa,wc,tc,mc,hc,oc,pc,h,rfl⟩
section
variable {R:RM} {D:Chs} {w:List Int} {wv:Value} {t:AU} {a:Int} {k:Value→Value→M}
theorem jta (hw:BG R wv w) (hl:w.length < 1000000) (h0:-1000000≤a∧a≤1000000) (hn:inR (w.getD (a.toNat + 1) 0)) (hta:Ap w a = (t,true)) (H:∀R' b rv nv,R.le R'→BG R' nv t.nums→J R' ((b,C 62 (eTh t rv nv)) :: D) (k (Pt b) (.bool true))) :
  J R D (CA P F8 [wv,I a] λx=>EX 0 x λy=>EX 1 x λz=>AL 62 z62 λp=>ST 6 p y (k p z)):=by
 refine jc (A:=[]) (GQ a hw ω hn) ?_;rintro _ R7 _ hR7 ⟨rfl,x,⟨rv,nv,hx,hrv,hnv⟩,rfl⟩;subst hx;rw[hta] at hrv hnv ⊢;obtain⟨ra,rc,rfl⟩:=hrv.sl;obtain⟨na,nc,rfl⟩:=hnv.sl;refine jex rfl (jex rfl (ja λb=>jS (eTh t (.slice ra t.refs.length rc) (.slice na t.nums.length nc)) ?_));exact H R7 b _ _ hR7 hnv
theorem jtb {b:Nat} {k:Value→M} (hw:BG R wv w) (hl:w.length < 1000000) (h0:-1000000≤a∧a≤1000000) (hn:inR (w.getD (a.toNat + 1) 0)) (hta:Ap w a = (t,true)) (H:∀R' rv nv,R.le R'→BG R' nv t.nums→J R' ((b,C 62 (eTh t rv nv)) :: D) (k (.bool true))) :
  J R ((b,C 62 (cl z62)) :: D) (CA P F8 [wv,I a] λx=>EX 0 x λy=>EX 1 x λz=>ST 6 (Pt b) y (k z)):=by
 refine jc (A:=[]) (GQ a hw ω hn) ?_;rintro _ R7 _ hR7 ⟨rfl,x,⟨rv,nv,hx,hrv,hnv⟩,rfl⟩;subst hx;rw[hta] at hrv hnv ⊢;obtain⟨ra,rc,rfl⟩:=hrv.sl;obtain⟨na,nc,rfl⟩:=hnv.sl;refine jex rfl (jex rfl (jS (eTh t (.slice ra t.refs.length rc) (.slice na t.nums.length nc)) ?_));exact H R7 _ _ hR7 hnv
end
theorem RI {w:List Int} (h:∀x∈w,Rn x) (i:Nat):inR (w.getD i 0):=by
 rw[Ym];cases hx:w[i]? with
 | none=>exact⟨δ,δ⟩
 | some x=>exact h x (List.mem_of_getElem? hx)
theorem MV {s s' : Sm.Al} {l:List AU} {met to tops:List Int} (hf:HpF s l met) (F1:JJ s s' l (Aq met) to tops) (hw:∀x∈s.AA,Rn x) (hl:s.AA.length≤192):∀x∈s'.AA,Rn x:=by
 have hc:∀(bl:List (Int × List Int)) (w:List Int),(∀x∈w,Rn x)→(∀b∈bl,∀x∈b.2,Rn x)→∀x∈Bi w bl,Rn x:=by
  intro bl;induction bl with
  | nil=>intro w h _ x hx;exact h x hx
  | cons b bl ih=>
   intro w h hb;refine ih _ ?_ λb' hb'=>hb b' (ZG _ hb')
   have hs:∀(c w:List Int) (a:Int),(∀x∈w,Rn x)→(∀x∈c,Rn x)→∀x∈By w a c,Rn x:=by
    intro c;induction c with
    | nil=>intro w a h _ x hx;exact h x hx
    | cons v c ih2=>
     intro w a h hv;refine ih2 _ _ (λx hx=>?_) λx hx=>hv x (ZG _ hx)
     unfold AT at hx;rcases Zm hx with hx | rfl
     ·exact h x hx
     ·exact hv _ σ
   exact hs _ _ _ h (hb b σ)
 have seg_rn:∀(a n:Int) (x:Int),x∈seg s.AA a n→Rn x:=λa n x hx=>hw x (aA (ZO hx))
 have nums:∀t∈l,∀x∈t.nums,Rn x:=λt ht x hx=>by
  obtain⟨G,T,-⟩:=Ih hf.ths;have h1:=(T.all t ht).2;rw[h1] at hx;exact seg_rn _ _ x hx
 have z:Rn 0:=⟨δ,δ⟩;have small:∀x:Int,0≤x→x≤1000000→Rn x:=λx h0 h1=>⟨ω,ω⟩
 obtain⟨G,T,-⟩:=Ih hf.ths;rw[F1.wd];refine hc _ _ (hc _ _ (λx hx=>by rw[(ZT.1 hx).2];exact z) λb hb x hx=>?_) λb hb x hx=>?_
 ·obtain⟨t,ht,rfl⟩:=ZK.1 hb;have ht:=(Ze.1 ht).1;have i:=G.inn (T.all t ht).1;unfold EQ at hx;simp only[Yx,ZB,ZT] at hx;rcases hx with rfl | rfl | ⟨_,rfl⟩ | hx
  ·exact small _ ω ω
  ·exact Rn.shape
  ·exact z
  ·exact nums t ht x hx
 ·obtain⟨p,hp,rfl⟩:=ZK.1 hb;obtain⟨h1,h2⟩:=F1.rn p hp;unfold DY at hx;cases ht:BL l p.1 with
  | none=>rw[ht] at hx;cases hx
  | some t=>
   rw[ht] at hx;have h3:=(h2 t ht).1;simp only[Yx,ZB,ZK] at hx;rcases hx with rfl | rfl | ⟨y,_,rfl⟩ | hx
   ·exact small _ ω ω
   ·exact Rn.shape
   ·unfold plc;split
    ·split
     ·rename_i u _ hu;have hi:(Aq met).idxOf u < to.length:=by rw[F1.hlen];exact ad hu
      rw[Ym,Yi hi,Zi];have hiz:(Aq met).idxOf u < ((Aq met).zip to).length:=by rw[List.length_zip,F1.hlen] at *;omega
      have hz:=Yq hiz;rw[List.getElem_zip] at hz;obtain⟨g1,g2⟩:=F1.rn _ hz;obtain⟨t',ht',_⟩:=TR hf (((Cx hf.M.nd).2 _).1 (aC hz).1);have:=(g2 t' ht').1;dsimp only at this g1;exact small _ ω ω
     ·exact z
    ·exact z
   ·exact nums t (Bh ht).1 x hx
set_option maxHeartbeats 2000000 in
set_option maxRecDepth 8000 in
theorem Pf {R:RM} {v:Value} (hc:Cod R v):Fn P GG [v] R [] (λx _ A=>x = .bool true∧A = []):=by
 refine Jj λF=>?_
 refine z_1 ?_;obtain⟨cn,hsl⟩:=XW hc;refine C4 hsl (jgr (jif (λ_=>B9 (A:=[]) (RM.le.refl R) ⟨rfl,rfl⟩) (λ_=>?_)));refine jc (A:=[]) (NR hc) ?_;rintro x0 R1 _ hR1 ⟨rfl,hd⟩;refine YV hd λb s wv tv mv thv ov pv _ h=>?_
 refine jla (l:=eSt s wv tv mv thv ov pv) (by exact z_n 13) rfl ?_;refine jc (A:=[]) (PU h) ?_;rintro x R2 _ hR2 ⟨rfl,hq⟩;have h:=h.le hR2;obtain⟨wa,ta,ma,ha,oa,pa,wc,tc,mc,hcc,oc,pc,g1,rfl⟩:=hq.u;obtain⟨s1,e1⟩:∃s1,s1 = (fdO s).getD st0:=⟨_,rfl⟩;rw[← e1] at g1 ⊢;refine jex rfl (jex rfl (ja λb1=>jS (eSt s1 (.slice wa s1.AA.length wc) (.slice ta s1.A0.length tc) (.slice ma s1.AK.length mc) (.slice ha s1.A6.length hcc) (.slice oa s1.old.length oc) (.slice pa s1.AG.length pc)) ?_));refine jla (l:=eSt s wv tv mv thv ov pv) (by exact z_n 13) rfl ?_;refine jc (A:=[]) (U1 h) ?_;rintro x R3 _ hR3 ⟨rfl,hq2⟩;have h:=h.le hR3;obtain⟨wa2,ta2,ma2,ha2,oa2,pa2,wc2,tc2,mc2,hc2,oc2,pc2,g2,rfl⟩:=hq2.u;rw[← e1] at g2 ⊢;refine jex rfl (jex rfl (ja λb2=>jS (eSt s1 (.slice wa2 s1.AA.length wc2) (.slice ta2 s1.A0.length tc2) (.slice ma2 s1.AK.length mc2) (.slice ha2 s1.A6.length hc2) (.slice oa2 s1.old.length oc2) (.slice pa2 s1.AG.length pc2)) ?_));have g1:=g1.le hR3;have hR123:=hR1.trans (hR2.trans hR3);have z1:StZ s1:=by
  cases hfd:fdO s with
  | none=>rw[e1,hfd];exact⟨δ,δ,δ,δ,δ,δ,λt ht=>by cases ht⟩
  | some s'=>
   rw[e1,hfd];unfold fdO at hfd;cases hcm:Dj s with
   | none=>rw[hcm] at hfd;cases hfd
   | some q=>
    obtain⟨l,met⟩:=q;rw[hcm] at hfd;have hh:Ci s = some (l,met):=by
     unfold Dj at hcm;split at hcm
     ·cases hcm
     ·exact hcm
    have fu:=h.b.fu;obtain⟨s'',to,tops,F1⟩:=Ji (EL hh) ω;rw[F1.st] at hfd;cases hfd;exact Wp h F1
 refine jor [Pt b,Pt b1,.bool (fdO s).isSome] false (λK' hK'=>?_) (λe c u ho he=>?_)
 ·refine @jxb _ _ _ _ _ _ _ ?_;rw[bne_self_eq_false];refine jff (jla (l:=eSt s1 (.slice wa s1.AA.length wc) (.slice ta s1.A0.length tc) (.slice ma s1.AK.length mc) (.slice ha s1.A6.length hcc) (.slice oa s1.old.length oc) (.slice pa s1.AG.length pc)) (by exact z_n 13) rfl ?_);refine jla (l:=eSt s1 (.slice wa2 s1.AA.length wc2) (.slice ta2 s1.A0.length tc2) (.slice ma2 s1.AK.length mc2) (.slice ha2 s1.A6.length hc2) (.slice oa2 s1.old.length oc2) (.slice pa2 s1.AG.length pc2)) (by exact z_n 13) rfl ?_;exact jro (Sb g1 g2 z1) (hK' _ _ _ Ah rfl)
 refine z_V ?_;rw[ho];refine CL ?_;cases hfd:fdO s with
 | none=>exact DI (B9 (A:=[]) hR123 ⟨rfl,rfl⟩)
 | some s'=>
 refine CL ?_;obtain rfl:s1 = s':=by rw[e1,hfd];rfl
 obtain⟨l,met,to,tops,hf,F1⟩:∃l met to tops,HpF s l met∧JJ s s1 l (Aq met) to tops:=by
  unfold fdO at hfd;cases hcm:Dj s with
  | none=>rw[hcm] at hfd;cases hfd
  | some q=>
   obtain⟨l,met⟩:=q;rw[hcm] at hfd;have hh:Ci s = some (l,met):=by
    unfold Dj at hcm;split at hcm
    ·cases hcm
    ·exact hcm
   have fu:=h.b.fu;obtain⟨s'',to,tops,F1⟩:=Ji (EL hh) ω;rw[F1.st] at hfd;cases hfd;exact⟨l,met,to,tops,EL hh,F1⟩
 have wl:=h.b.wl;have t1:=h.b.t1;have pl:=h.b.pl;have fu:=h.b.fu;have hn0:=RI h.b.wr;have hn1:=RI (MV hf F1 h.b.wr ω);have pinE:s1.AG = s.AG:=by rw[F1.eq]
 have fuE:s1.BA = s.BA + 1:=by rw[F1.eq]
 have cyE:s1.Aj = s.Aj:=by rw[F1.eq]
 obtain⟨wa0,wc0,rfl⟩:=h.c.w.sl;obtain⟨pa0,pc0,rfl⟩:=h.c.p.sl;obtain⟨DD,hDD⟩:∃DD:Chs,DD = (b2,C 28 (eSt s1 (.slice wa2 s1.AA.length wc2) (.slice ta2 s1.A0.length tc2) (.slice ma2 s1.AK.length mc2) (.slice ha2 s1.A6.length hc2) (.slice oa2 s1.old.length oc2) (.slice pa2 s1.AG.length pc2))) :: (b1,C 28 (eSt s1 (.slice wa s1.AA.length wc) (.slice ta s1.A0.length tc) (.slice ma s1.AK.length mc) (.slice ha s1.A6.length hcc) (.slice oa s1.old.length oc) (.slice pa s1.AG.length pc))) :: (b,C 28 (eSt s (.slice wa0 s.AA.length wc0) tv mv thv ov (.slice pa0 s.AG.length pc0))) :: ([] ++ F):=⟨_,rfl⟩;refine jci (λ_:Unit=>[Pt b,Pt b1]) (λ_=>DD) (λR' _=>R3.le R') (λK1 h1=>?_) ?_
 ·refine jci (λ_:Unit=>[Pt b,Pt b1]) (λ_=>DD) (λR' _=>R3.le R') (λK2 h2=>?_) ?_;rotate_left
  ·rintro e R' i hp he;refine z_V ?_;exact h1 R' i hp
  refine jli (λi:Nat=>s.AG.length - i) (λi=>[Pt b,Pt b1,I i]) (λ_=>DD) (λR' i=>R3.le R'∧i≤s.AG.length) 0 ⟨RM.le.refl _,ω⟩ rfl hDD.symm ?_;rintro K e R6 i ⟨hR6,hil⟩ he hK;refine z_V ?_;rw[hDD] at h2 hK ⊢;refine jfo (jl (v:=.slice pa0 s.AG.length pc0) rfl (jln (jlt (jif (λc=>?_) (λc=>h2 R6 () hR6)))));have c:i < s.AG.length:=by have:=z_f c;omega
  have h6:=h.le hR6;have g6:=g1.le hR6;obtain⟨t,rs,hta,htb⟩:=WU hf F1 (Yq c);have hpv:=h.b.pv _ (Yq c);refine jci (λq:Nat × Value × Value=>[Pt b,Pt b1,I i,.pointer (some ⟨q.1,0,none⟩),.bool true])
   (λq=>(q.1,C 62 (eTh t q.2.1 q.2.2)) :: DD) (λR' q=>R6.le R'∧BG R' q.2.2 t.nums) (λK3 h3=>?_) ?_
  ·rw[hDD] at h3;refine jfo (jl (v:=.slice wa0 s.AA.length wc0) rfl (jfo (jl (v:=.slice pa0 s.AG.length pc0) rfl (WA h6.c.p ω ω λp hp=>?_))));simp only[Yj] at hp ⊢;refine EP ?_ (Dk ?_)
   ·refine jta h6.c.w ω ω (hn0 _) hta ?_;exact λR' b3 rv nv hR hnv=>h3 R' (b3,rv,nv) ⟨hR,hnv⟩
   ·refine ja λb3=>Af (jl (v:=.slice wa0 s.AA.length wc0) rfl jev) (Af (jl (v:=.slice pa0 s.AG.length pc0) rfl jev) (Af (hp λR' D'=>jev) ?_))
    refine jtb h6.c.w ω ω (hn0 _) hta ?_;exact λR' rv nv hR hnv=>h3 R' (b3,rv,nv) ⟨hR,hnv⟩
  rintro e R7 ⟨b3,rv,nv⟩ ⟨hR7,hnv⟩ he;dsimp only at he hnv ⊢;refine z_V ?_;rw[hDD];have h7:=h6.le hR7;have g7:=g6.le hR7;refine jci (λq:Nat × Value × Value=>[Pt b,Pt b1,I i,Pt b3,.bool true,.pointer (some ⟨q.1,0,none⟩),.bool true])
   (λq=>(q.1,C 62 (eTh ⟨s.AG[i],s.AG[i],t.sh,rs,t.nums⟩ q.2.1 q.2.2)) :: (b3,C 62 (eTh t rv nv)) :: DD) (λR' q=>R7.le R'∧BG R' q.2.2 t.nums) (λK3 h3=>?_) ?_
  ·rw[hDD] at h3;refine jfo (jl (v:=.slice wa s1.AA.length wc) rfl (jfo (jl (v:=.slice pa0 s.AG.length pc0) rfl (WA h7.c.p ω ω λp hp=>?_))));simp only[Yj] at hp ⊢;refine EP ?_ (Dk ?_)
   ·refine jta g7.w z1.w ω (hn1 _) htb ?_;exact λR' b4 rv nv hR hnv=>h3 R' (b4,rv,nv) ⟨hR,hnv⟩
   ·refine ja λb4=>Af (jl (v:=.slice wa s1.AA.length wc) rfl jev) (Af (jl (v:=.slice pa0 s.AG.length pc0) rfl jev) (Af (hp λR' D'=>jev) ?_))
    refine jtb g7.w z1.w ω (hn1 _) htb ?_;exact λR' rv nv hR hnv=>h3 R' (b4,rv,nv) ⟨hR,hnv⟩
  rintro e R8 ⟨b4,rv4,nv4⟩ ⟨hR8,hnv4⟩ he;dsimp only at he hnv4 ⊢;refine z_V ?_;rw[hDD];have hnv:=hnv.le hR8;have hnl:t.nums.length < 1000000:=by
   have:=congrArg (λx=>x.1.nums) hta;dsimp only at this;rw[← this];unfold Ap;split
   ·dsimp only;split
    ·unfold seg;rw[Z5,ZS];omega
    ·decide
   ·decide
  refine jor [Pt b,Pt b1,I i,Pt b3,Pt b4] false (λK' hK'=>?_) (λe c1 u1 ho1 he=>?_)
  ·show J _ _ (GT (.bool false) false _ _);exact jff (hK' _ _ _ Ah rfl)
  refine z_V ?_;refine jor [Pt b,Pt b1,I i,Pt b3,Pt b4] false (λK' hK'=>?_) (λe c1 u1 ho2 he=>?_)
  ·rw[ho1];refine jff (jfo (jla (l:=[I t.sh.refs,I t.sh.nums]) (by exact (by decide:4≤6)) rfl (jfo (jla (l:=[I t.sh.refs,I t.sh.nums]) (by exact (by decide:4≤6)) rfl (@WW t.sh t.sh _ _ _ _ _ ?_)))));rw[beq_self_eq_true];exact hK' _ _ _ Ah rfl
  refine z_V ?_;refine jor [Pt b,Pt b1,I i,Pt b4] false (λK' hK'=>?_) (λe c1 u1 ho3 he=>?_)
  ·rw[ho2];refine jff (jfo (jl (v:=nv) rfl (jfo (jl (v:=nv4) rfl (jro (Fb hnv hnv4 hnl hnl) ?_)))));rw[beq_self_eq_true];exact hK' _ _ _ Ah rfl
  refine z_V ?_;refine jor [Pt b,Pt b1,I i] false (λK' hK'=>?_) (λe c1 u1 ho4 he=>?_)
  ·rw[ho3];refine jff (jfo (jl (v:=I s.AG[i]) rfl (jfo (jl (v:=I s.AG[i]) rfl (jne ?_)))));rw[bne_self_eq_false];exact hK' _ _ _ Ah rfl
  refine z_V ?_;rw[ho4];refine CL (jad (Bn (Bn ?_)));exact hK R8 (i + 1) ω ⟨hR6.trans (hR7.trans hR8),c⟩
 rintro e R6 _ hR6 he;refine z_V ?_;rw[hDD];have h6:=h.le hR6;have g6:=g1.le hR6;refine jan [Pt b,Pt b1] true (λK' hK'=>?_) (λe c1 u1 ho1 he=>?_)
 ·refine jfo (jl (v:=.slice pa0 s.AG.length pc0) rfl (jfo (jl (v:=.slice pa s1.AG.length pc) rfl (jro (Fb h6.c.p g6.p ω (by rw[pinE];omega)) ?_))));rw[show (s.AG == s1.AG) = true from by rw[pinE];exact beq_self_eq_true _];refine jtt (jfo (jl (v:=I s1.BA) rfl (jfo (jl (v:=I s.BA) rfl (jad (jeq ?_))))));rw[fuE,beq_self_eq_true];exact hK' _ _ _ Ax rfl
 refine z_V ?_;refine jan [] true (λK' hK'=>?_) (λe c1 u1 ho2 he=>?_)
 ·rw[ho1];refine jtt (jfo (jl (v:=I s1.Aj) rfl (jfo (jl (v:=I s.Aj) rfl (jeq ?_)))));rw[cyE,beq_self_eq_true];exact hK' _ _ _ Ax rfl
 refine z_V ?_;rw[ho2];exact B9 (A:=[]) (hR123.trans hR6) ⟨rfl,rfl⟩
end Go.Lf
end
