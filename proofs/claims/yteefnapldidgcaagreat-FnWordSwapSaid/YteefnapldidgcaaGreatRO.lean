/- The given row of this law is proved: whatever code comes in, it returns true and leaves the code as it was. Conditions: none. -/
import Derived.Test.YteefnapldidgcaaGreatRows
import Derived.ProofKit
import Derived.ChangeOld
import Derived.Test.YteefnapldidgcaaGreatRN
set_option linter.unusedVariables false
set_option linter.unusedSimpArgs false
section
namespace Go.Lf
open Go Sm
section draws
variable {R:RM} {rb:Nat} {v:Value} {m:Int}
theorem d_l20Words (hb:Byt R v) (hm:0≤m∧m < 100000000):Dr F_s_l20Words [.pointer (some ⟨rb,0,none⟩)] R rb v m 2100000 (λx R'=>∃w:List Int,w.length≤208∧Ints R' x w):=by
 refine s_s_l20Words λF=>?_
 unfold c_s_l20Words
 refine jc (A:=[(rb,rdO v m)]) (d_l20State hb hm) ?_
 rintro _ R1 _ hR1 ⟨s,wv,mv,thv,ov,pv,tb,tc,tsp,m1,sb,hw,hmv,hth,hov,hpv,htc,h1,h2,rfl,rfl⟩
 have wl:=sb.wl
 have t0:=sb.t0
 have t1:=sb.t1
 have hb1:=hb.le hR1
 obtain⟨wa,wc,e⟩:=hw.sl
 subst e
 refine ja λb2=>js (cs':=eSt s (.slice wa s.words.length wc) (.slice (some ⟨tb,0,none⟩) s.table.length tc) mv thv ov pv) rfl (st_flat (Fz.flat hmv) (by obtain⟨_,_,e⟩:=hth.sl;rw[e];rfl) (Fz.flat hov) (Fz.flat hpv)) (by exact Nat.le_refl 13) rfl ?_
 refine jl (v:=.slice wa s.words.length wc) rfl ?_
 refine jcutq (λvs R' D'=>R1.le R'∧∃(x:Value) (w:List Int) (m2:Int),w.length≤208∧Ints R' x w∧m≤m2∧m2≤m + 2100000∧D' = (rb,rdO v m2) :: F∧vs = [x]) (λK hK=>?_) ?_
 rotate_left
 ·rintro e R2 D2 ⟨hR2,x,w,m2,q1,q2,q3,q4,hD,he⟩
  rw[hD];clear hD
  simp only[List.map,lc,ln,lj,and_true] at he
  simp only[he]
  exact dr_ret m2 (hR1.trans hR2) ⟨w,q1,q2⟩ q3 q4
 refine jpk hb1 ⟨by omega,by omega⟩ λy _ _=>?_
 refine jcutq (λvs R' D'=>R1.le R'∧∃(x:Value) (w:List Int) (m2:Int),w.length≤208∧Ints R' x w∧m≤m2∧m2≤m + 2100000∧D' = (rb,rdO v m2) :: F∧vs = [x]) (λK2 hK2=>?_) ?_
 rotate_left
 ·rintro e R2 D2 ⟨hR2,x,w,m2,q1,q2,q3,q4,hD,he⟩
  simp only[List.map,lc,ln,lj,and_true] at he
  simp only[he]
  exact hK _ _ _ ⟨hR2,x,w,m2,q1,q2,q3,q4,hD,rfl⟩
 refine jeq (jif (λ_=>?_) (λ_=>jeq (jif (λ_=>?_) (λ_=>jeq (jif (λ_=>?_) (λ_=>?_))))))
 ·refine jslh hw (by decide) (by omega) λv' hv'=>jk1 (F:=F) rb ?_
  exact hK2 _ _ _ ⟨RM.le.refl _,v',_,_,by rw[List.length_take];omega,hv',by omega,by omega,rfl,rfl⟩
 ·refine jsll hw (by decide) (by omega) λv' hv'=>jk1 (F:=F) rb ?_
  exact hK2 _ _ _ ⟨RM.le.refl _,v',_,_,by rw[List.length_drop];omega,hv',by omega,by omega,rfl,rfl⟩
 ·refine jpk hb1 ⟨by omega,by omega⟩ λz _ _=>jadd ⟨by omega,by omega⟩ (jmul ⟨by omega,by omega⟩ (jms (by omega) (by omega) (by omega) λbw=>?_))
  have e:(List.replicate (16 * (12 + z)).toNat (cl z3)).flatten = (List.replicate (16 * (12 + z)).toNat (0:Int)).map I ++ []:=by
   rw[show cl z3 = [I 0] from rfl];simp[List.flatten_replicate_singleton]
  rw[e]
  refine jfreeze (b:=bw) λR2 hR2 hbw=>jk1 (F:=F) rb ?_
  have hi:=ints_of (c:=(16 * (12 + z)).toNat) hbw (by rw[List.length_replicate];exact Nat.le_refl _)
  rw[List.length_replicate] at hi
  exact hK2 _ _ _ ⟨hR2,_,_,_,by rw[List.length_replicate];omega,hi,by omega,by omega,rfl,rfl⟩
 ·refine jk1 (F:=F) rb ?_
  exact hK2 _ _ _ ⟨RM.le.refl _,_,s.words,_,by omega,hw,by omega,by omega,rfl,rfl⟩
end draws
end Go.Lf
end
section
namespace Go.Lf
open Go Sm
theorem x_eqn (x y:Operand) (a:Addr) (n c:Nat) (w:World):(do eqGuard .eql 23 x y (.slice (some a) n c) (.slice none 0 0);binOp .eql 23 (.slice (some a) n c) (.slice none 0 0):Sem Value).run P w = .ok (.bool false) w:=by kernel_rfl
theorem x_eqn0 (x y:Operand) (w:World):(do eqGuard .eql 23 x y (.slice none 0 0) (.slice none 0 0);binOp .eql 23 (.slice none 0 0) (.slice none 0 0):Sem Value).run P w = .ok (.bool true) w:=by kernel_rfl
section rules
variable {R:RM} {D:Chs} {k:Value→M}
theorem jnilq {v:Value} {w n:Nat} {cells:List Value} {x y:Operand} (h:Fz R v w n cells) (H0:v = .slice none 0 0→n = 0→cells = []→J R D (k (.bool true))) (H1:J R D (k (.bool false))):J R D (X P (do eqGuard .eql 23 x y v (.slice none 0 0);binOp .eql 23 v (.slice none 0 0)) k):=by
 rcases h with ⟨rfl,h2,h3⟩ | ⟨b,o,cap,t,cs,rfl,_⟩
 ·intro h hs w hw
  rw[x_eqn0]
  subst hw
  exact⟨Same.refl _,H0 rfl h2 h3 _ hs⟩
 ·intro h hs w hw
  rw[x_eqn]
  subst hw
  exact⟨Same.refl _,H1 _ hs⟩
theorem jown {v:Value} {l:List Int} (h:Ints R v l) (hl:l.length < 1000000) (H:∀v' b c sp,l.length≤c→sp.length = c - l.length→v' = .slice (some ⟨b,0,none⟩) l.length c→J R ((b,C T_int (l.map I ++ sp)) :: D) (k v')) :
  J R D (BS 3 0 (ZR 0 z3) [] λx=>AP 3 1 8 (cl z3) x v k):=by
 obtain⟨a,cap,rfl,hr⟩:=Fz.reads (D:=D) h
 refine jbs (cs:=[]) rfl rfl λb2=>?_
 refine jap0 (new:=l.map I) ?_ (by decide) (by omega) (λ_=>rfl) (λh0=>?_) (λb' c hc=>jperm (List.Perm.swap _ _ _) (jdrop ?_))
 ·intro h' hs'
  exact hr h' (St.drop (A:=[(b2,C 3 [])]) (by simpa using hs'))
 ·have:l = []:=List.length_eq_zero_iff.1 h0
  subst this
  exact H _ b2 0 [] (by simp) (by simp) rfl
 ·exact H _ b' c _ hc (by rw[flat_len (w:=1) (by intro x hx;rw[(List.mem_replicate.1 hx).2];rfl)];simp) rfl
end rules
theorem t_Clone {R:RM} {v:Value} {l:List Int} (h:Ints R v l) (hl:l.length < 1000000):Fn P F_slices_Clone_37 [v] R [] (λx R' A=>R' = R∧SO l x A∧(0 < l.length→OwnI l x A)):=by
 refine s_slices_Clone_37 λF=>?_
 unfold c_slices_Clone_37
 refine jnilq h (λ_ h0 _=>jift ?_) (jiff ?_)
 ·have:l = []:=List.length_eq_zero_iff.1 h0
  subst this
  exact jret (A:=[]) (RM.le.refl R) ⟨rfl,.inl ⟨rfl,rfl,rfl⟩,by simp⟩
 ·refine jown h hl λv' b c sp hc hsp hv=>?_
  exact jret (A:=[(b,C T_int (l.map I ++ sp))]) (RM.le.refl R) ⟨rfl,.inr ⟨b,c,sp,hc,hsp,hv,rfl⟩,λ_=>⟨b,c,sp,hc,hsp,hv,rfl⟩⟩
theorem p_i_WordsOk (a:Option Addr) (n c:Nat) (hn:n < 1000000000000):Pu F_i_WordsOk [.slice a n c] (.bool (wordsOk n)):=by
 intro R
 refine s_i_WordsOk λF=>?_
 unfold c_i_WordsOk
 have er:(n:Int).tmod 16 = (n % 16:Nat):=by rw[Int.tmod_eq_emod_of_nonneg (by omega)];omega
 refine jan [.slice a n c] (((n:Int).tmod 16 == 0) && (decide ((n:Int)≥32))) (λK' hK'=>?_) (λe c u ho he=>?_)
 ·refine jln (jrem (by decide) (jeq (jgtt (λh1=>?_) (λh1=>?_))))
  ·refine jln (jge (hK' _ _ _ (h1▸and2_t) (by rw[h1,Bool.true_and])))
  ·exact hK' _ _ _ (h1▸and2_f) (by rw[h1,Bool.false_and])
 simp only[List.map,lc,ln,lj,and_true] at he
 simp only[he]
 refine jan [] ((((n:Int).tmod 16 == 0) && decide ((n:Int)≥32)) && (decide ((n:Int)≤192))) (λK' hK'=>?_) (λe c u ho he=>?_)
 ·rw[ho]
  refine jgtt (λh1=>?_) (λh1=>?_)
  ·refine jln (jle (hK' _ _ _ (h1▸and2_t) (by rw[h1,Bool.true_and])))
  ·exact hK' _ _ _ (h1▸and2_f) (by rw[h1,Bool.false_and])
 simp only[List.map,lc,ln,lj,and_true] at he
 simp only[he]
 rw[ho]
 refine jret (A:=[]) (RM.le.refl R) ?_
 congr 1
 unfold wordsOk
 rw[er,Bool.eq_iff_iff]
 simp only[Bool.and_eq_true,decide_eq_true_eq,beq_iff_eq]
 constructor<;>rintro⟨⟨h1,h2⟩,h3⟩<;>exact⟨⟨by omega,by omega⟩,by omega⟩
def hasW (n:Nat) (a:Int):Bool:=wordsOk n && decide (a≥0) && decide (a < n)
theorem hasW_iff {n:Nat} {a:Int} (h:hasW n a = true):0≤a∧a < n:=by
 unfold hasW at h
 simp only[Bool.and_eq_true,decide_eq_true_eq] at h
 exact⟨h.1.2,h.2⟩
theorem p_i_hasWord (x:Option Addr) (n c:Nat) (a:Int) (hn:n < 1000000000000):Pu F_i_hasWord [.slice x n c,I a] (.bool (hasW n a)):=by
 intro R
 refine s_i_hasWord λF=>?_
 unfold c_i_hasWord
 refine jan [.slice x n c,I a] (wordsOk n && decide (a≥0)) (λK' hK'=>?_) (λe c u ho he=>?_)
 ·refine jp (p_i_WordsOk x n c hn) (jgtt (λh1=>jge (hK' _ _ _ (h1▸and2_t) (by rw[h1,Bool.true_and]))) (λh1=>hK' _ _ _ (h1▸and2_f) (by rw[h1,Bool.false_and])))
 simp only[List.map,lc,ln,lj,and_true] at he
 simp only[he]
 refine jan [] ((wordsOk n && decide (a≥0)) && decide (a < n)) (λK' hK'=>?_) (λe c u ho he=>?_)
 ·rw[ho]
  exact jgtt (λh1=>jln (jlt (hK' _ _ _ (h1▸and2_t) (by rw[h1,Bool.true_and])))) (λh1=>hK' _ _ _ (h1▸and2_f) (by rw[h1,Bool.false_and]))
 simp only[List.map,lc,ln,lj,and_true] at he
 simp only[he]
 rw[ho]
 exact jret (A:=[]) (RM.le.refl R) rfl
theorem p_l1Here (x:Option Addr) (n c:Nat) (a:Int) (hn:n < 1000000000000):Pu F_s_l1Here [.slice x n c,I a] (.bool (hasW n a)):=by
 intro R
 refine s_s_l1Here λF=>?_
 unfold c_s_l1Here
 refine jan [.slice x n c,I a] (wordsOk n && decide (a≥0)) (λK' hK'=>?_) (λe c u ho he=>?_)
 ·refine jp (p_WordsOk x n c hn) (jgtt (λh1=>jge (hK' _ _ _ (h1▸and2_t) (by rw[h1,Bool.true_and]))) (λh1=>hK' _ _ _ (h1▸and2_f) (by rw[h1,Bool.false_and])))
 simp only[List.map,lc,ln,lj,and_true] at he
 simp only[he]
 refine jan [] ((wordsOk n && decide (a≥0)) && decide (a < n)) (λK' hK'=>?_) (λe c u ho he=>?_)
 ·rw[ho]
  exact jgtt (λh1=>jln (jlt (hK' _ _ _ (h1▸and2_t) (by rw[h1,Bool.true_and])))) (λh1=>hK' _ _ _ (h1▸and2_f) (by rw[h1,Bool.false_and]))
 simp only[List.map,lc,ln,lj,and_true] at he
 simp only[he]
 rw[ho]
 exact jret (A:=[]) (RM.le.refl R) rfl
end Go.Lf
end
section
namespace Go.Lf
open Go Sm
def wordAt (w:List Int) (a:Int):Int × Bool:=if hasW w.length a then (w.getD a.toNat 0,true) else (0,false)
def wordPut (w:List Int) (a x:Int):List Int × Bool:=if hasW w.length a then (w.set a.toNat x,true) else ([],false)
def wordSwap (w:List Int) (a o x:Int):(List Int × Int) × Bool:=if hasW w.length a then ((if w.getD a.toNat 0 = o then w.set a.toNat x else w,w.getD a.toNat 0),true) else (([],0),false)
def QSw (r:(List Int × Int) × Bool) (v:Value) (A:Chs):Prop:=if r.2 then ∃sv,OwnI r.1.1 sv A∧v = .tuple #[sv,I r.1.2,.bool true] else v = .tuple #[.slice none 0 0,I 0,.bool false]∧A = []
theorem getD_at {w:List Int} {a:Int} (h0:0≤a) (h1:a < w.length):w[a.toNat]'(by omega) = w.getD a.toNat 0:=by
 rw[List.getD_eq_getElem?_getD,List.getElem?_eq_getElem (by omega)];rfl
theorem r_i_WordAt {R:RM} {D:Chs} {wv:Value} {w:List Int} (a:Int) (h:Ints R wv w) (hl:w.length < 1000000):Ro F_i_WordAt [wv,I a] (.tuple #[I (wordAt w a).1,.bool (wordAt w a).2]) R D:=by
 refine s_i_WordAt λF=>?_
 unfold c_i_WordAt
 obtain⟨wa,wc,hwv⟩:=h.sl
 subst hwv
 refine jp (p_i_hasWord wa w.length wc a (by omega)) (jif (λh0=>?_) (λh0=>?_))
 ·have h0:hasW w.length a = false:=by simpa using h0
  exact ro_ret (by unfold wordAt;rw[h0];rfl)
 ·have h0:hasW w.length a = true:=by simpa using h0
  obtain⟨a0,a1⟩:=hasW_iff h0
  refine jfz1 h a0 a1 ?_
  rw[getD_at a0 a1]
  exact ro_ret (by unfold wordAt;rw[if_pos h0])
theorem r_WordAt {R:RM} {D:Chs} {wv:Value} {w:List Int} (a:Int) (h:Ints R wv w) (hl:w.length < 1000000):Ro F_s_WordAt [wv,I a] (.tuple #[I (wordAt w a).1,.bool (wordAt w a).2]) R D:=by
 refine s_s_WordAt λF=>?_
 unfold c_s_WordAt
 obtain⟨wa,wc,hwv⟩:=h.sl
 subst hwv
 refine jp (p_l1Here wa w.length wc a (by omega)) (jif (λh0=>?_) (λh0=>?_))
 ·have h0:hasW w.length a = false:=by simpa using h0
  exact ro_ret (by unfold wordAt;rw[h0];rfl)
 ·have h0:hasW w.length a = true:=by simpa using h0
  obtain⟨a0,a1⟩:=hasW_iff h0
  refine jfz1 h a0 a1 ?_
  rw[getD_at a0 a1]
  exact ro_ret (by unfold wordAt;rw[if_pos h0])
theorem t_i_WordPut {R:RM} {wv:Value} {w:List Int} (a x:Int) (h:Ints R wv w) (hl:w.length < 1000000):Fn P F_i_WordPut [wv,I a,I x] R [] (λv R' A=>R' = R∧QMk (wordPut w a x) v A):=by
 refine s_i_WordPut λF=>?_
 unfold c_i_WordPut
 obtain⟨wa,wc,hwv⟩:=h.sl
 subst hwv
 refine jp (p_i_hasWord wa w.length wc a (by omega)) (jif (λh0=>?_) (λh0=>?_))
 ·have h0:hasW w.length a = false:=by simpa using h0
  refine jret (A:=[]) (RM.le.refl R) ⟨rfl,?_⟩
  unfold wordPut;rw[h0];exact⟨rfl,rfl⟩
 ·have h0:hasW w.length a = true:=by simpa using h0
  obtain⟨a0,a1⟩:=hasW_iff h0
  obtain⟨n,rfl⟩:∃n:Nat,a = n:=⟨a.toNat,by omega⟩
  refine jc (A:=[]) (t_Clone h hl) ?_
  rintro _ R1 _ _ ⟨hR1,-,hown⟩
  subst hR1
  obtain⟨b,c,sp,hc,hsp,rfl,rfl⟩:=hown (by omega)
  refine jian (by omega) (jsi (l:=w) (by omega) ?_)
  refine jret (A:=[(b,C T_int ((w.set n x).map I ++ sp))]) (RM.le.refl _) ⟨rfl,?_⟩
  unfold wordPut;rw[h0]
  exact⟨_,⟨b,c,sp,by simpa using hc,by simpa using hsp,by simp,rfl⟩,rfl⟩
theorem t_i_WordSwap {R:RM} {wv:Value} {w:List Int} (a o x:Int) (h:Ints R wv w) (hl:w.length < 1000000):Fn P F_i_WordSwap [wv,I a,I o,I x] R [] (λv R' A=>R' = R∧QSw (wordSwap w a o x) v A):=by
 refine s_i_WordSwap λF=>?_
 unfold c_i_WordSwap
 obtain⟨wa,wc,hwv⟩:=h.sl
 subst hwv
 refine jp (p_i_hasWord wa w.length wc a (by omega)) (jif (λh0=>?_) (λh0=>?_))
 ·have h0:hasW w.length a = false:=by simpa using h0
  refine jret (A:=[]) (RM.le.refl R) ⟨rfl,?_⟩
  unfold wordSwap;rw[h0];exact⟨rfl,rfl⟩
 ·have h0:hasW w.length a = true:=by simpa using h0
  obtain⟨a0,a1⟩:=hasW_iff h0
  obtain⟨n,rfl⟩:∃n:Nat,a = n:=⟨a.toNat,by omega⟩
  have hn:n < w.length:=by omega
  have eg:=getD_at a0 a1
  simp only[Int.toNat_natCast] at eg
  refine jc (A:=[]) (t_Clone h hl) ?_
  rintro _ R1 _ _ ⟨hR1,-,hown⟩
  subst hR1
  obtain⟨b,c,sp,hc,hsp,rfl,rfl⟩:=hown (by omega)
  refine jcutq (λvs R' D'=>R' = R1∧D' = (b,C T_int ((if w.getD n 0 = o then w.set n x else w).map I ++ sp)) :: ([] ++ F)∧vs = [.slice wa w.length wc,I n,.slice (some ⟨b,0,none⟩) w.length c]) (λK hK=>?_) ?_
  ·refine jian (by omega) (jl (v:=I (w.getD n 0)) (by rw[Nat.zero_add,Nat.mul_one,ints_get hn,eg]) (jeq (jif (λh1=>?_) (λh1=>?_))))
   ·refine jian (by omega) (jsi (l:=w) (by omega) (hK _ _ _ ⟨rfl,?_,rfl⟩))
    rw[if_pos (eq_of_beq h1)];rfl
   ·refine hK _ _ _ ⟨rfl,?_,rfl⟩
    rw[if_neg (ne_of_beq_false h1)];rfl
  rintro e R2 D2 ⟨hR2,hD,he⟩
  subst hR2
  rw[hD];clear hD
  simp only[List.map,lc,ln,lj,and_true] at he
  simp only[he]
  refine jfz2 h a0 a1 λq hq=>?_
  simp only[Int.toNat_natCast] at hq
  rw[eg] at hq
  refine hq _ _ (jand (hq _ _ jev) ?_)
  refine jret (A:=[(b,C T_int ((if w.getD n 0 = o then w.set n x else w).map I ++ sp))]) (RM.le.refl _) ⟨rfl,?_⟩
  have hlen:(if w.getD n 0 = o then w.set n x else w).length = w.length:=by split<;>simp
  have es:wordSwap w n o x = ((if w.getD n 0 = o then w.set n x else w,w.getD n 0),true):=by
   unfold wordSwap
   rw[if_pos h0];simp only[Int.toNat_natCast]
  rw[es]
  exact⟨_,⟨b,c,sp,by show (if w.getD n 0 = o then w.set n x else w).length≤c;omega,by show _ = c - (if w.getD n 0 = o then w.set n x else w).length;omega,by show _ = Value.slice _ (if w.getD n 0 = o then w.set n x else w).length c;rw[hlen],rfl⟩,rfl⟩
theorem t_WordSwap {R:RM} {wv:Value} {w:List Int} (a o x:Int) (h:Ints R wv w) (hl:w.length < 1000000):Fn P F_s_WordSwap [wv,I a,I o,I x] R [] (λv R' A=>R' = R∧QSw (wordSwap w a o x) v A):=by
 refine s_s_WordSwap λF=>?_
 unfold c_s_WordSwap
 obtain⟨wa,wc,hwv⟩:=h.sl
 subst hwv
 refine jp (p_l1Here wa w.length wc a (by omega)) (jif (λh0=>?_) (λh0=>?_))
 ·have h0:hasW w.length a = false:=by simpa using h0
  refine jret (A:=[]) (RM.le.refl R) ⟨rfl,?_⟩
  unfold wordSwap;rw[h0];exact⟨rfl,rfl⟩
 ·have h0:hasW w.length a = true:=by simpa using h0
  obtain⟨a0,a1⟩:=hasW_iff h0
  obtain⟨n,rfl⟩:∃n:Nat,a = n:=⟨a.toNat,by omega⟩
  have hn:n < w.length:=by omega
  have eg:=getD_at a0 a1
  simp only[Int.toNat_natCast] at eg
  refine jfz1 h a0 a1 ?_
  simp only[Int.toNat_natCast]
  rw[eg]
  refine jown h hl λv' b c sp hc hsp hv=>?_
  subst hv
  refine jcutq (λvs R' D'=>R' = R∧D' = (b,C T_int ((if w.getD n 0 = o then w.set n x else w).map I ++ sp)) :: ([] ++ F)∧vs = [I (w.getD n 0),.slice (some ⟨b,0,none⟩) w.length c]) (λK hK=>?_) ?_
  ·refine jeq (jif (λh1=>?_) (λh1=>?_))
   ·refine jian (by omega) (jsi (l:=w) (by omega) (hK _ _ _ ⟨rfl,?_,rfl⟩))
    rw[if_pos (eq_of_beq h1)]
   ·refine hK _ _ _ ⟨rfl,?_,rfl⟩
    rw[if_neg (ne_of_beq_false h1)]
  rintro e R2 D2 ⟨hR2,hD,he⟩
  subst hR2
  rw[hD];clear hD
  simp only[List.map,lc,ln,lj,and_true] at he
  simp only[he]
  refine jret (A:=[(b,C T_int ((if w.getD n 0 = o then w.set n x else w).map I ++ sp))]) (RM.le.refl _) ⟨rfl,?_⟩
  have hlen:(if w.getD n 0 = o then w.set n x else w).length = w.length:=by split<;>simp
  have es:wordSwap w n o x = ((if w.getD n 0 = o then w.set n x else w,w.getD n 0),true):=by
   unfold wordSwap
   rw[if_pos h0];simp only[Int.toNat_natCast]
  rw[es]
  exact⟨_,⟨b,c,sp,by show (if w.getD n 0 = o then w.set n x else w).length≤c;omega,by show _ = c - (if w.getD n 0 = o then w.set n x else w).length;omega,by show _ = Value.slice _ (if w.getD n 0 = o then w.set n x else w).length c;rw[hlen],rfl⟩,rfl⟩
end Go.Lf
end
section
namespace Go.Lf
open Go Sm
theorem r_flInts {R:RM} {D:Chs} {va vb:Value} {la lb:List Int} (ha:Ints R va la) (hb:Ints R vb lb) (h1:la.length < 1000000) (h2:lb.length < 1000000):Ro F_w_flInts [va,vb] (.bool (la == lb)) R D:=by
 refine s_w_flInts λF=>?_
 unfold c_w_flInts
 refine jln_ ha.sl (jln_ hb.sl (jne (jif (λh=>?_) (λh=>?_))))
 ·have h:(la.length:Int)≠lb.length:=by simpa using h
  refine ro_ret ?_
  congr 1
  rw[eq_comm,beq_eq_false_iff_ne]
  intro e;rw[e] at h;exact h rfl
 have hl:la.length = lb.length:=by
  have:((la.length:Int) != lb.length) = false:=h
  rw[bne_eq_false_iff_eq] at this;omega
 refine jlp (λm vs R' D'=>R' = R∧D' = D ++ F∧∃i:Nat,i≤la.length∧vs = [va,vb,I i]∧la.take i = lb.take i∧m = la.length - i) (n:=la.length) ⟨rfl,rfl,0,by omega,rfl,by simp,by omega⟩ ?_
 rintro m e R1 D1 K ⟨hR,hD,i,hi,he,heq,hm⟩ hK
 subst hR
 rw[hD];clear hD
 simp only[List.map,lc,ln,lj,and_true] at he
 simp only[he]
 refine jln_ ha.sl (jlt (jif (λhc=>?_) (λhc=>?_)))
 rotate_left
 ·have hc:=of_decide_eq_false hc
  refine ro_ret ?_
  rw[List.take_of_length_le (by omega),List.take_of_length_le (by omega)] at heq
  rw[heq];simp
 have hc:i < la.length:=by have:=of_decide_eq_true hc;omega
 refine jfz1 ha (by omega) (by omega) (jfz1 hb (by omega) (by omega) (jne ?_))
 simp only[Int.toNat_natCast]
 refine jif (λhd=>?_) (λhd=>?_)
 ·have hd:la[i]≠lb[i]:=by simpa using hd
  refine ro_ret ?_
  congr 1
  rw[eq_comm,beq_eq_false_iff_ne]
  intro e;subst e;exact hd rfl
 ·have hd:la[i] = lb[i]:=by simpa using hd
  refine jadd ⟨by omega,by omega⟩ ?_
  refine hK (la.length - (i + 1)) _ _ _ (by omega) ⟨rfl,rfl,i + 1,by omega,rfl,?_,rfl⟩
  rw[List.take_succ_eq_append_getElem hc,List.take_succ_eq_append_getElem (by omega:i < lb.length),heq,hd]
def Cod (R:RM) (v:Value):Prop:=∃n,Bsl R v n
theorem d_DrawWordSwap {R:RM} {v:Value} (hc:Cod R v):Fn P F_s_DrawWordSwap [v] R [] (λx R' A=>∃(w:List Int) (wv:Value) (a o y:Int),x = .tuple #[wv,I a,I o,I y]∧Ints R' wv w∧w.length≤208∧A = []):=by
 refine s_s_DrawWordSwap λF=>?_
 unfold c_s_DrawWordSwap
 obtain⟨n,hf⟩:=hc
 refine jc (A:=[]) (d_l1Open hf) ?_
 rintro _ R1 _ _ ⟨hR,rb,v',rfl,rfl,hb⟩
 subst hR
 refine jdr (d_l20Words hb (by decide)) ?_
 rintro wv R2 m2 hR2 ⟨w,hw,hi⟩ h3 h4
 have hb2:=hb.le hR2
 refine jdr (d_l20Addr hi.sl (by omega) hb2 ⟨by omega,by omega⟩) ?_
 rintro _ R3 m3 - ⟨hR3,a,rfl,ha⟩ h5 h6
 subst hR3
 refine jro (r_WordAt a hi (by omega)) (jex rfl (jex rfl ?_))
 refine jcutq (λvs R' D'=>R' = R3∧∃(o m4:Int),0≤m4∧m4 < 100000000∧D' = (rb,rdO v' m4) :: ([] ++ F)∧vs = [.pointer (some ⟨rb,0,none⟩),wv,I a,I o]) (λK hK=>?_) ?_
 ·refine jpk hb2 ⟨by omega,by omega⟩ λy _ _=>jeq (jif (λ_=>jpk hb2 ⟨by omega,by omega⟩ λz _ _=>?_) (λ_=>?_))
  ·exact hK _ _ _ ⟨rfl,z,_,by omega,by omega,rfl,rfl⟩
  ·exact hK _ _ _ ⟨rfl,_,_,by omega,by omega,rfl,rfl⟩
 rintro e R4 D4 ⟨hR4,o,m4,q0,q1,hD,he⟩
 subst hR4
 rw[hD];clear hD
 simp only[List.map,lc,ln,lj,and_true] at he
 simp only[he]
 refine jpk hb2 ⟨by omega,by omega⟩ λy _ _=>?_
 exact jret (A:=[]) hR2 ⟨w,wv,a,o,y,rfl,hi,hw,rfl⟩
end Go.Lf
end
section
namespace Go.Lf
open Go Sm
end Go.Lf
end
section
namespace Go.Lf
open Go Sm
theorem w_WordSwap {R:RM} {v:Value} (hc:Cod R v):Fn P F_w_FnWordSwap [v] R [] (λx _ A=>x = .bool true∧A = []):=by
 refine s_w_FnWordSwap λF=>?_
 unfold c_w_FnWordSwap
 have nilI:∀R:RM,Ints R (.slice none 0 0) []:=λR=>.inl ⟨rfl,rfl,rfl⟩
 have hsl:∃a c n,v = .slice a n c:=by
  obtain⟨n,hf⟩:=hc
  obtain⟨a,c,e⟩:=hf.sl
  exact⟨a,c,n,e⟩
 obtain⟨ca,cc,cn,hv⟩:=hsl
 refine jln_ ⟨ca,cc,hv⟩ (jgr (jif (λ_=>jret (A:=[]) (RM.le.refl R) ⟨rfl,rfl⟩) (λ_=>?_)))
 refine jc (A:=[]) (d_DrawWordSwap hc) ?_
 rintro _ R1 _ hR1 ⟨w,wv,a,o,y,rfl,hi,hwl,rfl⟩
 refine jex rfl (jex rfl (jex rfl (jex rfl ?_)))
 refine jc (A:=[]) (t_i_WordSwap a o y hi (by omega)) ?_
 rintro x R2 A2 _ ⟨hR2,q1⟩
 subst hR2
 cases hr:hasW w.length a with
 | false=>
  have er:wordSwap w a o y = (([],0),false):=by unfold wordSwap;rw[hr];rfl
  rw[er] at q1
  obtain⟨rfl,rfl⟩:x = .tuple #[.slice none 0 0,I 0,.bool false]∧A2 = []:=q1
  refine jex rfl (jex rfl (jex rfl ?_))
  refine jc (A:=[]) (t_WordSwap a o y hi (by omega)) ?_
  rintro x' R3 A3 _ ⟨hR3,q2⟩
  subst hR3
  rw[er] at q2
  obtain⟨rfl,rfl⟩:x' = .tuple #[.slice none 0 0,I 0,.bool false]∧A3 = []:=q2
  refine jex rfl (jex rfl (jex rfl ?_))
  refine jor [wv,I a,I o,I y,.slice none 0 0,I 0,.bool false,.slice none 0 0] false (λK' hK'=>?_) (λe c u ho he=>?_)
  ·exact @jxb _ _ _ _ _ _ _ (jff (jne (hK' _ _ _ or2_f rfl)))
  simp only[List.map,lc,ln,lj,and_true] at he
  simp only[he]
  refine jor [wv,I a,I o,I y,.slice none 0 0,I 0,.bool false] false (λK' hK'=>?_) (λe c u ho he=>?_)
  ·rw[ho]
   exact jff (jro (r_flInts (nilI _) (nilI _) (by simp) (by simp)) (hK' _ _ _ or2_f rfl))
  simp only[List.map,lc,ln,lj,and_true] at he
  simp only[he]
  rw[ho]
  exact jiff (jift (jln (jeq (jret (A:=[]) hR1 ⟨rfl,rfl⟩))))
 | true=>
  obtain⟨a0,a1⟩:=hasW_iff hr
  have er:wordSwap w a o y = ((if w.getD a.toNat 0 = o then w.set a.toNat y else w,w.getD a.toNat 0),true):=by unfold wordSwap;rw[if_pos hr]
  have eu:(if w.getD a.toNat 0 = o then w.set a.toNat y else w).length = w.length:=by split<;>simp
  rw[er] at q1
  obtain⟨uv,o1,rfl⟩:∃sv,OwnI (if w.getD a.toNat 0 = o then w.set a.toNat y else w) sv A2∧x = .tuple #[sv,I (w.getD a.toNat 0),.bool true]:=q1
  refine jex rfl (jex rfl (jex rfl ?_))
  refine jc (A:=[]) (t_WordSwap a o y hi (by omega)) ?_
  rintro x' R3 A3 _ ⟨hR3,q2⟩
  subst hR3
  rw[er] at q2
  obtain⟨tv,o2,rfl⟩:∃sv,OwnI (if w.getD a.toNat 0 = o then w.set a.toNat y else w) sv A3∧x' = .tuple #[sv,I (w.getD a.toNat 0),.bool true]:=q2
  refine jex rfl (jex rfl (jex rfl (jfso (.inr o2) λR4 hR4 hi2=>?_)))
  refine jfso (.inr o1) λR5 hR5 hi1=>?_
  have hi2:=hi2.le hR5
  have hi:=(hi.le hR4).le hR5
  have hR15:=(hR1.trans hR4).trans hR5
  refine jor [wv,I a,I o,I y,uv,I (w.getD a.toNat 0),.bool true,tv] false (λK' hK'=>?_) (λe c u ho he=>?_)
  ·exact @jxb _ _ _ _ _ _ _ (jff (jne (hK' _ _ _ or2_f (by simp))))
  simp only[List.map,lc,ln,lj,and_true] at he
  simp only[he]
  refine jor [wv,I a,I o,I y,uv,I (w.getD a.toNat 0),.bool true] false (λK' hK'=>?_) (λe c u ho he=>?_)
  ·rw[ho]
   exact jff (jro (r_flInts hi1 hi2 (by omega) (by omega)) (hK' _ _ _ or2_f (by simp)))
  simp only[List.map,lc,ln,lj,and_true] at he
  simp only[he]
  rw[ho]
  refine jiff (jiff ?_)
  have wat:∀l:List Int,l.length = w.length→wordAt l a = (l.getD a.toNat 0,true):=λl hl=>by unfold wordAt;rw[hl,if_pos hr]
  refine jro (r_i_WordAt a hi1 (by omega)) ?_
  rw[wat _ eu]
  refine jex rfl (jex rfl (jro (r_i_WordAt a hi (by omega)) ?_))
  rw[wat _ rfl]
  refine jex rfl (jex rfl ?_)
  refine jc (A:=[]) (t_i_WordPut a y hi (by omega)) ?_
  rintro x' R6 A6 _ ⟨hR6,q3⟩
  subst hR6
  have ep:wordPut w a y = (w.set a.toNat y,true):=by unfold wordPut;rw[if_pos hr]
  rw[ep] at q3
  obtain⟨pv,o3,rfl⟩:∃sv,OwnI (w.set a.toNat y) sv A6∧x' = .tuple #[sv,.bool true]:=q3
  refine jex rfl (jex rfl (jfso (.inr o3) λR7 hR7 hi3=>?_))
  have hi1:=hi1.le hR7
  have hi:=hi.le hR7
  refine jan [] true (λK' hK'=>?_) (λe c u ho he=>?_)
  ·have fin:=hK' (.bool true) (.bool true) true and2_t rfl
   refine jeq ?_
   rw[beq_self_eq_true]
   refine jtt (jeq ?_)
   by_cases h1:w.getD a.toNat 0 = o
   ·rw[if_pos h1] at hi1 ⊢
    rw[beq_iff_eq.2 h1]
    refine jtt (jeq (jpkt ?_))
    have e1:(w.set a.toNat y).getD a.toNat 0 = y:=by
     rw[List.getD_eq_getElem?_getD,List.getElem?_set_self (by omega)];rfl
    rw[e1,beq_self_eq_true]
    refine jtt (jro (r_flInts hi1 hi3 (by simp;omega) (by simp;omega)) (jpkt ?_))
    rw[beq_self_eq_true]
    exact jtf (jpkt fin)
   ·rw[if_neg h1] at hi1 ⊢
    rw[beq_eq_false_iff_ne.2 h1]
    refine jft (jpkf (jft (jpkf (jff (jne ?_)))))
    rw[bne_iff_ne.2 h1]
    refine jtt (jro (r_flInts hi1 hi (by omega) (by omega)) (jpkt (jpkf ?_)))
    rw[beq_self_eq_true]
    exact fin
  simp only[List.map,lc,ln,lj,and_true] at he
  simp only[he]
  rw[ho]
  exact jret (A:=[]) (hR15.trans hR7) ⟨rfl,rfl⟩
end Go.Lf
end
section
namespace Go.Lf
open Go Sm
structure Blk (w w' : World):Prop where
 same:Same w w'
 block:∀k,k < w.heap.size→w'.heap[k]? = w.heap[k]?
theorem Blk.frame {W w' : World} (h:Blk W w') (may:MemPlace→Prop):W.keptBut w' may:=by
 refine⟨h.same.1,h.same.2,λi hi=>?_⟩
 rw[h.block i hi]
 split<;>simp_all
theorem Blk.at_ {W w' : World} (h:Blk W w') {p:MemPlace} (hp:p.block < W.heap.size):W.sameAt w' p:=by
 cases p with
 | cell b o=>exact World.cell?_of_block (w:=W) (h.block b hp)
 | map b=>exact h.block b hp
def IsRow (w:World) (a:Option Addr) (len cap:Nat) (zs:List Int):Prop:=
 (a = none∧len = 0∧cap = 0∧zs = [])∨
 ∃x,a = some x∧len≤cap∧zs.length = cap∧(∀i,i < zs.length→w.cell? (x.add i) = some (.int .u8 (zs.getD i 0)))∧∀n∈zs,(Lit.int .u8 n).wf = true
theorem cod_of {w:World} {a:Option Addr} {len cap:Nat} {zs:List Int} (h:IsRow w a len cap zs):Cod (λb=>w.heap[b]?) (.slice a len cap):=by
 rcases h with ⟨rfl,rfl,rfl,rfl⟩ | ⟨x,rfl,hl,hz,hcell,hwz⟩
 ·exact⟨0,none,0,rfl,Nat.le_refl _,.inl rfl⟩
 ·by_cases h0:len = 0
  ·exact⟨len,some x,cap,rfl,hl,.inl h0⟩
  ·obtain⟨b,off,spot⟩:=x
   have hc:=hcell 0 (by omega)
   have hspot:spot = none:=by simpa [Addr.add] using World.cell?_spot hc
   subst hspot
   refine⟨len,_,cap,rfl,hl,.inr ⟨b,off,rfl,λi hi=>?_⟩⟩
   have hi' : i < zs.length:=by omega
   have hc:=hcell i hi'
   have hw:=hwz (zs.getD i 0) (by simp[List.getD,hi'])
   rw[show (⟨b,off,none⟩:Addr).add i = ⟨b,off + i,none⟩ by simp[Addr.add],hc_eq] at hc
   unfold Go.Lf.hc at hc
   split at hc
   ·rename_i cs t fz hb
    refine⟨t,cs,fz,_,hb,hc,?_⟩
    have hr:∀n:Int,(Lit.int .u8 n).wf = true→0≤n∧n < 256:=λn hn=>by
     have h2:(decide (0≤n) && decide (n≤255)) = true:=hn
     simp only[Bool.and_eq_true,decide_eq_true_eq] at h2
     omega
    exact hr _ hw
   ·cases hc
theorem law_walk {f:Nat} (hw:∀(R:RM) (v:Value),Cod R v→Fn P f [v] R [] (λx _ A=>x = .bool true∧A = [])) {w:World} {a:Option Addr} {len cap:Nat} {zs:List Int} (h:IsRow w a len cap zs) :
  Calls P f #[.slice a len cap] w λe w'=>e = .returned (.bool true)∧Blk w w':=by
 have h1:=hw _ _ (cod_of h) [] w.heap ⟨λb o hb=>hb,(λb o hm=>by cases hm),List.nodup_nil⟩ w rfl
 refine h1.mono ?_
 rintro e w' ⟨v,rfl,hs,R',A',h2,h3,rfl,h4⟩
 refine⟨rfl,hs,λk hk=>?_⟩
 have:=h3.rd k _ (h2 k _ (Array.getElem?_eq_getElem hk))
 rw[this,Array.getElem?_eq_getElem hk]
end Go.Lf
end
section
namespace Go.Proofs.YteefnapldidgcaaGreat.fnWordSwap
open Go Go.Lf
open Go.ChangeShapes Go.WideShapes Go.ChangeAt Go.RowKit
set_option linter.unusedVariables false
theorem own:ownKnob Tryz.prog.godebug = none:=by kernel_rfl
theorem laidOut:laidOutB Tryz.prog = true:=by kernel_rfl
set_option maxRecDepth 100000 in
theorem lifted (os:Os) (started:os.Started) (H:Type) (enc:TypeId × Value→H) :
  ReturnsInHanded {} Tryz.checked os 4 .any (Rows.fnWordSwapSpec.pre6 enc Tryz.prog Tryz.f4 Rows.fnWordSwapRow.domain false) (Rows.fnWordSwapSpec.post enc Tryz.prog Tryz.f4 false true false false):=by
 refine returnsInHanded_of_change (C:=Tryz.checked) own started (by kernel_rfl) Tryz.func4
  (ChangeSpec.witness6 (enc:=enc) (C:=Tryz.checked) false ⟨#[],#[.slice none 0 0],[]⟩ 8 (by kernel_rfl) (by kernel_rfl) (by kernel_rfl) (by kernel_rfl)) ?_
 intro W base args ds gs before hval0 hW hcnd _
 have hval:∀(j:Nat) t v,Tryz.f4.params[j]? = some t→args[j]? = some v→Value.okWide Tryz.prog W .any base t v:=hval0
 have hW':=hW
 obtain⟨p,q,hA0,hV,rfl,hfz,hnd⟩:=hW
 have hA:DataW.TrodAll enc Tryz.prog W 0 (λ_=>true) true Tryz.f4.params.toList args.toList ds p:=hA0
 rw[Tryz.params4] at hA hval
 obtain⟨v0,vs0,d0,ds0,p0,q0,hargs,rfl,rfl,h0,r0⟩:=trodAll_cons hA
 obtain⟨rfl,rfl,rfl⟩:=trodAll_nil r0
 obtain rfl:args = #[v0]:=by cases args;simp_all
 obtain⟨rfl,rfl⟩:=trodVars_none hV
 obtain⟨a0,len0,cap0,rfl⟩:=okWide_slice Tryz.underlying22 (hval 0 22 v0 rfl rfl)
 have k0:=h0
 have lt0:∀x∈p0,x.block < W.heap.size:=by obtain⟨m,hm⟩:=k0;exact DataW.trod_lt m _ _ _ hm
 obtain⟨z0,w0⟩:∃zs,IsRow W a0 len0 cap0 zs:=by
  obtain⟨fuel,hf⟩:=h0
  rcases open_ints Tryz.underlying22 Tryz.underlying5 (by kernel_rfl) hf with ⟨hcs,_⟩ | ⟨x,l,c,zs,hcs,_,hl,hm,hz,_,hcell,hwz⟩
  ·simp[Value.cells] at hcs
   obtain⟨rfl,rfl,rfl⟩:=hcs
   exact⟨[],.inl ⟨rfl,rfl,rfl,rfl⟩⟩
  ·simp[Value.cells] at hcs
   obtain⟨rfl,rfl,rfl⟩:=hcs
   exact⟨zs,.inr ⟨_,rfl,hl,by simpa using hz,hcell,hwz⟩⟩
 clear hA0 hval0
 refine (law_walk (f:=4) (λR v h=>w_WordSwap h) w0).mono λe W' ⟨he,bel⟩=>?_
 subst he
 have hst:DataW.Trod enc Tryz.prog W' 0 (λb=>decide (b < W.heap.size)) true 22 (Value.slice a0 len0 cap0) d0 p0:=WideElems.Trod_stays laidOut (by kernel_rfl) (of_decide_eq_true (by kernel_rfl)) k0 (λx hx=>bel.at_ (lt0 x hx)) (λx hx=>by simpa using lt0 x hx)
 exact⟨_,rfl,_,_,_,[],_,[],hW',trodAll_mk1 (shut_bool Tryz.underlying4 _),trodAll_mk1 hst,rfl,bel.frame _,λh=>by cases h⟩
theorem over:Rows.fnWordSwapRow.holds Tryz.pinned (OpenSpec.ofChange Rows.fnWordSwapSpec):=
 OpenClaim.holds_of_wide 4 Tryz.f4 rfl rfl rfl rfl rfl rfl rfl ⟨rfl,rfl,rfl,rfl,rfl⟩ rfl rfl rfl rfl rfl (by kernel_rfl) Tryz.func4 (by kernel_rfl)
  (of_decide_eq_true (by kernel_rfl)) (by unfold Func.isWrapper;rw[if_neg (of_decide_eq_false (by kernel_rfl))];exact⟨rfl,rfl⟩)
  (λos started H enc _=>lifted os started H enc)
theorem proved:Rows.FnWordSwapSaid:=over
#print axioms proved
end Go.Proofs.YteefnapldidgcaaGreat.fnWordSwap
end
