/- The given row of this law is proved: whatever code comes in, it returns true and leaves the code as it was. Conditions: none. -/
import Derived.Test.YteefnapldidgcaaGreatRows
import Derived.ProofKit
import Derived.ChangeOld
import Derived.Test.YteefnapldidgcaaGreatQN
set_option linter.unusedVariables false
set_option linter.unusedSimpArgs false
section
namespace Go.Lf
open Go Sm
section draws
variable {R:RM} {rb:Nat} {v:Value} {m:Int}
theorem d_l20Words (hb:Byt R v) (hm:0≤m∧m < 100000000):Dr F_s_l20Words [.pointer (some ⟨rb,0,none⟩)] R rb v m 2100000 (λx R'=>∃w:List Int,w.length≤208∧Ints R' x w):=by
 refine s_s_l20Words λF=>?_
 unfold c_s_l20Words
 refine jc (A:=[(rb,rdO v m)]) (d_l20State hb hm) ?_
 rintro _ R1 _ hR1 ⟨s,wv,mv,thv,ov,pv,tb,tc,tsp,m1,sb,hw,hmv,hth,hov,hpv,htc,h1,h2,rfl,rfl⟩
 have wl:=sb.wl
 have t0:=sb.t0
 have t1:=sb.t1
 have hb1:=hb.le hR1
 obtain⟨wa,wc,e⟩:=hw.sl
 subst e
 refine ja λb2=>js (cs':=eSt s (.slice wa s.words.length wc) (.slice (some ⟨tb,0,none⟩) s.table.length tc) mv thv ov pv) rfl (st_flat (Fz.flat hmv) (by obtain⟨_,_,e⟩:=hth.sl;rw[e];rfl) (Fz.flat hov) (Fz.flat hpv)) (by exact Nat.le_refl 13) rfl ?_
 refine jl (v:=.slice wa s.words.length wc) rfl ?_
 refine jcutq (λvs R' D'=>R1.le R'∧∃(x:Value) (w:List Int) (m2:Int),w.length≤208∧Ints R' x w∧m≤m2∧m2≤m + 2100000∧D' = (rb,rdO v m2) :: F∧vs = [x]) (λK hK=>?_) ?_
 rotate_left
 ·rintro e R2 D2 ⟨hR2,x,w,m2,q1,q2,q3,q4,hD,he⟩
  rw[hD];clear hD
  simp only[List.map,lc,ln,lj,and_true] at he
  simp only[he]
  exact dr_ret m2 (hR1.trans hR2) ⟨w,q1,q2⟩ q3 q4
 refine jpk hb1 ⟨by omega,by omega⟩ λy _ _=>?_
 refine jcutq (λvs R' D'=>R1.le R'∧∃(x:Value) (w:List Int) (m2:Int),w.length≤208∧Ints R' x w∧m≤m2∧m2≤m + 2100000∧D' = (rb,rdO v m2) :: F∧vs = [x]) (λK2 hK2=>?_) ?_
 rotate_left
 ·rintro e R2 D2 ⟨hR2,x,w,m2,q1,q2,q3,q4,hD,he⟩
  simp only[List.map,lc,ln,lj,and_true] at he
  simp only[he]
  exact hK _ _ _ ⟨hR2,x,w,m2,q1,q2,q3,q4,hD,rfl⟩
 refine jeq (jif (λ_=>?_) (λ_=>jeq (jif (λ_=>?_) (λ_=>jeq (jif (λ_=>?_) (λ_=>?_))))))
 ·refine jslh hw (by decide) (by omega) λv' hv'=>jk1 (F:=F) rb ?_
  exact hK2 _ _ _ ⟨RM.le.refl _,v',_,_,by rw[List.length_take];omega,hv',by omega,by omega,rfl,rfl⟩
 ·refine jsll hw (by decide) (by omega) λv' hv'=>jk1 (F:=F) rb ?_
  exact hK2 _ _ _ ⟨RM.le.refl _,v',_,_,by rw[List.length_drop];omega,hv',by omega,by omega,rfl,rfl⟩
 ·refine jpk hb1 ⟨by omega,by omega⟩ λz _ _=>jadd ⟨by omega,by omega⟩ (jmul ⟨by omega,by omega⟩ (jms (by omega) (by omega) (by omega) λbw=>?_))
  have e:(List.replicate (16 * (12 + z)).toNat (cl z3)).flatten = (List.replicate (16 * (12 + z)).toNat (0:Int)).map I ++ []:=by
   rw[show cl z3 = [I 0] from rfl];simp[List.flatten_replicate_singleton]
  rw[e]
  refine jfreeze (b:=bw) λR2 hR2 hbw=>jk1 (F:=F) rb ?_
  have hi:=ints_of (c:=(16 * (12 + z)).toNat) hbw (by rw[List.length_replicate];exact Nat.le_refl _)
  rw[List.length_replicate] at hi
  exact hK2 _ _ _ ⟨hR2,_,_,_,by rw[List.length_replicate];omega,hi,by omega,by omega,rfl,rfl⟩
 ·refine jk1 (F:=F) rb ?_
  exact hK2 _ _ _ ⟨RM.le.refl _,_,s.words,_,by omega,hw,by omega,by omega,rfl,rfl⟩
end draws
end Go.Lf
end
section
namespace Go.Lf
open Go Sm
theorem x_clear0 (a:Addr) (n c:Nat) (w:World):(Builtin.clear_ #[23] 0 #[.slice (some a) (n + 1) c]).run P w = (do storeCells a (Builtin.zeroCells #[I 0] (n + 1)).toList;pure (.tuple #[]):Sem Value).run P w:=by
 kernel_rfl
theorem x_eqn (x y:Operand) (a:Addr) (n c:Nat) (w:World):(do eqGuard .eql 23 x y (.slice (some a) n c) (.slice none 0 0);binOp .eql 23 (.slice (some a) n c) (.slice none 0 0):Sem Value).run P w = .ok (.bool false) w:=by kernel_rfl
theorem x_eqn0 (x y:Operand) (w:World):(do eqGuard .eql 23 x y (.slice none 0 0) (.slice none 0 0);binOp .eql 23 (.slice none 0 0) (.slice none 0 0):Sem Value).run P w = .ok (.bool true) w:=by kernel_rfl
theorem zero_cells (n:Nat):(Builtin.zeroCells #[I 0] n).toList = List.replicate n (I 0):=by
 unfold Builtin.zeroCells
 rw[Array.toList_map]
 apply List.ext_getElem
 ·simp
 ·intro i h1 h2
  simp[Nat.mod_one]
section rules
variable {R:RM} {D:Chs} {k:Value→M}
theorem jX {s:Sem Value} (H:∀h,St h R D→∀w:World,w.heap = h→∃v w',s.run P w = .ok v w'∧Same w w'∧k v w'.heap):J R D (X P s k):=λh hs w hw=>by
 obtain⟨v,w',e,hsm,hk⟩:=H h hs w hw
 rw[e];exact⟨hsm,hk⟩
theorem jclear {b o n c t:Nat} {cs cs' : List Value} {D' : Chs} (hn:0 < n) [a:At D b (C t cs)] (ho:o + n≤cs.length) (hc:lay cs o (List.replicate n (I 0)) = cs') [u:Up D b (C t cs) (C t cs') D'] (H:J R D' (k (.tuple #[]))) :
  J R D (X P (Builtin.clear_ #[23] 0 #[.slice (some ⟨b,o,none⟩) n c]) k):=by
 have hk:∀h,St h R D→∀w:World,w.heap = h→∃v w',(Builtin.clear_ #[23] 0 #[.slice (some ⟨b,o,none⟩) n c]).run P w = .ok v w'∧Same w w'∧k v w'.heap:=by
  intro h hs w hw
  subst hw
  obtain⟨n,rfl⟩:∃m,n = m + 1:=⟨n - 1,by omega⟩
  obtain⟨h',w1,w2,w3⟩:=wr_cells (List.replicate (n + 1) (I 0)) o (hs.at_ b _ a.m).1 (by rw[List.length_replicate];exact ho) (by unfold allFlat;rw[List.all_eq_true];intro x hx;rw[(List.mem_replicate.1 hx).2];rfl)
  obtain⟨w',e1,hsm,e2⟩:=run_stores (P:=P) b (List.replicate (n + 1) (I 0)) o 0 w h' w1
  refine⟨.tuple #[],w',?_,hsm,?_⟩
  ·rw[x_clear0,zero_cells]
   simp only[Sem.run_bind,e1,Result.andThen_ok];rfl
  ·rw[e2]
   exact H h' (hs.turn (b:=b) (o:=C t cs) (o':=C t cs') (by rw[w2,hc]) w3)
 exact @jX _ _ _ _ hk
theorem jnilq {v:Value} {w n:Nat} {cells:List Value} {x y:Operand} (h:Fz R v w n cells) (H0:v = .slice none 0 0→n = 0→cells = []→J R D (k (.bool true))) (H1:J R D (k (.bool false))):J R D (X P (do eqGuard .eql 23 x y v (.slice none 0 0);binOp .eql 23 v (.slice none 0 0)) k):=by
 rcases h with ⟨rfl,h2,h3⟩ | ⟨b,o,cap,t,cs,rfl,_⟩
 ·intro h hs w hw
  rw[x_eqn0]
  subst hw
  exact⟨Same.refl _,H0 rfl h2 h3 _ hs⟩
 ·intro h hs w hw
  rw[x_eqn]
  subst hw
  exact⟨Same.refl _,H1 _ hs⟩
theorem jsl2 {v:Value} {l:List Int} {lo u:Int} (h:Ints R v l) (h0:0≤lo) (h1:lo≤u) (h2:u≤l.length) (H:∀v',Ints R v' ((l.take u.toNat).drop lo.toNat)→J R D (k v')):J R D (SL 1 v (some (I lo)) (some (I u)) k):=by
 rcases h with ⟨rfl,h3,_⟩ | ⟨b,o,cap,t,cs,rfl,h3,h4,h5,h6⟩
 ·intro h' hs
  refine⟨⟨h0,h1,by omega⟩,H _ ?_ h' hs⟩
  have e:l = []:=List.length_eq_zero_iff.1 h3
  have e1:u = 0:=by omega
  have e2:lo = 0:=by omega
  rw[e,e1,e2]
  exact .inl ⟨rfl,by simp,by simp⟩
 ·intro h' hs
  refine⟨⟨h0,h1,by omega⟩,H _ ?_ h' hs⟩
  by_cases c:cap = lo.toNat
  ·have hl:l.length = lo.toNat:=by omega
   have e1:u.toNat = lo.toNat:=by omega
   have e2:((l.take u.toNat).drop lo.toNat).length = 0:=by rw[List.length_drop,List.length_take];omega
   refine .inr ⟨b,o,cap - lo.toNat,t,cs,?_,h3,?_,?_,?_⟩
   ·rw[if_pos c,e2,e1,Nat.sub_self]
   ·rw[e2];omega
   ·rw[List.length_eq_zero_iff.1 e2];simp
   ·rw[e2];omega
  ·refine .inr ⟨b,o + lo.toNat * 1,cap - lo.toNat,t,cs,?_,h3,?_,?_,?_⟩
   ·rw[if_neg c];simp;omega
   ·simp only[List.length_drop,List.length_take];omega
   ·simp only[List.length_drop,List.length_take]
    rw[List.map_drop,List.map_take,← h5,List.take_take,List.drop_take,List.drop_drop]
    congr 1
    ·omega
    ·congr 1;omega
   ·simp only[List.length_drop,List.length_take];omega
theorem jown {v:Value} {l:List Int} (h:Ints R v l) (hl:l.length < 1000000) (H:∀v' b c sp,l.length≤c→sp.length = c - l.length→v' = .slice (some ⟨b,0,none⟩) l.length c→J R ((b,C T_int (l.map I ++ sp)) :: D) (k v')) :
  J R D (BS 3 0 (ZR 0 z3) [] λx=>AP 3 1 8 (cl z3) x v k):=by
 obtain⟨a,cap,rfl,hr⟩:=Fz.reads (D:=D) h
 refine jbs (cs:=[]) rfl rfl λb2=>?_
 refine jap0 (new:=l.map I) ?_ (by decide) (by omega) (λ_=>rfl) (λh0=>?_) (λb' c hc=>jperm (List.Perm.swap _ _ _) (jdrop ?_))
 ·intro h' hs'
  exact hr h' (St.drop (A:=[(b2,C 3 [])]) (by simpa using hs'))
 ·have:l = []:=List.length_eq_zero_iff.1 h0
  subst this
  exact H _ b2 0 [] (by simp) (by simp) rfl
 ·exact H _ b' c _ hc (by rw[flat_len (w:=1) (by intro x hx;rw[(List.mem_replicate.1 hx).2];rfl)];simp) rfl
end rules
theorem t_Clone {R:RM} {v:Value} {l:List Int} (h:Ints R v l) (hl:l.length < 1000000):Fn P F_slices_Clone_37 [v] R [] (λx R' A=>R' = R∧SO l x A∧(0 < l.length→OwnI l x A)):=by
 refine s_slices_Clone_37 λF=>?_
 unfold c_slices_Clone_37
 refine jnilq h (λ_ h0 _=>jift ?_) (jiff ?_)
 ·have:l = []:=List.length_eq_zero_iff.1 h0
  subst this
  exact jret (A:=[]) (RM.le.refl R) ⟨rfl,.inl ⟨rfl,rfl,rfl⟩,by simp⟩
 ·refine jown h hl λv' b c sp hc hsp hv=>?_
  exact jret (A:=[(b,C T_int (l.map I ++ sp))]) (RM.le.refl R) ⟨rfl,.inr ⟨b,c,sp,hc,hsp,hv,rfl⟩,λ_=>⟨b,c,sp,hc,hsp,hv,rfl⟩⟩
theorem p_i_ShapeOk (s:Shp):Pu F_i_ShapeOk [eSh s] (.bool (shapeOk s)):=λR=>s_i_ShapeOk λF=>q_ShapeOk s R F
theorem p_i_ShapeWord (s:Shp):Pu F_i_ShapeWord [eSh s] (I (shapeWord s)):=by
 intro R
 refine s_i_ShapeWord λF=>?_
 unfold c_i_ShapeWord
 refine ja λb=>jla (l:=[I s.refs,I s.nums]) (by simp) rfl (jp (p_i_ShapeOk s) ?_)
 refine jif (λh=>?_) (λh=>?_)
 ·refine jret (A:=[]) (RM.le.refl _) ?_
  simp only[Bool.not_eq_true'] at h
  simp[shapeWord,h]
 ·simp only[Bool.not_eq_false'] at h
  obtain⟨h0,h1,h2,h3⟩:=shapeOk_iff.1 h
  refine jl rfl (jmul ⟨by omega,by omega⟩ (jl rfl (jadd ⟨by omega,by omega⟩ ?_)))
  refine jret (A:=[]) (RM.le.refl _) ?_
  simp[shapeWord,h]
theorem p_i_ShapeSize (s:Shp):Pu F_i_ShapeSize [eSh s] (I (shapeSize s)):=by
 intro R
 refine s_i_ShapeSize λF=>?_
 unfold c_i_ShapeSize
 refine ja λb=>jla (l:=[I s.refs,I s.nums]) (by simp) rfl (jp (p_i_ShapeOk s) ?_)
 refine jif (λh=>?_) (λh=>?_)
 ·refine jret (A:=[]) (RM.le.refl _) ?_
  simp only[Bool.not_eq_true'] at h
  simp[shapeSize,h]
 ·simp only[Bool.not_eq_false'] at h
  obtain⟨h0,h1,h2,h3⟩:=shapeOk_iff.1 h
  refine jl rfl (jadd ⟨by omega,by omega⟩ (jl rfl (jadd ⟨by omega,by omega⟩ ?_)))
  refine jret (A:=[]) (RM.le.refl _) ?_
  simp[shapeSize,h]
theorem p_i_ShapeOf {w:Int} (hw:inR w):Pu F_i_ShapeOf [I w] (.tuple #[eSh (shapeOf w).1,.bool (shapeOf w).2]):=by
 intro R
 refine s_i_ShapeOf λF=>?_
 unfold c_i_ShapeOf
 refine ja λb=>jlt (jif (λh=>?_) (λh=>?_))
 ·have h:=of_decide_eq_true h
  refine jbd (cs:=[I 0,I 0]) rfl rfl (js (cs':=[I 0,I 0]) rfl rfl (by simp) rfl (jla (l:=[I 0,I 0]) (by simp) rfl ?_))
  refine jret (A:=[]) (RM.le.refl _) ?_
  unfold shapeOf
  rw[if_neg (by omega)];rfl
 ·have h:=of_decide_eq_false h
  have e1:w.tdiv 16 = w / 16:=Int.tdiv_eq_ediv_of_nonneg (by omega)
  have e2:w.tmod 16 = w % 16:=Int.tmod_eq_emod_of_nonneg (by omega)
  refine jquo (by decide) (by rw[e1];constructor<;>omega) (jrem (by decide) ?_)
  rw[e1,e2]
  refine jbd (cs:=[I (w / 16),I (w % 16)]) rfl rfl (ja λb2=>js (cs':=[I (w / 16),I (w % 16)]) rfl rfl (by simp) rfl (jla (l:=[I (w / 16),I (w % 16)]) (by simp) rfl (jp (p_i_ShapeOk ⟨w / 16,w % 16⟩) ?_)))
  have ek:shapeOk ⟨w / 16,w % 16⟩ = decide (0≤w∧w / 16≤4∧w % 16≤4):=by
   rw[Bool.eq_iff_iff,shapeOk_iff,decide_eq_true_eq]
   show 0≤w / 16∧w / 16≤4∧0≤w % 16∧w % 16≤4↔_
   omega
  rw[ek]
  refine jif (λhk=>?_) (λhk=>?_)
  ·have hk:¬ (0≤w∧w / 16≤4∧w % 16≤4):=by
    rw[Bool.not_eq_true',decide_eq_false_iff_not] at hk
    exact hk
   refine jbd (cs:=[I 0,I 0]) rfl rfl (js (cs':=[I 0,I 0]) rfl rfl (by simp) rfl (jla (l:=[I 0,I 0]) (by simp) rfl ?_))
   refine jret (A:=[]) (RM.le.refl _) ?_
   unfold shapeOf
   rw[if_neg hk];rfl
  ·have hk:0≤w∧w / 16≤4∧w % 16≤4:=by simpa using hk
   refine jla (l:=[I (w / 16),I (w % 16)]) (by simp) rfl (js (cs':=[I (w / 16),I (w % 16)]) rfl rfl (by simp) rfl (jla (l:=[I (w / 16),I (w % 16)]) (by simp) rfl ?_))
   refine jret (A:=[]) (RM.le.refl _) ?_
   unfold shapeOf
   rw[if_pos hk]
theorem p_i_WordsOk (a:Option Addr) (n c:Nat) (hn:n < 1000000000000):Pu F_i_WordsOk [.slice a n c] (.bool (wordsOk n)):=by
 intro R
 refine s_i_WordsOk λF=>?_
 unfold c_i_WordsOk
 have er:(n:Int).tmod 16 = (n % 16:Nat):=by rw[Int.tmod_eq_emod_of_nonneg (by omega)];omega
 refine jan [.slice a n c] (((n:Int).tmod 16 == 0) && (decide ((n:Int)≥32))) (λK' hK'=>?_) (λe c u ho he=>?_)
 ·refine jln (jrem (by decide) (jeq (jgtt (λh1=>?_) (λh1=>?_))))
  ·refine jln (jge (hK' _ _ _ (h1▸and2_t) (by rw[h1,Bool.true_and])))
  ·exact hK' _ _ _ (h1▸and2_f) (by rw[h1,Bool.false_and])
 simp only[List.map,lc,ln,lj,and_true] at he
 simp only[he]
 refine jan [] ((((n:Int).tmod 16 == 0) && decide ((n:Int)≥32)) && (decide ((n:Int)≤192))) (λK' hK'=>?_) (λe c u ho he=>?_)
 ·rw[ho]
  refine jgtt (λh1=>?_) (λh1=>?_)
  ·refine jln (jle (hK' _ _ _ (h1▸and2_t) (by rw[h1,Bool.true_and])))
  ·exact hK' _ _ _ (h1▸and2_f) (by rw[h1,Bool.false_and])
 simp only[List.map,lc,ln,lj,and_true] at he
 simp only[he]
 rw[ho]
 refine jret (A:=[]) (RM.le.refl R) ?_
 congr 1
 unfold wordsOk
 rw[er,Bool.eq_iff_iff]
 simp only[Bool.and_eq_true,decide_eq_true_eq,beq_iff_eq]
 constructor<;>rintro⟨⟨h1,h2⟩,h3⟩<;>exact⟨⟨by omega,by omega⟩,by omega⟩
theorem p_i_fits (x:Option Addr) (n cc:Nat) (a size:Int) (hn:n < 1000000000000) (h0:1≤size) (h1:size≤16):Pu F_i_fits [.slice x n cc,I a,I size] (.bool (fits n a size)):=by
 intro R
 refine s_i_fits λF=>?_
 unfold c_i_fits
 refine jan [.slice x n cc,I a,I size] (wordsOk n && decide (a≥16)) (λK' hK'=>?_) (λe c u ho he=>?_)
 ·refine jp (p_i_WordsOk x n cc hn) (jgtt (λh1=>jge (hK' _ _ _ (h1▸and2_t) (by rw[h1,Bool.true_and]))) (λh1=>hK' _ _ _ (h1▸and2_f) (by rw[h1,Bool.false_and])))
 simp only[List.map,lc,ln,lj,and_true] at he
 simp only[he]
 refine jan [I a,I size] ((wordsOk n && decide (a≥16)) && decide (a < n)) (λK' hK'=>?_) (λe c u ho he=>?_)
 ·rw[ho]
  exact jgtt (λh1=>jln (jlt (hK' _ _ _ (h1▸and2_t) (by rw[h1,Bool.true_and])))) (λh1=>hK' _ _ _ (h1▸and2_f) (by rw[h1,Bool.false_and]))
 simp only[List.map,lc,ln,lj,and_true] at he
 simp only[he]
 refine jan [] (((wordsOk n && decide (a≥16)) && decide (a < n)) && decide (a.tmod 16 + size≤16)) (λK' hK'=>?_) (λe c u ho he=>?_)
 ·rw[ho]
  refine jgtt (λh1=>jrem (by decide) ?_) (λh1=>hK' _ _ _ (h1▸and2_f) (by rw[h1,Bool.false_and]))
  have h2:=h1
  simp only[Bool.and_eq_true,decide_eq_true_eq] at h2
  have e2:a.tmod 16 = a % 16:=Int.tmod_eq_emod_of_nonneg (by omega)
  exact jadd (by rw[e2];constructor<;>omega) (jle (hK' _ _ _ (h1▸and2_t) (by rw[h1,Bool.true_and])))
 simp only[List.map,lc,ln,lj,and_true] at he
 simp only[he]
 rw[ho]
 refine jret (A:=[]) (RM.le.refl R) ?_
 congr 1
 unfold fits
 rw[Bool.eq_iff_iff]
 simp only[Bool.and_eq_true,decide_eq_true_eq,beq_iff_eq]
 have hr:16≤a→(regionOf a = regionOf (a + size - 1)↔a.tmod 16 + size≤16):=λha=>by
  rw[Int.tmod_eq_emod_of_nonneg (by omega)]
  unfold regionOf
  rw[if_neg (by omega),if_neg (by omega)]
  omega
 constructor
 ·rintro⟨⟨⟨q0,q1⟩,q2⟩,q3⟩
  exact⟨⟨⟨⟨⟨q0,by omega⟩,h1⟩,q1⟩,q2⟩,(hr q1).2 q3⟩
 ·rintro⟨⟨⟨⟨⟨q0,_⟩,_⟩,q1⟩,q2⟩,q3⟩
  exact⟨⟨⟨q0,q1⟩,q2⟩,(hr q1).1 q3⟩
end Go.Lf
end
section
namespace Go.Lf
open Go Sm
theorem jslx {R:RM} {D:Chs} {b o len cap n:Nat} {lo u:Int} {k:Value→M} (h0:0≤lo) (h1:lo≤u) (h2:u≤cap) (h3:lo < cap) (H:J R D (k (.slice (some ⟨b,o + lo.toNat * n,none⟩) (u.toNat - lo.toNat) (cap - lo.toNat)))) :
  J R D (SL n (.slice (some ⟨b,o,none⟩) len cap) (some (I lo)) (some (I u)) k):=λh hs=>by
 refine⟨⟨h0,h1,h2⟩,?_⟩
 rw[if_neg (by omega)]
 exact H h hs
theorem t_i_ThingMake {R:RM} {wv:Value} {w:List Int} (a:Int) (s:Shp) (h:Ints R wv w) (hl:w.length < 1000000) :
  Fn P F_i_ThingMake [wv,I a,eSh s] R [] (λv R' A=>R' = R∧QMk (thingMake w a s) v A):=by
 refine s_i_ThingMake λF=>?_
 unfold c_i_ThingMake
 obtain⟨wa,wc,hwv⟩:=h.sl
 refine ja λb1=>?_
 rw[show cl (eSh s) = [I s.refs,I s.nums] from rfl]
 refine jor [wv,I a,.pointer (some ⟨b1,0,none⟩)] (!fits w.length a (shapeSize s)) (λK' hK'=>?_) (λe c u ho he=>?_)
 ·refine jla (l:=[I s.refs,I s.nums]) (by simp) rfl (jp (p_i_ShapeOk s) (jgtf (λh1=>?_) (λh1=>?_)))
  ·have h1:shapeOk s = true:=by simpa using h1
   obtain⟨q0,q1,q2,q3⟩:=shapeOk_iff.1 h1
   have hsz:shapeSize s = 2 + s.refs + s.nums:=by unfold shapeSize;rw[if_pos h1]
   refine jla (l:=[I s.refs,I s.nums]) (by simp) rfl (jp (p_i_ShapeSize s) ?_)
   rw[hwv]
   refine jp (p_i_fits wa w.length wc a (shapeSize s) (by omega) (by omega) (by omega)) ?_
   rw[← hwv,h1]
   exact hK' _ _ _ or2_f rfl
  ·have h1:shapeOk s = false:=by simpa using h1
   rw[h1]
   refine hK' _ _ true or2_t ?_
   have:shapeSize s = 0:=by unfold shapeSize;rw[h1];rfl
   unfold fits
   rw[this];simp
 simp only[List.map,lc,ln,lj,and_true] at he
 simp only[he]
 rw[ho]
 refine jif (λh0=>?_) (λh0=>?_)
 ·have h0:fits w.length a (shapeSize s) = false:=by simpa using h0
  refine jret (A:=[]) (RM.le.refl R) ⟨rfl,?_⟩
  have:thingMake w a s = ([],false):=by unfold thingMake;rw[h0];rfl
  rw[this]
  exact⟨rfl,rfl⟩
 have h0:fits w.length a (shapeSize s) = true:=by simpa using h0
 obtain⟨a0,a1,a2,a3⟩:=fits_in h0
 have hso:shapeOk s = true:=by
  unfold shapeSize at a2
  split at a2
  ·assumption
  ·omega
 obtain⟨q0,q1,q2,q3⟩:=shapeOk_iff.1 hso
 have hsz:shapeSize s = 2 + s.refs + s.nums:=by unfold shapeSize;rw[if_pos hso]
 obtain⟨n,rfl⟩:∃n:Nat,a = n:=⟨a.toNat,by omega⟩
 obtain⟨z,hz⟩:∃z:Nat,shapeSize s = z:=⟨(shapeSize s).toNat,by omega⟩
 have em:=thingMake_eq h0 hso hz
 refine jc (A:=[]) (t_Clone h hl) ?_
 rintro _ R1 _ _ ⟨hR1,-,hown⟩
 subst hR1
 obtain⟨b,c,sp,hc,hsp,rfl,rfl⟩:=hown (by omega)
 refine jla (l:=[I s.refs,I s.nums]) (by simp) rfl (jp (p_i_ShapeSize s) ?_)
 rw[hz] at a1 a2 a3 ⊢
 refine jadd ⟨by omega,by omega⟩ (jslx (by omega) (by omega) (by omega) (by omega) ?_)
 obtain⟨cur,hcur⟩:∃cur:List Int,cur = w.take n ++ List.replicate z 0 ++ w.drop (n + z):=⟨_,rfl⟩
 have hcl:cur.length = w.length:=by rw[hcur];simp;omega
 have elay:lay (w.map I ++ sp) (0 + (n:Int).toNat * 1) (List.replicate (((n:Int) + z).toNat - (n:Int).toNat) (I 0)) = cur.map I ++ sp:=by
  rw[show ((n:Int) + z).toNat - (n:Int).toNat = z from by omega,show 0 + (n:Int).toNat * 1 = n from by omega,hcur]
  unfold lay
  rw[List.take_append_of_le_length (by simp;omega),List.drop_append_of_le_length (by simp;omega)]
  simp
 refine @jclear _ _ _ _ _ _ _ _ _ _ _ (by omega) _ (by simp;omega) elay _ ?_
 refine jadd ⟨by omega,by omega⟩ (jla (l:=[I s.refs,I s.nums]) (by simp) rfl (jp (p_i_ShapeWord s) ?_))
 refine jian (by omega) (jsi (l:=cur) (sp:=sp) (by omega) ?_)
 rw[show (n:Int) + 1 = ((n + 1:Nat):Int) by omega]
 refine jian (by omega) (jsi (l:=cur.set n n) (sp:=sp) (by rw[List.length_set];omega) ?_)
 refine jret (A:=[(b,C T_int (((cur.set n n).set (n + 1) (shapeWord s)).map I ++ sp))]) (RM.le.refl _) ⟨rfl,?_⟩
 rw[em,hcur]
 refine⟨_,⟨b,c,sp,?_,?_,?_,rfl⟩,rfl⟩
 all_goals simp only[List.length_set,← hcur,hcl]
 ·exact hc
 ·exact hsp
theorem t_i_ThingAt {R:RM} {wv:Value} {w:List Int} (a:Int) (h:Ints R wv w) (hl:w.length < 1000000) (hin:inR (w.getD (a.toNat + 1) 0)) :
  Fn P F_i_ThingAt [wv,I a] R [] (λv R' A=>A = []∧∃x,ThV R' x (thingAt w a).1∧v = .tuple #[x,.bool (thingAt w a).2]):=by
 refine s_i_ThingAt λF=>?_
 unfold c_i_ThingAt
 obtain⟨wa,wc,hwv⟩:=h.sl
 have th0V:ThV R (.agg (eTh thing0 (.slice none 0 0) (.slice none 0 0)).toArray) thing0:=⟨_,_,rfl,.inl ⟨rfl,rfl,rfl⟩,.inl ⟨rfl,rfl,rfl⟩⟩
 refine ja λb1=>?_
 have h':=h
 rw[hwv]
 refine jp (p_i_fits wa w.length wc a 2 (by omega) (by decide) (by decide)) ?_
 rw[← hwv]
 refine jif (λh0=>?_) (λh0=>?_)
 ·have h0:fits w.length a 2 = false:=by simpa using h0
  have e:thingAt w a = (thing0,false):=by unfold thingAt;rw[h0];rfl
  refine jbd (cs:=eTh thing0 (.slice none 0 0) (.slice none 0 0)) rfl rfl (js (cs':=eTh thing0 (.slice none 0 0) (.slice none 0 0)) rfl rfl (by exact Nat.le_refl 6) rfl (jla (l:=eTh thing0 (.slice none 0 0) (.slice none 0 0)) (by exact Nat.le_refl 6) rfl ?_))
  rw[e]
  exact jret (A:=[]) (RM.le.refl _) ⟨rfl,_,th0V,rfl⟩
 have h0:fits w.length a 2 = true:=by simpa using h0
 obtain⟨a0,a1,-,-⟩:=fits_in h0
 obtain⟨n,rfl⟩:∃n:Nat,a = n:=⟨a.toNat,by omega⟩
 refine jadd ⟨by omega,by omega⟩ (jfz1 h (by omega) (by omega) ?_)
 have e1:w[((n:Int) + 1).toNat]'(by omega) = w.getD (n + 1) 0:=by
  have:((n:Int) + 1).toNat = n + 1:=by omega
  simp only[this]
  rw[List.getD_eq_getElem?_getD,List.getElem?_eq_getElem (by omega)];rfl
 rw[e1]
 simp only[Int.toNat_natCast] at hin
 generalize hwd:w.getD (n + 1) 0 = wd at hin ⊢
 refine jp (p_i_ShapeOf hin) (jex rfl (jex rfl (ja λb12=>js (cs':=[I (shapeOf wd).1.refs,I (shapeOf wd).1.nums]) rfl rfl (by exact Nat.le_refl 2) rfl ?_)))
 refine jor [wv,I n,.pointer (some ⟨b1,0,none⟩),.pointer (some ⟨b12,0,none⟩)] (!((shapeOf wd).2 && fits w.length n (shapeSize (shapeOf wd).1))) (λK' hK'=>?_) (λe c u ho he=>?_)
 ·refine jgtf (λh1=>?_) (λh1=>?_)
  ·have h1:(shapeOf wd).2 = true:=by simpa using h1
   obtain⟨q0,q1,q2,q3,q4⟩:=shape_rng h1
   refine jla (l:=[I (shapeOf wd).1.refs,I (shapeOf wd).1.nums]) (by simp) rfl (jp (p_i_ShapeSize _) ?_)
   rw[hwv]
   refine jp (p_i_fits wa w.length wc n _ (by omega) (by omega) (by omega)) ?_
   rw[← hwv,h1]
   exact hK' _ _ _ or2_f (by rw[h1,Bool.true_and])
  ·have h1:(shapeOf wd).2 = false:=by simpa using h1
   rw[h1]
   exact hK' _ _ true or2_t (by rw[h1];rfl)
 simp only[List.map,lc,ln,lj,and_true] at he
 simp only[he]
 rw[ho]
 refine jif (λh1=>?_) (λh1=>?_)
 ·have h1:((shapeOf wd).2 && fits w.length n (shapeSize (shapeOf wd).1)) = false:=by rw[Bool.not_eq_true'] at h1;exact h1
  have e:thingAt w n = (thing0,false):=by
   unfold thingAt
   rw[if_pos h0,Int.toNat_natCast,hwd]
   simp only[h1];rfl
  refine jbd (cs:=eTh thing0 (.slice none 0 0) (.slice none 0 0)) rfl rfl (js (cs':=eTh thing0 (.slice none 0 0) (.slice none 0 0)) rfl rfl (by exact Nat.le_refl 6) rfl (jla (l:=eTh thing0 (.slice none 0 0) (.slice none 0 0)) (by exact Nat.le_refl 6) rfl ?_))
  rw[e]
  exact jret (A:=[]) (RM.le.refl _) ⟨rfl,_,th0V,rfl⟩
 have h1:((shapeOf wd).2 && fits w.length n (shapeSize (shapeOf wd).1)) = true:=by simpa using h1
 have et:thingAt w n = (⟨n,w.getD n 0,(shapeOf wd).1,seg w (n + 2) (shapeOf wd).1.refs,seg w (n + 2 + (shapeOf wd).1.refs) (shapeOf wd).1.nums⟩,true):=by
  unfold thingAt
  rw[if_pos h0,Int.toNat_natCast,hwd]
  simp only[h1];rfl
 simp only[Bool.and_eq_true] at h1
 obtain⟨q0,q1,q2,q3,q4⟩:=shape_rng h1.1
 obtain⟨-,q5,-,-⟩:=fits_in h1.2
 rw[et]
 generalize (shapeOf wd).1 = sh at q0 q1 q2 q3 q4 q5 ⊢
 rw[q4] at q5
 have en:w[(n:Int).toNat]'(by omega) = w.getD n 0:=by
  simp only[Int.toNat_natCast]
  rw[List.getD_eq_getElem?_getD,List.getElem?_eq_getElem (by omega)];rfl
 refine jadd ⟨by omega,by omega⟩ (jl (v:=I sh.refs) rfl (jadd ⟨by omega,by omega⟩ (jfz2 h (by omega) (by omega) λq hq=>?_)))
 rw[en] at hq
 refine hq _ _ ?_
 refine jla (l:=[I sh.refs,I sh.nums]) (by simp) rfl (jsl2 h (by omega) (by omega) (by omega) λv1 hv1=>?_)
 refine jl (v:=I sh.nums) rfl (jadd ⟨by omega,by omega⟩ (jsl2 h (by omega) (by omega) (by omega) λv2 hv2=>?_))
 have l1:((w.take ((n:Int) + 2 + sh.refs).toNat).drop ((n:Int) + 2).toNat) = seg w (n + 2) sh.refs:=by
  unfold seg
  rw[List.drop_take];congr 1;omega
 have l2:((w.take ((n:Int) + 2 + sh.refs + sh.nums).toNat).drop ((n:Int) + 2 + sh.refs).toNat) = seg w (n + 2 + sh.refs) sh.nums:=by
  unfold seg
  rw[List.drop_take];congr 1;omega
 rw[l1] at hv1
 rw[l2] at hv2
 have ll1:(seg w (n + 2) sh.refs).length < 1000000:=by unfold seg;rw[List.length_take,List.length_drop];omega
 have ll2:(seg w (n + 2 + sh.refs) sh.nums).length < 1000000:=by unfold seg;rw[List.length_take,List.length_drop];omega
 refine jc (A:=[]) (t_Clone hv1 ll1) ?_
 rintro x1 R1 A1 _ ⟨hR1,so1,-⟩
 subst hR1
 refine jand (hq _ _ jev) (jand (jla (l:=[I sh.refs,I sh.nums]) (by simp) rfl jev) (jand (jl (v:=I sh.nums) rfl jev) ?_))
 refine jc (A:=[]) (t_Clone hv2 ll2) ?_
 rintro x2 R2 A2 _ ⟨hR2,so2,-⟩
 subst hR2
 obtain⟨xa1,xc1,e1⟩:=so1.sln
 obtain⟨xa2,xc2,e2⟩:=so2.sln
 subst e1 e2
 refine jbd (cs:=[I n,I (w.getD n 0),I sh.refs,I sh.nums,.slice xa1 (seg w (n + 2) sh.refs).length xc1,.slice xa2 (seg w (n + 2 + sh.refs) sh.nums).length xc2]) rfl rfl ?_
 refine jand (hq _ _ jev) (jand (jla (l:=[I sh.refs,I sh.nums]) (by simp) rfl jev) ?_)
 refine js (cs':=[I n,I (w.getD n 0),I sh.refs,I sh.nums,.slice xa1 (seg w (n + 2) sh.refs).length xc1,.slice xa2 (seg w (n + 2 + sh.refs) sh.nums).length xc2]) rfl rfl (by exact Nat.le_refl 6) rfl ?_
 refine jla (l:=[I n,I (w.getD n 0),I sh.refs,I sh.nums,.slice xa1 (seg w (n + 2) sh.refs).length xc1,.slice xa2 (seg w (n + 2 + sh.refs) sh.nums).length xc2]) (by exact Nat.le_refl 6) rfl ?_
 refine jfso so2 λR3 hR3 hi2=>jfso so1 λR4 hR4 hi1=>?_
 exact jret (A:=[]) (hR3.trans hR4) ⟨rfl,_,⟨_,_,rfl,hi1,hi2.le hR4⟩,rfl⟩
end Go.Lf
end
section
namespace Go.Lf
open Go Sm
theorem r_flInts {R:RM} {D:Chs} {va vb:Value} {la lb:List Int} (ha:Ints R va la) (hb:Ints R vb lb) (h1:la.length < 1000000) (h2:lb.length < 1000000):Ro F_w_flInts [va,vb] (.bool (la == lb)) R D:=by
 refine s_w_flInts λF=>?_
 unfold c_w_flInts
 refine jln_ ha.sl (jln_ hb.sl (jne (jif (λh=>?_) (λh=>?_))))
 ·have h:(la.length:Int)≠lb.length:=by simpa using h
  refine ro_ret ?_
  congr 1
  rw[eq_comm,beq_eq_false_iff_ne]
  intro e;rw[e] at h;exact h rfl
 have hl:la.length = lb.length:=by
  have:((la.length:Int) != lb.length) = false:=h
  rw[bne_eq_false_iff_eq] at this;omega
 refine jlp (λm vs R' D'=>R' = R∧D' = D ++ F∧∃i:Nat,i≤la.length∧vs = [va,vb,I i]∧la.take i = lb.take i∧m = la.length - i) (n:=la.length) ⟨rfl,rfl,0,by omega,rfl,by simp,by omega⟩ ?_
 rintro m e R1 D1 K ⟨hR,hD,i,hi,he,heq,hm⟩ hK
 subst hR
 rw[hD];clear hD
 simp only[List.map,lc,ln,lj,and_true] at he
 simp only[he]
 refine jln_ ha.sl (jlt (jif (λhc=>?_) (λhc=>?_)))
 rotate_left
 ·have hc:=of_decide_eq_false hc
  refine ro_ret ?_
  rw[List.take_of_length_le (by omega),List.take_of_length_le (by omega)] at heq
  rw[heq];simp
 have hc:i < la.length:=by have:=of_decide_eq_true hc;omega
 refine jfz1 ha (by omega) (by omega) (jfz1 hb (by omega) (by omega) (jne ?_))
 simp only[Int.toNat_natCast]
 refine jif (λhd=>?_) (λhd=>?_)
 ·have hd:la[i]≠lb[i]:=by simpa using hd
  refine ro_ret ?_
  congr 1
  rw[eq_comm,beq_eq_false_iff_ne]
  intro e;subst e;exact hd rfl
 ·have hd:la[i] = lb[i]:=by simpa using hd
  refine jadd ⟨by omega,by omega⟩ ?_
  refine hK (la.length - (i + 1)) _ _ _ (by omega) ⟨rfl,rfl,i + 1,by omega,rfl,?_,rfl⟩
  rw[List.take_succ_eq_append_getElem hc,List.take_succ_eq_append_getElem (by omega:i < lb.length),heq,hd]
theorem x_fldsh:(P.fieldsOf 25).toList.map (λf=>(f.name != "_",f.type,f.offset)) = [(true,T_int,0),(true,T_int,1)]:=by kernel_rfl
def Cod (R:RM) (v:Value):Prop:=∃n,Bsl R v n
theorem d_DrawThingMake {R:RM} {v:Value} (hc:Cod R v):Fn P F_s_DrawThingMake [v] R [] (λx R' A=>∃(w:List Int) (wv:Value) (a:Int) (sh:Shp),x = .tuple #[wv,I a,eSh sh]∧Ints R' wv w∧w.length≤208∧inR a∧A = []):=by
 refine s_s_DrawThingMake λF=>?_
 unfold c_s_DrawThingMake
 obtain⟨n,hf⟩:=hc
 refine ja λb1=>jc (A:=[]) (d_l1Open hf) ?_
 rintro _ R1 _ _ ⟨hR,rb,v',rfl,rfl,hb⟩
 subst hR
 refine jdr (d_l20Words hb (by decide)) ?_
 rintro wv R2 m2 hR2 ⟨w,hw,hi⟩ h3 h4
 refine jdr (d_l20Addr hi.sl (by omega) (hb.le hR2) ⟨by omega,by omega⟩) ?_
 rintro _ R3 m3 - ⟨hR3,a,rfl,ha⟩ h5 h6
 subst hR3
 refine jdr (d_l20Shape (hb.le hR2) ⟨by omega,by omega⟩) ?_
 rintro _ R4 m4 - ⟨hR4,sh,rfl⟩ h7 h8
 subst hR4
 refine js (cs':=[I sh.refs,I sh.nums]) rfl rfl (by exact Nat.le_refl 2) rfl (jla (l:=[I sh.refs,I sh.nums]) (by exact Nat.le_refl 2) rfl ?_)
 exact jret (A:=[]) hR2 ⟨w,wv,a,sh,rfl,hi,hw,ha,rfl⟩
end Go.Lf
end
section
namespace Go.Lf
open Go Sm
theorem jxsh {a b:Shp} {x y:Operand} {R:RM} {D:Chs} {k:Value→M} (H:J R D (k (.bool (!(a == b))))):J R D (X P (do eqGuard .neq 25 x y (.agg #[I a.refs,I a.nums]) (.agg #[I b.refs,I b.nums]);binOp .neq 25 (.agg #[I a.refs,I a.nums]) (.agg #[I b.refs,I b.nums])) k):=by
 intro h hs w hw
 have hfs:=x_fldsh
 rw[Sem.run_bind,run_eqGuard_agg _ _ _ _ _ _ _ (by kernel_rfl)]
 simp only[Result.andThen_ok]
 rw[run_neq_struct,run_equalIn_struct w 9999 25 _ _ (by kernel_rfl) (by kernel_rfl)]
 rw[x_fields 9998 w [I a.refs,I a.nums] [I b.refs,I b.nums] _ [0,1] [a.refs,a.nums] [b.refs,b.nums] hfs rfl rfl]
 simp only[Result.andThen_ok]
 have:([a.refs,a.nums] == [b.refs,b.nums]) = (a == b):=by
  rw[Bool.eq_iff_iff]
  obtain⟨a1,a2⟩:=a
  obtain⟨b1,b2⟩:=b
  simp
 rw[this]
 subst hw
 exact⟨Same.refl _,H _ hs⟩
theorem shape_back {s:Shp} (h:shapeOk s = true):shapeOf (shapeWord s) = (s,true):=by
 obtain⟨h0,h1,h2,h3⟩:=shapeOk_iff.1 h
 have e:shapeWord s = 16 * s.refs + s.nums:=by unfold shapeWord;rw[if_pos h]
 rw[e]
 unfold shapeOf
 rw[if_pos (by omega),show (16 * s.refs + s.nums) / 16 = s.refs from by omega,show (16 * s.refs + s.nums) % 16 = s.nums from by omega]
theorem thing_back {w:List Int} {a:Int} {s:Shp} (h:(thingMake w a s).2 = true):0≤a∧a + shapeSize s≤w.length∧shapeOk s = true∧(thingMake w a s).1.length = w.length∧inR ((thingMake w a s).1.getD (a.toNat + 1) 0)∧
  thingAt (thingMake w a s).1 a = (⟨a,a,s,seg (thingMake w a s).1 (a + 2) s.refs,seg (thingMake w a s).1 (a + 2 + s.refs) s.nums⟩,true)∧((seg (thingMake w a s).1 (a + 2) s.refs).length:Int) = s.refs∧((seg (thingMake w a s).1 (a + 2 + s.refs) s.nums).length:Int) = s.nums∧
  ∀i:Nat,(i < a∨a + shapeSize s≤i)→(thingMake w a s).1[i]? = w[i]?:=by
 have h0:fits w.length a (shapeSize s) = true:=by
  unfold thingMake at h
  split at h
  ·assumption
  ·cases h
 obtain⟨a0,a1,a2,a3⟩:=fits_in h0
 have hso:shapeOk s = true:=by
  unfold shapeSize at a2
  split at a2
  ·assumption
  ·omega
 obtain⟨q0,q1,q2,q3⟩:=shapeOk_iff.1 hso
 have hsz:shapeSize s = 2 + s.refs + s.nums:=by unfold shapeSize;rw[if_pos hso]
 have hsw:shapeWord s = 16 * s.refs + s.nums:=by unfold shapeWord;rw[if_pos hso]
 obtain⟨n,rfl⟩:∃n:Nat,a = n:=⟨a.toNat,by omega⟩
 obtain⟨z,hz⟩:∃z:Nat,shapeSize s = z:=⟨(shapeSize s).toNat,by omega⟩
 rw[thingMake_eq h0 hso hz]
 obtain⟨cur,hcur⟩:∃cur:List Int,cur = w.take n ++ List.replicate z 0 ++ w.drop (n + z):=⟨_,rfl⟩
 rw[← hcur]
 have hcl:cur.length = w.length:=by rw[hcur];simp;omega
 have hul:((cur.set n (n:Int)).set (n + 1) (shapeWord s)).length = w.length:=by simpa using hcl
 have u1:((cur.set n (n:Int)).set (n + 1) (shapeWord s)).getD (n + 1) 0 = shapeWord s:=by
  rw[List.getD_eq_getElem?_getD,List.getElem?_set_self (by simp;omega)];rfl
 have u0:((cur.set n (n:Int)).set (n + 1) (shapeWord s)).getD n 0 = n:=by
  rw[List.getD_eq_getElem?_getD,List.getElem?_set_ne (by omega),List.getElem?_set_self (by omega)];rfl
 have uo:∀i:Nat,((i:Int) < n∨(n:Int) + shapeSize s≤i)→((cur.set n (n:Int)).set (n + 1) (shapeWord s))[i]? = w[i]?:=λi hi=>by
  rw[List.getElem?_set_ne (by omega),List.getElem?_set_ne (by omega),hcur,List.append_assoc]
  rcases hi with hi | hi
  ·rw[List.getElem?_append_left (by simp;omega),List.getElem?_take,if_pos (by omega)]
  ·rw[List.getElem?_append_right (by simp;omega),List.getElem?_append_right (by simp;omega),List.getElem?_drop]
   congr 1;simp;omega
 generalize (cur.set n (n:Int)).set (n + 1) (shapeWord s) = u at hul u1 u0 uo
 have f2:fits u.length n 2 = true:=by
  rw[hul]
  unfold fits at h0 ⊢
  simp only[Bool.and_eq_true,decide_eq_true_eq,beq_iff_eq] at h0 ⊢
  obtain⟨⟨⟨⟨⟨p0,p1⟩,p2⟩,p3⟩,p4⟩,p5⟩:=h0
  refine⟨⟨⟨⟨⟨p0,by decide⟩,by decide⟩,p3⟩,p4⟩,?_⟩
  unfold regionOf at p5 ⊢
  rw[if_neg (by omega),if_neg (by omega)] at p5
  rw[if_neg (by omega),if_neg (by omega)]
  omega
 refine⟨by omega,by omega,hso,hul,?_,?_,?_,?_,uo⟩
 ·simp only[Int.toNat_natCast]
  rw[u1,hsw];constructor<;>omega
 ·unfold thingAt
  rw[if_pos f2]
  simp only[Int.toNat_natCast]
  rw[u1,shape_back hso,hul,h0,u0]
  rfl
 ·show (((u.drop ((n:Int) + 2).toNat).take s.refs.toNat).length:Int) = s.refs
  rw[List.length_take,List.length_drop];omega
 ·show (((u.drop ((n:Int) + 2 + s.refs).toNat).take s.nums.toNat).length:Int) = s.nums
  rw[List.length_take,List.length_drop];omega
theorem mk_both {r:List Int × Bool} {x y:Value} {A B:Chs} (h1:QMk r x A) (h2:QMk r y B):(r.2 = true∧∃s1 s2,OwnI r.1 s1 A∧OwnI r.1 s2 B∧x = .tuple #[s1,.bool true]∧y = .tuple #[s2,.bool true])∨(r.2 = false∧x = .tuple #[.slice none 0 0,.bool false]∧y = .tuple #[.slice none 0 0,.bool false]∧A = []∧B = []):=by
 unfold QMk at h1 h2
 by_cases h:r.2 = true
 ·rw[if_pos h] at h1 h2
  obtain⟨s1,o1,e1⟩:=h1
  obtain⟨s2,o2,e2⟩:=h2
  exact .inl ⟨h,s1,s2,o1,o2,e1,e2⟩
 ·rw[if_neg h] at h1 h2
  exact .inr ⟨by simpa using h,h1.1,h2.1,h1.2,h2.2⟩
theorem w_ThingBack {R:RM} {v:Value} (hc:Cod R v):Fn P F_w_FnThingBack [v] R [] (λx _ A=>x = .bool true∧A = []):=by
 refine s_w_FnThingBack λF=>?_
 unfold c_w_FnThingBack
 have nilI:∀R:RM,Ints R (.slice none 0 0) []:=λR=>.inl ⟨rfl,rfl,rfl⟩
 have hsl:∃a c n,v = .slice a n c:=by
  obtain⟨n,hf⟩:=hc
  obtain⟨a,c,e⟩:=hf.sl
  exact⟨a,c,n,e⟩
 obtain⟨ca,cc,cn,hv⟩:=hsl
 refine jln_ ⟨ca,cc,hv⟩ (jgr (jif (λ_=>jret (A:=[]) (RM.le.refl R) ⟨rfl,rfl⟩) (λ_=>?_)))
 refine jc (A:=[]) (d_DrawThingMake hc) ?_
 rintro _ R1 _ hR1 ⟨w,wv,a,s,rfl,hi,hwl,ha,rfl⟩
 refine jex rfl (jex rfl (jex rfl (ja λb7=>js (cs':=[I s.refs,I s.nums]) rfl rfl (by exact Nat.le_refl 2) rfl (jla (l:=[I s.refs,I s.nums]) (by exact Nat.le_refl 2) rfl ?_))))
 refine jc (A:=[]) (t_i_ThingMake a s hi (by omega)) ?_
 rintro x R2 A2 _ ⟨hR2,q1⟩
 subst hR2
 have sp:∃x1 x2,x = .tuple #[x1,.bool x2]:=by
  unfold QMk at q1
  split at q1
  ·obtain⟨sv,_,e⟩:=q1;exact⟨_,_,e⟩
  ·exact⟨_,_,q1.1⟩
 obtain⟨x1,x2,rfl⟩:=sp
 refine jex rfl (jex rfl (jla (l:=[I s.refs,I s.nums]) (by exact Nat.le_refl 2) rfl ?_))
 refine jc (A:=[]) (t_ThingMake a s hi (by omega)) ?_
 rintro y R3 A3 _ ⟨hR3,q2⟩
 subst hR3
 rcases mk_both q1 q2 with ⟨hr,s1,s2,o1,o2,e1,rfl⟩ | ⟨hr,e1,rfl,rfl,rfl⟩
 rotate_left
 ·cases e1
  refine jex rfl (jex rfl ?_)
  refine jor [wv,I a,.pointer (some ⟨b7,0,none⟩),.slice none 0 0,.bool false] false (λK' hK'=>?_) (λe c u ho he=>?_)
  ·refine @jxb _ _ _ _ _ _ _ (jff (jro (r_flInts (nilI _) (nilI _) (by simp) (by simp)) ?_))
   exact hK' _ _ _ or2_f rfl
  simp only[List.map,lc,ln,lj,and_true] at he
  simp only[he]
  rw[ho]
  exact jiff (jift (jln (jeq (jret (A:=[]) hR1 ⟨rfl,rfl⟩))))
 cases e1
 obtain⟨a0,a1,hso,hul,hin,hta,hrl,hnl,hsame⟩:=thing_back hr
 refine jex rfl (jex rfl (jfso (.inr o2) λR4 hR4 hi2=>?_))
 refine jfso (.inr o1) λR5 hR5 hi1=>?_
 have hi2:=hi2.le hR5
 have hi:=(hi.le hR4).le hR5
 have hR15:=(hR1.trans hR4).trans hR5
 generalize (thingMake w a s).1 = u at hul hin hta hrl hnl hsame hi1 hi2
 refine jor [wv,I a,.pointer (some ⟨b7,0,none⟩),x1,.bool true] false (λK' hK'=>?_) (λe c u' ho he=>?_)
 ·refine @jxb _ _ _ _ _ _ _ (jff (jro (r_flInts hi1 hi2 (by omega) (by omega)) ?_))
  exact hK' _ _ _ or2_f (by simp)
 simp only[List.map,lc,ln,lj,and_true] at he
 simp only[he]
 rw[ho]
 refine jiff (jiff ?_)
 refine jc (A:=[]) (t_i_ThingAt a hi1 (by omega) hin) ?_
 rintro _ R6 _ hR6 ⟨rfl,x,hx,rfl⟩
 rw[hta] at hx ⊢
 obtain⟨rv,nv,rfl,hrv,hnv⟩:=hx
 have hi:=hi.le hR6
 have hi1:=hi1.le hR6
 obtain⟨ra,rc,hrve⟩:=hrv.sl
 obtain⟨na,nc,hnve⟩:=hnv.sl
 subst hrve hnve
 refine jex rfl (jex rfl (ja λb10=>js (cs':=[I a,I a,I s.refs,I s.nums,.slice ra (seg u (a + 2) s.refs).length rc,.slice na (seg u (a + 2 + s.refs) s.nums).length nc]) rfl rfl (by exact Nat.le_refl 6) rfl ?_))
 refine jor [wv,I a,.pointer (some ⟨b7,0,none⟩),x1,.pointer (some ⟨b10,0,none⟩)] false (λK' hK'=>?_) (λe c u' ho he=>?_)
 ·exact jff (jl (v:=I a) rfl (jne (hK' _ _ _ or2_f (by simp))))
 simp only[List.map,lc,ln,lj,and_true] at he
 simp only[he]
 refine jor [wv,I a,.pointer (some ⟨b7,0,none⟩),x1,.pointer (some ⟨b10,0,none⟩)] false (λK' hK'=>?_) (λe c u' ho he=>?_)
 ·rw[ho]
  exact jff (jl (v:=I a) rfl (jne (hK' _ _ _ or2_f (by simp))))
 simp only[List.map,lc,ln,lj,and_true] at he
 simp only[he]
 refine jor [wv,I a,.pointer (some ⟨b7,0,none⟩),x1,.pointer (some ⟨b10,0,none⟩)] false (λK' hK'=>?_) (λe c u' ho he=>?_)
 ·rw[ho]
  refine jff ?_
  refine jfo ?_
  refine jla (l:=[I s.refs,I s.nums]) (by simp) rfl ?_
  refine jla (l:=[I s.refs,I s.nums]) (by exact Nat.le_refl 2) rfl ?_
  exact @jxsh s s _ _ _ _ _ (hK' _ _ _ or2_f (by simp))
 simp only[List.map,lc,ln,lj,and_true] at he
 simp only[he]
 refine jor [wv,I a,.pointer (some ⟨b7,0,none⟩),x1,.pointer (some ⟨b10,0,none⟩)] false (λK' hK'=>?_) (λe c u' ho he=>?_)
 ·rw[ho]
  exact jff (jl (v:=.slice ra (seg u (a + 2) s.refs).length rc) rfl (jln (jl (v:=I s.refs) rfl (jne (hK' _ _ _ or2_f (by simp;omega))))))
 simp only[List.map,lc,ln,lj,and_true] at he
 simp only[he]
 refine jor [wv,I a,.pointer (some ⟨b7,0,none⟩),x1] false (λK' hK'=>?_) (λe c u' ho he=>?_)
 ·rw[ho]
  exact jff (jl (v:=.slice na (seg u (a + 2 + s.refs) s.nums).length nc) rfl (jln (jl (v:=I s.nums) rfl (jne (hK' _ _ _ or2_f (by simp;omega))))))
 simp only[List.map,lc,ln,lj,and_true] at he
 simp only[he]
 rw[ho]
 refine jiff ?_
 have hR16:=hR15.trans hR6
 refine jk1 (F:=F) b7 ?_
 refine jlp (λm vs R' D'=>R' = R6∧D' = (b7,C 25 [I s.refs,I s.nums]) :: F∧∃i:Nat,i≤w.length∧vs = [wv,I a,.pointer (some ⟨b7,0,none⟩),x1,I i]∧m = w.length - i) (n:=w.length) ⟨rfl,rfl,0,by omega,rfl,by omega⟩ ?_
 rintro m e R7 D7 K ⟨hR7,hD,i,hil,he,hm⟩ hK
 subst hR7
 rw[hD];clear hD
 simp only[List.map,lc,ln,lj,and_true] at he
 simp only[he]
 refine jln_ hi.sl (jlt (jif (λh=>?_) (λh=>jret (A:=[]) hR16 ⟨rfl,rfl⟩)))
 have h:i < w.length:=by have:=of_decide_eq_true h;omega
 have hiu:i < u.length:=by omega
 have cmp:((i:Int) < a∨a + shapeSize s≤i)→u[i] = w[i]:=λhh=>by
  have:=hsame i hh
  rw[List.getElem?_eq_getElem hiu,List.getElem?_eq_getElem h] at this
  exact Option.some.inj this
 refine jcutq (λvs R' D'=>R' = R7∧D' = (b7,C 25 [I s.refs,I s.nums]) :: F∧vs = [wv,I a,.pointer (some ⟨b7,0,none⟩),x1,I i,.bool false]) (λK2 hK2=>?_) ?_
 rotate_left
 ·rintro e R8 D8 ⟨hR8,hD,he⟩
  subst hR8
  rw[hD];clear hD
  simp only[List.map,lc,ln,lj,and_true] at he
  simp only[he]
  exact jiff (jadd ⟨by omega,by omega⟩ (hK (w.length - (i + 1)) _ _ _ (by omega) ⟨rfl,rfl,i + 1,by omega,rfl,rfl⟩))
 by_cases hia:(i:Int) < a
 ·refine jcutq (λvs R' D'=>R' = R7∧D' = (b7,C 25 [I s.refs,I s.nums]) :: F∧vs = [wv,I a,.pointer (some ⟨b7,0,none⟩),x1,I i,.bool true,U,U,U]) (λK3 hK3=>?_) ?_
  ·refine jlt ?_
   rw[decide_eq_true hia]
   exact jtf (hK3 _ _ _ ⟨rfl,rfl,rfl⟩)
  rintro e R8 D8 ⟨hR8,hD,he⟩
  subst hR8
  rw[hD];clear hD
  simp only[List.map,lc,ln,lj,and_true] at he
  simp only[he]
  refine jtf ?_
  refine jor [wv,I a,.pointer (some ⟨b7,0,none⟩),x1,I i] true (λK' hK'=>?_) (λe c u' ho he=>?_)
  ·exact jtf (hK' _ _ _ or2_t rfl)
  simp only[List.map,lc,ln,lj,and_true] at he
  simp only[he]
  refine jan [wv,I a,.pointer (some ⟨b7,0,none⟩),x1,I i] false (λK' hK'=>?_) (λe c u' ho he=>?_)
  ·rw[ho]
   refine jtt (jfz1 hi1 (by omega) (by omega) (jfz1 hi (by omega) (by omega) (jne (hK' _ _ _ and2_t ?_))))
   simp only[Int.toNat_natCast]
   rw[cmp (.inl hia)];simp
  simp only[List.map,lc,ln,lj,and_true] at he
  simp only[he]
  rw[ho]
  exact hK2 _ _ _ ⟨rfl,rfl,rfl⟩
 ·refine jcutq (λvs R' D'=>R' = R7∧D' = (b7,C 25 [I s.refs,I s.nums]) :: F∧vs = [wv,I a,.pointer (some ⟨b7,0,none⟩),x1,I i,.bool false,I i,I a,eSh s]) (λK3 hK3=>?_) ?_
  ·refine jlt ?_
   rw[decide_eq_false hia]
   exact jff (jla (l:=[I s.refs,I s.nums]) (by exact Nat.le_refl 2) rfl (hK3 _ _ _ ⟨rfl,rfl,rfl⟩))
  rintro e R8 D8 ⟨hR8,hD,he⟩
  subst hR8
  rw[hD];clear hD
  simp only[List.map,lc,ln,lj,and_true] at he
  simp only[he]
  refine jff (jp (p_i_ShapeSize s) ?_)
  refine jor [wv,I a,.pointer (some ⟨b7,0,none⟩),x1,I i] (decide ((i:Int)≥a + shapeSize s)) (λK' hK'=>?_) (λe c u' ho he=>?_)
  ·have:=size_rng s
   exact jff (jadd ⟨by omega,by omega⟩ (jge (hK' _ _ _ or2_f rfl)))
  simp only[List.map,lc,ln,lj,and_true] at he
  simp only[he]
  refine jan [wv,I a,.pointer (some ⟨b7,0,none⟩),x1,I i] false (λK' hK'=>?_) (λe c u' ho he=>?_)
  ·rw[ho]
   refine jgtt (λhg=>?_) (λhg=>hK' _ _ _ (hg▸and2_f) rfl)
   have hg':=of_decide_eq_true hg
   refine jfz1 hi1 (by omega) (by omega) (jfz1 hi (by omega) (by omega) (jne (hK' _ _ _ (hg▸and2_t) ?_)))
   simp only[Int.toNat_natCast]
   rw[cmp (.inr hg')];simp
  simp only[List.map,lc,ln,lj,and_true] at he
  simp only[he]
  rw[ho]
  exact hK2 _ _ _ ⟨rfl,rfl,rfl⟩
end Go.Lf
end
section
namespace Go.Lf
open Go Sm
structure Blk (w w' : World):Prop where
 same:Same w w'
 block:∀k,k < w.heap.size→w'.heap[k]? = w.heap[k]?
theorem Blk.frame {W w' : World} (h:Blk W w') (may:MemPlace→Prop):W.keptBut w' may:=by
 refine⟨h.same.1,h.same.2,λi hi=>?_⟩
 rw[h.block i hi]
 split<;>simp_all
theorem Blk.at_ {W w' : World} (h:Blk W w') {p:MemPlace} (hp:p.block < W.heap.size):W.sameAt w' p:=by
 cases p with
 | cell b o=>exact World.cell?_of_block (w:=W) (h.block b hp)
 | map b=>exact h.block b hp
def IsRow (w:World) (a:Option Addr) (len cap:Nat) (zs:List Int):Prop:=
 (a = none∧len = 0∧cap = 0∧zs = [])∨
 ∃x,a = some x∧len≤cap∧zs.length = cap∧(∀i,i < zs.length→w.cell? (x.add i) = some (.int .u8 (zs.getD i 0)))∧∀n∈zs,(Lit.int .u8 n).wf = true
theorem cod_of {w:World} {a:Option Addr} {len cap:Nat} {zs:List Int} (h:IsRow w a len cap zs):Cod (λb=>w.heap[b]?) (.slice a len cap):=by
 rcases h with ⟨rfl,rfl,rfl,rfl⟩ | ⟨x,rfl,hl,hz,hcell,hwz⟩
 ·exact⟨0,none,0,rfl,Nat.le_refl _,.inl rfl⟩
 ·by_cases h0:len = 0
  ·exact⟨len,some x,cap,rfl,hl,.inl h0⟩
  ·obtain⟨b,off,spot⟩:=x
   have hc:=hcell 0 (by omega)
   have hspot:spot = none:=by simpa [Addr.add] using World.cell?_spot hc
   subst hspot
   refine⟨len,_,cap,rfl,hl,.inr ⟨b,off,rfl,λi hi=>?_⟩⟩
   have hi' : i < zs.length:=by omega
   have hc:=hcell i hi'
   have hw:=hwz (zs.getD i 0) (by simp[List.getD,hi'])
   rw[show (⟨b,off,none⟩:Addr).add i = ⟨b,off + i,none⟩ by simp[Addr.add],hc_eq] at hc
   unfold Go.Lf.hc at hc
   split at hc
   ·rename_i cs t fz hb
    refine⟨t,cs,fz,_,hb,hc,?_⟩
    have hr:∀n:Int,(Lit.int .u8 n).wf = true→0≤n∧n < 256:=λn hn=>by
     have h2:(decide (0≤n) && decide (n≤255)) = true:=hn
     simp only[Bool.and_eq_true,decide_eq_true_eq] at h2
     omega
    exact hr _ hw
   ·cases hc
theorem law_walk {f:Nat} (hw:∀(R:RM) (v:Value),Cod R v→Fn P f [v] R [] (λx _ A=>x = .bool true∧A = [])) {w:World} {a:Option Addr} {len cap:Nat} {zs:List Int} (h:IsRow w a len cap zs) :
  Calls P f #[.slice a len cap] w λe w'=>e = .returned (.bool true)∧Blk w w':=by
 have h1:=hw _ _ (cod_of h) [] w.heap ⟨λb o hb=>hb,(λb o hm=>by cases hm),List.nodup_nil⟩ w rfl
 refine h1.mono ?_
 rintro e w' ⟨v,rfl,hs,R',A',h2,h3,rfl,h4⟩
 refine⟨rfl,hs,λk hk=>?_⟩
 have:=h3.rd k _ (h2 k _ (Array.getElem?_eq_getElem hk))
 rw[this,Array.getElem?_eq_getElem hk]
end Go.Lf
end
section
namespace Go.Proofs.YteefnapldidgcaaGreat.fnThingBack
open Go Go.Lf
open Go.ChangeShapes Go.WideShapes Go.ChangeAt Go.RowKit
set_option linter.unusedVariables false
theorem own:ownKnob Tryz.prog.godebug = none:=by kernel_rfl
theorem laidOut:laidOutB Tryz.prog = true:=by kernel_rfl
set_option maxRecDepth 100000 in
theorem lifted (os:Os) (started:os.Started) (H:Type) (enc:TypeId × Value→H) :
  ReturnsInHanded {} Tryz.checked os 3 .any (Rows.fnThingBackSpec.pre6 enc Tryz.prog Tryz.f3 Rows.fnThingBackRow.domain false) (Rows.fnThingBackSpec.post enc Tryz.prog Tryz.f3 false true false false):=by
 refine returnsInHanded_of_change (C:=Tryz.checked) own started (by kernel_rfl) Tryz.func3
  (ChangeSpec.witness6 (enc:=enc) (C:=Tryz.checked) false ⟨#[],#[.slice none 0 0],[]⟩ 8 (by kernel_rfl) (by kernel_rfl) (by kernel_rfl) (by kernel_rfl)) ?_
 intro W base args ds gs before hval0 hW hcnd _
 have hval:∀(j:Nat) t v,Tryz.f3.params[j]? = some t→args[j]? = some v→Value.okWide Tryz.prog W .any base t v:=hval0
 have hW':=hW
 obtain⟨p,q,hA0,hV,rfl,hfz,hnd⟩:=hW
 have hA:DataW.TrodAll enc Tryz.prog W 0 (λ_=>true) true Tryz.f3.params.toList args.toList ds p:=hA0
 rw[Tryz.params3] at hA hval
 obtain⟨v0,vs0,d0,ds0,p0,q0,hargs,rfl,rfl,h0,r0⟩:=trodAll_cons hA
 obtain⟨rfl,rfl,rfl⟩:=trodAll_nil r0
 obtain rfl:args = #[v0]:=by cases args;simp_all
 obtain⟨rfl,rfl⟩:=trodVars_none hV
 obtain⟨a0,len0,cap0,rfl⟩:=okWide_slice Tryz.underlying22 (hval 0 22 v0 rfl rfl)
 have k0:=h0
 have lt0:∀x∈p0,x.block < W.heap.size:=by obtain⟨m,hm⟩:=k0;exact DataW.trod_lt m _ _ _ hm
 obtain⟨z0,w0⟩:∃zs,IsRow W a0 len0 cap0 zs:=by
  obtain⟨fuel,hf⟩:=h0
  rcases open_ints Tryz.underlying22 Tryz.underlying5 (by kernel_rfl) hf with ⟨hcs,_⟩ | ⟨x,l,c,zs,hcs,_,hl,hm,hz,_,hcell,hwz⟩
  ·simp[Value.cells] at hcs
   obtain⟨rfl,rfl,rfl⟩:=hcs
   exact⟨[],.inl ⟨rfl,rfl,rfl,rfl⟩⟩
  ·simp[Value.cells] at hcs
   obtain⟨rfl,rfl,rfl⟩:=hcs
   exact⟨zs,.inr ⟨_,rfl,hl,by simpa using hz,hcell,hwz⟩⟩
 clear hA0 hval0
 refine (law_walk (f:=3) (λR v h=>w_ThingBack h) w0).mono λe W' ⟨he,bel⟩=>?_
 subst he
 have hst:DataW.Trod enc Tryz.prog W' 0 (λb=>decide (b < W.heap.size)) true 22 (Value.slice a0 len0 cap0) d0 p0:=WideElems.Trod_stays laidOut (by kernel_rfl) (of_decide_eq_true (by kernel_rfl)) k0 (λx hx=>bel.at_ (lt0 x hx)) (λx hx=>by simpa using lt0 x hx)
 exact⟨_,rfl,_,_,_,[],_,[],hW',trodAll_mk1 (shut_bool Tryz.underlying4 _),trodAll_mk1 hst,rfl,bel.frame _,λh=>by cases h⟩
theorem over:Rows.fnThingBackRow.holds Tryz.pinned (OpenSpec.ofChange Rows.fnThingBackSpec):=
 OpenClaim.holds_of_wide 3 Tryz.f3 rfl rfl rfl rfl rfl rfl rfl ⟨rfl,rfl,rfl,rfl,rfl⟩ rfl rfl rfl rfl rfl (by kernel_rfl) Tryz.func3 (by kernel_rfl)
  (of_decide_eq_true (by kernel_rfl)) (by unfold Func.isWrapper;rw[if_neg (of_decide_eq_false (by kernel_rfl))];exact⟨rfl,rfl⟩)
  (λos started H enc _=>lifted os started H enc)
theorem proved:Rows.FnThingBackSaid:=over
#print axioms proved
end Go.Proofs.YteefnapldidgcaaGreat.fnThingBack
end
