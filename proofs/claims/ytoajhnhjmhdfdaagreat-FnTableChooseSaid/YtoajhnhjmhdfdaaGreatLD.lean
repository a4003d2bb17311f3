/- A part of the proof of the given row: the walk of the law and of all that it calls. Conditions: none. -/
import Derived.Test.YtoajhnhjmhdfdaaGreatLC
set_option linter.unusedVariables false
set_option linter.unusedSimpArgs false
section
namespace Go.Lf
open Go Go.Proofs Go.Proofs.Tryz
set_option linter.unusedVariables false
def F8 (a0:Value) (K:Value→M):M:=
 CA P 122 [a0] λa=>NF 4 a0 λa=>SF 9 a (.slice none 0 0)<|NF 4 a0 λa=>SF 3 a (I 1)<|NF 18 a0 λa=>FO 1 a λa=>L1 a λb=>NF 18 a0 λc=>FO 2 c λc=>L1 c λd=>BD (cl z94) [(0,1,(I 1)),(1,1,b),(2,1,d)] λe=>AL 94 z94 λf=>AND (L1 a λa=>EV a b)<|AND (L1 c λa=>EV a d)<|ST 15 f e<|CUT [0,2] (λa=>CUT [0,2] (λa=>LP [0,2,3] (λb c=>NL 17 (c 0) λd=>LN d λd=>BO .lss (c 3) d λd=>IF d (CUT [0,2,3] (λa=>CUT [0,2,3] (λa=>CUT [0,2,3] (λa=>LP [0,2,3,4] (λb c=>NL 17 (c 0) λd=>IA 17 d (c 3) λd=>LF 0 d λd=>LN d λd=>BO .lss (c 4) d λd=>IF d (CUT [0,2,3,4] (λa=>CUT [0,2,3,4] (λa=>NL 17 (c 0) λb=>IA 17 b (c 3) λb=>LF 0 b λb=>IL 1 b (c 4) λb=>BO .neq b (I 0) λb=>IF b (FO 3 (c 2) λb=>L1 b λd=>NL 17 (c 0) λe=>IA 17 e (c 3) λe=>LF 0 e λe=>IL 1 e (c 4) λe=>BS 3 1 (ZR 1 z3) [(0,1,e)] λe=>AND (L1 b λa=>EV a d)<|AP 3 1 8 (cl z3) d e λb=>SF 3 (c 2) b<|a [(c 0),(c 2),(c 3),(c 4)]) (a [(c 0),(c 2),(c 3),(c 4)])) λb=>a [(b 0),(b 2),(b 3),(b 4)]) λa=>BO .add (a 4) (I 1) λc=>b [(a 0),(a 2),(a 3),c]) (a [(c 0),(c 2),(c 3)])) [(c 0),(c 2),(c 3),(I 0)]) λb=>a [(b 0),(b 2),(b 3)]) λb=>a [(b 0),(b 2),(b 3)]) λa=>BO .add (a 3) (I 1) λc=>b [(a 0),(a 2),c]) (a [(c 0),(c 2)])) [a0,f,(I 0)]) λb=>a [(b 0),(b 2)]) λa=>LF 3 (a 2) λb=>NF 4 (a 0) λc=>LF 10 c λc=>AP 3 1 8 (cl z3) b c λb=>SF 3 (a 2) b<|LA 15 (a 2) λb=>NF 18 (a 0) λc=>ST 15 c b<|LP [0,5] (λa b=>NF 4 (b 0) λc=>LF 1 c λc=>LN c λc=>BO .lss (b 5) c λc=>IF c (NF 4 (b 0) λc=>LF 1 c λc=>IA 5 c (b 5) λc=>LA 5 c λc=>AL 29 z29 λd=>ST 5 d c<|LF 2 d λc=>SF 3 d c<|SF 4 d (I 0)<|NF 4 (b 0) λc=>LF 1 c λc=>LA 5 d λd=>IA 5 c (b 5) λc=>ST 5 c d<|BO .add (b 5) (I 1) λc=>a [(b 0),c]) (K (.tuple #[]))) [(a 0),(I 1)]
theorem Ju {a0:Value}:SG FB [a0] (F8 a0):=SG.mk { at_:=[(4,[0,2]),(6,[0,2]),(7,[0,2,3]),(10,[0,2,3]),(11,[0,2,3]),(13,[0,2,3]),(14,[0,2,3,4]),(17,[0,2,3,4]),(18,[0,2,3,4]),(24,[0,5])] } func103 (by kernel_rfl) λ_=>by kernel_rfl
def GN (a0:Value) (K:Value→M):M:=
 CUT [0] (λa=>CUT [0] (λa=>LP [0] (λb c=>CUT [0,18,25] (λa=>NF 18 (c 0) λb=>LF 3 b λb=>LN b λb=>BO .gtr b (I 0) λb=>GT b false (NF 4 (c 0) λd=>LF 9 d λd=>LN d λd=>BO .gtr d (I 0) λd=>a [(c 0),b,d]) (a [(c 0),b,U])) λc=>CUT [0,27,33] (λa=>PO (c 18) (c 25) λb=>GT b false (NF 18 (c 0) λd=>LF 0 d λd=>BO .eql d (I 2) λd=>a [(c 0),b,d]) (a [(c 0),b,U])) λc=>PO (c 27) (c 33) λd=>IF d (CUT [0] (λa=>NF 18 (c 0) λb=>LF 0 b λb=>BO .eql b (I 2) λb=>IF b (CA P 107 [(c 0)] λb=>a [(c 0)]) (CA P 106 [(c 0)] λb=>a [(c 0)])) λa=>b [(a 0)]) (a [(c 0)])) [a0]) λb=>a [(b 0)]) λa=>NF 4 (a 0) λb=>SF 4 b (.bool false)<|CUT [0,2] (λb=>CUT [0,2] (λb=>LP [0,2,3] (λa c=>NF 4 (c 0) λd=>LF 10 d λd=>LN d λd=>BO .lss (c 3) d λd=>IF d (NF 4 (c 0) λb=>LF 10 b λb=>IL 1 b (c 3) λb=>CA P 112 [b] λb=>BS 3 1 (ZR 1 z3) [(0,1,b)] λb=>AP 3 1 8 (cl z3) (c 2) b λb=>BO .add (c 3) (I 1) λd=>a [(c 0),b,d]) (b [(c 0),(c 2)])) [(a 0),(.slice none 0 0),(I 0)]) λa=>b [(a 0),(a 2)]) λa=>NF 4 (a 0) λb=>LF 1 b λb=>NF 0 (a 0) λc=>LF 2 c λc=>CA P 13 [b,c,(a 2)] λb=>EX 0 b λc=>EX 1 b λb=>CUT [0,4] (λd=>CUT [0,4] (λd=>LP [0,4,5,6] (λa b=>LN (b 5) λc=>BO .lss (b 6) c λc=>IF c (NF 4 (b 0) λc=>LF 1 c λc=>IL 1 (b 5) (b 6) λd=>CA P 123 [c,d] λc=>EX 0 c λd=>EX 1 c λc=>NF 4 (b 0) λc=>SF 1 c d<|BO .add (b 6) (I 1) λc=>a [(b 0),(b 4),(b 5),c]) (d [(b 0),(b 4)])) [(a 0),c,b,(I 0)]) λa=>d [(a 0),(a 4)]) λa=>CUT [0,4] (λb=>CUT [0,4] (λb=>LP [0,4,9] (λa c=>LN (c 4) λd=>BO .lss (c 9) d λd=>IF d (NF 4 (c 0) λb=>FO 1 b λb=>L1 b λd=>IA 1 (c 4) (c 9) λe=>L1 e λf=>IA 5 d f λg=>LA 5 g λh=>AL 29 z29 λi=>AND (L1 b λa=>EV a d)<|AND (L1 e λa=>EV a f)<|AND (LA 5 g λa=>EV a h)<|ST 5 i h<|SF 0 i (I 4)<|NF 4 (c 0) λb=>LF 1 b λb=>IL 1 (c 4) (c 9) λd=>LA 5 i λe=>IA 5 b d λb=>ST 5 b e<|BO .add (c 9) (I 1) λb=>a [(c 0),(c 4),b]) (b [(c 0),(c 4)])) [(a 0),(a 4),(I 0)]) λa=>b [(a 0),(a 4)]) λa=>LN (a 4) λb=>BO .eql b (I 0) λb=>IF b (CA P 124 [(a 0)] λa=>K (.tuple #[])) (NF 4 (a 0) λb=>SF 3 b (I 2)<|NF 18 (a 0) λb=>LF 1 b λb=>NF 18 (a 0) λc=>LF 2 c λc=>BD (cl z94) [(0,1,(I 5)),(4,1,(I 1)),(5,1,(I 16)),(1,1,b),(2,1,c)] λb=>NF 18 (a 0) λa=>ST 15 a b<|K (.tuple #[]))
theorem MA {a0:Value}:SG Gb [a0] (GN a0):=SG.mk { at_:=[(0,[0]),(1,[0]),(2,[0]),(5,[0]),(9,[0,2]),(11,[0,2]),(12,[0,2,3]),(18,[0,4]),(20,[0,4]),(21,[0,4,5,6]),(27,[0,4]),(29,[0,4]),(30,[0,4,9])],rg:=[(0,[(15,[0,18,25]),(8,[0,27,33])])] } func104 (by kernel_rfl) λ_=>by kernel_rfl
def GQ (a0:Value) (K:Value→M):M:=
 CUT [0] (λa=>CUT [0] (λa=>LP [0,2] (λb c=>NL 17 (c 0) λd=>LN d λd=>BO .lss (c 2) d λd=>IF d (NL 17 (c 0) λa=>IA 17 a (c 2) λa=>LA 17 a λa=>AL 106 Ds λd=>ST 17 d a<|LF 0 d λa=>CA P 50 [a] λa=>SF 0 d a<|CUT [0,2,3] (λa=>CUT [0,2,3] (λa=>LP [0,2,3,4] (λb c=>LF 0 (c 3) λd=>LN d λd=>BO .lss (c 4) d λd=>IF d (CUT [0,2,3,4] (λa=>CUT [0,2,3,4] (λa=>LF 0 (c 3) λb=>IL 1 b (c 4) λb=>CA P 88 [(c 0),b] λb=>IF b (LF 0 (c 3) λb=>NF 4 (c 0) λd=>LF 0 d λd=>LF 0 (c 3) λe=>IL 1 e (c 4) λe=>IL 1 d e λd=>IA 1 b (c 4) λb=>ST 1 b d<|a [(c 0),(c 2),(c 3),(c 4)]) (a [(c 0),(c 2),(c 3),(c 4)])) λb=>a [(b 0),(b 2),(b 3),(b 4)]) λa=>BO .add (a 4) (I 1) λc=>b [(a 0),(a 2),(a 3),c]) (a [(c 0),(c 2),(c 3)])) [(c 0),(c 2),d,(I 0)]) λb=>a [(b 0),(b 2),(b 3)]) λa=>NL 17 (a 0) λc=>LA 17 (a 3) λd=>IA 17 c (a 2) λc=>ST 17 c d<|BO .add (a 2) (I 1) λc=>b [(a 0),c]) (a [(c 0)])) [a0,(I 0)]) λb=>a [(b 0)]) λa=>CUT [0] (λb=>CUT [0] (λb=>LP [0,5] (λa c=>NF 4 (c 0) λd=>LF 1 d λd=>LN d λd=>BO .lss (c 5) d λd=>IF d (CUT [0,5] (λa=>CUT [0,5] (λa=>NF 4 (c 0) λb=>LF 1 b λb=>IA 5 b (c 5) λb=>LF 0 b λb=>BO .eql b (I 4) λb=>IF b (NF 4 (c 0) λb=>LF 1 b λb=>CA P 123 [b,(c 5)] λb=>EX 0 b λd=>EX 1 b λb=>NF 4 (c 0) λb=>SF 1 b d<|a [(c 0),(c 5)]) (a [(c 0),(c 5)])) λb=>a [(b 0),(b 5)]) λb=>BO .add (b 5) (I 1) λc=>a [(b 0),c]) (b [(c 0)])) [(a 0),(I 1)]) λa=>b [(a 0)]) λa=>CA P 124 [(a 0)] λa=>K (.tuple #[])
theorem ME {a0:Value}:SG H5 [a0] (GQ a0):=SG.mk { at_:=[(0,[0]),(2,[0]),(3,[0,2]),(10,[0,2,3]),(12,[0,2,3]),(13,[0,2,3,4]),(16,[0,2,3,4]),(17,[0,2,3,4]),(19,[0]),(21,[0]),(22,[0,5]),(25,[0,5]),(26,[0,5])] } func105 (by kernel_rfl) λ_=>by kernel_rfl
def JQ (a0:Value) (K:Value→M):M:=
 NF 18 a0 λa=>LA 15 a λa=>AL 94 z94 λb=>ST 15 b a<|LF 3 b λa=>LN a λa=>BO .eql a (I 0) λa=>IF a (CUT [0,2] (λa=>NF 4 a0 λc=>LF 9 c λc=>LN c λc=>BO .eql c (I 0) λc=>IF c (NF 4 a0 λc=>SF 4 c (.bool true)<|SF 2 b (I 2)<|a [a0,b]) (NF 4 a0 λc=>LF 9 c λc=>IL 1 c (I 0) λc=>BS 3 1 (ZR 1 z3) [(0,1,c)] λc=>SF 3 b c<|NF 4 a0 λc=>LF 9 c λc=>SL 1 c (some (I 1)) none λc=>CA P 50 [c] λc=>NF 4 a0 λd=>SF 9 d c<|a [a0,b])) λa=>LA 15 (a 2) λb=>NF 18 (a 0) λa=>ST 15 a b<|K (.tuple #[])) (LF 3 b λa=>LF 3 b λc=>LN c λc=>BO .sub c (I 1) λc=>IL 1 a c λa=>LF 3 b λc=>LF 3 b λd=>LN d λd=>BO .sub d (I 1) λd=>SL 1 c none (some d) λc=>CA P 50 [c] λc=>SF 3 b c<|CA P 112 [a] λc=>CUT [0,2] (λd=>CUT [0,2,3,4,82,91] (λd=>NF 4 a0 λe=>LF 1 e λe=>IA 5 e c λe=>LF 3 e λe=>BO .lss a e λe=>GT e true (NF 4 a0 λf=>LF 2 f λf=>IL 1 f a λf=>NT f λf=>d [a0,b,a,c,e,f]) (d [a0,b,a,c,e,U])) λa=>PA (a 82) (a 91) λb=>IF b (NF 4 (a 0) λb=>LF 2 b λb=>IA 1 b (a 3) λb=>ST 1 b (.bool true)<|BO .add (a 3) (I 1) λb=>CA P 90 [(a 0),b] λb=>CA P 94 [b] λb=>EX 0 b λc=>EX 1 b λb=>AL 92 z92 λb=>ST 2 b c<|NF 4 (a 0) λc=>LF 1 c λc=>IA 5 c (a 4) λc=>LA 5 c λc=>AL 29 z29 λe=>ST 5 e c<|FO 4 e λc=>L1 c λf=>LA 2 b λg=>CA P 70 [g] λg=>BO .add f g λg=>FO 4 e λh=>AND (L1 c λa=>EV a f)<|ST 1 h g<|NF 4 (a 0) λc=>LF 1 c λc=>LA 5 e λe=>IA 5 c (a 4) λc=>ST 5 c e<|SF 5 (a 2) (a 3)<|SF 6 (a 2) (I 0)<|LA 2 b λc=>FO 7 (a 2) λe=>ST 2 e c<|LF 0 b λb=>BO .gtr b (I 0) λb=>IF b (SF 0 (a 2) (I 2)<|d [(a 0),(a 2)]) (d [(a 0),(a 2)])) (d [(a 0),(a 2)])) λa=>LA 15 (a 2) λb=>NF 18 (a 0) λa=>ST 15 a b<|K (.tuple #[]))
theorem O2 {a0:Value}:SG KR [a0] (JQ a0):=SG.mk { at_:=[(3,[0,2]),(11,[0,2])],rg:=[(11,[(21,[0,2,3,4,82,91])])] } func106 (by kernel_rfl) λ_=>by kernel_rfl
def J2 (a0:Value) (K:Value→M):M:=
 NF 18 a0 λa=>LA 15 a λa=>AL 94 z94 λb=>ST 15 b a<|LF 5 b λa=>BO .add a (I 2) λa=>LF 6 b λc=>BO .add a c λa=>CA P 90 [a0,a] λa=>CUT [0,2] (λc=>BO .neq a (I 0) λd=>IF d (LF 3 b λd=>CA P 50 [d] λd=>BS 3 1 (ZR 1 z3) [(0,1,a)] λa=>AP 3 1 8 (cl z3) d a λa=>SF 3 b a<|c [a0,b]) (c [a0,b])) λa=>LF 6 (a 2) λb=>BO .add b (I 1) λb=>SF 6 (a 2) b<|CUT [0,2] (λb=>LF 6 (a 2) λc=>FO 7 (a 2) λd=>LF 0 d λd=>BO .eql c d λc=>IF c (SF 0 (a 2) (I 1)<|b [(a 0),(a 2)]) (b [(a 0),(a 2)])) λa=>LA 15 (a 2) λb=>NF 18 (a 0) λa=>ST 15 a b<|K (.tuple #[])
theorem Nv {a0:Value}:SG KI [a0] (J2 a0):=SG.mk { at_:=[(2,[0,2]),(5,[0,2])] } func107 (by kernel_rfl) λ_=>by kernel_rfl
def KB (a0:Value) (K:Value→M):M:=
 NF 18 a0 λa=>LA 15 a λa=>AL 94 z94 λb=>ST 15 b a<|CUT [0,2] (λa=>CUT [0,2] (λa=>LP [0,2] (λb c=>LF 4 (c 2) λd=>NF 4 (c 0) λe=>LF 1 e λe=>LN e λe=>BO .lss d e λd=>IF d (NF 4 (c 0) λd=>FO 1 d λd=>L1 d λe=>FO 4 (c 2) λf=>L1 f λg=>IA 5 e g λh=>LA 5 h λi=>AL 29 z29 λj=>AND (L1 d λa=>EV a e)<|AND (L1 f λa=>EV a g)<|AND (LA 5 h λa=>EV a i)<|ST 5 j i<|CUT [0,2,3] (λa=>CUT [0,2,3] (λa=>LP [0,2,3] (λb c=>CUT [0,2,3,29,34] (λa=>LF 0 (c 3) λb=>BO .eql b (I 4) λb=>GT b true (LF 5 (c 2) λd=>LF 2 (c 3) λe=>BO .lss d e λd=>a [(c 0),(c 2),(c 3),b,d]) (a [(c 0),(c 2),(c 3),b,U])) λc=>CUT [0,2,3,36,46] (λa=>PA (c 29) (c 34) λb=>GT b true (NF 4 (c 0) λd=>LF 2 d λd=>LF 5 (c 2) λe=>IL 1 d e λd=>NT d λd=>a [(c 0),(c 2),(c 3),b,d]) (a [(c 0),(c 2),(c 3),b,U])) λc=>PA (c 36) (c 46) λd=>IF d (LF 5 (c 2) λa=>BO .add a (I 1) λa=>SF 5 (c 2) a<|b [(c 0),(c 2),(c 3)]) (a [(c 0),(c 2),(c 3)])) [(c 0),(c 2),j]) λb=>a [(b 0),(b 2),(b 3)]) λc=>CUT [0,2,55,60] (λa=>LF 0 (c 3) λb=>BO .eql b (I 4) λb=>GT b true (LF 5 (c 2) λd=>LF 2 (c 3) λe=>BO .lss d e λd=>a [(c 0),(c 2),b,d]) (a [(c 0),(c 2),b,U])) λc=>PA (c 55) (c 60) λd=>IF d (a [(c 0),(c 2)]) (LF 4 (c 2) λa=>BO .add a (I 1) λa=>SF 4 (c 2) a<|LF 4 (c 2) λa=>BO .mul a (I 16) λa=>SF 5 (c 2) a<|b [(c 0),(c 2)])) (a [(c 0),(c 2)])) [a0,b]) λb=>a [(b 0),(b 2)]) λa=>LF 4 (a 2) λb=>NF 4 (a 0) λc=>LF 1 c λc=>LN c λc=>BO .eql b c λb=>IF b (NF 4 (a 0) λb=>SF 4 b (.bool true)<|SF 2 (a 2) (I 3)<|LA 15 (a 2) λb=>NF 18 (a 0) λa=>ST 15 a b<|K (.tuple #[])) (LF 5 (a 2) λb=>BO .add b (I 1) λb=>SF 5 (a 2) b<|CUT [0,2] (λb=>LF 5 (a 2) λc=>BO .sub c (I 1) λc=>FO 5 (a 2) λd=>L1 d λe=>BO .sub e (I 1) λf=>CA P 90 [(a 0),c] λc=>BO .eql c f λc=>AND (L1 d λa=>EV a e)<|IF c (LF 5 (a 2) λc=>BO .sub c (I 1) λc=>SF 11 (a 2) c<|SF 0 (a 2) (I 20)<|b [(a 0),(a 2)]) (b [(a 0),(a 2)])) λa=>LA 15 (a 2) λb=>NF 18 (a 0) λa=>ST 15 a b<|K (.tuple #[]))
theorem P3 {a0:Value}:SG JN [a0] (KB a0):=SG.mk { at_:=[(1,[0,2]),(2,[0,2]),(3,[0,2]),(8,[0,2,3]),(9,[0,2,3]),(10,[0,2,3]),(23,[0,2])],rg:=[(5,[(9,[0,2,55,60])])],dr:=[(3,[(0,[(9,[0,2,3,29,34]),(12,[0,2,3,36,46])])])] } func108 (by kernel_rfl) λ_=>by kernel_rfl
def Hl (a0:Value) (K:Value→M):M:=
 NF 18 a0 λa=>LA 15 a λa=>AL 94 z94 λb=>ST 15 b a<|CUT [0,2] (λa=>LF 0 b λc=>CUT [0,2] (λa=>BO .eql c (I 20) λd=>IF d (LF 11 b λc=>BO .add c (I 1) λc=>CA P 90 [a0,c] λc=>CA P 94 [c] λc=>EX 0 c λd=>EX 1 c λc=>AL 92 z92 λc=>ST 2 c d<|LA 2 c λc=>CA P 70 [c] λc=>SF 13 b c<|NF 4 a0 λc=>LF 1 c λc=>NL 17 a0 λd=>LN d λd=>LF 13 b λe=>CA P 8 [c,d,e] λc=>EX 0 c λd=>EX 1 c λe=>EX 2 c λc=>NT c λc=>IF c (NF 4 a0 λa=>SF 5 a (.bool true)<|NF 4 a0 λa=>SF 4 a (.bool true)<|K (.tuple #[])) (NF 4 a0 λc=>SF 1 c d<|SF 12 b e<|SF 6 b (I 1)<|SF 0 b (I 21)<|a [a0,b])) (BO .eql c (I 21) λd=>IF d (LF 11 b λc=>LF 6 b λd=>BO .add c d λc=>CA P 90 [a0,c] λc=>SF 14 b c<|SF 0 b (I 22)<|a [a0,b]) (BO .eql c (I 22) λd=>IF d (LF 12 b λc=>LF 6 b λd=>BO .add c d λc=>LF 14 b λd=>CA P 97 [a0,c,d] λc=>LF 6 b λc=>BO .add c (I 1) λc=>SF 6 b c<|SF 0 b (I 21)<|LF 6 b λc=>LF 13 b λd=>BO .eql c d λc=>IF c (SF 0 b (I 23)<|a [a0,b]) (a [a0,b])) (BO .eql c (I 23) λd=>IF d (LF 12 b λc=>LF 12 b λd=>CA P 97 [a0,c,d] λc=>SF 0 b (I 24)<|a [a0,b]) (BO .eql c (I 24) λc=>IF c (CUT [0,2] (λa=>LF 11 b λc=>FO 11 b λd=>L1 d λe=>CA P 90 [a0,c] λc=>BO .eql c e λc=>AND (L1 d λa=>EV a e)<|IF c (LF 11 b λc=>LF 12 b λd=>CA P 97 [a0,c,d] λc=>LF 12 b λc=>LF 13 b λd=>CA P 98 [a0,c,d] λc=>a [a0,b]) (a [a0,b])) λb=>SF 0 (b 2) (I 5)<|a [(b 0),(b 2)]) (a [a0,b])))))) λb=>a [(b 0),(b 2)]) λa=>LA 15 (a 2) λb=>NF 18 (a 0) λa=>ST 15 a b<|K (.tuple #[])
theorem Mm {a0:Value}:SG I9 [a0] (Hl a0):=SG.mk { at_:=[(1,[0,2]),(3,[0,2]),(25,[0,2])] } func109 (by kernel_rfl) λ_=>by kernel_rfl
def Hb (a0:Value) (K:Value→M):M:=
 NF 18 a0 λa=>LA 15 a λa=>AL 94 z94 λb=>ST 15 b a<|CUT [0,2] (λa=>LF 0 b λc=>CUT [0,2] (λa=>BO .eql c (I 6) λd=>IF d (CUT [0,2] (λa=>CUT [0,2] (λa=>LP [0,2] (λb c=>CUT [0,2,53] (λa=>CUT [0,2,22,34,35,36,38,43,44,45,46,48,49] (λa=>LF 4 (c 2) λb=>NF 4 (c 0) λd=>LF 1 d λd=>LN d λd=>BO .lss b d λb=>GT b true (NF 4 (c 0) λd=>LF 1 d λd=>LF 4 (c 2) λe=>IA 5 d e λd=>LF 0 d λd=>BO .eql d (I 4) λd=>GT d false (FO 5 (c 2) λe=>L1 e λf=>LF 4 (c 2) λg=>NF 4 (c 0) λh=>FO 1 h λh=>L1 h λi=>FO 4 (c 2) λj=>L1 j λk=>IA 5 i k λl=>FO 4 l λl=>L1 l λm=>a [(c 0),(c 2),b,d,e,f,g,h,i,j,k,l,m]) (a [(c 0),(c 2),b,d,U,U,U,U,U,U,U,U,U])) (a [(c 0),(c 2),b,U,U,U,U,U,U,U,U,U,U])) λb=>GT (b 34) false (CA P 25 [(b 38)] λc=>CUT [0,2,22,34,35,36,43,44,45,46,48,49,51] (λa=>GT (b 34) false (BO .add c (b 49) λc=>BO .geq (b 36) c λc=>a [(b 0),(b 2),(b 22),(b 34),(b 35),(b 36),(b 43),(b 44),(b 45),(b 46),(b 48),(b 49),c]) (a [(b 0),(b 2),(b 22),(b 34),(b 35),(b 36),(b 43),(b 44),(b 45),(b 46),(b 48),(b 49),U])) λb=>CUT [0,2,22,34,35,36,43,44,45,46,48,49,52] (λa=>GT (b 22) true (PO (b 34) (b 51) λc=>a [(b 0),(b 2),(b 22),(b 34),(b 35),(b 36),(b 43),(b 44),(b 45),(b 46),(b 48),(b 49),c]) (a [(b 0),(b 2),(b 22),(b 34),(b 35),(b 36),(b 43),(b 44),(b 45),(b 46),(b 48),(b 49),U])) λb=>PA (b 22) (b 52) λc=>AND (GT (b 34) false (L1 (b 35) λa=>EV a (b 36)) (EV U (b 36)))<|AND (GT (b 34) false (L1 (b 43) λa=>EV a (b 44)) (EV U (b 44)))<|AND (GT (b 34) false (L1 (b 45) λa=>EV a (b 46)) (EV U (b 46)))<|AND (GT (b 34) false (L1 (b 48) λa=>EV a (b 49)) (EV U (b 49)))<|a [(b 0),(b 2),c]) (CUT [0,2,22,34,35,36,43,44,45,46,48,49,51] (λa=>GT (b 34) false (BO .add U (b 49) λc=>BO .geq (b 36) c λc=>a [(b 0),(b 2),(b 22),(b 34),(b 35),(b 36),(b 43),(b 44),(b 45),(b 46),(b 48),(b 49),c]) (a [(b 0),(b 2),(b 22),(b 34),(b 35),(b 36),(b 43),(b 44),(b 45),(b 46),(b 48),(b 49),U])) λb=>CUT [0,2,22,34,35,36,43,44,45,46,48,49,52] (λa=>GT (b 22) true (PO (b 34) (b 51) λc=>a [(b 0),(b 2),(b 22),(b 34),(b 35),(b 36),(b 43),(b 44),(b 45),(b 46),(b 48),(b 49),c]) (a [(b 0),(b 2),(b 22),(b 34),(b 35),(b 36),(b 43),(b 44),(b 45),(b 46),(b 48),(b 49),U])) λb=>PA (b 22) (b 52) λc=>AND (GT (b 34) false (L1 (b 35) λa=>EV a (b 36)) (EV U (b 36)))<|AND (GT (b 34) false (L1 (b 43) λa=>EV a (b 44)) (EV U (b 44)))<|AND (GT (b 34) false (L1 (b 45) λa=>EV a (b 46)) (EV U (b 46)))<|AND (GT (b 34) false (L1 (b 48) λa=>EV a (b 49)) (EV U (b 49)))<|a [(b 0),(b 2),c])) λc=>IF (c 53) (LF 4 (c 2) λa=>BO .add a (I 1) λa=>SF 4 (c 2) a<|LF 4 (c 2) λa=>BO .mul a (I 16) λa=>SF 5 (c 2) a<|b [(c 0),(c 2)]) (a [(c 0),(c 2)])) [a0,b]) λb=>a [(b 0),(b 2)]) λb=>LF 4 (b 2) λc=>NF 4 (b 0) λd=>LF 1 d λd=>LN d λd=>BO .eql c d λc=>IF c (NF 4 (b 0) λc=>SF 4 c (.bool true)<|SF 2 (b 2) (I 0)<|a [(b 0),(b 2)]) (LF 5 (b 2) λc=>SF 10 (b 2) c<|LF 5 (b 2) λc=>BO .add c (I 1) λc=>CA P 90 [(b 0),c] λc=>CA P 94 [c] λc=>EX 0 c λd=>EX 1 c λc=>AL 92 z92 λc=>ST 2 c d<|LA 2 c λc=>FO 7 (b 2) λd=>ST 2 d c<|FO 5 (b 2) λc=>L1 c λd=>FO 7 (b 2) λe=>LA 2 e λe=>CA P 70 [e] λe=>BO .add d e λe=>FO 5 (b 2) λf=>AND (L1 c λa=>EV a d)<|ST 1 f e<|SF 6 (b 2) (I 0)<|CUT [0,2,102,126] (λa=>FO 7 (b 2) λc=>LF 0 c λc=>BO .gtr c (I 0) λc=>GT c true (LF 10 (b 2) λd=>NF 4 (b 0) λe=>LF 1 e λe=>LF 4 (b 2) λf=>IA 5 e f λe=>LF 3 e λe=>BO .geq d e λd=>GT d false (NF 4 (b 0) λe=>LF 2 e λe=>LF 10 (b 2) λf=>IL 1 e f λe=>PO d e λd=>a [(b 0),(b 2),c,d]) (PO d U λd=>a [(b 0),(b 2),c,d])) (a [(b 0),(b 2),c,U])) λb=>PA (b 102) (b 126) λc=>IF c (SF 0 (b 2) (I 7)<|a [(b 0),(b 2)]) (a [(b 0),(b 2)]))) (BO .eql c (I 7) λd=>IF d (LF 10 b λc=>BO .add c (I 2) λc=>LF 6 b λd=>BO .add c d λc=>CA P 90 [a0,c] λc=>SF 9 b c<|LF 9 b λc=>CA P 88 [a0,c] λc=>IF c (SF 0 b (I 8)<|a [a0,b]) (LA 15 b λc=>CA P 125 [c] λc=>ST 15 b c<|a [a0,b])) (BO .eql c (I 8) λd=>IF d (LF 9 b λc=>CA P 90 [a0,c] λc=>SF 14 b c<|SF 0 b (I 9)<|LF 14 b λc=>LF 9 b λd=>BO .eql c d λc=>IF c (LA 15 b λc=>CA P 125 [c] λc=>ST 15 b c<|a [a0,b]) (a [a0,b])) (BO .eql c (I 9) λc=>IF c (CUT [0,2] (λa=>LF 10 b λc=>BO .add c (I 2) λc=>LF 6 b λd=>BO .add c d λc=>FO 9 b λd=>L1 d λe=>CA P 90 [a0,c] λc=>BO .eql c e λc=>AND (L1 d λa=>EV a e)<|IF c (LF 10 b λc=>BO .add c (I 2) λc=>LF 6 b λd=>BO .add c d λc=>LF 14 b λd=>CA P 97 [a0,c,d] λc=>a [a0,b]) (a [a0,b])) λb=>LA 15 (b 2) λc=>CA P 125 [c] λc=>ST 15 (b 2) c<|a [(b 0),(b 2)]) (a [a0,b]))))) λb=>a [(b 0),(b 2)]) λa=>LA 15 (a 2) λb=>NF 18 (a 0) λa=>ST 15 a b<|K (.tuple #[])
theorem NA {a0:Value}:SG IW [a0] (Hb a0):=SG.mk { at_:=[(1,[0,2]),(3,[0,2]),(5,[0,2]),(6,[0,2]),(7,[0,2]),(9,[0,2,53]),(30,[0,2])],dr:=[(3,[(0,[(36,[0,2,22,34,35,36,38,43,44,45,46,48,49])]),(67108864,[(2,[0,2,22,34,35,36,43,44,45,46,48,49,51]),(1,[0,2,22,34,35,36,43,44,45,46,48,49,52])])]),(14,[(0,[(29,[0,2,102,126])])])] } func110 (by kernel_rfl) λ_=>by kernel_rfl
def If (a0:Value) (K:Value→M):M:=
 LN a0 λa=>BO .quo a (I 16) λa=>CUT [3,11,13] (λb=>LN a0 λc=>BO .rem c (I 16) λc=>BO .eql c (I 0) λc=>GT c true (BO .geq a (I 2) λd=>b [a,c,d]) (b [a,c,U])) λa=>CUT [15,17] (λb=>PA (a 11) (a 13) λc=>GT c true (BO .leq (a 3) (I 12) λa=>b [c,a]) (b [c,U])) λa=>PA (a 15) (a 17) λa=>K a
theorem Mv {a0:Value}:SG IN [a0] (If a0):=SG.mk { rg:=[(2,[(7,[3,11,13]),(4,[15,17])])] } func111 (by kernel_rfl) λ_=>by kernel_rfl
def GY (a0:Value) (K:Value→M):M:=
 BO .lss a0 (I 0) λa=>IF a (K (I (-1))) (BO .quo a0 (I 16) λa=>K a)
theorem MD {a0:Value}:SG HE [a0] (GY a0):=SG.mk {} func112 (by kernel_rfl) λ_=>by kernel_rfl
def GS (a0:Value) (K:Value→M):M:=
 CUT [0,5,7] (λa=>BO .eql a0 (I 2) λb=>GT b false (BO .eql a0 (I 3) λc=>a [a0,b,c]) (a [a0,b,U])) λa=>CUT [0,9,11] (λb=>PO (a 5) (a 7) λc=>GT c false (BO .eql (a 0) (I 4) λd=>b [(a 0),c,d]) (b [(a 0),c,U])) λa=>CUT [0,13,15] (λb=>PO (a 9) (a 11) λc=>GT c false (BO .eql (a 0) (I 5) λd=>b [(a 0),c,d]) (b [(a 0),c,U])) λa=>CUT [17,19] (λb=>PO (a 13) (a 15) λc=>GT c false (BO .eql (a 0) (I 7) λa=>b [c,a]) (b [c,U])) λa=>PO (a 17) (a 19) λa=>K a
theorem Lx {a0:Value}:SG H6 [a0] (GS a0):=SG.mk { rg:=[(1,[(5,[0,5,7]),(4,[0,9,11]),(4,[0,13,15]),(4,[17,19])])] } func113 (by kernel_rfl) λ_=>by kernel_rfl
def GL (a0:Value) (K:Value→M):M:=
 AL 58 a0 λa=>CUT [4] (λb=>CUT [4] (λb=>LP [1,4,5] (λa c=>LF 1 (c 1) λd=>LN d λd=>BO .lss (c 5) d λd=>IF d (LF 0 (c 1) λb=>LF 1 (c 1) λd=>IA 5 d (c 5) λd=>LF 2 d λd=>CA P 126 [b,(c 5),d] λb=>EX 0 b λd=>EX 1 b λb=>NT b λb=>IF b (K (.tuple #[(.slice none 0 0),(.bool false)])) (AP 135 6 80 (cl HP) (c 4) d λb=>BO .add (c 5) (I 1) λd=>a [(c 1),b,d])) (b [(c 4)])) [a,(.slice none 0 0),(I 1)]) λa=>b [(a 4)]) λa=>K (.tuple #[(a 4),(.bool true)])
theorem MG {a0:Value}:SG Gj [a0] (GL a0):=SG.mk { at_:=[(2,[4]),(4,[4]),(5,[1,4,5])] } func114 (by kernel_rfl) λ_=>by kernel_rfl
def H8 (a0:Value) (K:Value→M):M:=
 CUT [3] (λa=>CUT [3] (λa=>LP [0,3,4] (λb c=>LN (c 0) λd=>BO .lss (c 4) d λd=>IF d (CUT [0,3,4] (λa=>CUT [0,3,4] (λa=>LN (c 3) λb=>IL 1 (c 0) (c 4) λd=>BS 3 1 (ZR 1 z3) [(0,1,d)] λd=>AP 3 1 8 (cl z3) (c 3) d λd=>CUT [0,3,4] (λa=>LP [0,3,4,5] (λb c=>CUT [0,3,4,5,24,34] (λa=>BO .gtr (c 5) (I 0) λb=>GT b true (BO .sub (c 5) (I 1) λd=>IL 1 (c 3) d λd=>IL 1 (c 3) (c 5) λe=>BO .gtr d e λd=>a [(c 0),(c 3),(c 4),(c 5),b,d]) (a [(c 0),(c 3),(c 4),(c 5),b,U])) λc=>PA (c 24) (c 34) λd=>IF d (BO .sub (c 5) (I 1) λa=>IL 1 (c 3) a λa=>BO .sub (c 5) (I 1) λd=>IL 1 (c 3) (c 5) λe=>IA 1 (c 3) d λd=>ST 1 d e<|IA 1 (c 3) (c 5) λd=>ST 1 d a<|BO .sub (c 5) (I 1) λa=>b [(c 0),(c 3),(c 4),a]) (a [(c 0),(c 3),(c 4)])) [(c 0),d,(c 4),b]) λb=>a [(b 0),(b 3),(b 4)]) λb=>a [(b 0),(b 3),(b 4)]) λa=>BO .add (a 4) (I 1) λc=>b [(a 0),(a 3),c]) (a [(c 3)])) [a0,(.slice none 0 0),(I 0)]) λb=>a [(b 3)]) λa=>K (a 3)
theorem Lw {a0:Value}:SG GP [a0] (H8 a0):=SG.mk { at_:=[(2,[3]),(4,[3]),(5,[0,3,4]),(8,[0,3,4]),(9,[0,3,4]),(12,[0,3,4]),(13,[0,3,4,5])],dr:=[(7,[(0,[(13,[0,3,4,5,24,34])])])] } func115 (by kernel_rfl) λ_=>by kernel_rfl
def Fp (a0 a1:Value) (K:Value→M):M:=
 AL 58 a0 λa=>CUT [1,2,5] (λb=>CUT [1,2,5] (λb=>LP [1,2,5,6] (λa c=>LF 8 (c 2) λd=>LN d λd=>BO .lss (c 6) d λd=>IF d (CUT [1,2,5,6] (λa=>CUT [1,2,5,6] (λa=>CUT [1,2,5,6] (λa=>LP [1,2,5,6,7] (λb c=>LF 8 (c 2) λd=>IA 4 d (c 6) λd=>LF 0 d λd=>LN d λd=>BO .lss (c 7) d λd=>IF d (CUT [1,2,5,6,7] (λa=>CUT [1,2,5,6,7] (λa=>LF 8 (c 2) λb=>IA 4 b (c 6) λb=>LF 0 b λb=>IL 1 b (c 7) λb=>CA P 121 [(c 1),b] λb=>CUT [1,2,5,6,7,8,45,49] (λa=>BO .neq b (I 0) λd=>GT d true (CA P 120 [(c 5),b] λe=>BO .lss e (I 0) λe=>a [(c 1),(c 2),(c 5),(c 6),(c 7),b,d,e]) (a [(c 1),(c 2),(c 5),(c 6),(c 7),b,d,U])) λb=>PA (b 45) (b 49) λc=>IF c (BS 3 1 (ZR 1 z3) [(0,1,(b 8))] λc=>AP 3 1 8 (cl z3) (b 5) c λc=>a [(b 1),(b 2),c,(b 6),(b 7)]) (a [(b 1),(b 2),(b 5),(b 6),(b 7)])) λb=>a [(b 1),(b 2),(b 5),(b 6),(b 7)]) λa=>BO .add (a 7) (I 1) λc=>b [(a 1),(a 2),(a 5),(a 6),c]) (a [(c 1),(c 2),(c 5),(c 6)])) [(c 1),(c 2),(c 5),(c 6),(I 0)]) λb=>a [(b 1),(b 2),(b 5),(b 6)]) λb=>a [(b 1),(b 2),(b 5),(b 6)]) λb=>BO .add (b 6) (I 1) λc=>a [(b 1),(b 2),(b 5),c]) (b [(c 1),(c 2),(c 5)])) [a1,a,(.slice none 0 0),(I 0)]) λa=>b [(a 1),(a 2),(a 5)]) λa=>CUT [1,5] (λb=>CUT [1,5] (λb=>LP [1,2,5,9] (λa c=>LF 10 (c 2) λd=>LN d λd=>BO .lss (c 9) d λd=>IF d (LF 10 (c 2) λb=>IL 1 b (c 9) λb=>CA P 127 [(c 5),b] λb=>BO .add (c 9) (I 1) λd=>a [(c 1),(c 2),b,d]) (b [(c 1),(c 5)])) [(a 1),(a 2),(a 5),(I 0)]) λa=>b [(a 1),(a 5)]) λa=>CUT [5] (λb=>CUT [5] (λb=>LP [1,5,10] (λa c=>LN (c 5) λd=>BO .lss (c 10) d λd=>IF d (CUT [1,5,10] (λa=>CUT [1,5,10] (λa=>IL 1 (c 5) (c 10) λb=>CA P 118 [(c 1),b] λb=>IA 6 (c 1) b λb=>LA 6 b λb=>AL 135 HP λd=>ST 6 d b<|CUT [1,5,10] (λa=>LP [1,5,10,11,12] (λb c=>LF 4 (c 11) λd=>LN d λd=>BO .lss (c 12) d λd=>IF d (CUT [1,5,10,11,12] (λa=>CUT [1,5,10,11,12] (λa=>LF 4 (c 11) λb=>IL 1 b (c 12) λb=>CA P 121 [(c 1),b] λb=>CUT [1,5,10,11,12,13,100,104] (λa=>BO .neq b (I 0) λd=>GT d true (CA P 120 [(c 5),b] λe=>BO .lss e (I 0) λe=>a [(c 1),(c 5),(c 10),(c 11),(c 12),b,d,e]) (a [(c 1),(c 5),(c 10),(c 11),(c 12),b,d,U])) λb=>PA (b 100) (b 104) λc=>IF c (BS 3 1 (ZR 1 z3) [(0,1,(b 13))] λc=>AP 3 1 8 (cl z3) (b 5) c λc=>a [(b 1),c,(b 10),(b 11),(b 12)]) (a [(b 1),(b 5),(b 10),(b 11),(b 12)])) λb=>a [(b 1),(b 5),(b 10),(b 11),(b 12)]) λa=>BO .add (a 12) (I 1) λc=>b [(a 1),(a 5),(a 10),(a 11),c]) (a [(c 1),(c 5),(c 10)])) [(c 1),(c 5),(c 10),d,(I 0)]) λb=>a [(b 1),(b 5),(b 10)]) λb=>a [(b 1),(b 5),(b 10)]) λb=>BO .add (b 10) (I 1) λc=>a [(b 1),(b 5),c]) (b [(c 5)])) [(a 1),(a 5),(I 0)]) λa=>b [(a 5)]) λa=>K (a 5)
theorem Ki {a0 a1:Value}:SG G4 [a0,a1] (Fp a0 a1):=SG.mk { at_:=[(2,[1,2,5]),(4,[1,2,5]),(5,[1,2,5,6]),(8,[1,2,5,6]),(9,[1,2,5,6]),(11,[1,2,5,6]),(12,[1,2,5,6,7]),(15,[1,2,5,6,7]),(16,[1,2,5,6,7]),(19,[1,5]),(21,[1,5]),(22,[1,2,5,9]),(27,[5]),(29,[5]),(30,[1,5,10]),(33,[1,5,10]),(34,[1,5,10]),(37,[1,5,10]),(38,[1,5,10,11,12]),(41,[1,5,10,11,12]),(42,[1,5,10,11,12])],rg:=[(9,[(7,[1,2,5,6,7,8,45,49])]),(23,[(7,[1,5,10,11,12,13,100,104])])] } func116 (by kernel_rfl) λ_=>by kernel_rfl
def KG (a0 a1 a2 a3:Value) (K:Value→M):M:=
 AL 58 a0 λa=>LP [1,2,3,4,8] (λa b=>LN (b 1) λc=>BO .lss (b 8) c λc=>IF c (CUT [1,2,3,4,8] (λa=>CUT [1,2,3,4,8] (λa=>IA 6 (b 1) (b 8) λc=>LF 0 c λc=>CA P 112 [c] λc=>LA 13 (b 4) λd=>CA P 119 [d,c] λd=>IF d (IA 6 (b 1) (b 8) λd=>LF 0 d λd=>IA 6 (b 1) (b 8) λe=>LF 0 e λe=>IA 1 (b 2) d λd=>ST 1 d e<|IA 6 (b 1) (b 8) λd=>FO 0 d λd=>L1 d λe=>BO .add e (I 1) λf=>IA 6 (b 1) (b 8) λg=>FO 2 g λg=>LA 2 g λg=>CA P 81 [g] λg=>IA 1 (b 2) f λf=>AND (L1 d λa=>EV a e)<|ST 1 f g<|CUT [1,2,3,4,8,9] (λa=>CUT [1,2,3,4,8,9] (λa=>LP [1,2,3,4,8,9,10] (λb c=>IA 6 (c 1) (c 8) λd=>LF 5 d λd=>LN d λd=>BO .lss (c 10) d λd=>IF d (IA 6 (c 1) (c 8) λa=>LF 0 a λa=>BO .add a (I 2) λa=>IA 6 (c 1) (c 8) λd=>LF 4 d λd=>LN d λd=>BO .add a d λa=>BO .add a (c 10) λa=>IA 6 (c 1) (c 8) λd=>LF 5 d λd=>IL 1 d (c 10) λd=>IA 1 (c 2) a λa=>ST 1 a d<|BO .add (c 10) (I 1) λa=>b [(c 1),(c 2),(c 3),(c 4),(c 8),(c 9),a]) (a [(c 1),(c 2),(c 3),(c 4),(c 8),(c 9)])) [(b 1),(b 2),(b 3),(b 4),(b 8),c,(I 0)]) λb=>a [(b 1),(b 2),(b 3),(b 4),(b 8),(b 9)]) λb=>LF 1 (b 4) λc=>IA 5 c (b 9) λc=>LF 2 c λc=>LF 1 (b 4) λd=>IA 5 d (b 9) λd=>LF 2 d λd=>BD (cl z29) [(0,1,(I 3)),(1,1,(I (-1))),(2,1,c),(3,1,d)] λc=>IA 5 (b 3) (b 9) λd=>ST 5 d c<|a [(b 1),(b 2),(b 3),(b 4),(b 8)]) (a [(b 1),(b 2),(b 3),(b 4),(b 8)])) λb=>a [(b 1),(b 2),(b 3),(b 4),(b 8)]) λb=>BO .add (b 8) (I 1) λc=>a [(b 1),(b 2),(b 3),(b 4),c]) (K (.tuple #[]))) [a1,a2,a3,a,(I 0)]
theorem O5 {a0 a1 a2 a3:Value}:SG Jw [a0,a1,a2,a3] (KG a0 a1 a2 a3):=SG.mk { at_:=[(3,[1,2,3,4,8]),(6,[1,2,3,4,8]),(7,[1,2,3,4,8]),(12,[1,2,3,4,8,9]),(14,[1,2,3,4,8,9]),(15,[1,2,3,4,8,9,10])] } func117 (by kernel_rfl) λ_=>by kernel_rfl
def It (a0 a1:Value) (K:Value→M):M:=
 LP [0,1,5] (λa b=>LN (b 0) λc=>BO .lss (b 5) c λc=>IF c (IA 6 (b 0) (b 5) λc=>LF 0 c λc=>BO .eql c (b 1) λc=>IF c (K (b 5)) (BO .add (b 5) (I 1) λc=>a [(b 0),(b 1),c])) (K (I (-1)))) [a0,a1,(I 0)]
theorem Oc {a0 a1:Value}:SG JR [a0,a1] (It a0 a1):=SG.mk { at_:=[(4,[0,1,5])] } func118 (by kernel_rfl) λ_=>by kernel_rfl
def JU (a0 a1:Value) (K:Value→M):M:=
 AL 58 a0 λa=>LP [1,2,5] (λa b=>LF 10 (b 2) λc=>LN c λc=>BO .lss (b 5) c λc=>IF c (LF 10 (b 2) λc=>IL 1 c (b 5) λc=>CA P 112 [c] λc=>BO .eql c (b 1) λc=>IF c (K (.bool true)) (BO .add (b 5) (I 1) λc=>a [(b 1),(b 2),c])) (K (.bool false))) [a1,a,(I 0)]
theorem Oz {a0 a1:Value}:SG Is [a0,a1] (JU a0 a1):=SG.mk { at_:=[(4,[1,2,5])] } func119 (by kernel_rfl) λ_=>by kernel_rfl
def IM (a0 a1:Value) (K:Value→M):M:=
 LP [0,1,5] (λa b=>LN (b 0) λc=>BO .lss (b 5) c λc=>IF c (IL 1 (b 0) (b 5) λc=>BO .eql c (b 1) λc=>IF c (K (b 5)) (BO .add (b 5) (I 1) λc=>a [(b 0),(b 1),c])) (K (I (-1)))) [a0,a1,(I 0)]
theorem NB {a0 a1:Value}:SG IU [a0,a1] (IM a0 a1):=SG.mk { at_:=[(4,[0,1,5])] } func120 (by kernel_rfl) λ_=>by kernel_rfl
def LR (a0 a1:Value) (K:Value→M):M:=
 BO .eql a1 (I 0) λa=>IF a (K (I 0)) (CA P 118 [a0,a1] λa=>IA 6 a0 a λa=>LF 1 a λa=>K a)
theorem Po {a0 a1:Value}:SG LG [a0,a1] (LR a0 a1):=SG.mk {} func121 (by kernel_rfl) λ_=>by kernel_rfl
def H7 (a0:Value) (K:Value→M):M:=
 NF 4 a0 λa=>LF 2 a λa=>LN a λa=>MS 4 1 1 (cl z4) a a λa=>NF 4 a0 λb=>SF 2 b a<|K (.tuple #[])
theorem Ld {a0:Value}:SG HH [a0] (H7 a0):=SG.mk {} func122 (by kernel_rfl) λ_=>by kernel_rfl
def FZ (a0 a1:Value) (K:Value→M):M:=
 CUT [0,1,10,12] (λa=>CA P 23 [a0] λb=>NT b λb=>GT b false (BO .lss a1 (I 1) λc=>a [a0,a1,b,c]) (a [a0,a1,b,U])) λa=>CUT [0,1,14,18] (λb=>PO (a 10) (a 12) λc=>GT c false (LN (a 0) λd=>BO .geq (a 1) d λd=>b [(a 0),(a 1),c,d]) (b [(a 0),(a 1),c,U])) λa=>CUT [0,1,20,26] (λb=>PO (a 14) (a 18) λc=>GT c false (IA 5 (a 0) (a 1) λd=>LF 0 d λd=>BO .eql d (I 1) λd=>b [(a 0),(a 1),c,d]) (b [(a 0),(a 1),c,U])) λa=>PO (a 20) (a 26) λb=>IF b (K (.tuple #[(.slice none 0 0),(.bool false)])) (CA P 26 [(a 0)] λb=>CA P 25 [(a 1)] λc=>CA P 25 [(a 1)] λd=>BD (cl z29) [(0,1,(I 1)),(1,1,(I (-1))),(2,1,c),(3,1,d)] λc=>IA 5 b (a 1) λa=>ST 5 a c<|K (.tuple #[b,(.bool true)]))
theorem Ko {a0 a1:Value}:SG Fy [a0,a1] (FZ a0 a1):=SG.mk { rg:=[(1,[(6,[0,1,10,12]),(6,[0,1,14,18]),(8,[0,1,20,26])])] } func123 (by kernel_rfl) λ_=>by kernel_rfl
def JF (a0:Value) (K:Value→M):M:=
 CA P 122 [a0] λa=>NF 4 a0 λa=>SF 3 a (I 0)<|NF 18 a0 λa=>LF 1 a λa=>BD (cl z94) [(1,1,a)] λa=>NF 18 a0 λb=>ST 15 b a<|NF 4 a0 λa=>LF 11 a λa=>BO .add a (I 1) λa=>NF 4 a0 λb=>SF 11 b a<|LP [0,2] (λa b=>NF 4 (b 0) λc=>LF 1 c λc=>LN c λc=>BO .lss (b 2) c λc=>IF c (NF 4 (b 0) λc=>LF 1 c λc=>IA 5 c (b 2) λc=>LA 5 c λc=>AL 29 z29 λd=>ST 5 d c<|SF 4 d (I 0)<|NF 4 (b 0) λc=>LF 1 c λc=>LA 5 d λd=>IA 5 c (b 2) λc=>ST 5 c d<|BO .add (b 2) (I 1) λc=>a [(b 0),c]) (K (.tuple #[]))) [a0,(I 1)]
theorem OL {a0:Value}:SG J4 [a0] (JF a0):=SG.mk { at_:=[(6,[0,2])] } func124 (by kernel_rfl) λ_=>by kernel_rfl
def K9 (a0:Value) (K:Value→M):M:=
 AL 94 a0 λa=>AL 94 z94 λb=>LF 6 a λc=>BO .add c (I 1) λc=>SF 6 a c<|SF 0 a (I 7)<|CUT [1,2] (λc=>LF 6 a λd=>FO 7 a λe=>LF 0 e λe=>BO .eql d e λd=>IF d (SF 0 a (I 6)<|c [a,b]) (c [a,b])) λa=>LA 15 (a 1) λb=>ST 15 (a 2) b<|LA 15 (a 2) λa=>K a
theorem Oi {a0:Value}:SG JP [a0] (K9 a0):=SG.mk { at_:=[(3,[1,2])] } func125 (by kernel_rfl) λ_=>by kernel_rfl
def HL (a0 a1 a2:Value) (K:Value→M):M:=
 CUT [0,1,2,15,17] (λa=>CA P 111 [a0] λb=>NT b λb=>GT b false (BO .lss a1 (I 1) λc=>a [a0,a1,a2,b,c]) (a [a0,a1,a2,b,U])) λa=>CUT [0,1,2,19,24] (λb=>PO (a 15) (a 17) λc=>GT c false (LN (a 0) λd=>BO .quo d (I 16) λd=>BO .geq (a 1) d λd=>b [(a 0),(a 1),(a 2),c,d]) (b [(a 0),(a 1),(a 2),c,U])) λa=>CUT [0,1,2,26,30] (λb=>PO (a 19) (a 24) λc=>GT c false (CA P 25 [(a 1)] λd=>BO .lss (a 2) d λd=>b [(a 0),(a 1),(a 2),c,d]) (b [(a 0),(a 1),(a 2),c,U])) λa=>CUT [0,1,2,32,37] (λb=>PO (a 26) (a 30) λc=>GT c false (CA P 25 [(a 1)] λd=>BO .add d (I 16) λd=>BO .gtr (a 2) d λd=>b [(a 0),(a 1),(a 2),c,d]) (b [(a 0),(a 1),(a 2),c,U])) λa=>PO (a 32) (a 37) λb=>IF b (K (.tuple #[(.slice none 0 0),(.bool false)])) (CA P 25 [(a 1)] λb=>CUT [8] (λc=>CUT [8] (λc=>LP [0,2,8,9] (λa b=>BO .lss (b 9) (b 2) λd=>IF d (CA P 128 [(b 0),(b 9)] λc=>EX 0 c λd=>EX 1 c λc=>AL 135 HP λe=>ST 6 e d<|CUT [0,2,8,9,10,52,59] (λa=>NT c λc=>GT c false (FO 2 e λd=>LA 2 d λd=>CA P 70 [d] λd=>BO .add (b 9) d λd=>BO .gtr d (b 2) λd=>a [(b 0),(b 2),(b 8),(b 9),e,c,d]) (a [(b 0),(b 2),(b 8),(b 9),e,c,U])) λb=>PO (b 52) (b 59) λc=>IF c (K (.tuple #[(.slice none 0 0),(.bool false)])) (LA 6 (b 10) λc=>BS 135 1 (ZR 1 HP) [(0,6,c)] λc=>AP 135 6 80 (cl HP) (b 8) c λc=>FO 2 (b 10) λd=>LA 2 d λd=>CA P 70 [d] λd=>BO .add (b 9) d λd=>a [(b 0),(b 2),c,d])) (c [(b 8)])) [(a 0),(a 2),(.slice none 0 0),b]) λa=>c [(a 8)]) λa=>K (.tuple #[(a 8),(.bool true)]))
theorem Lc {a0 a1 a2:Value}:SG GV [a0,a1,a2] (HL a0 a1 a2):=SG.mk { at_:=[(6,[8]),(7,[8]),(8,[0,2,8,9])],rg:=[(1,[(6,[0,1,2,15,17]),(7,[0,1,2,19,24]),(6,[0,1,2,26,30]),(7,[0,1,2,32,37])]),(7,[(10,[0,2,8,9,10,52,59])])] } func126 (by kernel_rfl) λ_=>by kernel_rfl
def LU (a0 a1:Value) (K:Value→M):M:=
 CUT [0,1,7,11] (λa=>BO .eql a1 (I 0) λb=>GT b false (CA P 120 [a0,a1] λc=>BO .geq c (I 0) λc=>a [a0,a1,b,c]) (a [a0,a1,b,U])) λa=>PO (a 7) (a 11) λb=>IF b (K (a 0)) (BS 3 1 (ZR 1 z3) [(0,1,(a 1))] λb=>AP 3 1 8 (cl z3) (a 0) b λa=>K a)
theorem QH {a0 a1:Value}:SG L7 [a0,a1] (LU a0 a1):=SG.mk { rg:=[(1,[(7,[0,1,7,11])])] } func127 (by kernel_rfl) λ_=>by kernel_rfl
def Hf (a0 a1:Value) (K:Value→M):M:=
 AL 135 HP λa=>CA P 80 [a0,a1,(I 2)] λb=>NT b λb=>IF b (BD (cl HP) [] λb=>ST 6 a b<|LA 6 a λa=>K (.tuple #[a,(.bool false)])) (BO .add a1 (I 1) λb=>IL 1 a0 b λb=>CA P 94 [b] λb=>EX 0 b λc=>EX 1 b λb=>AL 92 z92 λd=>ST 2 d c<|CUT [0,1,4,6,27,33] (λc=>NT b λb=>GT b false (LA 2 d λe=>CA P 70 [e] λe=>CA P 80 [a0,a1,e] λe=>NT e λe=>c [a0,a1,a,d,b,e]) (c [a0,a1,a,d,b,U])) λa=>PO (a 27) (a 33) λb=>IF b (BD (cl HP) [] λb=>ST 6 (a 4) b<|LA 6 (a 4) λa=>K (.tuple #[a,(.bool false)])) (IA 1 (a 0) (a 1) λb=>L1 b λc=>LA 2 (a 6) λd=>BD (cl HP) [(0,1,(a 1)),(1,1,c),(2,2,d)] λe=>AL 135 HP λf=>AND (L1 b λa=>EV a c)<|AND (LA 2 (a 6) λa=>EV a d)<|ST 6 f e<|CUT [0,1,4,6,8] (λb=>CUT [0,1,4,6,8] (λb=>LP [0,1,4,6,8,9] (λa c=>LF 0 (c 6) λd=>BO .lss (c 9) d λd=>IF d (FO 4 (c 8) λb=>L1 b λd=>BO .add (c 1) (I 2) λe=>BO .add e (c 9) λe=>IL 1 (c 0) e λe=>BS 3 1 (ZR 1 z3) [(0,1,e)] λe=>AND (L1 b λa=>EV a d)<|AP 3 1 8 (cl z3) d e λb=>SF 4 (c 8) b<|BO .add (c 9) (I 1) λb=>a [(c 0),(c 1),(c 4),(c 6),(c 8),b]) (b [(c 0),(c 1),(c 4),(c 6),(c 8)])) [(a 0),(a 1),(a 4),(a 6),f,(I 0)]) λa=>b [(a 0),(a 1),(a 4),(a 6),(a 8)]) λa=>CUT [4,8] (λb=>CUT [4,8] (λb=>LP [0,1,4,6,8,10] (λa c=>LF 1 (c 6) λd=>BO .lss (c 10) d λd=>IF d (FO 5 (c 8) λb=>L1 b λd=>BO .add (c 1) (I 2) λe=>LF 0 (c 6) λf=>BO .add e f λe=>BO .add e (c 10) λe=>IL 1 (c 0) e λe=>BS 3 1 (ZR 1 z3) [(0,1,e)] λe=>AND (L1 b λa=>EV a d)<|AP 3 1 8 (cl z3) d e λb=>SF 5 (c 8) b<|BO .add (c 10) (I 1) λb=>a [(c 0),(c 1),(c 4),(c 6),(c 8),b]) (b [(c 4),(c 8)])) [(a 0),(a 1),(a 4),(a 6),(a 8),(I 0)]) λa=>b [(a 4),(a 8)]) λa=>LA 6 (a 8) λb=>ST 6 (a 4) b<|LA 6 (a 4) λa=>K (.tuple #[a,(.bool true)])))
theorem Ms {a0 a1:Value}:SG Hs [a0,a1] (Hf a0 a1):=SG.mk { at_:=[(9,[0,1,4,6,8]),(11,[0,1,4,6,8]),(12,[0,1,4,6,8,9]),(17,[4,8]),(19,[4,8]),(20,[0,1,4,6,8,10])],rg:=[(4,[(9,[0,1,4,6,27,33])])] } func128 (by kernel_rfl) λ_=>by kernel_rfl
end Go.Lf
end
section
namespace Sm
def idx {α:Type} (l:List α) (i:Int):Option α:=if 0≤i then l[i.toNat]? else none
def AT {α:Type} (l:List α) (i:Int) (v:α):List α:=l.set i.toNat v
def CP (a b:Int):Option Int:=if -9223372036854775808≤a + b∧a + b < 9223372036854775808 then some (a + b) else none
structure Shp where
 refs:Int
 nums:Int
 deriving DecidableEq,Inhabited
structure Rg where
 kind:Int
 AK:Int
 top:Int
 Ah:Int
 AF:Int
 deriving DecidableEq,Inhabited
structure Op where
 kind:Int
 a:Int
 b:Int
 c:Int
 f:Int
 v:Int
 sh:Shp
 deriving DecidableEq,Inhabited
structure Thr where
 A7:List Int
 next:Int
 BC:Int
 pc:Int
 h:Int
 g:Int
 k:Int
 u:Int
 v:Int
 sh:Shp
 src:Int
 dst:Int
 size:Int
 i:Int
 word:Int
 ret:Int
 deriving DecidableEq,Inhabited
structure Col where
 pc:Int
 Ad:Bool
 want:Int
 AE:List Int
 r:Int
 p:Int
 i:Int
 sh:Shp
 v:Int
 f:Int
 src:Int
 dst:Int
 size:Int
 word:Int
 deriving DecidableEq,Inhabited
structure Ev where
 thread:Int
 next:Int
 ans:Int
 code:Int
 deriving DecidableEq,Inhabited
structure Cfg where
 A6:Int
 AB:Int
 AI:Int
 deriving DecidableEq,Inhabited
structure Am where
 at_:Int
 moved:Int
 sh:Shp
 refs:List Int
 nums:List Int
 deriving DecidableEq,Inhabited
structure Th where
 A7:List Int
 next:Int
 busy:Bool
 BC:Int
 deriving DecidableEq,Inhabited
structure CL where
 A5:List Int
 A0:List Rg
 AO:List Bool
 Aa:Int
 stop:Bool
 full:Bool
 Ad:Bool
 want:Int
 AB:List Th
 old:List Int
 AQ:List Int
 Ap:Int
 BQ:Int
 deriving DecidableEq,Inhabited
structure Sim where
 c:Cfg
 AU:List (List Op)
 A5:List Int
 A0:List Rg
 AO:List Bool
 Aa:Int
 stop:Bool
 full:Bool
 old:List Int
 AQ:List Int
 Ap:Int
 BQ:Int
 th:List Thr
 col:Col
 ev:List Ev
 used:Bool
 deriving DecidableEq,Inhabited
def By (n:Nat):Bool:=n % 16 == 0 && decide (2≤n / 16) && decide (n / 16≤12)
def AY (a:Int):Int:=if a < 0 then -1 else a / 16
def AG (r:Int):Int:=if r < 0∨12≤r then 0 else r * 16
def Aw (s:Shp):Bool:=decide (0≤s.refs) && decide (s.refs≤4) && decide (0≤s.nums) && decide (s.nums≤4)
def Ag (s:Shp):Int:=if Aw s then 16 * s.refs + s.nums else -1
def Pk:Shp:=⟨0,0⟩
def AJ (w:Int):Shp × Bool:=if 0≤w∧w / 16≤4∧w % 16≤4 then (⟨w / 16,w % 16⟩,true) else (Pk,false)
def AC (s:Shp):Int:=if Aw s then 2 + s.refs + s.nums else 0
def fits (n:Nat) (a size:Int):Bool:=By n && decide (0 < size) && decide (size≤16) && decide (16≤a) && decide (a < n) && AY a == AY (a + size - 1)
def put (w:List Int) (a:Int) (l:List Int):List Int:=w.take a.toNat ++ l ++ w.drop (a.toNat + l.length)
def Bx (w:List Int) (a:Int) (s:Shp):List Int × Bool:=
 if fits w.length a (AC s) then (put w a ([a,Ag s] ++ List.replicate (s.refs.toNat + s.nums.toNat) 0),true) else ([],false)
def DG:Am:=⟨0,0,Pk,[],[]⟩
def seg (w:List Int) (a n:Int):List Int:=(w.drop a.toNat).take n.toNat
def BY (w:List Int) (a:Int):Am × Bool:=
 if fits w.length a 2 then
  let s:=AJ (w.getD (a.toNat + 1) 0)
  if s.2 && fits w.length a (AC s.1) then (⟨a,w.getD a.toNat 0,s.1,seg w (a + 2) s.1.refs,seg w (a + 2 + s.1.refs) s.1.nums⟩,true) else (DG,false)
 else (DG,false)
def BK (w:List Int):Nat→Int→Int→Option (List Am)
 | 0,at_,top=>if at_ < top then none else some []
 | n + 1,at_,top=>if at_ < top then
   let t:=BY w at_
   if t.2 && decide (at_ + AC t.1.sh≤top) then (match BK w n (at_ + AC t.1.sh) top with | some l=>some (t.1 :: l) | none=>none) else none
  else some []
def Bv (w:List Int) (r top:Int):Option (List Am):=
 if By w.length && decide (1≤r) && decide (r < w.length / 16) && decide (AG r≤top) && decide (top≤AG r + 16) then BK w 16 (AG r) top else none
def DC (r:Int):Rg:=⟨1,-1,AG r,AG r,0⟩
def Cs:Rg:=⟨0,-1,0,0,0⟩
def AN (n:Int):List Rg:=if n < 2∨12 < n then [] else Cs :: (List.range (n.toNat - 1)).map λ(i:Nat)=>DC ((i:Int) + 1)
def Gs (r:Int) (x:Rg):Bool:=
 let b:=AG r
 decide (1≤x.kind) && decide (x.kind≤4) && decide (b≤x.top) && decide (x.top≤b + 16) && decide (b≤x.Ah) && decide (x.Ah≤x.top) && decide (0≤x.AF) && decide (x.AF≤x.top - b) &&
 (!(x.kind == 1) || x.top == b) && (x.kind == 2) == decide (0≤x.AK) && decide (-1≤x.AK) && decide (x.AK≤3)
def JI:Nat→List Rg→Bool
 | _,[]=>true
 | i,x :: r=>Gs i x && (decide (x.AK < 0) || r.all λy=>!(y.AK == x.AK)) && JI (i + 1) r
def Ay (t:List Rg):Bool:=match t with
 | []=>false
 | e :: r=>decide (1≤r.length) && decide (r.length≤11) && e == Cs && JI 1 r
def Bh (p:Rg→Bool):Nat→List Rg→Int
 | _,[]=>-1
 | i,x :: r=>if p x then i else Bh p (i + 1) r
def own (t:List Rg) (AK:Int):Int:=Bh (λx=>x.kind == 2 && x.AK == AK) 1 t.tail
def Bl (t:List Rg) (AK:Int):Option (List Rg × Int):=
 if Ay t && decide (0≤AK) && decide (AK≤3) && decide (own t AK < 0) then
  let i:=Bh (λx=>x.kind == 1) 1 t.tail
  if i < 0 then none else some (AT t i ⟨2,AK,AG i,AG i,0⟩,i)
 else none
def CG (t:List Rg) (r:Int):Option (List Rg):=
 if Ay t && decide (1≤r) then (match idx t r with
  | some x=>if x.kind == 2 then some (AT t r { x with kind:=3,AK:=-1 }) else none
  | none=>none) else none
def Be (t:List Rg) (r:Int):Option (List Rg):=
 if Ay t && decide (1≤r) then (match idx t r with
  | some x=>if x.kind == 1 then none else some (AT t r (DC r))
  | none=>none) else none
def BB (t:List Rg) (AK size:Int):Option (List Rg × Int):=
 if Ay t && decide (0≤AK) && decide (AK≤3) && decide (1≤size) && decide (size≤16) then
  let r:=own t AK
  match (if 0≤r then idx t r else none) with
  | some x=>if x.top + size≤AG r + 16 then some (t,x.top) else
    (match Bl ((CG t r).getD []) AK with | some (u,n)=>some (u,AG n) | none=>none)
  | none=>(match Bl t AK with | some (u,n)=>some (u,AG n) | none=>none)
 else none
def BU (held:List Int) (n:Int) (i:Nat) (x:Rg):Bool:=x.kind == 3 && x.top == x.Ah && x.AF == n && decide (x.AF < x.top - AG i) && !(held.contains (i:Int))
def BZ (held:List Int) (n:Int):Nat→List Rg→Int→Int × List Int
 | _,[],left=>(left,[])
 | i,x :: r,left=>if BU held n i x && decide (n≤left) then (let q:=BZ held n (i + 1) r (left - n);(q.1,(i:Int) :: q.2)) else BZ held n (i + 1) r left
def BM (t:List Rg) (held:List Int):Nat→Int→Int→List Int
 | 0,_,_=>[]
 | k + 1,n,left=>let q:=BZ held n 1 t.tail left;q.2 ++ BM t held k (n + 1) q.1
def C8 (held:List Int):Nat→List Rg→List Int
 | _,[]=>[]
 | i,x :: r=>if BU held 0 i x then (i:Int) :: C8 held (i + 1) r else C8 held (i + 1) r
def AX (t:List Rg) (AI:Int) (held:List Int):List Int × List Int:=
 if Ay t then (BM t held 16 1 AI,C8 held 1 t.tail) else ([],[])
def OX (o:Op):Bool:=decide (1≤o.kind) && decide (o.kind≤11) && (!(o.kind == 1) || Aw o.sh)
def DP (k:Int):Bool:=k == 2 || k == 3 || k == 4 || k == 5 || k == 7
def hnd (n:Nat) (a:Int):Bool:=decide (0≤a) && decide (a < n)
def Ct (o:Op) (A7:List Int) (none_:Int):Int:=
 let n:=A7.length
 let a:=o.kind == 1 || (if o.kind == 8 then decide (0 < n) else hnd n o.a)
 let b:=o.kind == 1 || o.kind == 8 || o.kind == 2 || o.kind == 4 || o.kind == 5 || o.kind == 9 || o.kind == 10 || o.kind == 11 || hnd n o.b
 let c:=!(o.kind == 7) && (decide (1≤o.kind) && decide (o.kind≤11)) || hnd n o.c
 if !a || !b || !c then 2
 else if (DP o.kind || o.kind == 10 || o.kind == 11) && (idx A7 o.a).getD 0 == none_ then 3
 else if (o.kind == 1 || o.kind == 2 || o.kind == 9) && n == 8 then 5
 else 0
def FM (o:Op) (refs nums:Int):Bool:=if o.kind == 4 || o.kind == 5 then decide (0≤o.f) && decide (o.f < nums) else decide (0≤o.f) && decide (o.f < refs)
def DF (l:List Int) (a:Int):Nat→Option Nat
 | 0=>none
 | n + 1=>if l[n]? = some a then some n else DF l a n
def Ed (AQ:List Int) (kind a:Int):Option (List Int):=
 if kind == 10 then (if AQ.length = 8 then none else some (AQ ++ [a]))
 else match DF AQ a AQ.length with | some i=>some (AQ.take i ++ AQ.drop (i + 1)) | none=>none
def one (b:Bool):Int:=if b then 1 else 0
def thr0 (A7:List Int) (next BC:Int):Thr:=⟨A7,next,BC,0,0,0,0,0,0,Pk,0,0,0,0,0,0⟩
def CB (Ad:Bool) (want:Int):Col:=⟨0,Ad,want,[],0,0,0,Pk,0,0,0,0,0,0⟩
def Sim.read (S:Sim) (a:Int):Option (Int × Sim):=match idx S.A5 a with | some v=>some (v,{ S with used:=true }) | none=>none
def Sim.write (S:Sim) (a v:Int):Option Sim:=if 0≤a∧a < S.A5.length then some { S with used:=true,A5:=AT S.A5 a v } else none
def Sim.from_ (S:Sim) (a:Int):Option Bool:=if a = 0 then some false else match idx S.A0 (AY a) with | some x=>some (x.kind == 4) | none=>none
def Sim.setT (S:Sim) (i:Int) (t:Thr):Sim:={ S with th:=AT S.th i t }
def Sim.sz (S:Sim):Bool:=decide (S.ev.length < 1000000) && decide (S.old.length < 1000000) && decide (S.col.AE.length < 1000000) && decide (S.AQ.length < 1000000) && S.th.all λt=>decide (t.A7.length < 1000000)
def Sim.event (S:Sim) (i ans code:Int):Option Sim:=if !S.sz then none else match idx S.th i with
 | some t=>(match CP t.next 1 with
  | some n=>some { S with ev:=S.ev ++ [⟨i,t.next,ans,code⟩],th:=AT S.th i (thr0 t.A7 n 0) }
  | none=>none)
 | none=>none
def Sim.push (S:Sim) (i a:Int):Option Sim:=if !S.sz then none else match idx S.th i with
 | some t=>(S.setT i { t with A7:=t.A7 ++ [a] }).event i 0 0
 | none=>none
def Sim.back (S:Sim) (i:Int):Option Sim:=match idx S.th i with
 | some t=>some { S.setT i (thr0 t.A7 t.next 1) with full:=true,stop:=true }
 | none=>none
def Sim.opOf (S:Sim) (i:Int) (t:Thr):Option Op:=match idx S.AU i with | some p=>idx p t.next | none=>none
def Sim.begin_ (S:Sim) (i:Int):Option Sim:=do
 let t ← idx S.th i
 let o ← S.opOf i t
 if !OX o then S.event i 0 1 else
 let code:=Ct o t.A7 0
 if code≠0 then S.event i 0 code else
 if o.kind = 8 then (S.setT i { t with A7:=t.A7.take (t.A7.length - 1) }).event i 0 0 else
 if o.kind = 9 then S.push i (← idx t.A7 o.a) else
 if o.kind = 1 then some (S.setT i { t with pc:=30 }) else
 let t:={ t with pc:=1,h:=← idx t.A7 o.a }
 let t ← (if o.kind = 3∨o.kind = 6∨o.kind = 7 then (do some { t with g:=← idx t.A7 o.b }) else some t)
 let t ← (if o.kind = 7 then (do some { t with k:=← idx t.A7 o.c }) else some t)
 some (S.setT i t)
def DO (pc:Int):Int:=if pc = 11 then 12 else if pc = 15 then 16 else pc + 1
def BX (t:Thr) (pc:Int):Int:=if pc = 1 then t.h else if pc = 2 then t.g else if pc = 3 then t.k else t.v
def BN (t:Thr) (pc a:Int):Thr:=
 { (if pc = 1 then { t with h:=a } else if pc = 2 then { t with g:=a } else if pc = 3 then { t with k:=a } else { t with v:=a }) with pc:=DO pc }
def Sim.resolve (S:Sim) (i:Int):Option Sim:=do
 let t ← idx S.th i
 if ¬ (0≤t.pc∧t.pc≤100) then none else
 let a:=BX t t.pc
 if !(← S.from_ a) then some (S.setT i { t with pc:=DO t.pc }) else
 let (f,S) ← S.read a
 if f = a∧S.Aa = 2 then some (S.setT i { t with src:=a,ret:=t.pc,pc:=20 })
 else some (S.setT i (BN t t.pc f))
def Sim.top (S:Sim) (a size:Int):Option Sim:=match idx S.A0 (AY a) with
 | some x=>(match CP a size with
  | some n=>some { S with A0:=AT S.A0 (AY a) { x with top:=n } }
  | none=>none)
 | none=>none
def Sim.copying (S:Sim) (i:Int):Option Sim:=do
 let t ← idx S.th i
 if t.pc = 20 then
  let (w,S) ← S.read (← CP t.src 1)
  let size:=AC (AJ w).1
  match BB S.A0 i size with
  | none=>S.back i
  | some (A0,dst)=>some ({ S with A0:=A0 }.setT i { t with size:=size,dst:=dst,i:=1,pc:=21 })
 else if t.pc = 21 then
  let (w,S) ← S.read (← CP t.src t.i)
  some (S.setT i { t with word:=w,pc:=22 })
 else if t.pc = 22 then
  let S ← S.write (← CP t.dst t.i) t.word
  let n ← CP t.i 1
  some (S.setT i { t with i:=n,pc:=if n = t.size then 23 else 21 })
 else if t.pc = 23 then
  let S ← S.write t.dst t.dst
  some (S.setT i { t with pc:=24 })
 else if t.pc = 24 then
  if ¬ (0≤t.ret∧t.ret≤100) then none else
  let (w,S) ← S.read t.src
  if w = t.src then
   let S ← S.write t.src t.dst
   let S ← S.top t.dst t.size
   some (S.setT i (BN t t.ret t.dst))
  else some (S.setT i (BN t t.ret w))
 else some (S.setT i t)
def Sim.making (S:Sim) (i:Int):Option Sim:=do
 let t ← idx S.th i
 let o ← S.opOf i t
 if t.pc = 30 then
  let size:=AC o.sh
  match BB S.A0 i size with
  | none=>if t.BC = 2 then S.event i 0 6 else S.back i
  | some (A0,dst)=>some ({ S with A0:=A0 }.setT i { t with size:=size,dst:=dst,i:=2,pc:=31 })
 else if t.pc = 31 then
  let S ← S.write t.dst t.dst
  some (S.setT i { t with pc:=32 })
 else
  let (S,t) ← (if t.pc = 32 then (do some (← S.write (← CP t.dst 1) (Ag o.sh),t))
   else if t.pc = 33 then (do some (← S.write (← CP t.dst t.i) 0,{ t with i:=← CP t.i 1 })) else some (S,t))
  let t:={ t with pc:=33 }
  let S:=S.setT i t
  if t.i = t.size then (do (← S.top t.dst t.size).push i t.dst) else some S
def Sim.oldV (S:Sim) (v:Int):Option Sim:=if !S.sz then none else some (if S.Aa = 1∧v≠0 then { S with old:=S.old ++ [v] } else S)
def Sim.load (S:Sim) (i v:Int):Option Sim:=do
 let t ← idx S.th i
 if t.pc = 12∧v = t.u then S.push i t.v else
 if !(← S.from_ v) then S.push i v else
 some (S.setT i { t with u:=v,v:=v,pc:=11 })
def Sim.swap (S:Sim) (i v:Int):Option Sim:=do
 let t ← idx S.th i
 if t.pc = 16∧v = t.u then S.event i 0 0 else
 let t:={ t with u:=v }
 if ← S.from_ v then some (S.setT i { t with v:=v,pc:=15 }) else
 if v≠t.g then S.event i 0 0 else
 some ((← S.oldV v).setT i { t with pc:=14 })
def Sim.shape (S:Sim) (i:Int):Option Sim:=do
 let t ← idx S.th i
 if !S.sz then none else
 let o ← S.opOf i t
 if o.kind = 6 then S.event i (one (t.h == t.g)) 0 else
 if o.kind = 10∨o.kind = 11 then (match Ed S.AQ o.kind t.h with
  | none=>S.event i 0 7
  | some AQ=>{ S with AQ:=AQ }.event i 0 0) else
 let (w,S) ← S.read (← CP t.h 1)
 let sh:=(AJ w).1
 if !FM o sh.refs sh.nums then S.event i 0 4 else
 let pc:=if o.kind = 2 then 5 else if o.kind = 3 then (if S.Aa = 1 then 6 else 7) else if o.kind = 4 then 8 else if o.kind = 5 then 9 else if o.kind = 7 then 10 else t.pc
 some (S.setT i { t with sh:=sh,pc:=pc })
def Sim.field (S:Sim) (i:Int):Option Sim:=do
 let t ← idx S.th i
 let o ← S.opOf i t
 let h ← CP t.h 2
 let ref ← CP h o.f
 let num ← CP (← CP h t.sh.refs) o.f
 if t.pc = 5∨t.pc = 12 then (do let (v,S) ← S.read ref;S.load i v)
 else if t.pc = 6 then (do let (v,S) ← S.read ref;some ((← S.oldV v).setT i { t with pc:=7 }))
 else if t.pc = 7 then (do let S ← S.write ref t.g;S.event i 0 0)
 else if t.pc = 8 then (do let S ← S.write num o.v;S.event i 0 0)
 else if t.pc = 9 then (do let (v,S) ← S.read num;S.event i v 0)
 else if t.pc = 10 then (do let (v,S) ← S.read ref;S.swap i v)
 else if t.pc = 14 then (do
  let (v,S) ← S.read ref
  if v = t.u then (do let S ← S.write ref t.k;S.event i 1 0) else some (S.setT i { t with pc:=10 }))
 else if t.pc = 16 then (if t.v = t.g then some (S.setT i { t with pc:=14 }) else (do let (v,S) ← S.read ref;S.swap i v))
 else some S
def Sim.tstep (S:Sim) (i:Int):Option Sim:=do
 let t ← idx S.th i
 if t.pc≤3∨t.pc = 11∨t.pc = 15 then S.resolve i
 else if t.pc = 4 then S.shape i
 else if 30≤t.pc then S.making i
 else if 20≤t.pc then S.copying i
 else S.field i
def Sim.tloop:Nat→Sim→Int→Option Sim
 | 0,_,_=>none
 | n + 1,S,i=>do
  let t ← idx S.th i
  if S.used∨t.pc = 0 then some S else (do Sim.tloop n (← S.tstep i) i)
def Sim.thread (n:Nat) (S:Sim) (i:Int):Option Sim:=do
 let t ← idx S.th i
 if t.pc = 0 then
  (if S.stop then some S else do
   let p ← idx S.AU i
   if t.next < p.length then S.begin_ i else some S)
 else Sim.tloop n { S with used:=false } i
end Sm
end
section
namespace Sm
def Sim.setC (S:Sim) (c:Col):Sim:={ S with col:=c }
def Sim.mark (S:Sim):Option Sim:=
 if !S.sz then none else
 let x:=S.col
 if x.AE.length = 0 then
  match S.old with
  | []=>some { S with stop:=true,col:={ x with want:=2 } }
  | a :: l=>some { S with old:=l,col:={ x with AE:=[a] } }
 else do
  let a ← x.AE.getLast?
  let x:={ x with AE:=x.AE.dropLast }
  let row ← idx S.A0 (AY a)
  if ← (if a < row.Ah then (do some (!(← idx S.AO a))) else some false) then
   let S:={ S with AO:=AT S.AO a true }
   let (w,S) ← S.read (← CP a 1)
   let sh:=(AJ w).1
   let AF ← CP row.AF (AC sh)
   some { S with A0:=AT S.A0 (AY a) { row with AF:=AF },col:={ x with p:=a,i:=0,sh:=sh,pc:=if 0 < sh.refs then 2 else x.pc } }
  else some (S.setC x)
def Sim.look (S:Sim):Option Sim:=do
 if !S.sz then none else
 let x:=S.col
 let (v,S) ← S.read (← CP (← CP x.p 2) x.i)
 let i ← CP x.i 1
 some (S.setC { x with AE:=if v≠0 then x.AE ++ [v] else x.AE,i:=i,pc:=if i = x.sh.refs then 1 else x.pc })
def HM (AO:List Bool) (row:Rg):Nat→Int→Option Int
 | 0,_=>none
 | n + 1,p=>if row.kind = 4∧p < row.top then (do if ← idx AO p then some p else HM AO row n (p + 1)) else some p
def Sim.walkOut (S:Sim):Nat→Int→Int→Option (Int × Int)
 | 0,_,_=>none
 | n + 1,r,p=>if r < S.A0.length then (do
   let row ← idx S.A0 r
   let p ← HM S.AO row 20 p
   if row.kind = 4∧p < row.top then some (r,p) else S.walkOut n (r + 1) ((r + 1) * 16))
  else some (r,p)
def Sim.walk (S:Sim):Option Sim:=do
 let x:=S.col
 let (r,p) ← S.walkOut (S.A0.length + 2) x.r x.p
 let x:={ x with r:=r,p:=p }
 if r = S.A0.length then some { S with stop:=true,col:={ x with want:=3 } } else
 let q ← CP p 1
 let x:={ x with p:=q }
 let (w,S) ← S.read p
 some (S.setC (if w = p then { x with src:=p,pc:=20 } else x))
def Sim.carry (S:Sim):Option Sim:=do
 let x:=S.col
 if x.pc = 20 then
  let (w,S) ← S.read (← CP x.src 1)
  let size:=AC (AJ w).1
  match BB S.A0 S.th.length size with
  | none=>some { S with full:=true,stop:=true }
  | some (A0,dst)=>some { S with A0:=A0,col:={ x with size:=size,dst:=dst,i:=1,pc:=21 } }
 else if x.pc = 21 then
  let (w,S) ← S.read (← CP x.src x.i)
  some (S.setC { x with word:=w,pc:=22 })
 else if x.pc = 22 then
  let S ← S.write (← CP x.dst x.i) x.word
  let n ← CP x.i 1
  some (S.setC { x with i:=n,pc:=if n = x.size then 23 else 21 })
 else if x.pc = 23 then
  let S ← S.write x.dst x.dst
  some (S.setC { x with pc:=24 })
 else if x.pc = 24 then
  let (w,S) ← S.read x.src
  let S ← (if w = x.src then (do (← S.write x.src x.dst).top x.dst x.size) else some S)
  some (S.setC { x with pc:=5 })
 else some S
def FA (x:Col):Option Col:=do
 let i ← CP x.i 1
 some { x with i:=i,pc:=if i = x.sh.refs then 6 else 7 }
def Sim.renewTo (S:Sim):Nat→Int→Int→Option (Int × Int)
 | 0,_,_=>none
 | n + 1,r,p=>if r < S.A0.length then (do
   let row ← idx S.A0 r
   if ← (if row.kind = 4 then some true else (do some (decide ((← CP (AG r) row.AF)≤p)))) then S.renewTo n (r + 1) ((r + 1) * 16) else some (r,p))
  else some (r,p)
def Sim.renew (S:Sim):Option Sim:=do
 let x:=S.col
 if x.pc = 6 then
  let (r,p) ← S.renewTo (S.A0.length + 2) x.r x.p
  let x:={ x with r:=r,p:=p }
  if r = S.A0.length then some { S with stop:=true,col:={ x with want:=0 } } else
  let (w,S) ← S.read (← CP p 1)
  let sh:=(AJ w).1
  let q ← CP p (AC sh)
  let x:={ x with f:=p,sh:=sh,p:=q,i:=0 }
  let row ← idx S.A0 r
  let go ← (if 0 < sh.refs then (if row.Ah≤p then some true else idx S.AO p) else some false)
  some (S.setC (if go then { x with pc:=7 } else x))
 else if x.pc = 7 then
  let (v,S) ← S.read (← CP (← CP x.f 2) x.i)
  let x:={ x with v:=v }
  if ← S.from_ v then some (S.setC { x with pc:=8 }) else some (S.setC (← FA x))
 else if x.pc = 8 then
  let (w,S) ← S.read x.v
  let x:={ x with word:=w,pc:=9 }
  if w = x.v then some (S.setC (← FA x)) else some (S.setC x)
 else if x.pc = 9 then
  let a ← CP (← CP x.f 2) x.i
  let (w,S) ← S.read a
  let S ← (if w = x.v then S.write a x.word else some S)
  some (S.setC (← FA x))
 else some S
def Sim.work (S:Sim):Option Sim:=
 if S.Aa = 1∧S.col.pc = 1 then S.mark
 else if S.Aa = 1 then S.look
 else if S.Aa = 2∧S.col.pc = 5 then S.walk
 else if S.Aa = 2 then S.carry
 else S.renew
def Sim.cloop:Nat→Sim→Option Sim
 | 0,_=>none
 | n + 1,S=>if !S.used && !S.stop then (do Sim.cloop n (← S.work)) else some S
def CC (w:List Int):Nat→List Rg→Option (List Am)
 | _,[]=>some []
 | r,x :: l=>match Bv w r x.top with
  | none=>none
  | some a=>match CC w (r + 1) l with | none=>none | some b=>some (a ++ b)
def C5 (s:CL):Option (List Am):=CC s.A5 1 s.A0.tail
def Fl (l:List Am) (a:Int):Option Am:=l.find? λt=>t.at_ == a
def now (l:List Am) (a:Int):Option Int:=if a = 0 then some 0 else (Fl l a).map Am.moved
def DS (had:List Int) (a:Int):List Int:=if a = 0∨a∈had then had else had ++ [a]
def Dl (l:List Am):List Int→List Int→Option (List Int)
 | [],acc=>some acc
 | x :: r,acc=>do Dl l r (DS acc (← now l x))
def Db (l:List Am):List Th→List Int→Option (List Int)
 | [],acc=>some acc
 | t :: r,acc=>do Db l r (← Dl l t.A7 acc)
def DL (l:List Am):Nat→Nat→List Int→Option (List Int)
 | 0,_,_=>none
 | n + 1,i,out=>match out[i]? with
  | none=>some out
  | some a=>do
   let t ← Fl l a
   DL l n (i + 1) (← Dl l t.refs out)
def Ec (s:CL) (l:List Am):Option (List Int):=do
 let out ← Db l s.AB []
 DL l (l.length + 2) 0 (s.AQ.foldl DS out)
def DI (l:List Int) (x:Int):Nat→Nat
 | 0=>0
 | k + 1=>if x < l.getD k 0 then DI l x k else k + 1
def Et (l:List Int) (x:Int):List Int:=let p:=DI l x l.length;l.take p ++ x :: l.drop p
def Cr (l:List Int):List Int:=l.foldl Et []
def Bt (AQ:List Int) (r:Int):Bool:=AQ.any λp=>AY p == r
def wr (w:List Int) (a v:Int):Option (List Int):=if 0≤a∧a < w.length then some (AT w a v) else none
def wrs:List Int→Int→List Int→Option (List Int)
 | w,_,[]=>some w
 | w,a,v :: l=>do wrs (← wr w a v) (a + 1) l
def stay (s:CL):List Am→List Int→List Rg→Option (List Int × List Rg)
 | [],w,t=>some (w,t)
 | x :: l,w,t=>
  let r:=AY x.at_
  if Bt s.AQ r then (do
   let w ← wr w x.at_ x.at_
   let w ← wr w (x.at_ + 1) (Ag x.sh)
   let w ← wrs w (x.at_ + 2 + x.refs.length) x.nums
   let row ← idx s.A0 r
   let _ ← idx t r
   stay s l w (AT t r ⟨3,-1,row.top,row.top,0⟩))
  else stay s l w t
def G5 (AQ:List Int) (t:List Rg) (size:Int):Nat→Int→Option Int
 | 0,_=>none
 | n + 1,r=>if Bt AQ r then G5 AQ t size n (r + 1) else (do
   let x ← idx t r
   if AG r + 16 < (← CP x.top size) then G5 AQ t size n (r + 1) else some r)
def slide (AQ:List Int) (l:List Am):List Int→List Rg→Int→List Int→Option (List Rg × List Int)
 | [],t,_,to=>some (t,to)
 | a :: rest,t,r,to=>do
  let x ← Fl l a
  let size:=AC x.sh
  if Bt AQ (AY a) then slide AQ l rest t r (to ++ [a]) else
  let r ← G5 AQ t size (t.length + 2) r
  let row ← idx t r
  let top ← CP row.top size
  slide AQ l rest (AT t r { row with kind:=3,top:=top,Ah:=top }) r (to ++ [row.top])
def Bf (l:List Int) (n:Int):Int:=if n∈l then (l.idxOf n:Nat) else -1
def Ft (l:List Am) (AF to:List Int):List Int→Int→List Int→Option (List Int)
 | w,_,[]=>some w
 | w,a,v :: r=>do
  let k:=Bf AF (← now l v)
  let w ← (if 0≤k then (do wr w a (← idx to k)) else some w)
  Ft l AF to w (a + 1) r
def Ez (l:List Am) (AF to:List Int):List Int→List Int→List Int→Option (List Int)
 | a :: la,d :: ld,w=>do
  let t ← Fl l a
  let w ← wr w d d
  let w ← wr w (d + 1) (Ag t.sh)
  let w ← Ft l AF to w (d + 2) t.refs
  let w ← wrs w (d + 2 + t.refs.length) t.nums
  Ez l AF to la ld w
 | _,_,w=>some w
def Cm (l:List Am) (AF to:List Int):List Int→Option (List Int)
 | []=>some []
 | a :: r=>do
  let k:=Bf AF (← now l a)
  let b ← (if k < 0 then some 0 else idx to k)
  some (b :: (← Cm l AF to r))
def DH (l:List Am) (AF to:List Int):List Th→Option (List Th)
 | []=>some []
 | t :: r=>do
  let A7 ← Cm l AF to t.A7
  some (⟨A7,t.next,false,if t.BC = 1 then 2 else t.BC⟩ :: (← DH l AF to r))
def Fm (s:CL):Option CL:=do
 let l:=(C5 s).getD []
 let AF:=Cr (← Ec s l)
 let (A5,A0) ← stay s l (List.replicate s.A5.length 0) (AN s.A0.length)
 let (A0,to) ← slide s.AQ l AF A0 1 []
 let A5 ← Ez l AF to AF to A5
 let ths ← DH l AF to s.AB
 let BQ ← CP s.BQ 1
 some ⟨A5,A0,List.replicate A5.length false,0,false,false,s.Ad,0,ths,[],s.AQ,s.Ap,BQ⟩
def Sim.view (S:Sim):CL:=
 ⟨S.A5,S.A0,S.AO,S.Aa,S.stop,S.full,S.col.Ad,S.col.want,S.th.map λt=>⟨t.A7,t.next,t.pc != 0,t.BC⟩,S.old,S.AQ,S.Ap,S.BQ⟩
def Sim.calm (S:Sim):Bool:=S.th.all λt=>t.pc == 0
def rows (f:Int→Rg→Rg) (t:List Rg):List Rg:=t.mapIdx λi x=>if i = 0 then x else f i x
def Sim.idle (S:Sim):Option Sim:=do
 let n ← CP S.Ap 1
 some { S with AO:=List.replicate S.AO.length false,Aa:=0,col:=CB S.col.Ad 0,Ap:=n,A0:=rows (λ_ x=>{ x with AF:=0 }) S.A0 }
def Sim.snapshot (S:Sim):Sim:=
 { S with AO:=List.replicate S.AO.length false,old:=[],Aa:=1,col:={ CB S.col.Ad S.col.want with pc:=1,AE:=(S.th.flatMap λt=>t.A7.filter (·≠0)) ++ S.AQ },A0:=rows (λ_ x=>{ x with Ah:=x.top,AF:=0 }) S.A0 }
def Sim.drain:Nat→Sim→Option Sim
 | 0,_=>none
 | n + 1,S=>if !S.sz then none else if 0 < S.col.AE.length∨0 < S.old.length∨S.col.pc = 2 then (do
   Sim.drain n (← if S.col.pc = 2 then S.look else S.mark))
  else some S
def Jl:List Int→List Rg→Option (List Rg)
 | [],t=>some t
 | r :: l,t=>do
  let x ← idx t r
  Jl l (AT t r { x with kind:=4 })
def Sim.choose (n:Nat) (S:Sim):Option Sim:=do
 let S ← Sim.drain n S
 let q:=AX S.A0 S.c.AI (S.AQ.map AY)
 let t:=q.2.foldl (λt r=>(Be t r).getD []) S.A0
 let t ← Jl q.1 t
 let S:={ S with stop:=false,A0:=t }
 if q.1.length = 0 then S.idle else
 some { S with Aa:=2,col:={ CB S.col.Ad S.col.want with pc:=5,r:=1,p:=16 } }
def Sim.rootsF (S:Sim):List Int→Option (List Int)
 | []=>some []
 | a :: r=>do
  let b ← (if ← S.from_ a then idx S.A5 a else some a)
  some (b :: (← S.rootsF r))
def Sim.thsF (S:Sim):List Thr→Option (List Thr)
 | []=>some []
 | t :: r=>do
  let A7 ← S.rootsF t.A7
  some ({ t with A7:=A7 } :: (← S.thsF r))
def CD:Nat→Nat→List Rg→List Rg
 | 0,_,t=>t
 | n + 1,i,t=>match t[i]? with
  | none=>t
  | some x=>CD n (i + 1) (if x.kind == 4 then (Be t i).getD [] else t)
def Sim.finish (S:Sim):Option Sim:=do
 let th ← S.thsF S.th
 Sim.idle { S with th:=th,A0:=CD S.A0.length 1 S.A0 }
def Sim.update (S:Sim):Option Sim:=do
 let _ ← (if S.A0.all (λx=>decide (-1000≤x.top) && decide (x.top≤1000)) then some () else none)
 some { S with Aa:=3,A0:=rows (λi x=>{ x with AF:=x.top - AG i }) S.A0,col:={ CB S.col.Ad S.col.want with pc:=6,r:=1,p:=16 } }
def Sim.pause (n:Nat) (S:Sim):Option Sim:=
 if !S.sz then none else
 if S.full then do
  let s ← Fm S.view
  some { S with A5:=s.A5,A0:=s.A0,AO:=s.AO,Aa:=s.Aa,stop:=s.stop,full:=s.full,old:=s.old,AQ:=s.AQ,Ap:=s.Ap,BQ:=s.BQ,col:=CB s.Ad 0,th:=s.AB.map λt=>thr0 t.A7 t.next t.BC }
 else
  let S:={ S with stop:=false }
  if S.col.want = 1 then some S.snapshot
  else if S.col.want = 2 then S.choose n
  else if S.col.want = 3 then S.update
  else S.finish
def Sim.collector (n:Nat) (S:Sim):Option Sim:=
 if S.stop then (if S.calm then S.pause n else some S)
 else if S.Aa = 0 then (if S.col.Ad then some { S with stop:=true,col:={ S.col with Ad:=false,want:=1 } } else some S)
 else Sim.cloop n { S with used:=false }
def Sim.fuel (S:Sim):Nat:=100 * (S.A5.length + S.old.length + S.col.AE.length) + 1000
def Sim.pick (S:Sim) (p:Int):Option Sim:=
 if 0≤p∧p < S.th.length then S.thread S.fuel p
 else if p = S.th.length then S.collector S.fuel
 else if p = S.th.length + 1 then some { S with col:={ S.col with Ad:=true } }
 else some S
def Sim.picks:List Int→Sim→Option Sim
 | [],S=>some S
 | p :: l,S=>do Sim.picks l (← S.pick p)
def BJ (c:Cfg):Bool:=decide (3≤c.A6) && decide (c.A6≤12) && decide (1≤c.AB) && decide (c.AB≤3) && decide (0≤c.AI) && decide (c.AI≤100)
def Bi:Shp:=⟨4,2⟩
def start (c:Cfg) (AU:List (List Op)):Sim:=
 ⟨c,AU,(Bx (List.replicate (c.A6.toNat * 16) 0) 16 Bi).1,AT (AN c.A6) 1 ⟨3,-1,24,24,0⟩,List.replicate (c.A6.toNat * 16) false,
  0,false,false,[],[],0,0,List.replicate c.AB.toNat (thr0 [16] 0 0),CB false 0,[],false⟩
def CK (c:Cfg) (AU:List (List Op)) (picks:List Int):Bool:=
 BJ c && decide ((AU.length:Int) = c.AB) && decide (picks.length≤4000) && AU.all λp=>decide (p.length≤40)
end Sm
end
section
namespace Go.Lf
open Go Sm
def AW {α:Type} (f:α→List Value) (l:List α):List Value:=(l.map f).flatten
@[reducible] def eRg (x:Rg):List Value:=[I x.kind,I x.AK,I x.top,I x.Ah,I x.AF]
@[reducible] def eOp (o:Sm.Op):List Value:=[I o.kind,I o.a,I o.b,I o.c,I o.f,I o.v,I o.sh.refs,I o.sh.nums]
def Ab (t:Thr) (rv:Value):List Value:=[rv,I t.next,I t.BC,I t.pc,I t.h,I t.g,I t.k,I t.u,I t.v,I t.sh.refs,I t.sh.nums,I t.src,I t.dst,I t.size,I t.i,I t.word,I t.ret]
@[reducible] def eEv (e:Ev):List Value:=[I e.thread,I e.next,I e.ans,I e.code]
def Fz (R:RM) (v:Value) (w n:Nat) (cells:List Value):Prop:=
 (v = .slice none 0 0∧n = 0∧cells = [])∨∃b o cap t cs,v = .slice (some ⟨b,o,none⟩) n cap∧R b = some (C t cs)∧o + n * w≤cs.length∧(cs.drop o).take (n * w) = cells∧n≤cap
theorem Fz.le {R R' : RM} {v:Value} {w n:Nat} {cells:List Value} (h:R.le R') (H:Fz R v w n cells):Fz R' v w n cells:=by
 rcases H with H | ⟨b,o,cap,t,cs,h1,h2,h3,h4,h5⟩
 ·exact .inl H
 ·exact .inr ⟨b,o,cap,t,cs,h1,h _ _ h2,h3,h4,h5⟩
def B9 (R:RM) (v:Value) (l:List Int):Prop:=Fz R v 1 l.length (l.map I)
def Ops (R:RM) (v:Value) (l:List Sm.Op):Prop:=Fz R v 8 l.length (AW eOp l)
def Dg (R:RM) (v:Value) (l:List (List Sm.Op)):Prop:=∃vs,Fz R v 1 l.length vs∧vs.length = l.length∧∀i (h:i < l.length),∃x,vs[i]? = some x∧Ops R x (l[i])
structure Img where
 AU:Value
 wb:Nat
 wc:Nat
 wsp:List Value
 tb:Nat
 tc:Nat
 tsp:List Value
 mb:Nat
 mc:Nat
 msp:List Value
 Ad:Value
 want:Value
 AB:Value
 old:Value
 AQ:Value
 hb:Nat
 hc:Nat
 hsp:List Value
 rv:List Value
 AE:Value
 ev:Option (Nat × Nat)
 esp:List Value
def evV (S:Sim) (g:Img):Value:=match g.ev with | none=>.slice none 0 0 | some (b,c)=>.slice (some ⟨b,0,none⟩) S.ev.length c
def evD (S:Sim) (g:Img):Chs:=match g.ev with | none=>[] | some (b,_)=>[(b,C DN (AW eEv S.ev ++ g.esp))]
def Af (x:Col) (sv:Value):List Value:=[I x.pc,.bool x.Ad,I x.want,sv,I x.r,I x.p,I x.i,I x.sh.refs,I x.sh.nums,I x.v,I x.f,I x.src,I x.dst,I x.size,I x.word]
def Bg (S:Sim) (g:Img):List Value:=
 I S.c.A6 :: I S.c.AB :: I S.c.AI :: g.AU :: .slice (some ⟨g.wb,0,none⟩) S.A5.length g.wc :: .slice (some ⟨g.tb,0,none⟩) S.A0.length g.tc :: .slice (some ⟨g.mb,0,none⟩) S.AO.length g.mc ::
 I S.Aa :: .bool S.stop :: .bool S.full :: g.Ad :: g.want :: g.AB :: g.old :: g.AQ :: I S.Ap :: I S.BQ :: .slice (some ⟨g.hb,0,none⟩) S.th.length g.hc ::
 I S.col.pc :: .bool S.col.Ad :: I S.col.want :: g.AE :: I S.col.r :: I S.col.p :: I S.col.i :: I S.col.sh.refs :: I S.col.sh.nums :: I S.col.v :: I S.col.f :: I S.col.src :: I S.col.dst :: I S.col.size :: I S.col.word ::
 evV S g :: .bool S.used :: []
def DQ (l:List Thr) (rv:List Value):List Value:=(List.zipWith Ab l rv).flatten
def AV (p:Nat) (S:Sim) (g:Img):Chs:=
 (p,C BL (Bg S g)) :: (g.wb,C AZ (S.A5.map I ++ g.wsp)) :: (g.tb,C AD (AW eRg S.A0 ++ g.tsp)) :: (g.mb,C Az (S.AO.map Value.bool ++ g.msp)) :: (g.hb,C AR (DQ S.th g.rv ++ g.hsp)) :: evD S g
structure Ok (R:RM) (S:Sim) (g:Img):Prop where
 AU:Dg R g.AU S.AU
 old:B9 R g.old S.old
 AQ:B9 R g.AQ S.AQ
 AE:B9 R g.AE S.col.AE
 rvl:g.rv.length = S.th.length
 rv:∀i (h:i < S.th.length) (h' : i < g.rv.length),B9 R (g.rv[i]) (S.th[i]).A7
 ev0:g.ev = none→S.ev = []
 ev1:∀b c,g.ev = some (b,c)→S.ev.length≤c∧g.esp.length = (c - S.ev.length) * 4
 wl:S.A5.length≤1000
 tl:S.A0.length≤1000
 ml:S.AO.length≤1000
 hl:S.th.length≤1000
 fl:flat g.Ad = true∧flat g.want = true∧flat g.AB = true
 wk:S.A5.length≤g.wc
 tk:S.A0.length≤g.tc
 mk_:S.AO.length≤g.mc
theorem Ok.le {R R' : RM} {S:Sim} {g:Img} (h:R.le R') (H:Ok R S g):Ok R' S g:=by
 refine⟨?_,H.old.le h,H.AQ.le h,H.AE.le h,H.rvl,λi h1 h2=>(H.rv i h1 h2).le h,H.ev0,H.ev1,H.wl,H.tl,H.ml,H.hl,H.fl,H.wk,H.tk,H.mk_⟩;obtain⟨vs,h1,h2,h3⟩:=H.AU;exact⟨vs,h1.le h,h2,λi hi=>by obtain⟨x,hx,ho⟩:=h3 i hi;exact⟨x,hx,ho.le h⟩⟩
def CT (p:Nat) (S' : Sim) (r:Value→Prop) (v:Value) (R' : RM) (A:Chs):Prop:=r v∧∃g',A = AV p S' g'∧Ok R' S' g'
instance (priority:=low) At.appr (A F:Chs) (b:Nat) (o:Obj) [t:At F b o]:At (A ++ F) b o:=⟨List.mem_append_right _ t.m⟩
instance (priority:=low) Up.appr (A D:Chs) (b:Nat) (o o' : Obj) (D' : Chs) [t:Up D b o o' D']:Up (A ++ D) b o o' (A ++ D'):=
 ⟨List.mem_append_right _ t.m,List.mem_append_right _ t.m',by simp[t.f],λb' x h=>by
  rcases List.mem_append.1 h with h | h
  ·exact .inr (List.mem_append_left _ h)
  ·rcases t.u b' x h with h | h
   ·exact .inl h
   ·exact .inr (List.mem_append_right _ h)⟩
instance (priority:=low) Tk.appr (A D:Chs) (b:Nat) (o:Obj) (E:Chs) [t:Tk D b o E]:Tk (A ++ D) b o (A ++ E):=
 ⟨(t.p.append_left A).trans List.perm_middle⟩
instance Sp.pre (A F:Chs):Sp (A ++ F) A F:=⟨List.Perm.refl _⟩
instance (priority:=low) Sp.skip (c:Nat × Obj) (D A F:Chs) [s:Sp D A F]:Sp (c :: D) A (c :: F):=⟨(s.p.cons c).trans (List.perm_middle.symm)⟩
instance (priority:=low) Sp.self (A:Chs):Sp A A []:=⟨by simp⟩
instance (priority:=low) Sf.appl (X G F:Chs) [s:Sf G F]:Sf (X ++ G) F:=⟨by obtain⟨Y,h⟩:=s.p;exact⟨X ++ Y,by rw[h,List.append_assoc]⟩⟩
section sim
variable (p:Nat) (S:Sim) (g:Img)
instance At.sim:At (AV p S g) p (C BL (Bg S g)):=⟨by simp[AV]⟩
instance At.A5:At (AV p S g) g.wb (C AZ (S.A5.map I ++ g.wsp)):=⟨by simp[AV]⟩
instance At.A0:At (AV p S g) g.tb (C AD (AW eRg S.A0 ++ g.tsp)):=⟨by simp[AV]⟩
instance At.AO:At (AV p S g) g.mb (C Az (S.AO.map Value.bool ++ g.msp)):=⟨by simp[AV]⟩
instance At.ths:At (AV p S g) g.hb (C AR (DQ S.th g.rv ++ g.hsp)):=⟨by simp[AV]⟩
end sim
class Fd (D:Chs) (p:Nat) (S:outParam Sim) (g:outParam Img) (G:outParam Chs):Prop where
 ex:D.Perm (AV p S g ++ G)
instance Fd.front (p:Nat) (S:Sim) (g:Img) (F:Chs):Fd (AV p S g ++ F) p S g F:=⟨List.Perm.refl _⟩
instance Fd.self (p:Nat) (S:Sim) (g:Img):Fd (AV p S g) p S g []:=⟨by simp⟩
instance (priority:=low) Fd.cons (c:Nat × Obj) (D G:Chs) (p:Nat) (S:Sim) (g:Img) [w:Fd D p S g G]:Fd (c :: D) p S g (c :: G):=⟨(w.ex.cons c).trans List.perm_middle.symm⟩
instance (priority:=low) Fd.appr (A D G:Chs) (p:Nat) (S:Sim) (g:Img) [w:Fd D p S g G]:Fd (A ++ D) p S g (A ++ G):=
 ⟨(w.ex.append_left A).trans (by rw[← List.append_assoc,← List.append_assoc];exact List.Perm.append_right G List.perm_append_comm)⟩
theorem FR {cs:List Value} {o:Nat} {v:Value} (h:o < cs.length):lay cs o [v] = cs.set o v:=by
 simp only[lay,List.length_singleton];rw[List.set_eq_take_append_cons_drop,if_pos h];simp
section stores
variable {R:RM} {D G:Chs} {p:Nat} {S:Sim} {g:Img} {m:M}
theorem jss {o n:Nat} {x:Value} (S' : Sim) (g' : Img) [w:Fd D p S g G] (hn:(cl x).length = n) (hf:Bz (cl x) = true) (ho:o + n≤35) (hc:lay (Bg S g) o (cl x) = Bg S' g')
  (hb:(AV p S g).tail = (AV p S' g').tail) (H:J R (AV p S' g' ++ G) m):J R D (ST n (.pointer (some ⟨p,o,none⟩)) x m):=by
 intro h hs;refine js (R:=R) (D:=AV p S g ++ G) (t:=BL) (cs:=Bg S g) (cs':=Bg S' g') (D':=AV p S' g' ++ G) hn hf ho hc H h (hs.perm w.ex) (u:=?_);have e1:AV p S g = (p,C BL (Bg S g)) :: (AV p S' g').tail:=by rw[← hb];rfl
 have e2:AV p S' g' = (p,C BL (Bg S' g')) :: (AV p S' g').tail:=rfl;rw[e1,e2];exact inferInstance
theorem jsw {i:Nat} {v:Int} (S' : Sim) [w:Fd D p S g G] (hi:i < S.A5.length) (hS:S' = { S with A5:=S.A5.set i v }) (H:J R (AV p S' g ++ G) m):J R D (ST 1 (.pointer (some ⟨g.wb,i,none⟩)) (I v) m):=by
 subst hS;intro h hs;refine js (R:=R) (D:=AV p S g ++ G) (t:=AZ) (cs:=S.A5.map I ++ g.wsp) (cs':=(S.A5.set i v).map I ++ g.wsp) (D':=AV p { S with A5:=S.A5.set i v } g ++ G) rfl rfl (by simp;omega) ?_ H h (hs.perm w.ex) (u:=?_)
 ·rw[show cl (I v) = [I v] from rfl,FR (by simp;omega),List.set_append_left _ _ (by simpa using hi),List.map_set]
 ·have e1:Bg { S with A5:=S.A5.set i v } g = Bg S g:=by simp[Bg,evV]
  unfold AV evD;rw[e1];exact inferInstance
theorem Aj {S' : Sim} {R0:RM} {F:Chs} {r:Value→Prop} {v:Value} [w:Fd D p S g G] (h1:R0.le R) (h2:r v) (hS:S = S') (ok:Ok R S' g) [x:Sf G F]:J R D (ED R0 F (CT p S' r) v):=by
 subst hS;intro h hs;exact BR (D:=AV p S g ++ G) h1 ⟨h2,g,rfl,ok⟩ h (hs.perm w.ex)
end stores
theorem Gc {ws:List Int} {sp:List Value} {i:Nat} (h:i < ws.length):(ws.map I ++ sp)[i]? = some (I (ws[i])):=by
 rw[List.getElem?_append_left (by simpa using h)];simp[h]
theorem HO {ws:List Bool} {sp:List Value} {i:Nat} (h:i < ws.length):(ws.map Value.bool ++ sp)[i]? = some (.bool (ws[i])):=by
 rw[List.getElem?_append_left (by simpa using h)];simp[h]
theorem Ai {α:Type} {l:List α} {i:Int} {v:α} (h:idx l i = some v):0≤i∧i < l.length∧∃hi:i.toNat < l.length,l[i.toNat] = v:=by
 unfold idx at h;split at h
 ·obtain⟨hi,he⟩:=List.getElem?_eq_some_iff.1 h;exact⟨‹_›,by omega,hi,he⟩
 ·cases h
theorem C7 {w:Nat}:∀{ls:List (List Value)},(∀x∈ls,x.length = w)→ls.flatten.length = ls.length * w:=by
 intro ls;induction ls with
 | nil=>intro _;simp
 | cons a r ih=>
  intro h;rw[List.flatten_cons,List.length_append,ih λx hx=>h x (by simp[hx]),h a (by simp),List.length_cons,Nat.add_mul];omega
theorem Me {w:Nat} {sp:List Value}:∀{ls:List (List Value)} (i:Nat) (hi:i < ls.length),(∀x∈ls,x.length = w)→((ls.flatten ++ sp).drop (i * w)).take w = ls[i]:=by
 intro ls;induction ls with
 | nil=>intro i hi;simp at hi
 | cons a r ih=>
  intro i hi h;have ha:a.length = w:=h a (by simp);cases i with
  | zero=>
   rw[Nat.zero_mul,List.drop_zero,List.flatten_cons,List.append_assoc,List.take_append_of_le_length (by omega),← ha,List.take_length];rfl
  | succ i=>
   rw[List.flatten_cons,List.append_assoc,Nat.add_mul,Nat.one_mul,List.drop_append,List.drop_eq_nil_of_le (by rw[ha];exact Nat.le_add_left _ _),ln,ha,Nat.add_sub_cancel];simpa using ih i (by simpa using hi) λx hx=>h x (by simp[hx])
theorem FQ {a b l:List Value} {o:Nat} (h:a.length≤o):lay (a ++ b) o l = a ++ lay b (o - a.length) l:=by
 simp only[lay];rw[List.take_append,List.take_of_length_le h,List.drop_append,List.drop_eq_nil_of_le (by omega),ln];rw[show o + l.length - a.length = o - a.length + l.length from by omega];simp[List.append_assoc]
theorem PL {a b l:List Value} (h:l.length = a.length):lay (a ++ b) 0 l = l ++ b:=by
 simp only[lay,List.take_zero,ln,Nat.zero_add,h,List.drop_left]
theorem Mw {w:Nat} {sp x:List Value} (hx:x.length = w):∀{ls:List (List Value)} (i:Nat),i < ls.length→(∀x∈ls,x.length = w)→lay (ls.flatten ++ sp) (i * w) x = (ls.set i x).flatten ++ sp:=by
 intro ls;induction ls with
 | nil=>intro i hi;simp at hi
 | cons a r ih=>
  intro i hi h;have ha:a.length = w:=h a (by simp);cases i with
  | zero=>rw[Nat.zero_mul,List.flatten_cons,List.append_assoc,PL (by omega)];simp
  | succ i=>
   rw[List.flatten_cons,List.append_assoc,FQ (by rw[ha,Nat.add_mul,Nat.one_mul];exact Nat.le_add_left _ _),ha,Nat.add_mul,Nat.one_mul,Nat.add_sub_cancel,ih i (by simpa using hi) λx hx=>h x (by simp[hx])];simp
theorem RJ (t:Thr) (v:Value):(Ab t v).length = 17:=rfl
theorem M0 {l:List Thr} {rv:List Value}:∀x∈List.zipWith Ab l rv,x.length = 17:=by
 intro x hx;obtain⟨n,hn,rfl⟩:=List.getElem_of_mem hx;rw[List.getElem_zipWith];rfl
theorem Pf {l:List Thr} {rv sp:List Value} {i:Nat} (h:i < l.length) (h' : i < rv.length):((DQ l rv ++ sp).drop (i * 17)).take 17 = Ab (l[i]) (rv[i]):=by
 rw[DQ,Me i (by simp;omega) M0,List.getElem_zipWith]
theorem TJ {l:List Thr} {rv sp:List Value} {i:Nat} {t:Thr} {v:Value} (h:i < l.length) (h' : i < rv.length):lay (DQ l rv ++ sp) (i * 17) (Ab t v) = DQ (l.set i t) (rv.set i v) ++ sp:=by
 rw[DQ,Mw (RJ t v) i (by simp;omega) M0,DQ];congr 2;apply List.ext_getElem?;intro n;simp only[List.getElem?_set,List.getElem?_zipWith,List.length_zipWith];by_cases hn:i = n
 ·subst hn;rw[if_pos rfl,if_pos (by omega),if_pos rfl,if_pos h,if_pos rfl,if_pos h']
 ·rw[if_neg hn,if_neg hn,if_neg hn]
theorem Nl {l:List Thr} {rv:List Value} (h:rv.length = l.length):(DQ l rv).length = l.length * 17:=by
 rw[DQ,C7 M0];simp[h]
theorem HU {α:Type} {f:α→List Value} {w:Nat} (hf:∀x,(f x).length = w) {l:List α}:∀x∈l.map f,x.length = w:=by
 intro x hx;obtain⟨a,_,rfl⟩:=List.mem_map.1 hx;exact hf a
theorem Cq {α:Type} {f:α→List Value} {w:Nat} (hf:∀x,(f x).length = w) {l:List α} {sp:List Value} {i:Nat} (h:i < l.length):((AW f l ++ sp).drop (i * w)).take w = f (l[i]):=by
 rw[AW,Me i (by simpa using h) (HU hf)];simp
theorem LD {α:Type} {f:α→List Value} {w:Nat} (hf:∀x,(f x).length = w) {l:List α} {sp:List Value} {i:Nat} {x:α} (h:i < l.length):lay (AW f l ++ sp) (i * w) (f x) = AW f (l.set i x) ++ sp:=by
 rw[AW,Mw (hf x) i (by simpa using h) (HU hf),AW,List.map_set]
theorem DW {α:Type} {f:α→List Value} {w:Nat} (hf:∀x,(f x).length = w) (l:List α):(AW f l).length = l.length * w:=by
 rw[AW,C7 (HU hf)];simp
section AB
variable {R:RM} {D G:Chs} {p:Nat} {S:Sim} {g:Img} {m:M} {k:Value→M}
theorem Tq (S:Sim) (g:Img) (th:List Thr) (rv:List Value) (h:th.length = S.th.length):Bg { S with th:=th } { g with rv:=rv } = Bg S g:=by simp[Bg,evV,h]
theorem T8 {i:Nat} [w:Fd D p S g G] (hi:i < S.th.length) (hr:g.rv.length = S.th.length) (H:J R D (k (.agg (Ab (S.th[i]) (g.rv[i]'(by omega))).toArray))):J R D (LA 17 (.pointer (some ⟨g.hb,0 + i * 17,none⟩)) k):=by
 intro h hs;rw[Nat.zero_add];refine jla (R:=R) (D:=AV p S g ++ G) (t:=AR) (cs:=DQ S.th g.rv ++ g.hsp) (k:=λv h=>k v h) ?_ (Pf hi (by omega)) (λh' hs'=>H h' (hs'.perm w.ex.symm)) h (hs.perm w.ex);rw[List.length_append,Nl hr];omega
theorem jst {i:Nat} {t:Thr} {v:Value} (S' : Sim) (g' : Img) [w:Fd D p S g G] (hi:i < S.th.length) (hr:g.rv.length = S.th.length) (hv:flat v = true) (hS:S' = { S with th:=S.th.set i t }) (hg:g' = { g with rv:=g.rv.set i v })
  (H:J R (AV p S' g' ++ G) m):J R D (ST 17 (.pointer (some ⟨g.hb,0 + i * 17,none⟩)) (.agg (Ab t v).toArray) m):=by
 subst hS hg;intro h hs;rw[Nat.zero_add];refine js (R:=R) (D:=AV p S g ++ G) (t:=AR) (cs:=DQ S.th g.rv ++ g.hsp) (cs':=DQ (S.th.set i t) (g.rv.set i v) ++ g.hsp) (D':=AV p { S with th:=S.th.set i t } { g with rv:=g.rv.set i v } ++ G) rfl ?_ ?_ (TJ hi (by omega)) H h (hs.perm w.ex) (u:=?_)
 ·show (flat v && true) = true;rw[hv];rfl
 ·show i * 17 + 17≤_;rw[List.length_append,Nl hr];omega
 ·have e1:=Tq S g (S.th.set i t) (g.rv.set i v) (by simp);unfold AV evD;rw[e1];exact inferInstance
end AB
theorem Ok.setT {R:RM} {S:Sim} {g:Img} (H:Ok R S g) {i:Nat} {t:Thr} {v:Value} (hv:B9 R v t.A7):Ok R { S with th:=S.th.set i t } { g with rv:=g.rv.set i v }:=by
 refine⟨H.AU,H.old,H.AQ,H.AE,by simp[H.rvl],λj h1 h2=>?_,H.ev0,H.ev1,H.wl,H.tl,H.ml,by simpa using H.hl,H.fl,H.wk,H.tk,H.mk_⟩;simp only[List.length_set] at h1 h2;simp only[List.getElem_set];by_cases hij:i = j
 ·simp only[if_pos hij];exact hv
 ·simp only[if_neg hij];exact H.rv j h1 h2
end Go.Lf
end
section
namespace Go.Lf
open Go Sm
theorem St.le {h:Cn} {R R' : RM} {D:Chs} (hr:R.le R') (hs:St h R' D):St h R D:=by
 refine⟨λb o hb=>hs.rd b o (hr b o hb),λb o hm=>⟨(hs.at_ b o hm).1,?_⟩,hs.nd⟩;cases hb:R b with
 | none=>rfl
 | some x=>have:=hr b x hb;rw[(hs.at_ b o hm).2] at this;cases this
def Pu (f:Nat) (args:List Value) (v:Value):Prop:=∀R,Fn P f args R [] λv' _ _=>v' = v
theorem jp {f:Nat} {args:List Value} {v:Value} {R:RM} {D:Chs} {k:Value→M} (hF:Pu f args v) (H:J R D (k v)):J R D (CA P f args k):=by
 intro h hs;refine E7 ?_ (hF R D h hs);rintro v' h' ⟨R',A',h1,h2,h3⟩;subst h3;exact H h' (h2.drop.le h1)
section lit
variable {R:RM} {D:Chs} {k:Value→M} {a b:M} {x y:Value}
theorem Da (H:J R D (k x)):J R D (PK (.bool true) x y k):=H
theorem DU (H:J R D (k y)):J R D (PK (.bool false) x y k):=H
theorem jtt (H:J R D a):J R D (GT (.bool true) true a b):=H
theorem jft (H:J R D b):J R D (GT (.bool false) true a b):=H
theorem jtf (H:J R D b):J R D (GT (.bool true) false a b):=H
theorem jff (H:J R D a):J R D (GT (.bool false) false a b):=H
end lit
theorem Ck (a:Int) (h:AY a≤9223372036854775807):Pu HE [I a] (I (AY a)):=by
 intro R;refine MD λF=>?_
 unfold GY;refine jlt ?_;refine jif (λhc=>?_) (λhc=>?_)
 ·refine BR (A:=[]) (RM.le.refl R) ?_;have:=z_f hc;rw[AY,if_pos this]
 ·have:=z_g hc;have e:a.tdiv 16 = a / 16:=Int.tdiv_eq_ediv_of_nonneg (by omega);refine Sc (by decide) (by rw[e];rw[AY,if_neg this] at h;constructor<;>omega) ?_;refine BR (A:=[]) (RM.le.refl R) ?_;rw[AY,if_neg this,e]
theorem EU (r:Int) (R:RM) (F:Chs):J R ([] ++ F) (Dm (I r) (ED R F λv' _ _=>v' = I (AG r))):=by
 unfold Dm;refine Cb (jlt (BW (λhc=>jge (C4 λe he=>?_)) (λhc=>C4 λe he=>?_)))<;>
  simp only[List.map,lj,z_t] at he<;>simp only[he,hc,cond_true,cond_false]
 ·refine jif (λhd=>?_) (λhd=>?_)
  ·refine BR (A:=[]) (RM.le.refl R) ?_;have:=z_f hd;rw[AG,if_pos (.inr this)]
  ·have h1:=z_g hd;have h2:=z_g hc;refine GC (by constructor<;>omega) ?_;refine BR (A:=[]) (RM.le.refl R) ?_;rw[AG,if_neg (by omega)]
 ·refine Da (F7 ?_);refine BR (A:=[]) (RM.le.refl R) ?_;have:=z_f hc;rw[AG,if_pos (.inl this)]
theorem BA (r:Int):Pu F1 [I r] (I (AG r)):=λR=>JO λF=>EU r R F
@[reducible] def eSh (s:Shp):Value:=.agg #[I s.refs,I s.nums]
theorem Qg (s:Shp) (R:RM) (F:Chs):J R ([] ++ F) (F6 (eSh s) (ED R F λv' _ _=>v' = .bool (Aw s))):=by
 unfold F6;refine ja λb=>?_
 have fin:∀c,c = Aw s→J R ((b,C Eb [I s.refs,I s.nums]) :: ([] ++ F)) (ED R F (λv' _ _=>v' = Value.bool (Aw s)) (.bool c)):=λc hc=>BR (A:=[]) (RM.le.refl R) (by rw[hc])
 refine Cb (jl rfl (jge (Bj (λh1=>jl rfl (jle (C4 λe he=>?_))) (λh1=>C4 λe he=>?_))))<;>
  simp only[List.map,lj,z_t,h1] at he<;>simp only[he]
 ·refine Cb (Da (Bj (λh2=>jl rfl (jge (C4 λe he=>?_))) (λh2=>C4 λe he=>?_)))<;>
   simp only[List.map,lj,z_t,h2] at he<;>simp only[he]
  ·refine Cb (Da (Bj (λh3=>jl rfl (jle (C4 λe he=>?_))) (λh3=>C4 λe he=>?_)))<;>
    simp only[List.map,lj,z_t,h3] at he<;>simp only[he]
   ·refine Da (fin _ ?_);simp at h1 h2 h3;simp[Aw,h1,h2,h3]
   ·refine DU (fin _ ?_);simp at h1 h2 h3;simp[Aw,h1,h2];omega
  ·refine Cb (DU (jft (C4 λe he=>?_)));simp only[List.map,lj,z_t] at he;simp only[he];refine DU (fin _ ?_);simp at h1 h2;simp[Aw,h1];omega
 ·refine Cb (DU (jft (C4 λe he=>?_)));simp only[List.map,lj,z_t] at he;simp only[he];refine Cb (DU (jft (C4 λe he=>?_)));simp only[List.map,lj,z_t] at he;simp only[he];refine DU (fin _ ?_);simp at h1;simp[Aw];omega
theorem HW (s:Shp):Pu IS [eSh s] (.bool (Aw s)):=λR=>Nm λF=>Qg s R F
theorem F2 {s:Shp}:Aw s = true↔0≤s.refs∧s.refs≤4∧0≤s.nums∧s.nums≤4:=by simp[Aw,and_assoc]
theorem DZ (s:Shp):Pu Fv [eSh s] (I (Ag s)):=by
 intro R;refine Ku λF=>?_
 unfold G3;refine ja λb=>jla (l:=[I s.refs,I s.nums]) (by simp) rfl (jp (HW s) ?_)
 refine jif (λh=>?_) (λh=>?_)
 ·refine BR (A:=[]) (RM.le.refl _) ?_;simp only[Bool.not_eq_true'] at h;simp[Ag,h]
 ·simp only[Bool.not_eq_false'] at h;obtain⟨h0,h1,h2,h3⟩:=F2.1 h;refine jl rfl ?_;refine GC ⟨by omega,by omega⟩ ?_;refine jl rfl ?_;refine Ac ⟨by omega,by omega⟩ ?_;refine BR (A:=[]) (RM.le.refl _) ?_;simp[Ag,h]
theorem Bp (s:Shp):Pu Ff [eSh s] (I (AC s)):=by
 intro R;refine Kw λF=>?_
 unfold Fi;refine ja λb=>jla (l:=[I s.refs,I s.nums]) (by simp) rfl (jp (HW s) ?_)
 refine jif (λh=>?_) (λh=>?_)
 ·refine BR (A:=[]) (RM.le.refl _) ?_;simp only[Bool.not_eq_true'] at h;simp[AC,h]
 ·simp only[Bool.not_eq_false'] at h;obtain⟨h0,h1,h2,h3⟩:=F2.1 h;refine jl rfl ?_;refine Ac ⟨by omega,by omega⟩ ?_;refine jl rfl ?_;refine Ac ⟨by omega,by omega⟩ ?_;refine BR (A:=[]) (RM.le.refl _) ?_;simp[AC,h]
theorem CR {R:RM} {c:Nat × Obj} {D:Chs} {m:M} (H:J R D m):J R (c :: D) m:=λh hs=>H h (St.drop (A:=[c]) hs)
theorem Dk (w:Int):Pu Hm [I w] (.tuple #[eSh (AJ w).1,.bool (AJ w).2]):=by
 intro R;refine N1 λF=>?_
 unfold Hy;refine ja λb=>?_
 refine Cb (Cb ?_);refine jlp (λn vs R' D'=>R' = R∧D' = (b,C Eb [I 0,I 0]) :: ([] ++ F)∧∃r:Nat,r≤5∧vs = [I w,.pointer (some ⟨b,0,none⟩),I r]∧n = 5 - r∧∀r' n' : Nat,r' < r→n'≤4→(16 * r' + n' : Int)≠w)
  (n:=5) ⟨rfl,rfl,0,by omega,rfl,rfl,λr' n' h=>by omega⟩ ?_
 rintro n e R' D' K ⟨rfl,rfl,r,hr,he,hn,Bi⟩ hK;simp only[List.map,lj,z_t] at he;simp only[he];refine jle ?_;refine jif (λhc=>?_) (λhc=>?_)
 ·have hc:=z_f hc;refine Cb (Cb (Cb ?_));refine jlp (λm vs R2 D'=>R2 = R'∧D' = (b,C Eb [I 0,I 0]) :: ([] ++ F)∧∃k:Nat,k≤5∧vs = [I w,.pointer (some ⟨b,0,none⟩),I r,I k]∧m = 5 - k∧∀n' : Nat,n' < k→(16 * r + n' : Int)≠w)
   (n:=5) ⟨rfl,rfl,0,by omega,rfl,rfl,λn' h=>by omega⟩ ?_
  rintro m e R' D' K' ⟨rfl,rfl,k,hk,he,hm,hall'⟩ hK';simp only[List.map,lj,z_t] at he;simp only[he];refine jle ?_;refine jif (λhd=>?_) (λhd=>?_)
  ·have hd:=z_f hd;refine jbd (cs:=[I r,I k]) rfl rfl ?_;refine ja λb'=>?_
   refine js (cs':=[I r,I k]) rfl rfl (by simp) rfl ?_;refine jla (l:=[I r,I k]) (by simp) rfl (jp (DZ ⟨r,k⟩) ?_);refine jeq ?_;have hok:Aw ⟨r,k⟩ = true:=F2.2 ⟨by simp only[];omega,by simp only[];omega,by simp only[];omega,by simp only[];omega⟩;have hsw:Ag ⟨r,k⟩ = 16 * r + k:=by simp[Ag,hok]
   refine jif (λhw=>?_) (λhw=>?_)
   ·have hw:(16 * r + k:Int) = w:=by rw[← hsw];exact eq_of_beq hw
    refine jla (l:=[I r,I k]) (by simp) rfl ?_;refine js (cs':=[I r,I k]) rfl rfl (by simp) rfl ?_;refine jla (l:=[I r,I k]) (by simp) rfl ?_;refine BR (A:=[]) (RM.le.refl _) ?_;have e1:w / 16 = r:=by omega
    have e2:w % 16 = k:=by omega
    have:AJ w = (⟨r,k⟩,true):=by
     rw[AJ,if_pos (by omega),e1,e2]
    rw[this]
   ·have hw:(16 * r + k:Int)≠w:=by rw[← hsw];intro hh;rw[hh] at hw;simp at hw
    refine Ac ⟨by omega,by omega⟩ ?_;refine CR ?_;refine hK' (5 - (k + 1)) _ _ _ (by omega) ⟨rfl,rfl,k + 1,by omega,by simp,rfl,λn' h=>?_⟩;by_cases h' : n' = k
    ·subst h';exact hw
    ·exact hall' n' (by omega)
  ·have hd:=z_g hd;refine C4 λe he=>?_
   simp only[List.map,lj,z_t] at he;simp only[he];refine C4 λe he=>?_
   simp only[List.map,lj,z_t] at he;simp only[he];refine C4 λe he=>?_
   simp only[List.map,lj,z_t] at he;simp only[he];refine Ac ⟨by omega,by omega⟩ ?_;refine hK (5 - (r + 1)) _ _ _ (by omega) ⟨rfl,rfl,r + 1,by omega,by simp,rfl,λr' n' h h2=>?_⟩;by_cases h' : r' = r
   ·subst h';exact hall' n' (by omega)
   ·exact Bi r' n' (by omega) h2
 ·have hc:=z_g hc;refine C4 λe he=>?_
  simp only[List.map,lj,z_t] at he;simp only[he];refine C4 λe he=>?_
  simp only[List.map,lj,z_t] at he;simp only[he];refine jbd (cs:=[I 0,I 0]) rfl rfl ?_;refine js (cs':=[I 0,I 0]) rfl rfl (by simp) rfl ?_;refine jla (l:=[I 0,I 0]) (by simp) rfl ?_;refine BR (A:=[]) (RM.le.refl _) ?_;have:AJ w = (Pk,false):=by
   rw[AJ,if_neg];intro hh;exact Bi (w / 16).toNat (w % 16).toNat (by omega) (by omega) (by omega)
  rw[this];rfl
end Go.Lf
end
section
namespace Go.Lf
open Go Sm
theorem CX {p:Nat} {S S' : Sim} {g:Img} {a v:Int} {R:RM} (hok:Ok R S g) (hS:S.read a = some (v,S')):Fn P Jd [.pointer (some ⟨p,0,none⟩),I a] R (AV p S g) (CT p S' (· = I v)):=by
 refine OM λF=>?_
 unfold Jq;simp only[Sim.read] at hS;split at hS
 ·rename_i v' hv;simp only[Option.some.injEq,Prod.mk.injEq] at hS;obtain⟨rfl,rfl⟩:=hS;obtain⟨h0,h1,h2,h3⟩:=Ai hv;refine jss { S with used:=true } g rfl rfl (by decide) (by rfl) (by rfl) ?_;refine jl rfl ?_;refine jia h0 h1 ?_;refine jl (by rw[Nat.zero_add,Nat.mul_one];exact Gc h2) ?_;exact Aj (RM.le.refl R) (by rw[← h3]) rfl { hok with }
 ·cases hS
theorem DA {p:Nat} {S S' : Sim} {g:Img} {a v:Int} {R:RM} (hok:Ok R S g) (hS:S.write a v = some S'):Fn P Hu [.pointer (some ⟨p,0,none⟩),I a,I v] R (AV p S g) (CT p S' λ_=>True):=by
 refine MW λF=>?_
 unfold IY;simp only[Sim.write] at hS;split at hS
 ·rename_i hv;simp only[Option.some.injEq] at hS;subst hS;refine jss { S with used:=true } g rfl rfl (by decide) (by rfl) (by rfl) ?_;refine jl rfl ?_;refine jia hv.1 hv.2 ?_;rw[Nat.zero_add,Nat.mul_one];refine jsw (p:=p) { S with used:=true,A5:=AT S.A5 a v } (by show a.toNat < S.A5.length;omega) (by rfl) ?_;exact Aj (RM.le.refl R) trivial rfl { hok with wl:=by simpa [AT] using hok.wl,wk:=by simpa [AT] using hok.wk }
 ·cases hS
theorem Jx {p:Nat} {S:Sim} {g:Img} {a:Int} {b:Bool} {R:RM} (hok:Ok R S g) (hS:S.from_ a = some b):Fn P GH [.pointer (some ⟨p,0,none⟩),I a] R (AV p S g) (CT p S (· = .bool b)):=by
 refine P1 λF=>?_
 unfold KS;simp only[Sim.from_] at hS;refine Cb (Cb (jne (Bj (λh=>?_) (λh=>?_))))
 ·have ha:a≠0:=by simpa using h
  rw[if_neg ha] at hS;split at hS
  ·rename_i x hx;obtain⟨h0,h1,h2,h3⟩:=Ai hx;have hl:=hok.tl;cases hS;refine jl rfl (C4 λe he=>?_);simp only[List.map,lj,z_t,h] at he;simp only[he];refine jtt (jp (Ck a (by omega)) ?_);refine jia h0 h1 ?_;refine jl (o:=0 + (AY a).toNat * 5 + 0) (v:=I x.kind) ?_ (jeq (Da (Ae (jl rfl jev) (C4 λe he=>?_))))
   ·have:=Cq (f:=eRg) (w:=5) (λ_=>rfl) (sp:=g.tsp) h2;rw[h3] at this;have e2:=congrArg (λl=>l[0]?) this;simp only[List.getElem?_take,List.getElem?_drop] at e2;simpa using e2
   ·simp only[List.map,lj,z_t] at he;simp only[he];exact Aj (RM.le.refl R) rfl rfl hok
  ·cases hS
 ·have ha:a = 0:=by simpa using h
  rw[if_pos ha] at hS;cases hS;refine C4 λe he=>?_
  simp only[List.map,lj,z_t,h] at he;simp only[he];refine jft (DU (Ae jev (C4 λe he=>?_)));simp only[List.map,lj,z_t] at he;simp only[he];exact Aj (RM.le.refl R) rfl rfl hok
theorem Fz.reads {R:RM} {D:Chs} {v:Value} {w n:Nat} {cells:List Value} (H:Fz R v w n cells):∃a cap,v = .slice a n cap∧BG R D a (n * w) cells:=by
 rcases H with ⟨h1,h2,h3⟩ | ⟨b,o,cap,t,cs,h1,h2,h3,h4,h5⟩
 ·subst h1 h2 h3;exact⟨none,0,rfl,by rw[Nat.zero_mul];exact BG.none_⟩
 ·exact⟨_,cap,h1,by rw[← h4];exact BG.frozen h2 h3⟩
def TH (l:List Int) (v:Value) (A:Chs):Prop:=∃b c sp,l.length≤c∧sp.length = c - l.length∧v = .slice (some ⟨b,0,none⟩) l.length c∧A = [(b,C AZ (l.map I ++ sp))]
theorem Br {v:Value} {l:List Int} {R:RM} (h:B9 R v l) (hl:l.length < 1000000):Fn P Iy [v] R [] (λv' _ A=>TH l v' A):=by
 refine OW λF=>?_
 unfold J9;obtain⟨a,cap,rfl,hr⟩:=Fz.reads (D:=[]) h;refine jbs (cs:=[]) rfl rfl λb=>?_
 refine Ub (new:=l.map I) ?_ (by decide) (by omega) (λ_=>rfl) (λh0=>?_) (λb' c hc=>?_)
 ·intro h' hs';exact hr h' (St.drop (A:=(b,C 3 []) :: ([] ++ F)) (by simpa using hs'))
 ·have hl0:l = []:=List.length_eq_zero_iff.1 h0;refine BR (RM.le.refl R) (A:=[(b,C AZ [])]) ⟨b,0,[],by simp[hl0],by simp,by simp[hl0],by simp[hl0]⟩
 ·refine BR (RM.le.refl R) (A:=[(b',C AZ (l.map I ++ (List.replicate (c - l.length) (cl z3)).flatten))]) ⟨b',c,_,hc,?_,rfl,rfl⟩;rw[C7 (w:=1) (by intro x hx;rw[(List.mem_replicate.1 hx).2];rfl)];simp
end Go.Lf
end
section
namespace Go.Lf
open Go Sm
theorem Av {R:RM} {D E G:Chs} {m:M} (A:Chs) [s:Sp D A E] [x:Sf E G] (H:J R (A ++ G) m):J R D m:=by
 intro h hs;obtain⟨X,hX⟩:=x.p;have h1:=hs.perm s.p;subst hX;have:St h R (X ++ (A ++ G)):=h1.perm (by
  rw[← List.append_assoc,← List.append_assoc]
  exact List.Perm.append_right G List.perm_append_comm)
 exact H h this.drop
theorem Jk {α:Type} (f:α→List Value) (l:List α) (x:α):AW f (l ++ [x]) = AW f l ++ f x:=by simp[AW]
theorem Au {R:RM} {D D' : Chs} {m:M} (hp:D.Perm D') (H:J R D' m):J R D m:=λh hs=>H h (hs.perm hp)
theorem Tt {R:RM} {D G:Chs} {p b c:Nat} {S:Sim} {g:Img} {evs:List Ev} {sp:List Value} {m:M} [w:Fd D p S g G]
  (H:J R (AV p { S with ev:=evs } { g with ev:=some (b,c),esp:=sp } ++ G) m) :
  J R ((b,C DN (AW eEv evs ++ sp)) :: D) (ST 1 (.pointer (some ⟨p,33,none⟩)) (.slice (some ⟨b,0,none⟩) evs.length c) m):=by
 refine Au ((w.ex.cons _).trans List.perm_middle.symm) ?_;refine js (D:=AV p S g ++ (b,C DN (AW eEv evs ++ sp)) :: G) (t:=BL) (cs:=Bg S g) (cs':=Bg { S with ev:=evs } { g with ev:=some (b,c),esp:=sp }) (D':=(p,C BL (Bg { S with ev:=evs } { g with ev:=some (b,c),esp:=sp })) :: ((g.wb,C AZ (S.A5.map I ++ g.wsp)) :: (g.tb,C AD (AW eRg S.A0 ++ g.tsp)) :: (g.mb,C Az (S.AO.map Value.bool ++ g.msp)) :: (g.hb,C AR (DQ S.th g.rv ++ g.hsp)) :: evD S g ++ (b,C DN (AW eEv evs ++ sp)) :: G)) rfl rfl (by simp[Bg]) rfl ?_ (u:=?_);rotate_left
 ·refine Av [(p,C BL (Bg { S with ev:=evs } { g with ev:=some (b,c),esp:=sp })),(g.wb,C AZ (S.A5.map I ++ g.wsp)),(g.tb,C AD (AW eRg S.A0 ++ g.tsp)),(g.mb,C Az (S.AO.map Value.bool ++ g.msp)),(g.hb,C AR (DQ S.th g.rv ++ g.hsp)),(b,C DN (AW eEv evs ++ sp))] (G:=G) ?_;exact H
 ·unfold AV;exact inferInstance
theorem TK {R:RM} {D G:Chs} {p:Nat} {S:Sim} {g:Img} {e:Ev} {cx:Nat} {xa:Option Addr} {zs:List Value} {m:M} (hz:zs.length = 4) [w:Fd D p S g G] (hok:Ok R S g) (hl:S.ev.length < 1000000) (hx:BG R D xa (1 * 4) (eEv e))
  (H:∀g',Ok R { S with ev:=S.ev ++ [e] } g'→J R (AV p { S with ev:=S.ev ++ [e] } g' ++ G) m) :
  J R D (AP DN 4 32 zs (evV S g) (.slice xa 1 cx) λx=>ST 1 (.pointer (some ⟨p,33,none⟩)) x m):=by
 have spl:∀c,(List.replicate (c - (S.ev.length + 1)) zs).flatten.length = (c - (S.ev.length + 1)) * 4:=λc=>by
  rw[C7 (w:=4) (by intro x hx;rw[(List.mem_replicate.1 hx).2,hz])];simp
 have okn:∀b c sp,S.ev.length + 1≤c→sp.length = (c - (S.ev.length + 1)) * 4→Ok R { S with ev:=S.ev ++ [e] } { g with ev:=some (b,c),esp:=sp }:=λb c sp h1 h2=>
  { hok with ev0:=(by intro h;cases h),ev1:=(by intro b' c' h;cases h;simp;exact⟨h1,h2⟩) }
 have nxt:∀b c,S.ev.length + 1≤c→J R ((b,C DN (AW eEv S.ev ++ eEv e ++ (List.replicate (c - (S.ev.length + 1)) zs).flatten)) :: D) (ST 1 (.pointer (some ⟨p,33,none⟩)) (.slice (some ⟨b,0,none⟩) (S.ev.length + 1) c) m):=λb c hc=>by
  have:=Tt (D:=D) (p:=p) (b:=b) (c:=c) (evs:=S.ev ++ [e]) (sp:=(List.replicate (c - (S.ev.length + 1)) zs).flatten) (H _ (okn b c _ hc (spl c)));rw[Jk] at this;simpa using this
 cases hg:g.ev with
 | none=>
  have h0:=hok.ev0 hg;simp only[evV,hg];refine jap hx (sl:=0) (old:=[]) (by rw[Nat.zero_mul];exact BG.none_) (by decide) (by omega) (λh=>by omega) (λb c hc=>?_);have:=nxt b c (by rw[h0];simpa using hc);rw[h0] at this;simpa [AW] using this
 | some bc=>
  obtain⟨b,c⟩:=bc;obtain⟨hn,he⟩:=hok.ev1 b c hg;have e1:AV p S g = (p,C BL (Bg S g)) :: (g.wb,C AZ (S.A5.map I ++ g.wsp)) :: (g.tb,C AD (AW eRg S.A0 ++ g.tsp)) :: (g.mb,C Az (S.AO.map Value.bool ++ g.msp)) :: (g.hb,C AR (DQ S.th g.rv ++ g.hsp)) :: (b,C DN (AW eEv S.ev ++ g.esp)) :: []:=by
   simp[AV,evD,hg]
  have hsz:=DW (f:=eEv) (w:=4) (λ_=>rfl) S.ev;have hD:D.Perm ((b,C DN (AW eEv S.ev ++ g.esp)) :: ((p,C BL (Bg S g)) :: (g.wb,C AZ (S.A5.map I ++ g.wsp)) :: (g.tb,C AD (AW eRg S.A0 ++ g.tsp)) :: (g.mb,C Az (S.AO.map Value.bool ++ g.msp)) :: (g.hb,C AR (DQ S.th g.rv ++ g.hsp)) :: G)):=by
   refine w.ex.trans ?_;rw[e1];simp only[lc,ln];exact (inferInstance:Tk _ b _ _).p
  simp only[evV,hg];refine RH (E:=_) (tk:=⟨hD⟩) hx ?_ hn rfl rfl (by decide) (by omega) (λhc=>?_) (λb' c' hc=>?_)
  ·rw[List.length_append,hsz,he,← Nat.add_mul];congr 1;omega
  ·have el:lay (AW eEv S.ev ++ g.esp) (S.ev.length * 4) (eEv e) = AW eEv (S.ev ++ [e]) ++ g.esp.drop 4:=by
    rw[FQ (by omega),hsz,Nat.sub_self,Jk,List.append_assoc];simp[lay]
   rw[el];have H':=H { g with esp:=g.esp.drop 4 } { hok with ev0:=(by intro h;exact absurd (hg.symm.trans h) (by simp)),ev1:=(by
    intro b' c' h
    have h2:some (b,c) = some (b',c'):=hg.symm.trans h
    cases h2
    simp only[List.length_append,List.length_singleton,List.length_drop]
    omega) }
   have e2:Bg { S with ev:=S.ev ++ [e] } { g with esp:=g.esp.drop 4 } = (Bg S g).set 33 (.slice (some ⟨b,0,none⟩) (S.ev.length + 1) c):=by
    simp[Bg,evV,hg]
   have e3:AV p { S with ev:=S.ev ++ [e] } { g with esp:=g.esp.drop 4 } = (p,C BL ((Bg S g).set 33 (.slice (some ⟨b,0,none⟩) (S.ev.length + 1) c))) :: (g.wb,C AZ (S.A5.map I ++ g.wsp)) :: (g.tb,C AD (AW eRg S.A0 ++ g.tsp)) :: (g.mb,C Az (S.AO.map Value.bool ++ g.msp)) :: (g.hb,C AR (DQ S.th g.rv ++ g.hsp)) :: (b,C DN (AW eEv (S.ev ++ [e]) ++ g.esp.drop 4)) :: []:=by
    rw[← e2];simp[AV,evD,hg]
   rw[e3] at H';refine js (t:=BL) (cs:=Bg S g) (cs':=(Bg S g).set 33 (.slice (some ⟨b,0,none⟩) (S.ev.length + 1) c)) rfl rfl (by simp[Bg]) (FR (by simp[Bg])) ?_;exact Av _ H'
  ·have:=nxt b' c' hc;rw[List.take_append_of_le_length (by omega),List.take_of_length_le (by omega)];exact this
end Go.Lf
end
section
namespace Go.Lf
open Go Sm
theorem Fz.flat {R:RM} {v:Value} {w n:Nat} {cells:List Value} (H:Fz R v w n cells):flat v = true:=by
 rcases H with ⟨h1,_,_⟩ | ⟨b,o,cap,t,cs,h1,_⟩<;>subst h1<;>rfl
theorem Ak {a b c:Int} (h:CP a b = some c):c = a + b∧inR (a + b):=by
 unfold CP at h;split at h
 ·cases h;exact⟨rfl,by assumption⟩
 ·cases h
theorem En {S:Sim} (h:S.sz = true):S.ev.length < 1000000∧S.old.length < 1000000∧S.col.AE.length < 1000000∧S.AQ.length < 1000000∧∀t∈S.th,t.A7.length < 1000000:=by
 simp only[Sim.sz,z_b,z_d,List.all_eq_true] at h;exact⟨h.1.1.1.1,h.1.1.1.2,h.1.1.2,h.1.2,h.2⟩
theorem Cj {p:Nat} {S S' : Sim} {g:Img} {i ans code:Int} {R:RM} (hok:Ok R S g) (hS:S.event i ans code = some S') :
  Fn P Ht [.pointer (some ⟨p,0,none⟩),I i,I ans,I code] R (AV p S g) (CT p S' λ_=>True):=by
 refine NK λF=>?_
 unfold Ho;simp only[Sim.event] at hS;split at hS
 ·cases hS
 rename_i hsz;simp only[Bool.not_eq_true,Bool.not_eq_false'] at hsz;have hsz:=En hsz;split at hS
 ·rename_i t ht;obtain⟨h0,h1,h2,h3⟩:=Ai ht;split at hS
  ·rename_i n hn;obtain⟨rfl,hin⟩:=Ak hn;cases hS;have hr:=hok.rvl;have h2' : i.toNat < g.rv.length:=by omega
   have hv:=hok.rv i.toNat h2 h2';rw[h3] at hv;obtain⟨xa,cap,hve,-⟩:=Fz.reads (D:=[]) hv;rw[hve] at hv;refine jl rfl ?_;refine jia h0 h1 ?_;refine T8 (p:=p) h2 hr ?_;rw[h3,hve];refine ja λb=>?_
   refine js (cs':=Ab t (.slice xa t.A7.length cap)) rfl rfl (by simp) rfl ?_;refine jl rfl ?_;refine jl rfl ?_;refine jbd (cs:=eEv ⟨i,t.next,ans,code⟩) rfl rfl ?_;refine jbs (cs:=eEv ⟨i,t.next,ans,code⟩) rfl rfl λb1=>?_
   refine Ae (jl rfl jev) ?_;refine TK (p:=p) (e:=⟨i,t.next,ans,code⟩) rfl hok hsz.1 (BG.held (t:=DN) (cs:=eEv ⟨i,t.next,ans,code⟩) (o:=0) (n:=1 * 4) (z_n 4)) λg' hok'=>?_
   have hr':=hok'.rvl;refine jl rfl ?_;refine jl rfl ?_;refine jl rfl ?_;refine Ac hin ?_;refine jbd (cs:=Ab (thr0 t.A7 (t.next + 1) 0) (.slice xa t.A7.length cap)) rfl rfl ?_;refine jia h0 h1 ?_;refine jst (p:=p) { S with ev:=S.ev ++ [⟨i,t.next,ans,code⟩],th:=AT S.th i (thr0 t.A7 (t.next + 1) 0) } { g' with rv:=g'.rv.set i.toNat (.slice xa t.A7.length cap) } (by exact h2) (by exact hr') rfl (by rfl) (by rfl) ?_;exact Aj (RM.le.refl R) trivial rfl (hok'.setT hv)
  ·cases hS
 ·cases hS
theorem RO {p:Nat} {S S' : Sim} {g:Img} {i:Int} {R:RM} (hok:Ok R S g) (hS:S.back i = some S') :
  Fn P Jo [.pointer (some ⟨p,0,none⟩),I i] R (AV p S g) (CT p S' λ_=>True):=by
 refine OV λF=>?_
 unfold KE;simp only[Sim.back] at hS;split at hS
 ·rename_i t ht;obtain⟨h0,h1,h2,h3⟩:=Ai ht;cases hS;have hr:=hok.rvl;have h2' : i.toNat < g.rv.length:=by omega
  have hv:=hok.rv i.toNat h2 h2';rw[h3] at hv;obtain⟨xa,cap,hve,-⟩:=Fz.reads (D:=[]) hv;rw[hve] at hv;refine jl rfl ?_;refine jia h0 h1 ?_;refine T8 (p:=p) h2 hr ?_;rw[h3,hve];refine ja λb=>?_
  refine js (cs':=Ab t (.slice xa t.A7.length cap)) rfl rfl (by simp) rfl ?_;refine jl rfl ?_;refine jl rfl ?_;refine jl rfl ?_;refine jbd (cs:=Ab (thr0 t.A7 t.next 1) (.slice xa t.A7.length cap)) rfl rfl ?_;refine jia h0 h1 ?_;refine jst (p:=p) { S with th:=AT S.th i (thr0 t.A7 t.next 1) } { g with rv:=g.rv.set i.toNat (.slice xa t.A7.length cap) } (by exact h2) (by exact hr) rfl (by rfl) (by rfl) ?_;refine jss { S with th:=AT S.th i (thr0 t.A7 t.next 1),full:=true } { g with rv:=g.rv.set i.toNat (.slice xa t.A7.length cap) } rfl rfl (by decide) (by rfl) (by rfl) ?_;refine jss { S with th:=AT S.th i (thr0 t.A7 t.next 1),full:=true,stop:=true } { g with rv:=g.rv.set i.toNat (.slice xa t.A7.length cap) } rfl rfl (by decide) (by rfl) (by rfl) ?_;exact Aj (RM.le.refl R) trivial rfl { hok.setT (i:=i.toNat) (t:=thr0 t.A7 t.next 1) hv with }
 ·cases hS
section rows
variable {R:RM} {D G:Chs} {p:Nat} {S:Sim} {g:Img} {m:M} {k:Value→M}
theorem OD {i:Nat} [w:Fd D p S g G] (hi:i < S.A0.length) (H:J R D (k (.agg (eRg (S.A0[i])).toArray))):J R D (LA 5 (.pointer (some ⟨g.tb,0 + i * 5,none⟩)) k):=by
 intro h hs;rw[Nat.zero_add];refine jla (R:=R) (D:=AV p S g ++ G) (t:=AD) (cs:=AW eRg S.A0 ++ g.tsp) (k:=λv h=>k v h) ?_ (Cq (f:=eRg) (w:=5) (λ_=>rfl) hi) (λh' hs'=>H h' (hs'.perm w.ex.symm)) h (hs.perm w.ex);rw[List.length_append,DW (w:=5) (λ_=>rfl)];omega
theorem Q3 {i:Nat} {x:Rg} (S' : Sim) [w:Fd D p S g G] (hi:i < S.A0.length) (hS:S' = { S with A0:=S.A0.set i x }) (H:J R (AV p S' g ++ G) m):J R D (ST 5 (.pointer (some ⟨g.tb,0 + i * 5,none⟩)) (.agg (eRg x).toArray) m):=by
 subst hS;intro h hs;rw[Nat.zero_add];refine js (R:=R) (D:=AV p S g ++ G) (t:=AD) (cs:=AW eRg S.A0 ++ g.tsp) (cs':=AW eRg (S.A0.set i x) ++ g.tsp) (D':=AV p { S with A0:=S.A0.set i x } g ++ G) rfl rfl ?_ (LD (f:=eRg) (w:=5) (λ_=>rfl) hi) H h (hs.perm w.ex) (u:=?_)
 ·show i * 5 + 5≤_;rw[List.length_append,DW (w:=5) (λ_=>rfl)];omega
 ·have e1:Bg { S with A0:=S.A0.set i x } g = Bg S g:=by simp[Bg,evV]
  unfold AV evD;rw[e1];exact inferInstance
end rows
theorem Sb {p:Nat} {S S' : Sim} {g:Img} {a size:Int} {R:RM} (hok:Ok R S g) (hS:S.top a size = some S') :
  Fn P L3 [.pointer (some ⟨p,0,none⟩),I a,I size] R (AV p S g) (CT p S' λ_=>True):=by
 refine QN λF=>?_
 unfold LV;simp only[Sim.top] at hS;split at hS
 ·rename_i x hx;obtain⟨h0,h1,h2,h3⟩:=Ai hx;have hl:=hok.tl;split at hS
  ·rename_i n hn;obtain⟨rfl,hin⟩:=Ak hn;cases hS;refine jp (Ck a (by omega)) ?_;refine jl rfl ?_;refine jia h0 h1 ?_;refine OD (p:=p) h2 ?_;rw[h3];refine ja λb=>?_
   refine js (cs':=eRg x) rfl rfl (by simp) rfl ?_;refine Ac hin ?_;refine js (cs':=eRg { x with top:=a + size }) rfl rfl (by simp) rfl ?_;refine jl rfl ?_;refine jla (l:=eRg { x with top:=a + size }) (by simp) rfl ?_;refine jia h0 h1 ?_;refine Q3 (p:=p) (x:={ x with top:=a + size }) { S with A0:=AT S.A0 (AY a) { x with top:=a + size } } (by exact h2) (by rfl) ?_;exact Aj (RM.le.refl R) trivial rfl { hok with tl:=by simpa [AT] using hok.tl,tk:=by simpa [AT] using hok.tk }
  ·cases hS
 ·cases hS
end Go.Lf
end
