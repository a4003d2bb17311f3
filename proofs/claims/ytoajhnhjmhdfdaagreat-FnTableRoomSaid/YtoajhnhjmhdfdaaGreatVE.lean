/- A part of the proof of the given row: the walk of the law and of all that it calls. Conditions: none. -/
import Derived.Test.YtoajhnhjmhdfdaaGreatVD
set_option linter.unusedVariables false
set_option linter.unusedSimpArgs false
section
namespace Go.Lf
open Go Go.Proofs Go.Proofs.Tryz
set_option linter.unusedVariables false
def c_Sim_snapshot (a0:Value) (K:Value→M):M:=
 CA P 122 [a0] λx1=>NC a0 λx2=>FO 4 x2 λx3=>FO 9 x3 λx4=>ST 1 x4 (.slice none 0 0)<|NC a0 λx5=>FO 4 x5 λx6=>FO 3 x6 λx7=>ST 1 x7 (I 1)<|NC a0 λx8=>FO 18 x8 λx9=>FO 1 x9 λx10=>L1 x10 λx11=>NC a0 λx12=>FO 18 x12 λx13=>FO 2 x13 λx14=>L1 x14 λx15=>BD (cl z94) [(0,1,(I 1)),(1,1,x11),(2,1,x15)] λx16=>AL 94 z94 λx17=>AND (L1 x10 λx18=>EV x18 x11)<|AND (L1 x14 λx19=>EV x19 x15)<|ST 15 x17 x16<|CUT [0,2] (λJe20=>CUT [0,2] (λJe58=>LP [0,2,3] (λKe59 e59=>NC (e59 0) λx60=>FO 17 x60 λx61=>L1 x61 λx62=>LN x62 λx63=>BO .lss (e59 3) x63 λx64=>IF x64 (CUT [0,2,3] (λJe65=>CUT [0,2,3] (λJe67=>CUT [0,2,3] (λJe68=>LP [0,2,3,4] (λKe69 e69=>NC (e69 0) λx70=>FO 17 x70 λx71=>L1 x71 λx72=>IA 17 x72 (e69 3) λx73=>FO 0 x73 λx74=>L1 x74 λx75=>LN x75 λx76=>BO .lss (e69 4) x76 λx77=>IF x77 (CUT [0,2,3,4] (λJe78=>CUT [0,2,3,4] (λJe80=>NC (e69 0) λx81=>FO 17 x81 λx82=>L1 x82 λx83=>IA 17 x83 (e69 3) λx84=>FO 0 x84 λx85=>L1 x85 λx86=>IA 1 x86 (e69 4) λx87=>L1 x87 λx88=>BO .neq x88 (I 0) λx89=>IF x89 (FO 3 (e69 2) λx90=>L1 x90 λx91=>NC (e69 0) λx92=>FO 17 x92 λx93=>L1 x93 λx94=>IA 17 x94 (e69 3) λx95=>FO 0 x95 λx96=>L1 x96 λx97=>IA 1 x97 (e69 4) λx98=>L1 x98 λx99=>BS 3 1 (ZR 1 z3) [(0,1,x99)] λx100=>AND (L1 x90 λx101=>EV x101 x91)<|AP 3 1 8 (cl z3) x91 x100 λx102=>FO 3 (e69 2) λx103=>ST 1 x103 x102<|Je80 [(e69 0),(e69 2),(e69 3),(e69 4)]) (Je80 [(e69 0),(e69 2),(e69 3),(e69 4)])) λe80=>Je78 [(e80 0),(e80 2),(e80 3),(e80 4)]) λe78=>BO .add (e78 4) (I 1) λx79=>Ke69 [(e78 0),(e78 2),(e78 3),x79]) (Je68 [(e69 0),(e69 2),(e69 3)])) [(e59 0),(e59 2),(e59 3),(I 0)]) λe68=>Je67 [(e68 0),(e68 2),(e68 3)]) λe67=>Je65 [(e67 0),(e67 2),(e67 3)]) λe65=>BO .add (e65 3) (I 1) λx66=>Ke59 [(e65 0),(e65 2),x66]) (Je58 [(e59 0),(e59 2)])) [a0,x17,(I 0)]) λe58=>Je20 [(e58 0),(e58 2)]) λe20=>FO 3 (e20 2) λx21=>L1 x21 λx22=>NC (e20 0) λx23=>FO 4 x23 λx24=>FO 10 x24 λx25=>L1 x25 λx26=>AP 3 1 8 (cl z3) x22 x26 λx27=>FO 3 (e20 2) λx28=>ST 1 x28 x27<|LA 15 (e20 2) λx29=>NC (e20 0) λx30=>FO 18 x30 λx31=>ST 15 x31 x29<|LP [0,5] (λKe33 e33=>NC (e33 0) λx34=>FO 4 x34 λx35=>FO 1 x35 λx36=>L1 x36 λx37=>LN x37 λx38=>BO .lss (e33 5) x38 λx39=>IF x39 (NC (e33 0) λx40=>FO 4 x40 λx41=>FO 1 x41 λx42=>L1 x42 λx43=>IA 5 x43 (e33 5) λx44=>LA 5 x44 λx45=>AL 29 z29 λx46=>ST 5 x46 x45<|FO 2 x46 λx47=>L1 x47 λx48=>FO 3 x46 λx49=>ST 1 x49 x48<|FO 4 x46 λx50=>ST 1 x50 (I 0)<|NC (e33 0) λx51=>FO 4 x51 λx52=>FO 1 x52 λx53=>L1 x53 λx54=>LA 5 x46 λx55=>IA 5 x54 (e33 5) λx56=>ST 5 x56 x55<|BO .add (e33 5) (I 1) λx57=>Ke33 [(e33 0),x57]) (K (.tuple #[]))) [(e20 0),(I 1)]
theorem e_Sim_snapshot (a0:Value) (K:Value→M):body P f103 { at_:=[(4,[0,2]),(6,[0,2]),(7,[0,2,3]),(10,[0,2,3]),(11,[0,2,3]),(13,[0,2,3]),(14,[0,2,3,4]),(17,[0,2,3,4]),(18,[0,2,3,4]),(24,[0,5])] } [a0] K = c_Sim_snapshot a0 K:=by kernel_rfl
theorem s_Sim_snapshot {a0:Value} {R:RM} {A:Chs} {Q:Value→RM→Chs→Prop} (H:∀F,J R (A ++ F) (c_Sim_snapshot a0 (POST R F Q))):Fn P F_Sim_snapshot [a0] R A Q:=λF h hs=>CA_of func103 (by kernel_rfl) (e_Sim_snapshot _ _) (H F h hs)
def c_Sim_choose (a0:Value) (K:Value→M):M:=
 CUT [0] (λJe1=>CUT [0] (λJe97=>LP [0] (λKe98 e98=>CUT [0,18,25] (λJe99=>NC (e98 0) λx134=>FO 18 x134 λx135=>FO 3 x135 λx136=>L1 x136 λx137=>LN x137 λx138=>BO .gtr x138 (I 0) λx139=>GT x139 false (NC (e98 0) λx140=>FO 4 x140 λx141=>FO 9 x141 λx142=>L1 x142 λx143=>LN x143 λx144=>BO .gtr x144 (I 0) λx145=>Je99 [(e98 0),x139,x145]) (Je99 [(e98 0),x139,U])) λe99=>CUT [0,27,33] (λJe112=>PK (e99 18) (.bool true) (e99 25) λx128=>GT x128 false (NC (e99 0) λx129=>FO 18 x129 λx130=>FO 0 x130 λx131=>L1 x131 λx132=>BO .eql x132 (I 2) λx133=>Je112 [(e99 0),x128,x133]) (Je112 [(e99 0),x128,U])) λe112=>PK (e112 27) (.bool true) (e112 33) λx119=>IF x119 (CUT [0] (λJe120=>NC (e112 0) λx121=>FO 18 x121 λx122=>FO 0 x122 λx123=>L1 x123 λx124=>BO .eql x124 (I 2) λx125=>IF x125 (CA P 107 [(e112 0)] λx126=>Je120 [(e112 0)]) (CA P 106 [(e112 0)] λx127=>Je120 [(e112 0)])) λe120=>Ke98 [(e120 0)]) (Je97 [(e112 0)])) [a0]) λe97=>Je1 [(e97 0)]) λe1=>NC (e1 0) λx2=>FO 4 x2 λx3=>FO 4 x3 λx4=>ST 1 x4 (.bool false)<|CUT [0,2] (λJe5=>CUT [0,2] (λJe79=>LP [0,2,3] (λKe80 e80=>NC (e80 0) λx81=>FO 4 x81 λx82=>FO 10 x82 λx83=>L1 x83 λx84=>LN x84 λx85=>BO .lss (e80 3) x85 λx86=>IF x86 (NC (e80 0) λx87=>FO 4 x87 λx88=>FO 10 x88 λx89=>L1 x89 λx90=>IA 1 x90 (e80 3) λx91=>L1 x91 λx92=>CA P 112 [x92] λx93=>BS 3 1 (ZR 1 z3) [(0,1,x93)] λx94=>AP 3 1 8 (cl z3) (e80 2) x94 λx95=>BO .add (e80 3) (I 1) λx96=>Ke80 [(e80 0),x95,x96]) (Je79 [(e80 0),(e80 2)])) [(e1 0),(.slice none 0 0),(I 0)]) λe79=>Je5 [(e79 0),(e79 2)]) λe5=>NC (e5 0) λx6=>FO 4 x6 λx7=>FO 1 x7 λx8=>L1 x8 λx9=>NC (e5 0) λx10=>FO 0 x10 λx11=>FO 2 x11 λx12=>L1 x12 λx13=>CA P 13 [x9,x13,(e5 2)] λx14=>EX 0 x14 λx15=>EX 1 x14 λx16=>CUT [0,4] (λJe17=>CUT [0,4] (λJe62=>LP [0,4,5,6] (λKe63 e63=>LN (e63 5) λx64=>BO .lss (e63 6) x64 λx65=>IF x65 (NC (e63 0) λx66=>FO 4 x66 λx67=>FO 1 x67 λx68=>L1 x68 λx69=>IA 1 (e63 5) (e63 6) λx70=>L1 x70 λx71=>CA P 123 [x69,x71] λx72=>EX 0 x72 λx73=>EX 1 x72 λx74=>NC (e63 0) λx75=>FO 4 x75 λx76=>FO 1 x76 λx77=>ST 1 x77 x73<|BO .add (e63 6) (I 1) λx78=>Ke63 [(e63 0),(e63 4),(e63 5),x78]) (Je62 [(e63 0),(e63 4)])) [(e5 0),x15,x16,(I 0)]) λe62=>Je17 [(e62 0),(e62 4)]) λe17=>CUT [0,4] (λJe18=>CUT [0,4] (λJe36=>LP [0,4,9] (λKe37 e37=>LN (e37 4) λx38=>BO .lss (e37 9) x38 λx39=>IF x39 (NC (e37 0) λx40=>FO 4 x40 λx41=>FO 1 x41 λx42=>L1 x42 λx43=>IA 1 (e37 4) (e37 9) λx44=>L1 x44 λx45=>IA 5 x43 x45 λx46=>LA 5 x46 λx47=>AL 29 z29 λx48=>AND (L1 x42 λx49=>EV x49 x43)<|AND (L1 x44 λx50=>EV x50 x45)<|AND (LA 5 x46 λx51=>EV x51 x47)<|ST 5 x48 x47<|FO 0 x48 λx52=>ST 1 x52 (I 4)<|NC (e37 0) λx53=>FO 4 x53 λx54=>FO 1 x54 λx55=>L1 x55 λx56=>IA 1 (e37 4) (e37 9) λx57=>L1 x57 λx58=>LA 5 x48 λx59=>IA 5 x56 x58 λx60=>ST 5 x60 x59<|BO .add (e37 9) (I 1) λx61=>Ke37 [(e37 0),(e37 4),x61]) (Je36 [(e37 0),(e37 4)])) [(e17 0),(e17 4),(I 0)]) λe36=>Je18 [(e36 0),(e36 4)]) λe18=>LN (e18 4) λx19=>BO .eql x19 (I 0) λx20=>IF x20 (CA P 124 [(e18 0)] λx21=>K (.tuple #[])) (NC (e18 0) λx22=>FO 4 x22 λx23=>FO 3 x23 λx24=>ST 1 x24 (I 2)<|NC (e18 0) λx25=>FO 18 x25 λx26=>FO 1 x26 λx27=>L1 x27 λx28=>NC (e18 0) λx29=>FO 18 x29 λx30=>FO 2 x30 λx31=>L1 x31 λx32=>BD (cl z94) [(0,1,(I 5)),(4,1,(I 1)),(5,1,(I 16)),(1,1,x28),(2,1,x32)] λx33=>NC (e18 0) λx34=>FO 18 x34 λx35=>ST 15 x35 x33<|K (.tuple #[]))
theorem e_Sim_choose (a0:Value) (K:Value→M):body P f104 { at_:=[(0,[0]),(1,[0]),(2,[0]),(5,[0]),(9,[0,2]),(11,[0,2]),(12,[0,2,3]),(18,[0,4]),(20,[0,4]),(21,[0,4,5,6]),(27,[0,4]),(29,[0,4]),(30,[0,4,9])],rg:=[(0,[(15,[0,18,25]),(8,[0,27,33])])] } [a0] K = c_Sim_choose a0 K:=by kernel_rfl
theorem s_Sim_choose {a0:Value} {R:RM} {A:Chs} {Q:Value→RM→Chs→Prop} (H:∀F,J R (A ++ F) (c_Sim_choose a0 (POST R F Q))):Fn P F_Sim_choose [a0] R A Q:=λF h hs=>CA_of func104 (by kernel_rfl) (e_Sim_choose _ _) (H F h hs)
def c_Sim_finish (a0:Value) (K:Value→M):M:=
 CUT [0] (λJe1=>CUT [0] (λJe33=>LP [0,2] (λKe34 e34=>NC (e34 0) λx35=>FO 17 x35 λx36=>L1 x36 λx37=>LN x37 λx38=>BO .lss (e34 2) x38 λx39=>IF x39 (NC (e34 0) λx40=>FO 17 x40 λx41=>L1 x41 λx42=>IA 17 x42 (e34 2) λx43=>LA 17 x43 λx44=>AL 106 z106 λx45=>ST 17 x45 x44<|FO 0 x45 λx46=>L1 x46 λx47=>CA P 50 [x47] λx48=>FO 0 x45 λx49=>ST 1 x49 x48<|CUT [0,2,3] (λJe50=>CUT [0,2,3] (λJe57=>LP [0,2,3,4] (λKe58 e58=>FO 0 (e58 3) λx59=>L1 x59 λx60=>LN x60 λx61=>BO .lss (e58 4) x61 λx62=>IF x62 (CUT [0,2,3,4] (λJe63=>CUT [0,2,3,4] (λJe65=>FO 0 (e58 3) λx66=>L1 x66 λx67=>IA 1 x67 (e58 4) λx68=>L1 x68 λx69=>CA P 88 [(e58 0),x69] λx70=>IF x70 (FO 0 (e58 3) λx71=>L1 x71 λx72=>NC (e58 0) λx73=>FO 4 x73 λx74=>FO 0 x74 λx75=>L1 x75 λx76=>FO 0 (e58 3) λx77=>L1 x77 λx78=>IA 1 x78 (e58 4) λx79=>L1 x79 λx80=>IA 1 x76 x80 λx81=>L1 x81 λx82=>IA 1 x72 (e58 4) λx83=>ST 1 x83 x82<|Je65 [(e58 0),(e58 2),(e58 3),(e58 4)]) (Je65 [(e58 0),(e58 2),(e58 3),(e58 4)])) λe65=>Je63 [(e65 0),(e65 2),(e65 3),(e65 4)]) λe63=>BO .add (e63 4) (I 1) λx64=>Ke58 [(e63 0),(e63 2),(e63 3),x64]) (Je57 [(e58 0),(e58 2),(e58 3)])) [(e34 0),(e34 2),x45,(I 0)]) λe57=>Je50 [(e57 0),(e57 2),(e57 3)]) λe50=>NC (e50 0) λx51=>FO 17 x51 λx52=>L1 x52 λx53=>LA 17 (e50 3) λx54=>IA 17 x53 (e50 2) λx55=>ST 17 x55 x54<|BO .add (e50 2) (I 1) λx56=>Ke34 [(e50 0),x56]) (Je33 [(e34 0)])) [a0,(I 0)]) λe33=>Je1 [(e33 0)]) λe1=>CUT [0] (λJe2=>CUT [0] (λJe4=>LP [0,5] (λKe5 e5=>NC (e5 0) λx6=>FO 4 x6 λx7=>FO 1 x7 λx8=>L1 x8 λx9=>LN x9 λx10=>BO .lss (e5 5) x10 λx11=>IF x11 (CUT [0,5] (λJe12=>CUT [0,5] (λJe14=>NC (e5 0) λx15=>FO 4 x15 λx16=>FO 1 x16 λx17=>L1 x17 λx18=>IA 5 x18 (e5 5) λx19=>FO 0 x19 λx20=>L1 x20 λx21=>BO .eql x21 (I 4) λx22=>IF x22 (NC (e5 0) λx23=>FO 4 x23 λx24=>FO 1 x24 λx25=>L1 x25 λx26=>CA P 123 [x26,(e5 5)] λx27=>EX 0 x27 λx28=>EX 1 x27 λx29=>NC (e5 0) λx30=>FO 4 x30 λx31=>FO 1 x31 λx32=>ST 1 x32 x28<|Je14 [(e5 0),(e5 5)]) (Je14 [(e5 0),(e5 5)])) λe14=>Je12 [(e14 0),(e14 5)]) λe12=>BO .add (e12 5) (I 1) λx13=>Ke5 [(e12 0),x13]) (Je4 [(e5 0)])) [(e1 0),(I 1)]) λe4=>Je2 [(e4 0)]) λe2=>CA P 124 [(e2 0)] λx3=>K (.tuple #[])
theorem e_Sim_finish (a0:Value) (K:Value→M):body P f105 { at_:=[(0,[0]),(2,[0]),(3,[0,2]),(10,[0,2,3]),(12,[0,2,3]),(13,[0,2,3,4]),(16,[0,2,3,4]),(17,[0,2,3,4]),(19,[0]),(21,[0]),(22,[0,5]),(25,[0,5]),(26,[0,5])] } [a0] K = c_Sim_finish a0 K:=by kernel_rfl
theorem s_Sim_finish {a0:Value} {R:RM} {A:Chs} {Q:Value→RM→Chs→Prop} (H:∀F,J R (A ++ F) (c_Sim_finish a0 (POST R F Q))):Fn P F_Sim_finish [a0] R A Q:=λF h hs=>CA_of func105 (by kernel_rfl) (e_Sim_finish _ _) (H F h hs)
def c_Sim_mark (a0:Value) (K:Value→M):M:=
 NC a0 λx1=>FO 18 x1 λx2=>LA 15 x2 λx3=>AL 94 z94 λx4=>ST 15 x4 x3<|FO 3 x4 λx5=>L1 x5 λx6=>LN x6 λx7=>BO .eql x7 (I 0) λx8=>IF x8 (CUT [0,2] (λJe9=>NC a0 λx13=>FO 4 x13 λx14=>FO 9 x14 λx15=>L1 x15 λx16=>LN x16 λx17=>BO .eql x17 (I 0) λx18=>IF x18 (NC a0 λx19=>FO 4 x19 λx20=>FO 4 x20 λx21=>ST 1 x21 (.bool true)<|FO 2 x4 λx22=>ST 1 x22 (I 2)<|Je9 [a0,x4]) (NC a0 λx23=>FO 4 x23 λx24=>FO 9 x24 λx25=>L1 x25 λx26=>IA 1 x26 (I 0) λx27=>L1 x27 λx28=>BS 3 1 (ZR 1 z3) [(0,1,x28)] λx29=>FO 3 x4 λx30=>ST 1 x30 x29<|NC a0 λx31=>FO 4 x31 λx32=>FO 9 x32 λx33=>L1 x33 λx34=>SL 1 x34 (some (I 1)) none λx35=>CA P 50 [x35] λx36=>NC a0 λx37=>FO 4 x37 λx38=>FO 9 x38 λx39=>ST 1 x39 x36<|Je9 [a0,x4])) λe9=>LA 15 (e9 2) λx10=>NC (e9 0) λx11=>FO 18 x11 λx12=>ST 15 x12 x10<|K (.tuple #[])) (FO 3 x4 λx40=>L1 x40 λx41=>FO 3 x4 λx42=>L1 x42 λx43=>LN x43 λx44=>BO .sub x44 (I 1) λx45=>IA 1 x41 x45 λx46=>L1 x46 λx47=>FO 3 x4 λx48=>L1 x48 λx49=>FO 3 x4 λx50=>L1 x50 λx51=>LN x51 λx52=>BO .sub x52 (I 1) λx53=>SL 1 x49 none (some x53) λx54=>CA P 50 [x54] λx55=>FO 3 x4 λx56=>ST 1 x56 x55<|CA P 112 [x47] λx57=>CUT [0,2] (λJe58=>CUT [0,2,3,4,82,91] (λJe62=>NC a0 λx118=>FO 4 x118 λx119=>FO 1 x119 λx120=>L1 x120 λx121=>IA 5 x121 x57 λx122=>FO 3 x122 λx123=>L1 x123 λx124=>BO .lss x47 x124 λx125=>GT x125 true (NC a0 λx126=>FO 4 x126 λx127=>FO 2 x127 λx128=>L1 x128 λx129=>IA 1 x129 x47 λx130=>L1 x130 λx131=>NT x131 λx132=>Je62 [a0,x4,x47,x57,x125,x132]) (Je62 [a0,x4,x47,x57,x125,U])) λe62=>PK (e62 82) (e62 91) (.bool false) λx78=>IF x78 (NC (e62 0) λx79=>FO 4 x79 λx80=>FO 2 x80 λx81=>L1 x81 λx82=>IA 1 x82 (e62 3) λx83=>ST 1 x83 (.bool true)<|BO .add (e62 3) (I 1) λx84=>CA P 90 [(e62 0),x84] λx85=>CA P 94 [x85] λx86=>EX 0 x86 λx87=>EX 1 x86 λx88=>AL 92 z92 λx89=>ST 2 x89 x87<|NC (e62 0) λx90=>FO 4 x90 λx91=>FO 1 x91 λx92=>L1 x92 λx93=>IA 5 x93 (e62 4) λx94=>LA 5 x94 λx95=>AL 29 z29 λx96=>ST 5 x96 x95<|FO 4 x96 λx97=>L1 x97 λx98=>LA 2 x89 λx99=>CA P 70 [x99] λx100=>BO .add x98 x100 λx101=>FO 4 x96 λx102=>AND (L1 x97 λx103=>EV x103 x98)<|ST 1 x102 x101<|NC (e62 0) λx104=>FO 4 x104 λx105=>FO 1 x105 λx106=>L1 x106 λx107=>LA 5 x96 λx108=>IA 5 x107 (e62 4) λx109=>ST 5 x109 x108<|FO 5 (e62 2) λx110=>ST 1 x110 (e62 3)<|FO 6 (e62 2) λx111=>ST 1 x111 (I 0)<|LA 2 x89 λx112=>FO 7 (e62 2) λx113=>ST 2 x113 x112<|FO 0 x89 λx114=>L1 x114 λx115=>BO .gtr x115 (I 0) λx116=>IF x116 (FO 0 (e62 2) λx117=>ST 1 x117 (I 2)<|Je58 [(e62 0),(e62 2)]) (Je58 [(e62 0),(e62 2)])) (Je58 [(e62 0),(e62 2)])) λe58=>LA 15 (e58 2) λx59=>NC (e58 0) λx60=>FO 18 x60 λx61=>ST 15 x61 x59<|K (.tuple #[]))
theorem e_Sim_mark (a0:Value) (K:Value→M):body P f106 { at_:=[(3,[0,2]),(11,[0,2])],rg:=[(11,[(21,[0,2,3,4,82,91])])] } [a0] K = c_Sim_mark a0 K:=by kernel_rfl
theorem s_Sim_mark {a0:Value} {R:RM} {A:Chs} {Q:Value→RM→Chs→Prop} (H:∀F,J R (A ++ F) (c_Sim_mark a0 (POST R F Q))):Fn P F_Sim_mark [a0] R A Q:=λF h hs=>CA_of func106 (by kernel_rfl) (e_Sim_mark _ _) (H F h hs)
def c_Sim_look (a0:Value) (K:Value→M):M:=
 NC a0 λx1=>FO 18 x1 λx2=>LA 15 x2 λx3=>AL 94 z94 λx4=>ST 15 x4 x3<|FO 5 x4 λx5=>L1 x5 λx6=>BO .add x6 (I 2) λx7=>FO 6 x4 λx8=>L1 x8 λx9=>BO .add x7 x9 λx10=>CA P 90 [a0,x10] λx11=>CUT [0,2] (λJe12=>BO .neq x11 (I 0) λx28=>IF x28 (FO 3 x4 λx29=>L1 x29 λx30=>CA P 50 [x30] λx31=>BS 3 1 (ZR 1 z3) [(0,1,x11)] λx32=>AP 3 1 8 (cl z3) x31 x32 λx33=>FO 3 x4 λx34=>ST 1 x34 x33<|Je12 [a0,x4]) (Je12 [a0,x4])) λe12=>FO 6 (e12 2) λx13=>L1 x13 λx14=>BO .add x14 (I 1) λx15=>FO 6 (e12 2) λx16=>ST 1 x16 x15<|CUT [0,2] (λJe17=>FO 6 (e12 2) λx21=>L1 x21 λx22=>FO 7 (e12 2) λx23=>FO 0 x23 λx24=>L1 x24 λx25=>BO .eql x22 x25 λx26=>IF x26 (FO 0 (e12 2) λx27=>ST 1 x27 (I 1)<|Je17 [(e12 0),(e12 2)]) (Je17 [(e12 0),(e12 2)])) λe17=>LA 15 (e17 2) λx18=>NC (e17 0) λx19=>FO 18 x19 λx20=>ST 15 x20 x18<|K (.tuple #[])
theorem e_Sim_look (a0:Value) (K:Value→M):body P f107 { at_:=[(2,[0,2]),(5,[0,2])] } [a0] K = c_Sim_look a0 K:=by kernel_rfl
theorem s_Sim_look {a0:Value} {R:RM} {A:Chs} {Q:Value→RM→Chs→Prop} (H:∀F,J R (A ++ F) (c_Sim_look a0 (POST R F Q))):Fn P F_Sim_look [a0] R A Q:=λF h hs=>CA_of func107 (by kernel_rfl) (e_Sim_look _ _) (H F h hs)
def c_Sim_walk (a0:Value) (K:Value→M):M:=
 NC a0 λx1=>FO 18 x1 λx2=>LA 15 x2 λx3=>AL 94 z94 λx4=>ST 15 x4 x3<|CUT [0,2] (λJe5=>CUT [0,2] (λJe43=>LP [0,2] (λKe44 e44=>FO 4 (e44 2) λx45=>L1 x45 λx46=>NC (e44 0) λx47=>FO 4 x47 λx48=>FO 1 x48 λx49=>L1 x49 λx50=>LN x50 λx51=>BO .lss x46 x51 λx52=>IF x52 (NC (e44 0) λx53=>FO 4 x53 λx54=>FO 1 x54 λx55=>L1 x55 λx56=>FO 4 (e44 2) λx57=>L1 x57 λx58=>IA 5 x56 x58 λx59=>LA 5 x59 λx60=>AL 29 z29 λx61=>AND (L1 x55 λx62=>EV x62 x56)<|AND (L1 x57 λx63=>EV x63 x58)<|AND (LA 5 x59 λx64=>EV x64 x60)<|ST 5 x61 x60<|CUT [0,2,3] (λJe65=>CUT [0,2,3] (λJe92=>LP [0,2,3] (λKe93 e93=>CUT [0,2,3,29,34] (λJe94=>FO 0 (e93 3) λx129=>L1 x129 λx130=>BO .eql x130 (I 4) λx131=>GT x131 true (FO 5 (e93 2) λx132=>L1 x132 λx133=>FO 2 (e93 3) λx134=>L1 x134 λx135=>BO .lss x133 x135 λx136=>Je94 [(e93 0),(e93 2),(e93 3),x131,x136]) (Je94 [(e93 0),(e93 2),(e93 3),x131,U])) λe94=>CUT [0,2,3,36,46] (λJe103=>PK (e94 29) (e94 34) (.bool false) λx119=>GT x119 true (NC (e94 0) λx120=>FO 4 x120 λx121=>FO 2 x121 λx122=>L1 x122 λx123=>FO 5 (e94 2) λx124=>L1 x124 λx125=>IA 1 x123 x125 λx126=>L1 x126 λx127=>NT x127 λx128=>Je103 [(e94 0),(e94 2),(e94 3),x119,x128]) (Je103 [(e94 0),(e94 2),(e94 3),x119,U])) λe103=>PK (e103 36) (e103 46) (.bool false) λx114=>IF x114 (FO 5 (e103 2) λx115=>L1 x115 λx116=>BO .add x116 (I 1) λx117=>FO 5 (e103 2) λx118=>ST 1 x118 x117<|Ke93 [(e103 0),(e103 2),(e103 3)]) (Je92 [(e103 0),(e103 2),(e103 3)])) [(e44 0),(e44 2),x61]) λe92=>Je65 [(e92 0),(e92 2),(e92 3)]) λe65=>CUT [0,2,55,60] (λJe66=>FO 0 (e65 3) λx84=>L1 x84 λx85=>BO .eql x85 (I 4) λx86=>GT x86 true (FO 5 (e65 2) λx87=>L1 x87 λx88=>FO 2 (e65 3) λx89=>L1 x89 λx90=>BO .lss x88 x90 λx91=>Je66 [(e65 0),(e65 2),x86,x91]) (Je66 [(e65 0),(e65 2),x86,U])) λe66=>PK (e66 55) (e66 60) (.bool false) λx75=>IF x75 (Je43 [(e66 0),(e66 2)]) (FO 4 (e66 2) λx76=>L1 x76 λx77=>BO .add x77 (I 1) λx78=>FO 4 (e66 2) λx79=>ST 1 x79 x78<|FO 4 (e66 2) λx80=>L1 x80 λx81=>BO .mul x81 (I 16) λx82=>FO 5 (e66 2) λx83=>ST 1 x83 x82<|Ke44 [(e66 0),(e66 2)])) (Je43 [(e44 0),(e44 2)])) [a0,x4]) λe43=>Je5 [(e43 0),(e43 2)]) λe5=>FO 4 (e5 2) λx6=>L1 x6 λx7=>NC (e5 0) λx8=>FO 4 x8 λx9=>FO 1 x9 λx10=>L1 x10 λx11=>LN x11 λx12=>BO .eql x7 x12 λx13=>IF x13 (NC (e5 0) λx14=>FO 4 x14 λx15=>FO 4 x15 λx16=>ST 1 x16 (.bool true)<|FO 2 (e5 2) λx17=>ST 1 x17 (I 3)<|LA 15 (e5 2) λx18=>NC (e5 0) λx19=>FO 18 x19 λx20=>ST 15 x20 x18<|K (.tuple #[])) (FO 5 (e5 2) λx21=>L1 x21 λx22=>BO .add x22 (I 1) λx23=>FO 5 (e5 2) λx24=>ST 1 x24 x23<|CUT [0,2] (λJe25=>FO 5 (e5 2) λx29=>L1 x29 λx30=>BO .sub x30 (I 1) λx31=>FO 5 (e5 2) λx32=>L1 x32 λx33=>BO .sub x33 (I 1) λx34=>CA P 90 [(e5 0),x31] λx35=>BO .eql x35 x34 λx36=>AND (L1 x32 λx37=>EV x37 x33)<|IF x36 (FO 5 (e5 2) λx38=>L1 x38 λx39=>BO .sub x39 (I 1) λx40=>FO 11 (e5 2) λx41=>ST 1 x41 x40<|FO 0 (e5 2) λx42=>ST 1 x42 (I 20)<|Je25 [(e5 0),(e5 2)]) (Je25 [(e5 0),(e5 2)])) λe25=>LA 15 (e25 2) λx26=>NC (e25 0) λx27=>FO 18 x27 λx28=>ST 15 x28 x26<|K (.tuple #[]))
theorem e_Sim_walk (a0:Value) (K:Value→M):body P f108 { at_:=[(1,[0,2]),(2,[0,2]),(3,[0,2]),(8,[0,2,3]),(9,[0,2,3]),(10,[0,2,3]),(23,[0,2])],rg:=[(5,[(9,[0,2,55,60])])],dr:=[(3,[(0,[(9,[0,2,3,29,34]),(12,[0,2,3,36,46])])])] } [a0] K = c_Sim_walk a0 K:=by kernel_rfl
theorem s_Sim_walk {a0:Value} {R:RM} {A:Chs} {Q:Value→RM→Chs→Prop} (H:∀F,J R (A ++ F) (c_Sim_walk a0 (POST R F Q))):Fn P F_Sim_walk [a0] R A Q:=λF h hs=>CA_of func108 (by kernel_rfl) (e_Sim_walk _ _) (H F h hs)
def c_Sim_carry (a0:Value) (K:Value→M):M:=
 NC a0 λx1=>FO 18 x1 λx2=>LA 15 x2 λx3=>AL 94 z94 λx4=>ST 15 x4 x3<|CUT [0,2] (λJe5=>FO 0 x4 λx9=>L1 x9 λx10=>CUT [0,2] (λJe11=>BO .eql x10 (I 20) λx12=>IF x12 (FO 11 x4 λx13=>L1 x13 λx14=>BO .add x14 (I 1) λx15=>CA P 90 [a0,x15] λx16=>CA P 94 [x16] λx17=>EX 0 x17 λx18=>EX 1 x17 λx19=>AL 92 z92 λx20=>ST 2 x20 x18<|LA 2 x20 λx21=>CA P 70 [x21] λx22=>FO 13 x4 λx23=>ST 1 x23 x22<|NC a0 λx24=>FO 4 x24 λx25=>FO 1 x25 λx26=>L1 x26 λx27=>NC a0 λx28=>FO 17 x28 λx29=>L1 x29 λx30=>LN x30 λx31=>FO 13 x4 λx32=>L1 x32 λx33=>CA P 8 [x27,x31,x33] λx34=>EX 0 x34 λx35=>EX 1 x34 λx36=>EX 2 x34 λx37=>NT x37 λx38=>IF x38 (NC a0 λx39=>FO 4 x39 λx40=>FO 5 x40 λx41=>ST 1 x41 (.bool true)<|NC a0 λx42=>FO 4 x42 λx43=>FO 4 x43 λx44=>ST 1 x44 (.bool true)<|K (.tuple #[])) (NC a0 λx45=>FO 4 x45 λx46=>FO 1 x46 λx47=>ST 1 x47 x35<|FO 12 x4 λx48=>ST 1 x48 x36<|FO 6 x4 λx49=>ST 1 x49 (I 1)<|FO 0 x4 λx50=>ST 1 x50 (I 21)<|Je11 [a0,x4])) (BO .eql x10 (I 21) λx51=>IF x51 (FO 11 x4 λx52=>L1 x52 λx53=>FO 6 x4 λx54=>L1 x54 λx55=>BO .add x53 x55 λx56=>CA P 90 [a0,x56] λx57=>FO 14 x4 λx58=>ST 1 x58 x57<|FO 0 x4 λx59=>ST 1 x59 (I 22)<|Je11 [a0,x4]) (BO .eql x10 (I 22) λx60=>IF x60 (FO 12 x4 λx61=>L1 x61 λx62=>FO 6 x4 λx63=>L1 x63 λx64=>BO .add x62 x64 λx65=>FO 14 x4 λx66=>L1 x66 λx67=>CA P 97 [a0,x65,x67] λx68=>FO 6 x4 λx69=>L1 x69 λx70=>BO .add x70 (I 1) λx71=>FO 6 x4 λx72=>ST 1 x72 x71<|FO 0 x4 λx73=>ST 1 x73 (I 21)<|FO 6 x4 λx74=>L1 x74 λx75=>FO 13 x4 λx76=>L1 x76 λx77=>BO .eql x75 x77 λx78=>IF x78 (FO 0 x4 λx79=>ST 1 x79 (I 23)<|Je11 [a0,x4]) (Je11 [a0,x4])) (BO .eql x10 (I 23) λx80=>IF x80 (FO 12 x4 λx81=>L1 x81 λx82=>FO 12 x4 λx83=>L1 x83 λx84=>CA P 97 [a0,x82,x84] λx85=>FO 0 x4 λx86=>ST 1 x86 (I 24)<|Je11 [a0,x4]) (BO .eql x10 (I 24) λx87=>IF x87 (CUT [0,2] (λJe88=>FO 11 x4 λx90=>L1 x90 λx91=>FO 11 x4 λx92=>L1 x92 λx93=>CA P 90 [a0,x91] λx94=>BO .eql x94 x93 λx95=>AND (L1 x92 λx96=>EV x96 x93)<|IF x95 (FO 11 x4 λx97=>L1 x97 λx98=>FO 12 x4 λx99=>L1 x99 λx100=>CA P 97 [a0,x98,x100] λx101=>FO 12 x4 λx102=>L1 x102 λx103=>FO 13 x4 λx104=>L1 x104 λx105=>CA P 98 [a0,x103,x105] λx106=>Je88 [a0,x4]) (Je88 [a0,x4])) λe88=>FO 0 (e88 2) λx89=>ST 1 x89 (I 5)<|Je11 [(e88 0),(e88 2)]) (Je11 [a0,x4])))))) λe11=>Je5 [(e11 0),(e11 2)]) λe5=>LA 15 (e5 2) λx6=>NC (e5 0) λx7=>FO 18 x7 λx8=>ST 15 x8 x6<|K (.tuple #[])
theorem e_Sim_carry (a0:Value) (K:Value→M):body P f109 { at_:=[(1,[0,2]),(3,[0,2]),(25,[0,2])] } [a0] K = c_Sim_carry a0 K:=by kernel_rfl
theorem s_Sim_carry {a0:Value} {R:RM} {A:Chs} {Q:Value→RM→Chs→Prop} (H:∀F,J R (A ++ F) (c_Sim_carry a0 (POST R F Q))):Fn P F_Sim_carry [a0] R A Q:=λF h hs=>CA_of func109 (by kernel_rfl) (e_Sim_carry _ _) (H F h hs)
def c_Sim_renew (a0:Value) (K:Value→M):M:=
 NC a0 λx1=>FO 18 x1 λx2=>LA 15 x2 λx3=>AL 94 z94 λx4=>ST 15 x4 x3<|CUT [0,2] (λJe5=>FO 0 x4 λx9=>L1 x9 λx10=>CUT [0,2] (λJe11=>BO .eql x10 (I 6) λx12=>IF x12 (CUT [0,2] (λJe13=>CUT [0,2] (λJe103=>LP [0,2] (λKe104 e104=>CUT [0,2,53] (λJe105=>CUT [0,2,22,34,35,36,38,43,44,45,46,48,49] (λJe114=>FO 4 (e104 2) λx173=>L1 x173 λx174=>NC (e104 0) λx175=>FO 4 x175 λx176=>FO 1 x176 λx177=>L1 x177 λx178=>LN x178 λx179=>BO .lss x174 x179 λx180=>GT x180 true (NC (e104 0) λx181=>FO 4 x181 λx182=>FO 1 x182 λx183=>L1 x183 λx184=>FO 4 (e104 2) λx185=>L1 x185 λx186=>IA 5 x184 x186 λx187=>FO 0 x187 λx188=>L1 x188 λx189=>BO .eql x189 (I 4) λx190=>GT x190 false (FO 5 (e104 2) λx191=>L1 x191 λx192=>FO 4 (e104 2) λx193=>L1 x193 λx194=>NC (e104 0) λx195=>FO 4 x195 λx196=>FO 1 x196 λx197=>L1 x197 λx198=>FO 4 (e104 2) λx199=>L1 x199 λx200=>IA 5 x198 x200 λx201=>FO 4 x201 λx202=>L1 x202 λx203=>Je114 [(e104 0),(e104 2),x180,x190,x191,x192,x194,x197,x198,x199,x200,x202,x203]) (Je114 [(e104 0),(e104 2),x180,x190,U,U,U,U,U,U,U,U,U])) (Je114 [(e104 0),(e104 2),x180,U,U,U,U,U,U,U,U,U,U])) λe114=>GT (e114 34) false (CA P 25 [(e114 38)] λx146=>CUT [0,2,22,34,35,36,43,44,45,46,48,49,51] (λJe147=>GT (e114 34) false (BO .add x146 (e114 49) λx158=>BO .geq (e114 36) x158 λx159=>Je147 [(e114 0),(e114 2),(e114 22),(e114 34),(e114 35),(e114 36),(e114 43),(e114 44),(e114 45),(e114 46),(e114 48),(e114 49),x159]) (Je147 [(e114 0),(e114 2),(e114 22),(e114 34),(e114 35),(e114 36),(e114 43),(e114 44),(e114 45),(e114 46),(e114 48),(e114 49),U])) λe147=>CUT [0,2,22,34,35,36,43,44,45,46,48,49,52] (λJe150=>GT (e147 22) true (PK (e147 34) (.bool true) (e147 51) λx157=>Je150 [(e147 0),(e147 2),(e147 22),(e147 34),(e147 35),(e147 36),(e147 43),(e147 44),(e147 45),(e147 46),(e147 48),(e147 49),x157]) (Je150 [(e147 0),(e147 2),(e147 22),(e147 34),(e147 35),(e147 36),(e147 43),(e147 44),(e147 45),(e147 46),(e147 48),(e147 49),U])) λe150=>PK (e150 22) (e150 52) (.bool false) λx152=>AND (GT (e150 34) false (L1 (e150 35) λx153=>EV x153 (e150 36)) (EV U (e150 36)))<|AND (GT (e150 34) false (L1 (e150 43) λx154=>EV x154 (e150 44)) (EV U (e150 44)))<|AND (GT (e150 34) false (L1 (e150 45) λx155=>EV x155 (e150 46)) (EV U (e150 46)))<|AND (GT (e150 34) false (L1 (e150 48) λx156=>EV x156 (e150 49)) (EV U (e150 49)))<|Je105 [(e150 0),(e150 2),x152]) (CUT [0,2,22,34,35,36,43,44,45,46,48,49,51] (λJe160=>GT (e114 34) false (BO .add U (e114 49) λx171=>BO .geq (e114 36) x171 λx172=>Je160 [(e114 0),(e114 2),(e114 22),(e114 34),(e114 35),(e114 36),(e114 43),(e114 44),(e114 45),(e114 46),(e114 48),(e114 49),x172]) (Je160 [(e114 0),(e114 2),(e114 22),(e114 34),(e114 35),(e114 36),(e114 43),(e114 44),(e114 45),(e114 46),(e114 48),(e114 49),U])) λe160=>CUT [0,2,22,34,35,36,43,44,45,46,48,49,52] (λJe163=>GT (e160 22) true (PK (e160 34) (.bool true) (e160 51) λx170=>Je163 [(e160 0),(e160 2),(e160 22),(e160 34),(e160 35),(e160 36),(e160 43),(e160 44),(e160 45),(e160 46),(e160 48),(e160 49),x170]) (Je163 [(e160 0),(e160 2),(e160 22),(e160 34),(e160 35),(e160 36),(e160 43),(e160 44),(e160 45),(e160 46),(e160 48),(e160 49),U])) λe163=>PK (e163 22) (e163 52) (.bool false) λx165=>AND (GT (e163 34) false (L1 (e163 35) λx166=>EV x166 (e163 36)) (EV U (e163 36)))<|AND (GT (e163 34) false (L1 (e163 43) λx167=>EV x167 (e163 44)) (EV U (e163 44)))<|AND (GT (e163 34) false (L1 (e163 45) λx168=>EV x168 (e163 46)) (EV U (e163 46)))<|AND (GT (e163 34) false (L1 (e163 48) λx169=>EV x169 (e163 49)) (EV U (e163 49)))<|Je105 [(e163 0),(e163 2),x165])) λe105=>IF (e105 53) (FO 4 (e105 2) λx106=>L1 x106 λx107=>BO .add x107 (I 1) λx108=>FO 4 (e105 2) λx109=>ST 1 x109 x108<|FO 4 (e105 2) λx110=>L1 x110 λx111=>BO .mul x111 (I 16) λx112=>FO 5 (e105 2) λx113=>ST 1 x113 x112<|Ke104 [(e105 0),(e105 2)]) (Je103 [(e105 0),(e105 2)])) [a0,x4]) λe103=>Je13 [(e103 0),(e103 2)]) λe13=>FO 4 (e13 2) λx14=>L1 x14 λx15=>NC (e13 0) λx16=>FO 4 x16 λx17=>FO 1 x17 λx18=>L1 x18 λx19=>LN x19 λx20=>BO .eql x15 x20 λx21=>IF x21 (NC (e13 0) λx22=>FO 4 x22 λx23=>FO 4 x23 λx24=>ST 1 x24 (.bool true)<|FO 2 (e13 2) λx25=>ST 1 x25 (I 0)<|Je11 [(e13 0),(e13 2)]) (FO 5 (e13 2) λx26=>L1 x26 λx27=>FO 10 (e13 2) λx28=>ST 1 x28 x27<|FO 5 (e13 2) λx29=>L1 x29 λx30=>BO .add x30 (I 1) λx31=>CA P 90 [(e13 0),x31] λx32=>CA P 94 [x32] λx33=>EX 0 x33 λx34=>EX 1 x33 λx35=>AL 92 z92 λx36=>ST 2 x36 x34<|LA 2 x36 λx37=>FO 7 (e13 2) λx38=>ST 2 x38 x37<|FO 5 (e13 2) λx39=>L1 x39 λx40=>FO 7 (e13 2) λx41=>LA 2 x41 λx42=>CA P 70 [x42] λx43=>BO .add x40 x43 λx44=>FO 5 (e13 2) λx45=>AND (L1 x39 λx46=>EV x46 x40)<|ST 1 x45 x44<|FO 6 (e13 2) λx47=>ST 1 x47 (I 0)<|CUT [0,2,102,126] (λJe48=>FO 7 (e13 2) λx77=>FO 0 x77 λx78=>L1 x78 λx79=>BO .gtr x79 (I 0) λx80=>GT x80 true (FO 10 (e13 2) λx81=>L1 x81 λx82=>NC (e13 0) λx83=>FO 4 x83 λx84=>FO 1 x84 λx85=>L1 x85 λx86=>FO 4 (e13 2) λx87=>L1 x87 λx88=>IA 5 x86 x88 λx89=>FO 3 x89 λx90=>L1 x90 λx91=>BO .geq x82 x91 λx92=>GT x92 false (NC (e13 0) λx93=>FO 4 x93 λx94=>FO 2 x94 λx95=>L1 x95 λx96=>FO 10 (e13 2) λx97=>L1 x97 λx98=>IA 1 x96 x98 λx99=>L1 x99 λx100=>PK x92 (.bool true) x100 λx101=>Je48 [(e13 0),(e13 2),x80,x101]) (PK x92 (.bool true) U λx102=>Je48 [(e13 0),(e13 2),x80,x102])) (Je48 [(e13 0),(e13 2),x80,U])) λe48=>PK (e48 102) (e48 126) (.bool false) λx75=>IF x75 (FO 0 (e48 2) λx76=>ST 1 x76 (I 7)<|Je11 [(e48 0),(e48 2)]) (Je11 [(e48 0),(e48 2)]))) (BO .eql x10 (I 7) λx204=>IF x204 (FO 10 x4 λx205=>L1 x205 λx206=>BO .add x206 (I 2) λx207=>FO 6 x4 λx208=>L1 x208 λx209=>BO .add x207 x209 λx210=>CA P 90 [a0,x210] λx211=>FO 9 x4 λx212=>ST 1 x212 x211<|FO 9 x4 λx213=>L1 x213 λx214=>CA P 88 [a0,x214] λx215=>IF x215 (FO 0 x4 λx216=>ST 1 x216 (I 8)<|Je11 [a0,x4]) (LA 15 x4 λx217=>CA P 125 [x217] λx218=>ST 15 x4 x218<|Je11 [a0,x4])) (BO .eql x10 (I 8) λx219=>IF x219 (FO 9 x4 λx220=>L1 x220 λx221=>CA P 90 [a0,x221] λx222=>FO 14 x4 λx223=>ST 1 x223 x222<|FO 0 x4 λx224=>ST 1 x224 (I 9)<|FO 14 x4 λx225=>L1 x225 λx226=>FO 9 x4 λx227=>L1 x227 λx228=>BO .eql x226 x228 λx229=>IF x229 (LA 15 x4 λx230=>CA P 125 [x230] λx231=>ST 15 x4 x231<|Je11 [a0,x4]) (Je11 [a0,x4])) (BO .eql x10 (I 9) λx232=>IF x232 (CUT [0,2] (λJe233=>FO 10 x4 λx236=>L1 x236 λx237=>BO .add x237 (I 2) λx238=>FO 6 x4 λx239=>L1 x239 λx240=>BO .add x238 x240 λx241=>FO 9 x4 λx242=>L1 x242 λx243=>CA P 90 [a0,x241] λx244=>BO .eql x244 x243 λx245=>AND (L1 x242 λx246=>EV x246 x243)<|IF x245 (FO 10 x4 λx247=>L1 x247 λx248=>BO .add x248 (I 2) λx249=>FO 6 x4 λx250=>L1 x250 λx251=>BO .add x249 x251 λx252=>FO 14 x4 λx253=>L1 x253 λx254=>CA P 97 [a0,x252,x254] λx255=>Je233 [a0,x4]) (Je233 [a0,x4])) λe233=>LA 15 (e233 2) λx234=>CA P 125 [x234] λx235=>ST 15 (e233 2) x235<|Je11 [(e233 0),(e233 2)]) (Je11 [a0,x4]))))) λe11=>Je5 [(e11 0),(e11 2)]) λe5=>LA 15 (e5 2) λx6=>NC (e5 0) λx7=>FO 18 x7 λx8=>ST 15 x8 x6<|K (.tuple #[])
theorem e_Sim_renew (a0:Value) (K:Value→M):body P f110 { at_:=[(1,[0,2]),(3,[0,2]),(5,[0,2]),(6,[0,2]),(7,[0,2]),(9,[0,2,53]),(30,[0,2])],dr:=[(3,[(0,[(36,[0,2,22,34,35,36,38,43,44,45,46,48,49])]),(67108864,[(2,[0,2,22,34,35,36,43,44,45,46,48,49,51]),(1,[0,2,22,34,35,36,43,44,45,46,48,49,52])])]),(14,[(0,[(29,[0,2,102,126])])])] } [a0] K = c_Sim_renew a0 K:=by kernel_rfl
theorem s_Sim_renew {a0:Value} {R:RM} {A:Chs} {Q:Value→RM→Chs→Prop} (H:∀F,J R (A ++ F) (c_Sim_renew a0 (POST R F Q))):Fn P F_Sim_renew [a0] R A Q:=λF h hs=>CA_of func110 (by kernel_rfl) (e_Sim_renew _ _) (H F h hs)
def c_s_WordsOk (a0:Value) (K:Value→M):M:=
 LN a0 λx1=>BO .quo x1 (I 16) λx2=>CUT [3,11,13] (λJe3=>LN a0 λx14=>BO .rem x14 (I 16) λx15=>BO .eql x15 (I 0) λx16=>GT x16 true (BO .geq x2 (I 2) λx17=>Je3 [x2,x16,x17]) (Je3 [x2,x16,U])) λe3=>CUT [15,17] (λJe8=>PK (e3 11) (e3 13) (.bool false) λx12=>GT x12 true (BO .leq (e3 3) (I 12) λx13=>Je8 [x12,x13]) (Je8 [x12,U])) λe8=>PK (e8 15) (e8 17) (.bool false) λx11=>K x11
theorem e_s_WordsOk (a0:Value) (K:Value→M):body P f111 { rg:=[(2,[(7,[3,11,13]),(4,[15,17])])] } [a0] K = c_s_WordsOk a0 K:=by kernel_rfl
theorem s_s_WordsOk {a0:Value} {R:RM} {A:Chs} {Q:Value→RM→Chs→Prop} (H:∀F,J R (A ++ F) (c_s_WordsOk a0 (POST R F Q))):Fn P F_s_WordsOk [a0] R A Q:=λF h hs=>CA_of func111 (by kernel_rfl) (e_s_WordsOk _ _) (H F h hs)
def c_s_RegionOf (a0:Value) (K:Value→M):M:=
 BO .lss a0 (I 0) λx1=>IF x1 (K (I (-1))) (BO .quo a0 (I 16) λx2=>K x2)
theorem e_s_RegionOf (a0:Value) (K:Value→M):body P f112 {} [a0] K = c_s_RegionOf a0 K:=by kernel_rfl
theorem s_s_RegionOf {a0:Value} {R:RM} {A:Chs} {Q:Value→RM→Chs→Prop} (H:∀F,J R (A ++ F) (c_s_RegionOf a0 (POST R F Q))):Fn P F_s_RegionOf [a0] R A Q:=λF h hs=>CA_of func112 (by kernel_rfl) (e_s_RegionOf _ _) (H F h hs)
def c_s_l5Fields (a0:Value) (K:Value→M):M:=
 CUT [0,5,7] (λJe1=>BO .eql a0 (I 2) λx20=>GT x20 false (BO .eql a0 (I 3) λx21=>Je1 [a0,x20,x21]) (Je1 [a0,x20,U])) λe1=>CUT [0,9,11] (λJe4=>PK (e1 5) (.bool true) (e1 7) λx18=>GT x18 false (BO .eql (e1 0) (I 4) λx19=>Je4 [(e1 0),x18,x19]) (Je4 [(e1 0),x18,U])) λe4=>CUT [0,13,15] (λJe7=>PK (e4 9) (.bool true) (e4 11) λx16=>GT x16 false (BO .eql (e4 0) (I 5) λx17=>Je7 [(e4 0),x16,x17]) (Je7 [(e4 0),x16,U])) λe7=>CUT [17,19] (λJe10=>PK (e7 13) (.bool true) (e7 15) λx14=>GT x14 false (BO .eql (e7 0) (I 7) λx15=>Je10 [x14,x15]) (Je10 [x14,U])) λe10=>PK (e10 17) (.bool true) (e10 19) λx13=>K x13
theorem e_s_l5Fields (a0:Value) (K:Value→M):body P f113 { rg:=[(1,[(5,[0,5,7]),(4,[0,9,11]),(4,[0,13,15]),(4,[17,19])])] } [a0] K = c_s_l5Fields a0 K:=by kernel_rfl
theorem s_s_l5Fields {a0:Value} {R:RM} {A:Chs} {Q:Value→RM→Chs→Prop} (H:∀F,J R (A ++ F) (c_s_l5Fields a0 (POST R F Q))):Fn P F_s_l5Fields [a0] R A Q:=λF h hs=>CA_of func113 (by kernel_rfl) (e_s_l5Fields _ _) (H F h hs)
def c_s_l6Things (a0:Value) (K:Value→M):M:=
 AL 58 a0 λx1=>CUT [4] (λJe2=>CUT [4] (λJe3=>LP [1,4,5] (λKe4 e4=>FO 1 (e4 1) λx5=>L1 x5 λx6=>LN x6 λx7=>BO .lss (e4 5) x7 λx8=>IF x8 (FO 0 (e4 1) λx9=>L1 x9 λx10=>FO 1 (e4 1) λx11=>L1 x11 λx12=>IA 5 x12 (e4 5) λx13=>FO 2 x13 λx14=>L1 x14 λx15=>CA P 126 [x10,(e4 5),x15] λx16=>EX 0 x16 λx17=>EX 1 x16 λx18=>NT x18 λx19=>IF x19 (K (.tuple #[(.slice none 0 0),(.bool false)])) (AP 135 6 80 (cl z135) (e4 4) x17 λx20=>BO .add (e4 5) (I 1) λx21=>Ke4 [(e4 1),x20,x21])) (Je3 [(e4 4)])) [x1,(.slice none 0 0),(I 1)]) λe3=>Je2 [(e3 4)]) λe2=>K (.tuple #[(e2 4),(.bool true)])
theorem e_s_l6Things (a0:Value) (K:Value→M):body P f114 { at_:=[(2,[4]),(4,[4]),(5,[1,4,5])] } [a0] K = c_s_l6Things a0 K:=by kernel_rfl
theorem s_s_l6Things {a0:Value} {R:RM} {A:Chs} {Q:Value→RM→Chs→Prop} (H:∀F,J R (A ++ F) (c_s_l6Things a0 (POST R F Q))):Fn P F_s_l6Things [a0] R A Q:=λF h hs=>CA_of func114 (by kernel_rfl) (e_s_l6Things _ _) (H F h hs)
def c_s_l7Sorted (a0:Value) (K:Value→M):M:=
 CUT [3] (λJe1=>CUT [3] (λJe2=>LP [0,3,4] (λKe3 e3=>LN (e3 0) λx4=>BO .lss (e3 4) x4 λx5=>IF x5 (CUT [0,3,4] (λJe6=>CUT [0,3,4] (λJe8=>LN (e3 3) λx9=>IA 1 (e3 0) (e3 4) λx10=>L1 x10 λx11=>BS 3 1 (ZR 1 z3) [(0,1,x11)] λx12=>AP 3 1 8 (cl z3) (e3 3) x12 λx13=>CUT [0,3,4] (λJe14=>LP [0,3,4,5] (λKe15 e15=>CUT [0,3,4,5,24,34] (λJe16=>BO .gtr (e15 5) (I 0) λx34=>GT x34 true (BO .sub (e15 5) (I 1) λx35=>IA 1 (e15 3) x35 λx36=>L1 x36 λx37=>IA 1 (e15 3) (e15 5) λx38=>L1 x38 λx39=>BO .gtr x37 x39 λx40=>Je16 [(e15 0),(e15 3),(e15 4),(e15 5),x34,x40]) (Je16 [(e15 0),(e15 3),(e15 4),(e15 5),x34,U])) λe16=>PK (e16 24) (e16 34) (.bool false) λx24=>IF x24 (BO .sub (e16 5) (I 1) λx25=>IA 1 (e16 3) x25 λx26=>L1 x26 λx27=>BO .sub (e16 5) (I 1) λx28=>IA 1 (e16 3) (e16 5) λx29=>L1 x29 λx30=>IA 1 (e16 3) x28 λx31=>ST 1 x31 x30<|IA 1 (e16 3) (e16 5) λx32=>ST 1 x32 x27<|BO .sub (e16 5) (I 1) λx33=>Ke15 [(e16 0),(e16 3),(e16 4),x33]) (Je14 [(e16 0),(e16 3),(e16 4)])) [(e3 0),x13,(e3 4),x9]) λe14=>Je8 [(e14 0),(e14 3),(e14 4)]) λe8=>Je6 [(e8 0),(e8 3),(e8 4)]) λe6=>BO .add (e6 4) (I 1) λx7=>Ke3 [(e6 0),(e6 3),x7]) (Je2 [(e3 3)])) [a0,(.slice none 0 0),(I 0)]) λe2=>Je1 [(e2 3)]) λe1=>K (e1 3)
theorem e_s_l7Sorted (a0:Value) (K:Value→M):body P f115 { at_:=[(2,[3]),(4,[3]),(5,[0,3,4]),(8,[0,3,4]),(9,[0,3,4]),(12,[0,3,4]),(13,[0,3,4,5])],dr:=[(7,[(0,[(13,[0,3,4,5,24,34])])])] } [a0] K = c_s_l7Sorted a0 K:=by kernel_rfl
theorem s_s_l7Sorted {a0:Value} {R:RM} {A:Chs} {Q:Value→RM→Chs→Prop} (H:∀F,J R (A ++ F) (c_s_l7Sorted a0 (POST R F Q))):Fn P F_s_l7Sorted [a0] R A Q:=λF h hs=>CA_of func115 (by kernel_rfl) (e_s_l7Sorted _ _) (H F h hs)
def c_s_l7Reached (a0 a1:Value) (K:Value→M):M:=
 AL 58 a0 λx1=>CUT [1,2,5] (λJe2=>CUT [1,2,5] (λJe54=>LP [1,2,5,6] (λKe55 e55=>FO 8 (e55 2) λx56=>L1 x56 λx57=>LN x57 λx58=>BO .lss (e55 6) x58 λx59=>IF x59 (CUT [1,2,5,6] (λJe60=>CUT [1,2,5,6] (λJe62=>CUT [1,2,5,6] (λJe63=>LP [1,2,5,6,7] (λKe64 e64=>FO 8 (e64 2) λx65=>L1 x65 λx66=>IA 4 x66 (e64 6) λx67=>FO 0 x67 λx68=>L1 x68 λx69=>LN x69 λx70=>BO .lss (e64 7) x70 λx71=>IF x71 (CUT [1,2,5,6,7] (λJe72=>CUT [1,2,5,6,7] (λJe74=>FO 8 (e64 2) λx75=>L1 x75 λx76=>IA 4 x76 (e64 6) λx77=>FO 0 x77 λx78=>L1 x78 λx79=>IA 1 x79 (e64 7) λx80=>L1 x80 λx81=>CA P 121 [(e64 1),x81] λx82=>CUT [1,2,5,6,7,8,45,49] (λJe83=>BO .neq x82 (I 0) λx90=>GT x90 true (CA P 120 [(e64 5),x82] λx91=>BO .lss x91 (I 0) λx92=>Je83 [(e64 1),(e64 2),(e64 5),(e64 6),(e64 7),x82,x90,x92]) (Je83 [(e64 1),(e64 2),(e64 5),(e64 6),(e64 7),x82,x90,U])) λe83=>PK (e83 45) (e83 49) (.bool false) λx87=>IF x87 (BS 3 1 (ZR 1 z3) [(0,1,(e83 8))] λx88=>AP 3 1 8 (cl z3) (e83 5) x88 λx89=>Je74 [(e83 1),(e83 2),x89,(e83 6),(e83 7)]) (Je74 [(e83 1),(e83 2),(e83 5),(e83 6),(e83 7)])) λe74=>Je72 [(e74 1),(e74 2),(e74 5),(e74 6),(e74 7)]) λe72=>BO .add (e72 7) (I 1) λx73=>Ke64 [(e72 1),(e72 2),(e72 5),(e72 6),x73]) (Je63 [(e64 1),(e64 2),(e64 5),(e64 6)])) [(e55 1),(e55 2),(e55 5),(e55 6),(I 0)]) λe63=>Je62 [(e63 1),(e63 2),(e63 5),(e63 6)]) λe62=>Je60 [(e62 1),(e62 2),(e62 5),(e62 6)]) λe60=>BO .add (e60 6) (I 1) λx61=>Ke55 [(e60 1),(e60 2),(e60 5),x61]) (Je54 [(e55 1),(e55 2),(e55 5)])) [a1,x1,(.slice none 0 0),(I 0)]) λe54=>Je2 [(e54 1),(e54 2),(e54 5)]) λe2=>CUT [1,5] (λJe3=>CUT [1,5] (λJe42=>LP [1,2,5,9] (λKe43 e43=>FO 10 (e43 2) λx44=>L1 x44 λx45=>LN x45 λx46=>BO .lss (e43 9) x46 λx47=>IF x47 (FO 10 (e43 2) λx48=>L1 x48 λx49=>IA 1 x49 (e43 9) λx50=>L1 x50 λx51=>CA P 127 [(e43 5),x51] λx52=>BO .add (e43 9) (I 1) λx53=>Ke43 [(e43 1),(e43 2),x52,x53]) (Je42 [(e43 1),(e43 5)])) [(e2 1),(e2 2),(e2 5),(I 0)]) λe42=>Je3 [(e42 1),(e42 5)]) λe3=>CUT [5] (λJe4=>CUT [5] (λJe5=>LP [1,5,10] (λKe6 e6=>LN (e6 5) λx7=>BO .lss (e6 10) x7 λx8=>IF x8 (CUT [1,5,10] (λJe9=>CUT [1,5,10] (λJe11=>IA 1 (e6 5) (e6 10) λx12=>L1 x12 λx13=>CA P 118 [(e6 1),x13] λx14=>IA 6 (e6 1) x14 λx15=>LA 6 x15 λx16=>AL 135 z135 λx17=>ST 6 x17 x16<|CUT [1,5,10] (λJe18=>LP [1,5,10,11,12] (λKe19 e19=>FO 4 (e19 11) λx20=>L1 x20 λx21=>LN x21 λx22=>BO .lss (e19 12) x22 λx23=>IF x23 (CUT [1,5,10,11,12] (λJe24=>CUT [1,5,10,11,12] (λJe26=>FO 4 (e19 11) λx27=>L1 x27 λx28=>IA 1 x28 (e19 12) λx29=>L1 x29 λx30=>CA P 121 [(e19 1),x30] λx31=>CUT [1,5,10,11,12,13,100,104] (λJe32=>BO .neq x31 (I 0) λx39=>GT x39 true (CA P 120 [(e19 5),x31] λx40=>BO .lss x40 (I 0) λx41=>Je32 [(e19 1),(e19 5),(e19 10),(e19 11),(e19 12),x31,x39,x41]) (Je32 [(e19 1),(e19 5),(e19 10),(e19 11),(e19 12),x31,x39,U])) λe32=>PK (e32 100) (e32 104) (.bool false) λx36=>IF x36 (BS 3 1 (ZR 1 z3) [(0,1,(e32 13))] λx37=>AP 3 1 8 (cl z3) (e32 5) x37 λx38=>Je26 [(e32 1),x38,(e32 10),(e32 11),(e32 12)]) (Je26 [(e32 1),(e32 5),(e32 10),(e32 11),(e32 12)])) λe26=>Je24 [(e26 1),(e26 5),(e26 10),(e26 11),(e26 12)]) λe24=>BO .add (e24 12) (I 1) λx25=>Ke19 [(e24 1),(e24 5),(e24 10),(e24 11),x25]) (Je18 [(e19 1),(e19 5),(e19 10)])) [(e6 1),(e6 5),(e6 10),x17,(I 0)]) λe18=>Je11 [(e18 1),(e18 5),(e18 10)]) λe11=>Je9 [(e11 1),(e11 5),(e11 10)]) λe9=>BO .add (e9 10) (I 1) λx10=>Ke6 [(e9 1),(e9 5),x10]) (Je5 [(e6 5)])) [(e3 1),(e3 5),(I 0)]) λe5=>Je4 [(e5 5)]) λe4=>K (e4 5)
theorem e_s_l7Reached (a0 a1:Value) (K:Value→M):body P f116 { at_:=[(2,[1,2,5]),(4,[1,2,5]),(5,[1,2,5,6]),(8,[1,2,5,6]),(9,[1,2,5,6]),(11,[1,2,5,6]),(12,[1,2,5,6,7]),(15,[1,2,5,6,7]),(16,[1,2,5,6,7]),(19,[1,5]),(21,[1,5]),(22,[1,2,5,9]),(27,[5]),(29,[5]),(30,[1,5,10]),(33,[1,5,10]),(34,[1,5,10]),(37,[1,5,10]),(38,[1,5,10,11,12]),(41,[1,5,10,11,12]),(42,[1,5,10,11,12])],rg:=[(9,[(7,[1,2,5,6,7,8,45,49])]),(23,[(7,[1,5,10,11,12,13,100,104])])] } [a0,a1] K = c_s_l7Reached a0 a1 K:=by kernel_rfl
theorem s_s_l7Reached {a0 a1:Value} {R:RM} {A:Chs} {Q:Value→RM→Chs→Prop} (H:∀F,J R (A ++ F) (c_s_l7Reached a0 a1 (POST R F Q))):Fn P F_s_l7Reached [a0,a1] R A Q:=λF h hs=>CA_of func116 (by kernel_rfl) (e_s_l7Reached _ _ _) (H F h hs)
def c_s_l7Stay (a0 a1 a2 a3:Value) (K:Value→M):M:=
 AL 58 a0 λx1=>LP [1,2,3,4,8] (λKe3 e3=>LN (e3 1) λx4=>BO .lss (e3 8) x4 λx5=>IF x5 (CUT [1,2,3,4,8] (λJe6=>CUT [1,2,3,4,8] (λJe8=>IA 6 (e3 1) (e3 8) λx9=>FO 0 x9 λx10=>L1 x10 λx11=>CA P 112 [x11] λx12=>LA 13 (e3 4) λx13=>CA P 119 [x13,x12] λx14=>IF x14 (IA 6 (e3 1) (e3 8) λx15=>FO 0 x15 λx16=>L1 x16 λx17=>IA 6 (e3 1) (e3 8) λx18=>FO 0 x18 λx19=>L1 x19 λx20=>IA 1 (e3 2) x17 λx21=>ST 1 x21 x20<|IA 6 (e3 1) (e3 8) λx22=>FO 0 x22 λx23=>L1 x23 λx24=>BO .add x24 (I 1) λx25=>IA 6 (e3 1) (e3 8) λx26=>FO 2 x26 λx27=>LA 2 x27 λx28=>CA P 81 [x28] λx29=>IA 1 (e3 2) x25 λx30=>AND (L1 x23 λx31=>EV x31 x24)<|ST 1 x30 x29<|CUT [1,2,3,4,8,9] (λJe32=>CUT [1,2,3,4,8,9] (λJe45=>LP [1,2,3,4,8,9,10] (λKe46 e46=>IA 6 (e46 1) (e46 8) λx47=>FO 5 x47 λx48=>L1 x48 λx49=>LN x49 λx50=>BO .lss (e46 10) x50 λx51=>IF x51 (IA 6 (e46 1) (e46 8) λx52=>FO 0 x52 λx53=>L1 x53 λx54=>BO .add x54 (I 2) λx55=>IA 6 (e46 1) (e46 8) λx56=>FO 4 x56 λx57=>L1 x57 λx58=>LN x58 λx59=>BO .add x55 x59 λx60=>BO .add x60 (e46 10) λx61=>IA 6 (e46 1) (e46 8) λx62=>FO 5 x62 λx63=>L1 x63 λx64=>IA 1 x64 (e46 10) λx65=>L1 x65 λx66=>IA 1 (e46 2) x61 λx67=>ST 1 x67 x66<|BO .add (e46 10) (I 1) λx68=>Ke46 [(e46 1),(e46 2),(e46 3),(e46 4),(e46 8),(e46 9),x68]) (Je45 [(e46 1),(e46 2),(e46 3),(e46 4),(e46 8),(e46 9)])) [(e3 1),(e3 2),(e3 3),(e3 4),(e3 8),x12,(I 0)]) λe45=>Je32 [(e45 1),(e45 2),(e45 3),(e45 4),(e45 8),(e45 9)]) λe32=>FO 1 (e32 4) λx33=>L1 x33 λx34=>IA 5 x34 (e32 9) λx35=>FO 2 x35 λx36=>L1 x36 λx37=>FO 1 (e32 4) λx38=>L1 x38 λx39=>IA 5 x39 (e32 9) λx40=>FO 2 x40 λx41=>L1 x41 λx42=>BD (cl z29) [(0,1,(I 3)),(1,1,(I (-1))),(2,1,x37),(3,1,x42)] λx43=>IA 5 (e32 3) (e32 9) λx44=>ST 5 x44 x43<|Je8 [(e32 1),(e32 2),(e32 3),(e32 4),(e32 8)]) (Je8 [(e3 1),(e3 2),(e3 3),(e3 4),(e3 8)])) λe8=>Je6 [(e8 1),(e8 2),(e8 3),(e8 4),(e8 8)]) λe6=>BO .add (e6 8) (I 1) λx7=>Ke3 [(e6 1),(e6 2),(e6 3),(e6 4),x7]) (K (.tuple #[]))) [a1,a2,a3,x1,(I 0)]
theorem e_s_l7Stay (a0 a1 a2 a3:Value) (K:Value→M):body P f117 { at_:=[(3,[1,2,3,4,8]),(6,[1,2,3,4,8]),(7,[1,2,3,4,8]),(12,[1,2,3,4,8,9]),(14,[1,2,3,4,8,9]),(15,[1,2,3,4,8,9,10])] } [a0,a1,a2,a3] K = c_s_l7Stay a0 a1 a2 a3 K:=by kernel_rfl
theorem s_s_l7Stay {a0 a1 a2 a3:Value} {R:RM} {A:Chs} {Q:Value→RM→Chs→Prop} (H:∀F,J R (A ++ F) (c_s_l7Stay a0 a1 a2 a3 (POST R F Q))):Fn P F_s_l7Stay [a0,a1,a2,a3] R A Q:=λF h hs=>CA_of func117 (by kernel_rfl) (e_s_l7Stay _ _ _ _ _) (H F h hs)
def c_s_l6Find (a0 a1:Value) (K:Value→M):M:=
 LP [0,1,5] (λKe3 e3=>LN (e3 0) λx4=>BO .lss (e3 5) x4 λx5=>IF x5 (IA 6 (e3 0) (e3 5) λx6=>FO 0 x6 λx7=>L1 x7 λx8=>BO .eql x8 (e3 1) λx9=>IF x9 (K (e3 5)) (BO .add (e3 5) (I 1) λx10=>Ke3 [(e3 0),(e3 1),x10])) (K (I (-1)))) [a0,a1,(I 0)]
theorem e_s_l6Find (a0 a1:Value) (K:Value→M):body P f118 { at_:=[(4,[0,1,5])] } [a0,a1] K = c_s_l6Find a0 a1 K:=by kernel_rfl
theorem s_s_l6Find {a0 a1:Value} {R:RM} {A:Chs} {Q:Value→RM→Chs→Prop} (H:∀F,J R (A ++ F) (c_s_l6Find a0 a1 (POST R F Q))):Fn P F_s_l6Find [a0,a1] R A Q:=λF h hs=>CA_of func118 (by kernel_rfl) (e_s_l6Find _ _ _) (H F h hs)
def c_s_l7Held (a0 a1:Value) (K:Value→M):M:=
 AL 58 a0 λx1=>LP [1,2,5] (λKe4 e4=>FO 10 (e4 2) λx5=>L1 x5 λx6=>LN x6 λx7=>BO .lss (e4 5) x7 λx8=>IF x8 (FO 10 (e4 2) λx9=>L1 x9 λx10=>IA 1 x10 (e4 5) λx11=>L1 x11 λx12=>CA P 112 [x12] λx13=>BO .eql x13 (e4 1) λx14=>IF x14 (K (.bool true)) (BO .add (e4 5) (I 1) λx15=>Ke4 [(e4 1),(e4 2),x15])) (K (.bool false))) [a1,x1,(I 0)]
theorem e_s_l7Held (a0 a1:Value) (K:Value→M):body P f119 { at_:=[(4,[1,2,5])] } [a0,a1] K = c_s_l7Held a0 a1 K:=by kernel_rfl
theorem s_s_l7Held {a0 a1:Value} {R:RM} {A:Chs} {Q:Value→RM→Chs→Prop} (H:∀F,J R (A ++ F) (c_s_l7Held a0 a1 (POST R F Q))):Fn P F_s_l7Held [a0,a1] R A Q:=λF h hs=>CA_of func119 (by kernel_rfl) (e_s_l7Held _ _ _) (H F h hs)
def c_s_l5Place (a0 a1:Value) (K:Value→M):M:=
 LP [0,1,5] (λKe3 e3=>LN (e3 0) λx4=>BO .lss (e3 5) x4 λx5=>IF x5 (IA 1 (e3 0) (e3 5) λx6=>L1 x6 λx7=>BO .eql x7 (e3 1) λx8=>IF x8 (K (e3 5)) (BO .add (e3 5) (I 1) λx9=>Ke3 [(e3 0),(e3 1),x9])) (K (I (-1)))) [a0,a1,(I 0)]
theorem e_s_l5Place (a0 a1:Value) (K:Value→M):body P f120 { at_:=[(4,[0,1,5])] } [a0,a1] K = c_s_l5Place a0 a1 K:=by kernel_rfl
theorem s_s_l5Place {a0 a1:Value} {R:RM} {A:Chs} {Q:Value→RM→Chs→Prop} (H:∀F,J R (A ++ F) (c_s_l5Place a0 a1 (POST R F Q))):Fn P F_s_l5Place [a0,a1] R A Q:=λF h hs=>CA_of func120 (by kernel_rfl) (e_s_l5Place _ _ _) (H F h hs)
def c_s_l6Now (a0 a1:Value) (K:Value→M):M:=
 BO .eql a1 (I 0) λx1=>IF x1 (K (I 0)) (CA P 118 [a0,a1] λx2=>IA 6 a0 x2 λx3=>FO 1 x3 λx4=>L1 x4 λx5=>K x5)
theorem e_s_l6Now (a0 a1:Value) (K:Value→M):body P f121 {} [a0,a1] K = c_s_l6Now a0 a1 K:=by kernel_rfl
theorem s_s_l6Now {a0 a1:Value} {R:RM} {A:Chs} {Q:Value→RM→Chs→Prop} (H:∀F,J R (A ++ F) (c_s_l6Now a0 a1 (POST R F Q))):Fn P F_s_l6Now [a0,a1] R A Q:=λF h hs=>CA_of func121 (by kernel_rfl) (e_s_l6Now _ _ _) (H F h hs)
def c_Sim_unmark (a0:Value) (K:Value→M):M:=
 NC a0 λx1=>FO 4 x1 λx2=>FO 2 x2 λx3=>L1 x3 λx4=>LN x4 λx5=>MS 4 1 1 (cl z4) x5 x5 λx6=>NC a0 λx7=>FO 4 x7 λx8=>FO 2 x8 λx9=>ST 1 x9 x6<|K (.tuple #[])
theorem e_Sim_unmark (a0:Value) (K:Value→M):body P f122 {} [a0] K = c_Sim_unmark a0 K:=by kernel_rfl
theorem s_Sim_unmark {a0:Value} {R:RM} {A:Chs} {Q:Value→RM→Chs→Prop} (H:∀F,J R (A ++ F) (c_Sim_unmark a0 (POST R F Q))):Fn P F_Sim_unmark [a0] R A Q:=λF h hs=>CA_of func122 (by kernel_rfl) (e_Sim_unmark _ _) (H F h hs)
def c_s_TableDrop (a0 a1:Value) (K:Value→M):M:=
 CUT [0,1,10,12] (λJe1=>CA P 23 [a0] λx29=>NT x29 λx30=>GT x30 false (BO .lss a1 (I 1) λx31=>Je1 [a0,a1,x30,x31]) (Je1 [a0,a1,x30,U])) λe1=>CUT [0,1,14,18] (λJe5=>PK (e1 10) (.bool true) (e1 12) λx26=>GT x26 false (LN (e1 0) λx27=>BO .geq (e1 1) x27 λx28=>Je5 [(e1 0),(e1 1),x26,x28]) (Je5 [(e1 0),(e1 1),x26,U])) λe5=>CUT [0,1,20,26] (λJe9=>PK (e5 14) (.bool true) (e5 18) λx21=>GT x21 false (IA 5 (e5 0) (e5 1) λx22=>FO 0 x22 λx23=>L1 x23 λx24=>BO .eql x24 (I 1) λx25=>Je9 [(e5 0),(e5 1),x21,x25]) (Je9 [(e5 0),(e5 1),x21,U])) λe9=>PK (e9 20) (.bool true) (e9 26) λx15=>IF x15 (K (.tuple #[(.slice none 0 0),(.bool false)])) (CA P 26 [(e9 0)] λx16=>CA P 25 [(e9 1)] λx17=>CA P 25 [(e9 1)] λx18=>BD (cl z29) [(0,1,(I 1)),(1,1,(I (-1))),(2,1,x17),(3,1,x18)] λx19=>IA 5 x16 (e9 1) λx20=>ST 5 x20 x19<|K (.tuple #[x16,(.bool true)]))
theorem e_s_TableDrop (a0 a1:Value) (K:Value→M):body P f123 { rg:=[(1,[(6,[0,1,10,12]),(6,[0,1,14,18]),(8,[0,1,20,26])])] } [a0,a1] K = c_s_TableDrop a0 a1 K:=by kernel_rfl
theorem s_s_TableDrop {a0 a1:Value} {R:RM} {A:Chs} {Q:Value→RM→Chs→Prop} (H:∀F,J R (A ++ F) (c_s_TableDrop a0 a1 (POST R F Q))):Fn P F_s_TableDrop [a0,a1] R A Q:=λF h hs=>CA_of func123 (by kernel_rfl) (e_s_TableDrop _ _ _) (H F h hs)
def c_Sim_idle (a0:Value) (K:Value→M):M:=
 CA P 122 [a0] λx1=>NC a0 λx2=>FO 4 x2 λx3=>FO 3 x3 λx4=>ST 1 x4 (I 0)<|NC a0 λx5=>FO 18 x5 λx6=>FO 1 x6 λx7=>L1 x7 λx8=>BD (cl z94) [(1,1,x8)] λx9=>NC a0 λx10=>FO 18 x10 λx11=>ST 15 x11 x9<|NC a0 λx12=>FO 4 x12 λx13=>FO 11 x13 λx14=>L1 x14 λx15=>BO .add x15 (I 1) λx16=>NC a0 λx17=>FO 4 x17 λx18=>FO 11 x18 λx19=>ST 1 x19 x16<|LP [0,2] (λKe21 e21=>NC (e21 0) λx22=>FO 4 x22 λx23=>FO 1 x23 λx24=>L1 x24 λx25=>LN x25 λx26=>BO .lss (e21 2) x26 λx27=>IF x27 (NC (e21 0) λx28=>FO 4 x28 λx29=>FO 1 x29 λx30=>L1 x30 λx31=>IA 5 x31 (e21 2) λx32=>LA 5 x32 λx33=>AL 29 z29 λx34=>ST 5 x34 x33<|FO 4 x34 λx35=>ST 1 x35 (I 0)<|NC (e21 0) λx36=>FO 4 x36 λx37=>FO 1 x37 λx38=>L1 x38 λx39=>LA 5 x34 λx40=>IA 5 x39 (e21 2) λx41=>ST 5 x41 x40<|BO .add (e21 2) (I 1) λx42=>Ke21 [(e21 0),x42]) (K (.tuple #[]))) [a0,(I 1)]
theorem e_Sim_idle (a0:Value) (K:Value→M):body P f124 { at_:=[(6,[0,2])] } [a0] K = c_Sim_idle a0 K:=by kernel_rfl
theorem s_Sim_idle {a0:Value} {R:RM} {A:Chs} {Q:Value→RM→Chs→Prop} (H:∀F,J R (A ++ F) (c_Sim_idle a0 (POST R F Q))):Fn P F_Sim_idle [a0] R A Q:=λF h hs=>CA_of func124 (by kernel_rfl) (e_Sim_idle _ _) (H F h hs)
def c_s_l8Then (a0:Value) (K:Value→M):M:=
 AL 94 a0 λx1=>AL 94 z94 λx2=>FO 6 x1 λx3=>L1 x3 λx4=>BO .add x4 (I 1) λx5=>FO 6 x1 λx6=>ST 1 x6 x5<|FO 0 x1 λx7=>ST 1 x7 (I 7)<|CUT [1,2] (λJe8=>FO 6 x1 λx11=>L1 x11 λx12=>FO 7 x1 λx13=>FO 0 x13 λx14=>L1 x14 λx15=>BO .eql x12 x15 λx16=>IF x16 (FO 0 x1 λx17=>ST 1 x17 (I 6)<|Je8 [x1,x2]) (Je8 [x1,x2])) λe8=>LA 15 (e8 1) λx9=>ST 15 (e8 2) x9<|LA 15 (e8 2) λx10=>K x10
theorem e_s_l8Then (a0:Value) (K:Value→M):body P f125 { at_:=[(3,[1,2])] } [a0] K = c_s_l8Then a0 K:=by kernel_rfl
theorem s_s_l8Then {a0:Value} {R:RM} {A:Chs} {Q:Value→RM→Chs→Prop} (H:∀F,J R (A ++ F) (c_s_l8Then a0 (POST R F Q))):Fn P F_s_l8Then [a0] R A Q:=λF h hs=>CA_of func125 (by kernel_rfl) (e_s_l8Then _ _) (H F h hs)
def c_s_ThingsIn (a0 a1 a2:Value) (K:Value→M):M:=
 CUT [0,1,2,15,17] (λJe1=>CA P 111 [a0] λx61=>NT x61 λx62=>GT x62 false (BO .lss a1 (I 1) λx63=>Je1 [a0,a1,a2,x62,x63]) (Je1 [a0,a1,a2,x62,U])) λe1=>CUT [0,1,2,19,24] (λJe5=>PK (e1 15) (.bool true) (e1 17) λx57=>GT x57 false (LN (e1 0) λx58=>BO .quo x58 (I 16) λx59=>BO .geq (e1 1) x59 λx60=>Je5 [(e1 0),(e1 1),(e1 2),x57,x60]) (Je5 [(e1 0),(e1 1),(e1 2),x57,U])) λe5=>CUT [0,1,2,26,30] (λJe10=>PK (e5 19) (.bool true) (e5 24) λx54=>GT x54 false (CA P 25 [(e5 1)] λx55=>BO .lss (e5 2) x55 λx56=>Je10 [(e5 0),(e5 1),(e5 2),x54,x56]) (Je10 [(e5 0),(e5 1),(e5 2),x54,U])) λe10=>CUT [0,1,2,32,37] (λJe14=>PK (e10 26) (.bool true) (e10 30) λx50=>GT x50 false (CA P 25 [(e10 1)] λx51=>BO .add x51 (I 16) λx52=>BO .gtr (e10 2) x52 λx53=>Je14 [(e10 0),(e10 1),(e10 2),x50,x53]) (Je14 [(e10 0),(e10 1),(e10 2),x50,U])) λe14=>PK (e14 32) (.bool true) (e14 37) λx19=>IF x19 (K (.tuple #[(.slice none 0 0),(.bool false)])) (CA P 25 [(e14 1)] λx20=>CUT [8] (λJe21=>CUT [8] (λJe22=>LP [0,2,8,9] (λKe23 e23=>BO .lss (e23 9) (e23 2) λx24=>IF x24 (CA P 128 [(e23 0),(e23 9)] λx25=>EX 0 x25 λx26=>EX 1 x25 λx27=>AL 135 z135 λx28=>ST 6 x28 x26<|CUT [0,2,8,9,10,52,59] (λJe29=>NT x27 λx44=>GT x44 false (FO 2 x28 λx45=>LA 2 x45 λx46=>CA P 70 [x46] λx47=>BO .add (e23 9) x47 λx48=>BO .gtr x48 (e23 2) λx49=>Je29 [(e23 0),(e23 2),(e23 8),(e23 9),x28,x44,x49]) (Je29 [(e23 0),(e23 2),(e23 8),(e23 9),x28,x44,U])) λe29=>PK (e29 52) (.bool true) (e29 59) λx36=>IF x36 (K (.tuple #[(.slice none 0 0),(.bool false)])) (LA 6 (e29 10) λx37=>BS 135 1 (ZR 1 z135) [(0,6,x37)] λx38=>AP 135 6 80 (cl z135) (e29 8) x38 λx39=>FO 2 (e29 10) λx40=>LA 2 x40 λx41=>CA P 70 [x41] λx42=>BO .add (e29 9) x42 λx43=>Ke23 [(e29 0),(e29 2),x39,x43])) (Je22 [(e23 8)])) [(e14 0),(e14 2),(.slice none 0 0),x20]) λe22=>Je21 [(e22 8)]) λe21=>K (.tuple #[(e21 8),(.bool true)]))
theorem e_s_ThingsIn (a0 a1 a2:Value) (K:Value→M):body P f126 { at_:=[(6,[8]),(7,[8]),(8,[0,2,8,9])],rg:=[(1,[(6,[0,1,2,15,17]),(7,[0,1,2,19,24]),(6,[0,1,2,26,30]),(7,[0,1,2,32,37])]),(7,[(10,[0,2,8,9,10,52,59])])] } [a0,a1,a2] K = c_s_ThingsIn a0 a1 a2 K:=by kernel_rfl
theorem s_s_ThingsIn {a0 a1 a2:Value} {R:RM} {A:Chs} {Q:Value→RM→Chs→Prop} (H:∀F,J R (A ++ F) (c_s_ThingsIn a0 a1 a2 (POST R F Q))):Fn P F_s_ThingsIn [a0,a1,a2] R A Q:=λF h hs=>CA_of func126 (by kernel_rfl) (e_s_ThingsIn _ _ _ _) (H F h hs)
def c_s_l6Put (a0 a1:Value) (K:Value→M):M:=
 CUT [0,1,7,11] (λJe1=>BO .eql a1 (I 0) λx8=>GT x8 false (CA P 120 [a0,a1] λx9=>BO .geq x9 (I 0) λx10=>Je1 [a0,a1,x8,x10]) (Je1 [a0,a1,x8,U])) λe1=>PK (e1 7) (.bool true) (e1 11) λx5=>IF x5 (K (e1 0)) (BS 3 1 (ZR 1 z3) [(0,1,(e1 1))] λx6=>AP 3 1 8 (cl z3) (e1 0) x6 λx7=>K x7)
theorem e_s_l6Put (a0 a1:Value) (K:Value→M):body P f127 { rg:=[(1,[(7,[0,1,7,11])])] } [a0,a1] K = c_s_l6Put a0 a1 K:=by kernel_rfl
theorem s_s_l6Put {a0 a1:Value} {R:RM} {A:Chs} {Q:Value→RM→Chs→Prop} (H:∀F,J R (A ++ F) (c_s_l6Put a0 a1 (POST R F Q))):Fn P F_s_l6Put [a0,a1] R A Q:=λF h hs=>CA_of func127 (by kernel_rfl) (e_s_l6Put _ _ _) (H F h hs)
def c_s_ThingAt (a0 a1:Value) (K:Value→M):M:=
 AL 135 z135 λx1=>CA P 80 [a0,a1,(I 2)] λx2=>NT x2 λx3=>IF x3 (BD (cl z135) [] λx4=>ST 6 x1 x4<|LA 6 x1 λx5=>K (.tuple #[x5,(.bool false)])) (BO .add a1 (I 1) λx6=>IA 1 a0 x6 λx7=>L1 x7 λx8=>CA P 94 [x8] λx9=>EX 0 x9 λx10=>EX 1 x9 λx11=>AL 92 z92 λx12=>ST 2 x12 x10<|CUT [0,1,4,6,27,33] (λJe13=>NT x11 λx68=>GT x68 false (LA 2 x12 λx69=>CA P 70 [x69] λx70=>CA P 80 [a0,a1,x70] λx71=>NT x71 λx72=>Je13 [a0,a1,x1,x12,x68,x72]) (Je13 [a0,a1,x1,x12,x68,U])) λe13=>PK (e13 27) (.bool true) (e13 33) λx19=>IF x19 (BD (cl z135) [] λx20=>ST 6 (e13 4) x20<|LA 6 (e13 4) λx21=>K (.tuple #[x21,(.bool false)])) (IA 1 (e13 0) (e13 1) λx22=>L1 x22 λx23=>LA 2 (e13 6) λx24=>BD (cl z135) [(0,1,(e13 1)),(1,1,x23),(2,2,x24)] λx25=>AL 135 z135 λx26=>AND (L1 x22 λx27=>EV x27 x23)<|AND (LA 2 (e13 6) λx28=>EV x28 x24)<|ST 6 x26 x25<|CUT [0,1,4,6,8] (λJe29=>CUT [0,1,4,6,8] (λJe52=>LP [0,1,4,6,8,9] (λKe53 e53=>FO 0 (e53 6) λx54=>L1 x54 λx55=>BO .lss (e53 9) x55 λx56=>IF x56 (FO 4 (e53 8) λx57=>L1 x57 λx58=>BO .add (e53 1) (I 2) λx59=>BO .add x59 (e53 9) λx60=>IA 1 (e53 0) x60 λx61=>L1 x61 λx62=>BS 3 1 (ZR 1 z3) [(0,1,x62)] λx63=>AND (L1 x57 λx64=>EV x64 x58)<|AP 3 1 8 (cl z3) x58 x63 λx65=>FO 4 (e53 8) λx66=>ST 1 x66 x65<|BO .add (e53 9) (I 1) λx67=>Ke53 [(e53 0),(e53 1),(e53 4),(e53 6),(e53 8),x67]) (Je52 [(e53 0),(e53 1),(e53 4),(e53 6),(e53 8)])) [(e13 0),(e13 1),(e13 4),(e13 6),x26,(I 0)]) λe52=>Je29 [(e52 0),(e52 1),(e52 4),(e52 6),(e52 8)]) λe29=>CUT [4,8] (λJe30=>CUT [4,8] (λJe33=>LP [0,1,4,6,8,10] (λKe34 e34=>FO 1 (e34 6) λx35=>L1 x35 λx36=>BO .lss (e34 10) x36 λx37=>IF x37 (FO 5 (e34 8) λx38=>L1 x38 λx39=>BO .add (e34 1) (I 2) λx40=>FO 0 (e34 6) λx41=>L1 x41 λx42=>BO .add x40 x42 λx43=>BO .add x43 (e34 10) λx44=>IA 1 (e34 0) x44 λx45=>L1 x45 λx46=>BS 3 1 (ZR 1 z3) [(0,1,x46)] λx47=>AND (L1 x38 λx48=>EV x48 x39)<|AP 3 1 8 (cl z3) x39 x47 λx49=>FO 5 (e34 8) λx50=>ST 1 x50 x49<|BO .add (e34 10) (I 1) λx51=>Ke34 [(e34 0),(e34 1),(e34 4),(e34 6),(e34 8),x51]) (Je33 [(e34 4),(e34 8)])) [(e29 0),(e29 1),(e29 4),(e29 6),(e29 8),(I 0)]) λe33=>Je30 [(e33 4),(e33 8)]) λe30=>LA 6 (e30 8) λx31=>ST 6 (e30 4) x31<|LA 6 (e30 4) λx32=>K (.tuple #[x32,(.bool true)])))
theorem e_s_ThingAt (a0 a1:Value) (K:Value→M):body P f128 { at_:=[(9,[0,1,4,6,8]),(11,[0,1,4,6,8]),(12,[0,1,4,6,8,9]),(17,[4,8]),(19,[4,8]),(20,[0,1,4,6,8,10])],rg:=[(4,[(9,[0,1,4,6,27,33])])] } [a0,a1] K = c_s_ThingAt a0 a1 K:=by kernel_rfl
theorem s_s_ThingAt {a0 a1:Value} {R:RM} {A:Chs} {Q:Value→RM→Chs→Prop} (H:∀F,J R (A ++ F) (c_s_ThingAt a0 a1 (POST R F Q))):Fn P F_s_ThingAt [a0,a1] R A Q:=λF h hs=>CA_of func128 (by kernel_rfl) (e_s_ThingAt _ _ _) (H F h hs)
end Go.Lf
end
section
namespace Sm
def idx {α:Type} (l:List α) (i:Int):Option α:=if 0≤i then l[i.toNat]? else none
def seti {α:Type} (l:List α) (i:Int) (v:α):List α:=l.set i.toNat v
def plus (a b:Int):Option Int:=if -9223372036854775808≤a + b∧a + b < 9223372036854775808 then some (a + b) else none
structure Shp where
 refs:Int
 nums:Int
 deriving DecidableEq,Inhabited
structure Rg where
 kind:Int
 owner:Int
 top:Int
 tams:Int
 live:Int
 deriving DecidableEq,Inhabited
structure Op where
 kind:Int
 a:Int
 b:Int
 c:Int
 f:Int
 v:Int
 sh:Shp
 deriving DecidableEq,Inhabited
structure Thr where
 roots:List Int
 next:Int
 tried:Int
 pc:Int
 h:Int
 g:Int
 k:Int
 u:Int
 v:Int
 sh:Shp
 src:Int
 dst:Int
 size:Int
 i:Int
 word:Int
 ret:Int
 deriving DecidableEq,Inhabited
structure Col where
 pc:Int
 asked:Bool
 want:Int
 stack:List Int
 r:Int
 p:Int
 i:Int
 sh:Shp
 v:Int
 f:Int
 src:Int
 dst:Int
 size:Int
 word:Int
 deriving DecidableEq,Inhabited
structure Ev where
 thread:Int
 next:Int
 ans:Int
 code:Int
 deriving DecidableEq,Inhabited
structure Cfg where
 regions:Int
 threads:Int
 reserve:Int
 deriving DecidableEq,Inhabited
structure Thing where
 at_:Int
 moved:Int
 sh:Shp
 refs:List Int
 nums:List Int
 deriving DecidableEq,Inhabited
structure Th where
 roots:List Int
 next:Int
 busy:Bool
 tried:Int
 deriving DecidableEq,Inhabited
structure State where
 words:List Int
 table:List Rg
 marks:List Bool
 phase:Int
 stop:Bool
 full:Bool
 asked:Bool
 want:Int
 threads:List Th
 old:List Int
 pins:List Int
 cycles:Int
 fulls:Int
 deriving DecidableEq,Inhabited
structure Sim where
 c:Cfg
 progs:List (List Op)
 words:List Int
 table:List Rg
 marks:List Bool
 phase:Int
 stop:Bool
 full:Bool
 old:List Int
 pins:List Int
 cycles:Int
 fulls:Int
 th:List Thr
 col:Col
 ev:List Ev
 used:Bool
 deriving DecidableEq,Inhabited
def wordsOk (n:Nat):Bool:=n % 16 == 0 && decide (2≤n / 16) && decide (n / 16≤12)
def regionOf (a:Int):Int:=if a < 0 then -1 else a / 16
def regionBase (r:Int):Int:=if r < 0∨12≤r then 0 else r * 16
def shapeOk (s:Shp):Bool:=decide (0≤s.refs) && decide (s.refs≤4) && decide (0≤s.nums) && decide (s.nums≤4)
def shapeWord (s:Shp):Int:=if shapeOk s then 16 * s.refs + s.nums else -1
def shp0:Shp:=⟨0,0⟩
def shapeOf (w:Int):Shp × Bool:=if 0≤w∧w / 16≤4∧w % 16≤4 then (⟨w / 16,w % 16⟩,true) else (shp0,false)
def shapeSize (s:Shp):Int:=if shapeOk s then 2 + s.refs + s.nums else 0
def fits (n:Nat) (a size:Int):Bool:=wordsOk n && decide (0 < size) && decide (size≤16) && decide (16≤a) && decide (a < n) && regionOf a == regionOf (a + size - 1)
def put (w:List Int) (a:Int) (l:List Int):List Int:=w.take a.toNat ++ l ++ w.drop (a.toNat + l.length)
def thingMake (w:List Int) (a:Int) (s:Shp):List Int × Bool:=
 if fits w.length a (shapeSize s) then (put w a ([a,shapeWord s] ++ List.replicate (s.refs.toNat + s.nums.toNat) 0),true) else ([],false)
def thing0:Thing:=⟨0,0,shp0,[],[]⟩
def seg (w:List Int) (a n:Int):List Int:=(w.drop a.toNat).take n.toNat
def thingAt (w:List Int) (a:Int):Thing × Bool:=
 if fits w.length a 2 then
  let s:=shapeOf (w.getD (a.toNat + 1) 0)
  if s.2 && fits w.length a (shapeSize s.1) then (⟨a,w.getD a.toNat 0,s.1,seg w (a + 2) s.1.refs,seg w (a + 2 + s.1.refs) s.1.nums⟩,true) else (thing0,false)
 else (thing0,false)
def thingsFrom (w:List Int):Nat→Int→Int→Option (List Thing)
 | 0,at_,top=>if at_ < top then none else some []
 | n + 1,at_,top=>if at_ < top then
   let t:=thingAt w at_
   if t.2 && decide (at_ + shapeSize t.1.sh≤top) then (match thingsFrom w n (at_ + shapeSize t.1.sh) top with | some l=>some (t.1 :: l) | none=>none) else none
  else some []
def thingsIn (w:List Int) (r top:Int):Option (List Thing):=
 if wordsOk w.length && decide (1≤r) && decide (r < w.length / 16) && decide (regionBase r≤top) && decide (top≤regionBase r + 16) then thingsFrom w 16 (regionBase r) top else none
def free (r:Int):Rg:=⟨1,-1,regionBase r,regionBase r,0⟩
def edge:Rg:=⟨0,-1,0,0,0⟩
def tableNew (n:Int):List Rg:=if n < 2∨12 < n then [] else edge :: (List.range (n.toNat - 1)).map λ(i:Nat)=>free ((i:Int) + 1)
def rowOk (r:Int) (x:Rg):Bool:=
 let b:=regionBase r
 decide (1≤x.kind) && decide (x.kind≤4) && decide (b≤x.top) && decide (x.top≤b + 16) && decide (b≤x.tams) && decide (x.tams≤x.top) && decide (0≤x.live) && decide (x.live≤x.top - b) &&
 (!(x.kind == 1) || x.top == b) && (x.kind == 2) == decide (0≤x.owner) && decide (-1≤x.owner) && decide (x.owner≤3)
def rowsOk:Nat→List Rg→Bool
 | _,[]=>true
 | i,x :: r=>rowOk i x && (decide (x.owner < 0) || r.all λy=>!(y.owner == x.owner)) && rowsOk (i + 1) r
def tableOk (t:List Rg):Bool:=match t with
 | []=>false
 | e :: r=>decide (1≤r.length) && decide (r.length≤11) && e == edge && rowsOk 1 r
def findFrom (p:Rg→Bool):Nat→List Rg→Int
 | _,[]=>-1
 | i,x :: r=>if p x then i else findFrom p (i + 1) r
def own (t:List Rg) (owner:Int):Int:=findFrom (λx=>x.kind == 2 && x.owner == owner) 1 t.tail
def tableTake (t:List Rg) (owner:Int):Option (List Rg × Int):=
 if tableOk t && decide (0≤owner) && decide (owner≤3) && decide (own t owner < 0) then
  let i:=findFrom (λx=>x.kind == 1) 1 t.tail
  if i < 0 then none else some (seti t i ⟨2,owner,regionBase i,regionBase i,0⟩,i)
 else none
def tableClose (t:List Rg) (r:Int):Option (List Rg):=
 if tableOk t && decide (1≤r) then (match idx t r with
  | some x=>if x.kind == 2 then some (seti t r { x with kind:=3,owner:=-1 }) else none
  | none=>none) else none
def tableDrop (t:List Rg) (r:Int):Option (List Rg):=
 if tableOk t && decide (1≤r) then (match idx t r with
  | some x=>if x.kind == 1 then none else some (seti t r (free r))
  | none=>none) else none
def tableRoom (t:List Rg) (owner size:Int):Option (List Rg × Int):=
 if tableOk t && decide (0≤owner) && decide (owner≤3) && decide (1≤size) && decide (size≤16) then
  let r:=own t owner
  match (if 0≤r then idx t r else none) with
  | some x=>if x.top + size≤regionBase r + 16 then some (t,x.top) else
    (match tableTake ((tableClose t r).getD []) owner with | some (u,n)=>some (u,regionBase n) | none=>none)
  | none=>(match tableTake t owner with | some (u,n)=>some (u,regionBase n) | none=>none)
 else none
def chooseRow (held:List Int) (n:Int) (i:Nat) (x:Rg):Bool:=x.kind == 3 && x.top == x.tams && x.live == n && decide (x.live < x.top - regionBase i) && !(held.contains (i:Int))
def chooseIn (held:List Int) (n:Int):Nat→List Rg→Int→Int × List Int
 | _,[],left=>(left,[])
 | i,x :: r,left=>if chooseRow held n i x && decide (n≤left) then (let q:=chooseIn held n (i + 1) r (left - n);(q.1,(i:Int) :: q.2)) else chooseIn held n (i + 1) r left
def chooseFrom (t:List Rg) (held:List Int):Nat→Int→Int→List Int
 | 0,_,_=>[]
 | k + 1,n,left=>let q:=chooseIn held n 1 t.tail left;q.2 ++ chooseFrom t held k (n + 1) q.1
def freeOf (held:List Int):Nat→List Rg→List Int
 | _,[]=>[]
 | i,x :: r=>if chooseRow held 0 i x then (i:Int) :: freeOf held (i + 1) r else freeOf held (i + 1) r
def tableChoose (t:List Rg) (reserve:Int) (held:List Int):List Int × List Int:=
 if tableOk t then (chooseFrom t held 16 1 reserve,freeOf held 1 t.tail) else ([],[])
def opOk (o:Op):Bool:=decide (1≤o.kind) && decide (o.kind≤11) && (!(o.kind == 1) || shapeOk o.sh)
def fieldsOp (k:Int):Bool:=k == 2 || k == 3 || k == 4 || k == 5 || k == 7
def hnd (n:Nat) (a:Int):Bool:=decide (0≤a) && decide (a < n)
def l5Begin (o:Op) (roots:List Int) (none_:Int):Int:=
 let n:=roots.length
 let a:=o.kind == 1 || (if o.kind == 8 then decide (0 < n) else hnd n o.a)
 let b:=o.kind == 1 || o.kind == 8 || o.kind == 2 || o.kind == 4 || o.kind == 5 || o.kind == 9 || o.kind == 10 || o.kind == 11 || hnd n o.b
 let c:=!(o.kind == 7) && (decide (1≤o.kind) && decide (o.kind≤11)) || hnd n o.c
 if !a || !b || !c then 2
 else if (fieldsOp o.kind || o.kind == 10 || o.kind == 11) && (idx roots o.a).getD 0 == none_ then 3
 else if (o.kind == 1 || o.kind == 2 || o.kind == 9) && n == 8 then 5
 else 0
def l5Field (o:Op) (refs nums:Int):Bool:=if o.kind == 4 || o.kind == 5 then decide (0≤o.f) && decide (o.f < nums) else decide (0≤o.f) && decide (o.f < refs)
def lastIdx (l:List Int) (a:Int):Nat→Option Nat
 | 0=>none
 | n + 1=>if l[n]? = some a then some n else lastIdx l a n
def l5Pins (pins:List Int) (kind a:Int):Option (List Int):=
 if kind == 10 then (if pins.length = 8 then none else some (pins ++ [a]))
 else match lastIdx pins a pins.length with | some i=>some (pins.take i ++ pins.drop (i + 1)) | none=>none
def one (b:Bool):Int:=if b then 1 else 0
def thr0 (roots:List Int) (next tried:Int):Thr:=⟨roots,next,tried,0,0,0,0,0,0,shp0,0,0,0,0,0,0⟩
def col0 (asked:Bool) (want:Int):Col:=⟨0,asked,want,[],0,0,0,shp0,0,0,0,0,0,0⟩
def Sim.read (S:Sim) (a:Int):Option (Int × Sim):=match idx S.words a with | some v=>some (v,{ S with used:=true }) | none=>none
def Sim.write (S:Sim) (a v:Int):Option Sim:=if 0≤a∧a < S.words.length then some { S with used:=true,words:=seti S.words a v } else none
def Sim.from_ (S:Sim) (a:Int):Option Bool:=if a = 0 then some false else match idx S.table (regionOf a) with | some x=>some (x.kind == 4) | none=>none
def Sim.setT (S:Sim) (i:Int) (t:Thr):Sim:={ S with th:=seti S.th i t }
def Sim.sz (S:Sim):Bool:=decide (S.ev.length < 1000000) && decide (S.old.length < 1000000) && decide (S.col.stack.length < 1000000) && decide (S.pins.length < 1000000) && S.th.all λt=>decide (t.roots.length < 1000000)
def Sim.event (S:Sim) (i ans code:Int):Option Sim:=if !S.sz then none else match idx S.th i with
 | some t=>(match plus t.next 1 with
  | some n=>some { S with ev:=S.ev ++ [⟨i,t.next,ans,code⟩],th:=seti S.th i (thr0 t.roots n 0) }
  | none=>none)
 | none=>none
def Sim.push (S:Sim) (i a:Int):Option Sim:=if !S.sz then none else match idx S.th i with
 | some t=>(S.setT i { t with roots:=t.roots ++ [a] }).event i 0 0
 | none=>none
def Sim.back (S:Sim) (i:Int):Option Sim:=match idx S.th i with
 | some t=>some { S.setT i (thr0 t.roots t.next 1) with full:=true,stop:=true }
 | none=>none
def Sim.opOf (S:Sim) (i:Int) (t:Thr):Option Op:=match idx S.progs i with | some p=>idx p t.next | none=>none
def Sim.begin_ (S:Sim) (i:Int):Option Sim:=do
 let t ← idx S.th i
 let o ← S.opOf i t
 if !opOk o then S.event i 0 1 else
 let code:=l5Begin o t.roots 0
 if code≠0 then S.event i 0 code else
 if o.kind = 8 then (S.setT i { t with roots:=t.roots.take (t.roots.length - 1) }).event i 0 0 else
 if o.kind = 9 then S.push i (← idx t.roots o.a) else
 if o.kind = 1 then some (S.setT i { t with pc:=30 }) else
 let t:={ t with pc:=1,h:=← idx t.roots o.a }
 let t ← (if o.kind = 3∨o.kind = 6∨o.kind = 7 then (do some { t with g:=← idx t.roots o.b }) else some t)
 let t ← (if o.kind = 7 then (do some { t with k:=← idx t.roots o.c }) else some t)
 some (S.setT i t)
def l8Next (pc:Int):Int:=if pc = 11 then 12 else if pc = 15 then 16 else pc + 1
def l8Held (t:Thr) (pc:Int):Int:=if pc = 1 then t.h else if pc = 2 then t.g else if pc = 3 then t.k else t.v
def l8Hold (t:Thr) (pc a:Int):Thr:=
 { (if pc = 1 then { t with h:=a } else if pc = 2 then { t with g:=a } else if pc = 3 then { t with k:=a } else { t with v:=a }) with pc:=l8Next pc }
def Sim.resolve (S:Sim) (i:Int):Option Sim:=do
 let t ← idx S.th i
 if ¬ (0≤t.pc∧t.pc≤100) then none else
 let a:=l8Held t t.pc
 if !(← S.from_ a) then some (S.setT i { t with pc:=l8Next t.pc }) else
 let (f,S) ← S.read a
 if f = a∧S.phase = 2 then some (S.setT i { t with src:=a,ret:=t.pc,pc:=20 })
 else some (S.setT i (l8Hold t t.pc f))
def Sim.top (S:Sim) (a size:Int):Option Sim:=match idx S.table (regionOf a) with
 | some x=>(match plus a size with
  | some n=>some { S with table:=seti S.table (regionOf a) { x with top:=n } }
  | none=>none)
 | none=>none
def Sim.copying (S:Sim) (i:Int):Option Sim:=do
 let t ← idx S.th i
 if t.pc = 20 then
  let (w,S) ← S.read (← plus t.src 1)
  let size:=shapeSize (shapeOf w).1
  match tableRoom S.table i size with
  | none=>S.back i
  | some (table,dst)=>some ({ S with table:=table }.setT i { t with size:=size,dst:=dst,i:=1,pc:=21 })
 else if t.pc = 21 then
  let (w,S) ← S.read (← plus t.src t.i)
  some (S.setT i { t with word:=w,pc:=22 })
 else if t.pc = 22 then
  let S ← S.write (← plus t.dst t.i) t.word
  let n ← plus t.i 1
  some (S.setT i { t with i:=n,pc:=if n = t.size then 23 else 21 })
 else if t.pc = 23 then
  let S ← S.write t.dst t.dst
  some (S.setT i { t with pc:=24 })
 else if t.pc = 24 then
  if ¬ (0≤t.ret∧t.ret≤100) then none else
  let (w,S) ← S.read t.src
  if w = t.src then
   let S ← S.write t.src t.dst
   let S ← S.top t.dst t.size
   some (S.setT i (l8Hold t t.ret t.dst))
  else some (S.setT i (l8Hold t t.ret w))
 else some (S.setT i t)
def Sim.making (S:Sim) (i:Int):Option Sim:=do
 let t ← idx S.th i
 let o ← S.opOf i t
 if t.pc = 30 then
  let size:=shapeSize o.sh
  match tableRoom S.table i size with
  | none=>if t.tried = 2 then S.event i 0 6 else S.back i
  | some (table,dst)=>some ({ S with table:=table }.setT i { t with size:=size,dst:=dst,i:=2,pc:=31 })
 else if t.pc = 31 then
  let S ← S.write t.dst t.dst
  some (S.setT i { t with pc:=32 })
 else
  let (S,t) ← (if t.pc = 32 then (do some (← S.write (← plus t.dst 1) (shapeWord o.sh),t))
   else if t.pc = 33 then (do some (← S.write (← plus t.dst t.i) 0,{ t with i:=← plus t.i 1 })) else some (S,t))
  let t:={ t with pc:=33 }
  let S:=S.setT i t
  if t.i = t.size then (do (← S.top t.dst t.size).push i t.dst) else some S
def Sim.oldV (S:Sim) (v:Int):Option Sim:=if !S.sz then none else some (if S.phase = 1∧v≠0 then { S with old:=S.old ++ [v] } else S)
def Sim.load (S:Sim) (i v:Int):Option Sim:=do
 let t ← idx S.th i
 if t.pc = 12∧v = t.u then S.push i t.v else
 if !(← S.from_ v) then S.push i v else
 some (S.setT i { t with u:=v,v:=v,pc:=11 })
def Sim.swap (S:Sim) (i v:Int):Option Sim:=do
 let t ← idx S.th i
 if t.pc = 16∧v = t.u then S.event i 0 0 else
 let t:={ t with u:=v }
 if ← S.from_ v then some (S.setT i { t with v:=v,pc:=15 }) else
 if v≠t.g then S.event i 0 0 else
 some ((← S.oldV v).setT i { t with pc:=14 })
def Sim.shape (S:Sim) (i:Int):Option Sim:=do
 let t ← idx S.th i
 if !S.sz then none else
 let o ← S.opOf i t
 if o.kind = 6 then S.event i (one (t.h == t.g)) 0 else
 if o.kind = 10∨o.kind = 11 then (match l5Pins S.pins o.kind t.h with
  | none=>S.event i 0 7
  | some pins=>{ S with pins:=pins }.event i 0 0) else
 let (w,S) ← S.read (← plus t.h 1)
 let sh:=(shapeOf w).1
 if !l5Field o sh.refs sh.nums then S.event i 0 4 else
 let pc:=if o.kind = 2 then 5 else if o.kind = 3 then (if S.phase = 1 then 6 else 7) else if o.kind = 4 then 8 else if o.kind = 5 then 9 else if o.kind = 7 then 10 else t.pc
 some (S.setT i { t with sh:=sh,pc:=pc })
def Sim.field (S:Sim) (i:Int):Option Sim:=do
 let t ← idx S.th i
 let o ← S.opOf i t
 let h ← plus t.h 2
 let ref ← plus h o.f
 let num ← plus (← plus h t.sh.refs) o.f
 if t.pc = 5∨t.pc = 12 then (do let (v,S) ← S.read ref;S.load i v)
 else if t.pc = 6 then (do let (v,S) ← S.read ref;some ((← S.oldV v).setT i { t with pc:=7 }))
 else if t.pc = 7 then (do let S ← S.write ref t.g;S.event i 0 0)
 else if t.pc = 8 then (do let S ← S.write num o.v;S.event i 0 0)
 else if t.pc = 9 then (do let (v,S) ← S.read num;S.event i v 0)
 else if t.pc = 10 then (do let (v,S) ← S.read ref;S.swap i v)
 else if t.pc = 14 then (do
  let (v,S) ← S.read ref
  if v = t.u then (do let S ← S.write ref t.k;S.event i 1 0) else some (S.setT i { t with pc:=10 }))
 else if t.pc = 16 then (if t.v = t.g then some (S.setT i { t with pc:=14 }) else (do let (v,S) ← S.read ref;S.swap i v))
 else some S
def Sim.tstep (S:Sim) (i:Int):Option Sim:=do
 let t ← idx S.th i
 if t.pc≤3∨t.pc = 11∨t.pc = 15 then S.resolve i
 else if t.pc = 4 then S.shape i
 else if 30≤t.pc then S.making i
 else if 20≤t.pc then S.copying i
 else S.field i
def Sim.tloop:Nat→Sim→Int→Option Sim
 | 0,_,_=>none
 | n + 1,S,i=>do
  let t ← idx S.th i
  if S.used∨t.pc = 0 then some S else (do Sim.tloop n (← S.tstep i) i)
def Sim.thread (n:Nat) (S:Sim) (i:Int):Option Sim:=do
 let t ← idx S.th i
 if t.pc = 0 then
  (if S.stop then some S else do
   let p ← idx S.progs i
   if t.next < p.length then S.begin_ i else some S)
 else Sim.tloop n { S with used:=false } i
end Sm
end
section
namespace Sm
def Sim.setC (S:Sim) (c:Col):Sim:={ S with col:=c }
def Sim.mark (S:Sim):Option Sim:=
 if !S.sz then none else
 let x:=S.col
 if x.stack.length = 0 then
  match S.old with
  | []=>some { S with stop:=true,col:={ x with want:=2 } }
  | a :: l=>some { S with old:=l,col:={ x with stack:=[a] } }
 else do
  let a ← x.stack.getLast?
  let x:={ x with stack:=x.stack.dropLast }
  let row ← idx S.table (regionOf a)
  if ← (if a < row.tams then (do some (!(← idx S.marks a))) else some false) then
   let S:={ S with marks:=seti S.marks a true }
   let (w,S) ← S.read (← plus a 1)
   let sh:=(shapeOf w).1
   let live ← plus row.live (shapeSize sh)
   some { S with table:=seti S.table (regionOf a) { row with live:=live },col:={ x with p:=a,i:=0,sh:=sh,pc:=if 0 < sh.refs then 2 else x.pc } }
  else some (S.setC x)
def Sim.look (S:Sim):Option Sim:=do
 if !S.sz then none else
 let x:=S.col
 let (v,S) ← S.read (← plus (← plus x.p 2) x.i)
 let i ← plus x.i 1
 some (S.setC { x with stack:=if v≠0 then x.stack ++ [v] else x.stack,i:=i,pc:=if i = x.sh.refs then 1 else x.pc })
def walkIn (marks:List Bool) (row:Rg):Nat→Int→Option Int
 | 0,_=>none
 | n + 1,p=>if row.kind = 4∧p < row.top then (do if ← idx marks p then some p else walkIn marks row n (p + 1)) else some p
def Sim.walkOut (S:Sim):Nat→Int→Int→Option (Int × Int)
 | 0,_,_=>none
 | n + 1,r,p=>if r < S.table.length then (do
   let row ← idx S.table r
   let p ← walkIn S.marks row 20 p
   if row.kind = 4∧p < row.top then some (r,p) else S.walkOut n (r + 1) ((r + 1) * 16))
  else some (r,p)
def Sim.walk (S:Sim):Option Sim:=do
 let x:=S.col
 let (r,p) ← S.walkOut (S.table.length + 2) x.r x.p
 let x:={ x with r:=r,p:=p }
 if r = S.table.length then some { S with stop:=true,col:={ x with want:=3 } } else
 let q ← plus p 1
 let x:={ x with p:=q }
 let (w,S) ← S.read p
 some (S.setC (if w = p then { x with src:=p,pc:=20 } else x))
def Sim.carry (S:Sim):Option Sim:=do
 let x:=S.col
 if x.pc = 20 then
  let (w,S) ← S.read (← plus x.src 1)
  let size:=shapeSize (shapeOf w).1
  match tableRoom S.table S.th.length size with
  | none=>some { S with full:=true,stop:=true }
  | some (table,dst)=>some { S with table:=table,col:={ x with size:=size,dst:=dst,i:=1,pc:=21 } }
 else if x.pc = 21 then
  let (w,S) ← S.read (← plus x.src x.i)
  some (S.setC { x with word:=w,pc:=22 })
 else if x.pc = 22 then
  let S ← S.write (← plus x.dst x.i) x.word
  let n ← plus x.i 1
  some (S.setC { x with i:=n,pc:=if n = x.size then 23 else 21 })
 else if x.pc = 23 then
  let S ← S.write x.dst x.dst
  some (S.setC { x with pc:=24 })
 else if x.pc = 24 then
  let (w,S) ← S.read x.src
  let S ← (if w = x.src then (do (← S.write x.src x.dst).top x.dst x.size) else some S)
  some (S.setC { x with pc:=5 })
 else some S
def l8Then (x:Col):Option Col:=do
 let i ← plus x.i 1
 some { x with i:=i,pc:=if i = x.sh.refs then 6 else 7 }
def Sim.renewTo (S:Sim):Nat→Int→Int→Option (Int × Int)
 | 0,_,_=>none
 | n + 1,r,p=>if r < S.table.length then (do
   let row ← idx S.table r
   if ← (if row.kind = 4 then some true else (do some (decide ((← plus (regionBase r) row.live)≤p)))) then S.renewTo n (r + 1) ((r + 1) * 16) else some (r,p))
  else some (r,p)
def Sim.renew (S:Sim):Option Sim:=do
 let x:=S.col
 if x.pc = 6 then
  let (r,p) ← S.renewTo (S.table.length + 2) x.r x.p
  let x:={ x with r:=r,p:=p }
  if r = S.table.length then some { S with stop:=true,col:={ x with want:=0 } } else
  let (w,S) ← S.read (← plus p 1)
  let sh:=(shapeOf w).1
  let q ← plus p (shapeSize sh)
  let x:={ x with f:=p,sh:=sh,p:=q,i:=0 }
  let row ← idx S.table r
  let go ← (if 0 < sh.refs then (if row.tams≤p then some true else idx S.marks p) else some false)
  some (S.setC (if go then { x with pc:=7 } else x))
 else if x.pc = 7 then
  let (v,S) ← S.read (← plus (← plus x.f 2) x.i)
  let x:={ x with v:=v }
  if ← S.from_ v then some (S.setC { x with pc:=8 }) else some (S.setC (← l8Then x))
 else if x.pc = 8 then
  let (w,S) ← S.read x.v
  let x:={ x with word:=w,pc:=9 }
  if w = x.v then some (S.setC (← l8Then x)) else some (S.setC x)
 else if x.pc = 9 then
  let a ← plus (← plus x.f 2) x.i
  let (w,S) ← S.read a
  let S ← (if w = x.v then S.write a x.word else some S)
  some (S.setC (← l8Then x))
 else some S
def Sim.work (S:Sim):Option Sim:=
 if S.phase = 1∧S.col.pc = 1 then S.mark
 else if S.phase = 1 then S.look
 else if S.phase = 2∧S.col.pc = 5 then S.walk
 else if S.phase = 2 then S.carry
 else S.renew
def Sim.cloop:Nat→Sim→Option Sim
 | 0,_=>none
 | n + 1,S=>if !S.used && !S.stop then (do Sim.cloop n (← S.work)) else some S
def thingsAll (w:List Int):Nat→List Rg→Option (List Thing)
 | _,[]=>some []
 | r,x :: l=>match thingsIn w r x.top with
  | none=>none
  | some a=>match thingsAll w (r + 1) l with | none=>none | some b=>some (a ++ b)
def stThings (s:State):Option (List Thing):=thingsAll s.words 1 s.table.tail
def tfind (l:List Thing) (a:Int):Option Thing:=l.find? λt=>t.at_ == a
def now (l:List Thing) (a:Int):Option Int:=if a = 0 then some 0 else (tfind l a).map Thing.moved
def putL (had:List Int) (a:Int):List Int:=if a = 0∨a∈had then had else had ++ [a]
def nowAll (l:List Thing):List Int→List Int→Option (List Int)
 | [],acc=>some acc
 | x :: r,acc=>do nowAll l r (putL acc (← now l x))
def rootsAll (l:List Thing):List Th→List Int→Option (List Int)
 | [],acc=>some acc
 | t :: r,acc=>do rootsAll l r (← nowAll l t.roots acc)
def reachLoop (l:List Thing):Nat→Nat→List Int→Option (List Int)
 | 0,_,_=>none
 | n + 1,i,out=>match out[i]? with
  | none=>some out
  | some a=>do
   let t ← tfind l a
   reachLoop l n (i + 1) (← nowAll l t.refs out)
def reached (s:State) (l:List Thing):Option (List Int):=do
 let out ← rootsAll l s.threads []
 reachLoop l (l.length + 2) 0 (s.pins.foldl putL out)
def insPos (l:List Int) (x:Int):Nat→Nat
 | 0=>0
 | k + 1=>if x < l.getD k 0 then insPos l x k else k + 1
def insL (l:List Int) (x:Int):List Int:=let p:=insPos l x l.length;l.take p ++ x :: l.drop p
def sorted (l:List Int):List Int:=l.foldl insL []
def heldR (pins:List Int) (r:Int):Bool:=pins.any λp=>regionOf p == r
def wr (w:List Int) (a v:Int):Option (List Int):=if 0≤a∧a < w.length then some (seti w a v) else none
def wrs:List Int→Int→List Int→Option (List Int)
 | w,_,[]=>some w
 | w,a,v :: l=>do wrs (← wr w a v) (a + 1) l
def stay (s:State):List Thing→List Int→List Rg→Option (List Int × List Rg)
 | [],w,t=>some (w,t)
 | x :: l,w,t=>
  let r:=regionOf x.at_
  if heldR s.pins r then (do
   let w ← wr w x.at_ x.at_
   let w ← wr w (x.at_ + 1) (shapeWord x.sh)
   let w ← wrs w (x.at_ + 2 + x.refs.length) x.nums
   let row ← idx s.table r
   let _ ← idx t r
   stay s l w (seti t r ⟨3,-1,row.top,row.top,0⟩))
  else stay s l w t
def nextR (pins:List Int) (t:List Rg) (size:Int):Nat→Int→Option Int
 | 0,_=>none
 | n + 1,r=>if heldR pins r then nextR pins t size n (r + 1) else (do
   let x ← idx t r
   if regionBase r + 16 < (← plus x.top size) then nextR pins t size n (r + 1) else some r)
def slide (pins:List Int) (l:List Thing):List Int→List Rg→Int→List Int→Option (List Rg × List Int)
 | [],t,_,to=>some (t,to)
 | a :: rest,t,r,to=>do
  let x ← tfind l a
  let size:=shapeSize x.sh
  if heldR pins (regionOf a) then slide pins l rest t r (to ++ [a]) else
  let r ← nextR pins t size (t.length + 2) r
  let row ← idx t r
  let top ← plus row.top size
  slide pins l rest (seti t r { row with kind:=3,top:=top,tams:=top }) r (to ++ [row.top])
def placeOf (l:List Int) (n:Int):Int:=if n∈l then (l.idxOf n:Nat) else -1
def refsW (l:List Thing) (live to:List Int):List Int→Int→List Int→Option (List Int)
 | w,_,[]=>some w
 | w,a,v :: r=>do
  let k:=placeOf live (← now l v)
  let w ← (if 0≤k then (do wr w a (← idx to k)) else some w)
  refsW l live to w (a + 1) r
def moveW (l:List Thing) (live to:List Int):List Int→List Int→List Int→Option (List Int)
 | a :: la,d :: ld,w=>do
  let t ← tfind l a
  let w ← wr w d d
  let w ← wr w (d + 1) (shapeWord t.sh)
  let w ← refsW l live to w (d + 2) t.refs
  let w ← wrs w (d + 2 + t.refs.length) t.nums
  moveW l live to la ld w
 | _,_,w=>some w
def newRoots (l:List Thing) (live to:List Int):List Int→Option (List Int)
 | []=>some []
 | a :: r=>do
  let k:=placeOf live (← now l a)
  let b ← (if k < 0 then some 0 else idx to k)
  some (b :: (← newRoots l live to r))
def newThs (l:List Thing) (live to:List Int):List Th→Option (List Th)
 | []=>some []
 | t :: r=>do
  let roots ← newRoots l live to t.roots
  some (⟨roots,t.next,false,if t.tried = 1 then 2 else t.tried⟩ :: (← newThs l live to r))
def fullS (s:State):Option State:=do
 let l:=(stThings s).getD []
 let live:=sorted (← reached s l)
 let (words,table) ← stay s l (List.replicate s.words.length 0) (tableNew s.table.length)
 let (table,to) ← slide s.pins l live table 1 []
 let words ← moveW l live to live to words
 let ths ← newThs l live to s.threads
 let fulls ← plus s.fulls 1
 some ⟨words,table,List.replicate words.length false,0,false,false,s.asked,0,ths,[],s.pins,s.cycles,fulls⟩
def Sim.view (S:Sim):State:=
 ⟨S.words,S.table,S.marks,S.phase,S.stop,S.full,S.col.asked,S.col.want,S.th.map λt=>⟨t.roots,t.next,t.pc != 0,t.tried⟩,S.old,S.pins,S.cycles,S.fulls⟩
def Sim.calm (S:Sim):Bool:=S.th.all λt=>t.pc == 0
def rows (f:Int→Rg→Rg) (t:List Rg):List Rg:=t.mapIdx λi x=>if i = 0 then x else f i x
def Sim.idle (S:Sim):Option Sim:=do
 let n ← plus S.cycles 1
 some { S with marks:=List.replicate S.marks.length false,phase:=0,col:=col0 S.col.asked 0,cycles:=n,table:=rows (λ_ x=>{ x with live:=0 }) S.table }
def Sim.snapshot (S:Sim):Sim:=
 { S with marks:=List.replicate S.marks.length false,old:=[],phase:=1,col:={ col0 S.col.asked S.col.want with pc:=1,stack:=(S.th.flatMap λt=>t.roots.filter (·≠0)) ++ S.pins },table:=rows (λ_ x=>{ x with tams:=x.top,live:=0 }) S.table }
def Sim.drain:Nat→Sim→Option Sim
 | 0,_=>none
 | n + 1,S=>if !S.sz then none else if 0 < S.col.stack.length∨0 < S.old.length∨S.col.pc = 2 then (do
   Sim.drain n (← if S.col.pc = 2 then S.look else S.mark))
  else some S
def kind4:List Int→List Rg→Option (List Rg)
 | [],t=>some t
 | r :: l,t=>do
  let x ← idx t r
  kind4 l (seti t r { x with kind:=4 })
def Sim.choose (n:Nat) (S:Sim):Option Sim:=do
 let S ← Sim.drain n S
 let q:=tableChoose S.table S.c.reserve (S.pins.map regionOf)
 let t:=q.2.foldl (λt r=>(tableDrop t r).getD []) S.table
 let t ← kind4 q.1 t
 let S:={ S with stop:=false,table:=t }
 if q.1.length = 0 then S.idle else
 some { S with phase:=2,col:={ col0 S.col.asked S.col.want with pc:=5,r:=1,p:=16 } }
def Sim.rootsF (S:Sim):List Int→Option (List Int)
 | []=>some []
 | a :: r=>do
  let b ← (if ← S.from_ a then idx S.words a else some a)
  some (b :: (← S.rootsF r))
def Sim.thsF (S:Sim):List Thr→Option (List Thr)
 | []=>some []
 | t :: r=>do
  let roots ← S.rootsF t.roots
  some ({ t with roots:=roots } :: (← S.thsF r))
def dropFrom:Nat→Nat→List Rg→List Rg
 | 0,_,t=>t
 | n + 1,i,t=>match t[i]? with
  | none=>t
  | some x=>dropFrom n (i + 1) (if x.kind == 4 then (tableDrop t i).getD [] else t)
def Sim.finish (S:Sim):Option Sim:=do
 let th ← S.thsF S.th
 Sim.idle { S with th:=th,table:=dropFrom S.table.length 1 S.table }
def Sim.update (S:Sim):Option Sim:=do
 let _ ← (if S.table.all (λx=>decide (-1000≤x.top) && decide (x.top≤1000)) then some () else none)
 some { S with phase:=3,table:=rows (λi x=>{ x with live:=x.top - regionBase i }) S.table,col:={ col0 S.col.asked S.col.want with pc:=6,r:=1,p:=16 } }
def Sim.pause (n:Nat) (S:Sim):Option Sim:=
 if !S.sz then none else
 if S.full then do
  let s ← fullS S.view
  some { S with words:=s.words,table:=s.table,marks:=s.marks,phase:=s.phase,stop:=s.stop,full:=s.full,old:=s.old,pins:=s.pins,cycles:=s.cycles,fulls:=s.fulls,col:=col0 s.asked 0,th:=s.threads.map λt=>thr0 t.roots t.next t.tried }
 else
  let S:={ S with stop:=false }
  if S.col.want = 1 then some S.snapshot
  else if S.col.want = 2 then S.choose n
  else if S.col.want = 3 then S.update
  else S.finish
def Sim.collector (n:Nat) (S:Sim):Option Sim:=
 if S.stop then (if S.calm then S.pause n else some S)
 else if S.phase = 0 then (if S.col.asked then some { S with stop:=true,col:={ S.col with asked:=false,want:=1 } } else some S)
 else Sim.cloop n { S with used:=false }
def Sim.fuel (S:Sim):Nat:=100 * (S.words.length + S.old.length + S.col.stack.length) + 1000
def Sim.pick (S:Sim) (p:Int):Option Sim:=
 if 0≤p∧p < S.th.length then S.thread S.fuel p
 else if p = S.th.length then S.collector S.fuel
 else if p = S.th.length + 1 then some { S with col:={ S.col with asked:=true } }
 else some S
def Sim.picks:List Int→Sim→Option Sim
 | [],S=>some S
 | p :: l,S=>do Sim.picks l (← S.pick p)
def configOk (c:Cfg):Bool:=decide (3≤c.regions) && decide (c.regions≤12) && decide (1≤c.threads) && decide (c.threads≤3) && decide (0≤c.reserve) && decide (c.reserve≤100)
def hall:Shp:=⟨4,2⟩
def start (c:Cfg) (progs:List (List Op)):Sim:=
 ⟨c,progs,(thingMake (List.replicate (c.regions.toNat * 16) 0) 16 hall).1,seti (tableNew c.regions) 1 ⟨3,-1,24,24,0⟩,List.replicate (c.regions.toNat * 16) false,
  0,false,false,[],[],0,0,List.replicate c.threads.toNat (thr0 [16] 0 0),col0 false 0,[],false⟩
def storyOk (c:Cfg) (progs:List (List Op)) (picks:List Int):Bool:=
 configOk c && decide ((progs.length:Int) = c.threads) && decide (picks.length≤4000) && progs.all λp=>decide (p.length≤40)
end Sm
end
section
namespace Sm
def gv {α:Type} (d:α) (l:List α) (a:Int):α:=l.getD a.toNat d
theorem gv_set {α:Type} {d:α} {l:List α} {a x:Int} {v:α} (h0:0≤a) (h1:a < l.length) (hx:0≤x):gv d (seti l a v) x = if x = a then v else gv d l x:=by
 unfold gv seti
 rw[List.getD_eq_getElem?_getD,List.getD_eq_getElem?_getD,List.getElem?_set]
 by_cases h:x = a
 ·subst h;rw[if_pos rfl,if_pos rfl,if_pos (by omega)];rfl
 ·rw[if_neg (by omega),if_neg h]
theorem idx_gv {α:Type} {d:α} {l:List α} {a:Int} (h0:0≤a) (h1:a < l.length):idx l a = some (gv d l a):=by
 unfold idx gv
 rw[if_pos h0,List.getD_eq_getElem?_getD,List.getElem?_eq_getElem (by omega)];rfl
theorem gv_idx {α:Type} {l:List α} {a:Int} {v:α} (d:α) (h:idx l a = some v):0≤a∧a < l.length∧gv d l a = v:=by
 unfold idx at h
 split at h
 ·obtain⟨hi,he⟩:=List.getElem?_eq_some_iff.1 h
  refine⟨‹_›,by omega,?_⟩
  unfold gv
  rw[List.getD_eq_getElem?_getD,h];rfl
 ·cases h
theorem gv_get {α:Type} {d:α} {l:List α} {k:Nat} (h:k < l.length):gv d l (k:Int) = l[k]:=by
 unfold gv
 rw[Int.toNat_natCast,List.getD_eq_getElem?_getD,List.getElem?_eq_getElem h];rfl
theorem gv_out {α:Type} {d:α} {l:List α} {a:Int} (h0:0≤a) (h:l.length≤a):gv d l a = d:=by
 unfold gv
 rw[List.getD_eq_getElem?_getD,List.getElem?_eq_none (by omega)];rfl
@[simp] theorem seti_len {α:Type} {l:List α} {a:Int} {v:α}:(seti l a v).length = l.length:=by simp[seti]
@[reducible] def wv (l:List Int) (a:Int):Int:=gv 0 l a
@[reducible] def mv (l:List Bool) (a:Int):Bool:=gv false l a
@[reducible] def rv (t:List Rg) (r:Int):Rg:=gv edge t r
theorem idx_wv {l:List Int} {a:Int} (h0:0≤a) (h1:a < l.length):idx l a = some (wv l a):=idx_gv h0 h1
theorem idx_mv {l:List Bool} {a:Int} (h0:0≤a) (h1:a < l.length):idx l a = some (mv l a):=idx_gv h0 h1
theorem idx_rv {l:List Rg} {a:Int} (h0:0≤a) (h1:a < l.length):idx l a = some (rv l a):=idx_gv h0 h1
theorem wv_set {l:List Int} {a x v:Int} (h0:0≤a) (h1:a < l.length) (hx:0≤x):wv (seti l a v) x = if x = a then v else wv l x:=gv_set h0 h1 hx
theorem mv_set {l:List Bool} {a x:Int} {v:Bool} (h0:0≤a) (h1:a < l.length) (hx:0≤x):mv (seti l a v) x = if x = a then v else mv l x:=gv_set h0 h1 hx
theorem rv_set {l:List Rg} {a x:Int} {v:Rg} (h0:0≤a) (h1:a < l.length) (hx:0≤x):rv (seti l a v) x = if x = a then v else rv l x:=gv_set h0 h1 hx
theorem rv_out {t:List Rg} {r:Int} (h0:0≤r) (h:t.length≤r):rv t r = edge:=gv_out h0 h
structure RowP (r:Int) (x:Rg):Prop where
 k0:1≤x.kind
 k1:x.kind≤4
 t0:16 * r≤x.top
 t1:x.top≤16 * r + 16
 s0:16 * r≤x.tams
 s1:x.tams≤x.top
 l0:0≤x.live
 l1:x.live≤x.top - 16 * r
 fr:x.kind = 1→x.top = 16 * r
 ow:x.kind = 2↔0≤x.owner
 o0:-1≤x.owner
 o1:x.owner≤3
structure TOk (t:List Rg):Prop where
 n0:2≤t.length
 n1:t.length≤12
 e:rv t 0 = edge
 row:∀r:Int,1≤r→r < t.length→RowP r (rv t r)
 own:∀r s:Int,1≤r→r < t.length→1≤s→s < t.length→0≤(rv t r).owner→(rv t r).owner = (rv t s).owner→r = s
theorem base_eq {r:Int} (h0:0≤r) (h1:r < 12):regionBase r = 16 * r:=by
 unfold regionBase;rw[if_neg (by omega)];omega
theorem rowOk_iff {r:Int} {x:Rg} (h0:0≤r) (h1:r < 12):rowOk r x = true↔RowP r x:=by
 unfold rowOk
 rw[base_eq h0 h1]
 simp only[z_b,z_d,Bool.or_eq_true,Bool.not_eq_true',beq_eq_false_iff_ne,beq_iff_eq]
 constructor
 ·rintro⟨⟨⟨⟨⟨⟨⟨⟨⟨⟨⟨a,b⟩,c⟩,d⟩,e⟩,f⟩,g⟩,h⟩,i⟩,j⟩,k⟩,l⟩
  refine⟨a,b,c,d,e,f,g,h,λhk=>?_,?_,k,l⟩
  ·rcases i with i | i
   ·exact absurd hk i
   ·exact i
  ·rw[Bool.eq_iff_iff] at j;simpa using j
 ·rintro⟨a,b,c,d,e,f,g,h,i,j,k,l⟩
  refine⟨⟨⟨⟨⟨⟨⟨⟨⟨⟨⟨a,b⟩,c⟩,d⟩,e⟩,f⟩,g⟩,h⟩,?_⟩,?_⟩,k⟩,l⟩
  ·by_cases hk:x.kind = 1
   ·exact .inr (i hk)
   ·exact .inl hk
  ·rw[Bool.eq_iff_iff];simpa using j
theorem rowsOk_iff:∀(l:List Rg) (i:Nat),i + l.length≤12→(rowsOk i l = true↔(∀k (h:k < l.length),RowP (i + k:Nat) l[k])∧∀k m (h:k < m) (hm:m < l.length),0≤(l[k]).owner→(l[m]).owner≠(l[k]).owner):=by
 intro l;induction l with
 | nil=>intro i _;simp[rowsOk]
 | cons x r ih=>
  intro i hi
  simp only[List.length_cons] at hi
  simp only[rowsOk,z_b,ih (i + 1) (by omega),rowOk_iff (r:=(i:Int)) (by omega) (by omega),Bool.or_eq_true,z_d,List.all_eq_true,Bool.not_eq_true',beq_eq_false_iff_ne]
  constructor
  ·rintro⟨⟨h1,h2⟩,h3,h4⟩
   refine⟨λk h=>?_,λk m h hm ho=>?_⟩
   ·cases k with
    | zero=>exact h1
    | succ k=>
     have:=h3 k (by simpa using h)
     rw[show i + (k + 1) = i + 1 + k from by omega];exact this
   ·cases m with
    | zero=>omega
    | succ m=>
     cases k with
     | zero=>
      simp only[List.getElem_cons_zero] at ho
      rcases h2 with h2 | h2
      ·omega
      ·exact h2 _ (List.getElem_mem (by simpa using hm))
     | succ k=>exact h4 k m (by omega) (by simpa using hm) (by simpa using ho)
  ·rintro⟨h1,h2⟩
   refine⟨⟨h1 0 (by simp),?_⟩,λk h=>?_,λk m h hm ho=>?_⟩
   ·by_cases hx:x.owner < 0
    ·exact .inl hx
    ·refine .inr λy hy=>?_
     obtain⟨n,hn,rfl⟩:=List.getElem_of_mem hy
     exact h2 0 (n + 1) (by omega) (by simpa using hn) (by simpa using hx)
   ·have:=h1 (k + 1) (by simpa using h)
    rw[show i + 1 + k = i + (k + 1) from by omega];exact this
   ·exact h2 (k + 1) (m + 1) (by omega) (by simpa using hm) (by simpa using ho)
theorem tableOk_iff {t:List Rg}:tableOk t = true↔TOk t:=by
 cases t with
 | nil=>simp[tableOk];intro h;have:=h.n0;simp at this
 | cons e r=>
  simp only[tableOk,z_b,z_d,beq_iff_eq]
  have gz:rv (e :: r) 0 = e:=rfl
  have gs:∀k (h:k < r.length),rv (e :: r) ((1 + k:Nat):Int) = r[k]:=λk h=>by
   rw[rv,gv_get (by simp;omega)]
   simp only[Nat.add_comm 1 k,List.getElem_cons_succ]
  constructor
  ·rintro⟨⟨⟨h1,h2⟩,h3⟩,h4⟩
   rw[rowsOk_iff r 1 (by omega)] at h4
   have sp:∀x:Int,1≤x→x < (e :: r).length→∃k,∃h:k < r.length,x = ((1 + k:Nat):Int)∧rv (e :: r) x = r[k]:=λx hx hx2=>by
    simp only[List.length_cons] at hx2
    refine⟨x.toNat - 1,by omega,by omega,?_⟩
    have:=gs (x.toNat - 1) (by omega)
    rw[show ((1 + (x.toNat - 1):Nat):Int) = x from by omega] at this;exact this
   refine⟨by simp;omega,by simp;omega,by rw[gz];exact h3,λx hx hx2=>?_,λx y hx hx2 hy hy2 ho he=>?_⟩
   ·obtain⟨k,h,hk,hv⟩:=sp x hx hx2
    rw[hv,hk];exact h4.1 k h
   ·obtain⟨k,h,hk,hv⟩:=sp x hx hx2
    obtain⟨m,h',hm,hv'⟩:=sp y hy hy2
    rw[hv,hv'] at he
    rw[hv] at ho
    rcases Nat.lt_trichotomy k m with c | c | c
    ·exact absurd he.symm (h4.2 k m c h' ho)
    ·omega
    ·exact absurd he (h4.2 m k c h (he▸ho))
  ·intro T
   have n0:=T.n0
   have n1:=T.n1
   simp only[List.length_cons] at n0 n1
   refine⟨⟨⟨by omega,by omega⟩,by rw[← gz];exact T.e⟩,?_⟩
   rw[rowsOk_iff r 1 (by omega)]
   refine⟨λk h=>?_,λk m h hm ho he=>?_⟩
   ·rw[← gs k h];exact T.row _ (by omega) (by simp;omega)
   ·rw[← gs m hm,← gs k (by omega)] at he
    rw[← gs k (by omega)] at ho
    have:=T.own _ _ (by omega) (by simp;omega) (by omega) (by simp;omega) ho he.symm
    omega
theorem TOk.set {t:List Rg} {r:Int} {x:Rg} (T:TOk t) (h0:1≤r) (h1:r < t.length) (hx:RowP r x) (ho:∀s:Int,1≤s→s < t.length→s≠r→0≤x.owner→(rv t s).owner≠x.owner):TOk (seti t r x):=by
 have gs:∀s,0≤s→rv (seti t r x) s = if s = r then x else rv t s:=λs hs=>rv_set (by omega) h1 hs
 refine⟨by simpa using T.n0,by simpa using T.n1,?_,λs hs hs2=>?_,λs u hs hs2 hu hu2 h he=>?_⟩
 ·rw[gs 0 (by omega),if_neg (by omega)];exact T.e
 ·rw[gs s (by omega)]
  by_cases c:s = r
  ·rw[if_pos c,c];exact hx
  ·rw[if_neg c];exact T.row s hs (by simpa using hs2)
 ·simp only[seti_len] at hs2 hu2
  rw[gs s (by omega)] at h he
  rw[gs u (by omega)] at he
  by_cases c:s = r<;>by_cases d:u = r
  ·omega
  ·rw[if_pos c] at h he;rw[if_neg d] at he
   exact absurd he.symm (ho u hu hu2 d h)
  ·rw[if_neg c] at h he;rw[if_pos d] at he
   exact absurd he (ho s hs hs2 c (he▸h))
  ·rw[if_neg c] at h he;rw[if_neg d] at he
   exact T.own s u hs hs2 hu hu2 h he
theorem find_spec (p:Rg→Bool):∀(l:List Rg) (n:Nat),(findFrom p n l = -1∧∀k (h:k < l.length),p l[k] = false)∨∃k,∃h:k < l.length,findFrom p n l = (n + k:Nat)∧p l[k] = true:=by
 intro l;induction l with
 | nil=>intro n;left;exact⟨rfl,λk h=>by simp at h⟩
 | cons x r ih=>
  intro n
  simp only[findFrom]
  cases hx:p x with
  | true=>right;exact⟨0,by simp,by simp,by simpa using hx⟩
  | false=>
   rcases ih (n + 1) with ⟨h1,h2⟩ | ⟨k,h,h1,h2⟩
   ·left
    refine⟨by simpa using h1,λk h=>?_⟩
    cases k with
    | zero=>exact hx
    | succ k=>exact h2 k (by simpa using h)
   ·right
    exact⟨k + 1,by simpa using h,by simp[h1];omega,by simpa using h2⟩
theorem tail_rv {t:List Rg} {k:Nat} (h:k < t.tail.length):t.tail[k] = rv t ((1 + k:Nat):Int):=by
 rw[rv,gv_get (by simp at h;omega)]
 simp[List.getElem_tail,Nat.add_comm]
theorem find_row (p:Rg→Bool) (t:List Rg):(findFrom p 1 t.tail = -1∧∀r:Int,1≤r→r < t.length→p (rv t r) = false)∨(1≤findFrom p 1 t.tail∧findFrom p 1 t.tail < t.length∧p (rv t (findFrom p 1 t.tail)) = true):=by
 rcases find_spec p t.tail 1 with ⟨h1,h2⟩ | ⟨k,h,h1,h2⟩
 ·left
  refine⟨h1,λr h0 hr=>?_⟩
  have:=h2 (r.toNat - 1) (by simp;omega)
  rw[tail_rv,show ((1 + (r.toNat - 1):Nat):Int) = r from by omega] at this
  exact this
 ·right
  rw[tail_rv h] at h2
  rw[h1]
  simp at h
  exact⟨by omega,by omega,h2⟩
structure RoomP (t:List Rg) (o size:Int) (t' : List Rg) (d:Int):Prop where
 ok:TOk t'
 len:t'.length = t.length
 d0:16≤d
 dk:(rv t' (d / 16)).kind = 2
 do_:(rv t' (d / 16)).owner = o
 dt:(rv t' (d / 16)).top = d
 fit:d + size≤16 * (d / 16) + 16
 top:∀r,0≤r→(rv t' r).top = (rv t r).top
 tams:∀r,0≤r→(rv t' r).tams = (rv t r).tams
 live:∀r,0≤r→(rv t' r).live = (rv t r).live
 frm:∀r,0≤r→((rv t' r).kind = 4↔(rv t r).kind = 4)
 oth:∀r,0≤r→(rv t r).kind = 2→(rv t r).owner≠o→rv t' r = rv t r
theorem take_spec {t:List Rg} {o size:Int} (T:TOk t) (o0:0≤o) (o1:o≤3) (hn:own t o < 0) (s1:size≤16):tableTake t o = none∨∃t' r,tableTake t o = some (t',r)∧RoomP t o size t' (regionBase r):=by
 unfold tableTake
 rw[if_pos (by simp[tableOk_iff.2 T,o0,o1,hn])]
 rcases find_row (λx=>x.kind == 1) t with ⟨h1,_⟩ | ⟨h1,h2,h3⟩
 ·left;simp only[h1];rfl
 ·right
  generalize findFrom (λx=>x.kind == 1) 1 t.tail = r at h1 h2 h3
  have hk:(rv t r).kind = 1:=by simpa using h3
  have n1:=T.n1
  have hb:=base_eq (r:=r) (by omega) (by omega)
  have R:=T.row r h1 h2
  have hno:∀s:Int,1≤s→s < t.length→¬ ((rv t s).kind = 2∧(rv t s).owner = o):=by
   intro s hs hs2 hh
   rcases find_row (λx=>x.kind == 2 && x.owner == o) t with ⟨_,g⟩ | ⟨g,_,_⟩
   ·have:=g s hs hs2;simp[hh.1,hh.2] at this
   ·unfold own at hn;omega
  have hto:=R.fr hk
  refine⟨_,_,by dsimp only;rw[if_neg (by omega),hb],?_⟩
  have gs:∀s,0≤s→rv (seti t r ⟨2,o,16 * r,16 * r,0⟩) s = if s = r then ⟨2,o,16 * r,16 * r,0⟩ else rv t s:=λs hs=>rv_set (by omega) h2 hs
  have ed:16 * r / 16 = r:=by omega
  have s0':=R.s0
  have s1':=R.s1
  have l0':=R.l0
  have l1':=R.l1
  refine⟨?_,by simp,by rw[hb];omega,?_,?_,?_,by rw[hb];omega,?_,?_,?_,?_,?_⟩
  ·refine T.set h1 h2 ⟨by simp,by simp,by exact Int.le_refl _,?_,by exact Int.le_refl _,by exact Int.le_refl _,by simp,?_,?_,?_,?_,o1⟩ λs hs hs2 hne ho he=>?_
   ·show 16 * r≤16 * r + 16;omega
   ·show 0≤16 * r - 16 * r;omega
   ·intro h;cases h
   ·exact⟨λ_=>o0,λ_=>rfl⟩
   ·show -1≤o;omega
   ·have:=(T.row s hs hs2).ow.2 (by rw[he];exact o0)
    exact hno s hs hs2 ⟨this,he⟩
  ·rw[hb,ed,gs r (by omega),if_pos rfl]
  ·rw[hb,ed,gs r (by omega),if_pos rfl]
  ·rw[hb,ed,gs r (by omega),if_pos rfl]
  ·intro s hs;rw[gs s hs];split
   ·subst s;exact hto.symm
   ·rfl
  ·intro s hs;rw[gs s hs];split
   ·subst s;simp only[];omega
   ·rfl
  ·intro s hs;rw[gs s hs];split
   ·subst s;simp only[];omega
   ·rfl
  ·intro s hs;rw[gs s hs];split
   ·subst s;simp only[];omega
   ·exact Iff.rfl
  ·intro s hs hk2 ho;rw[gs s hs];split
   ·subst s;omega
   ·rfl
theorem room_spec {t:List Rg} {o size:Int} (T:TOk t) (o0:0≤o) (o1:o≤3) (s0:1≤size) (s1:size≤16):tableRoom t o size = none∨∃t' d,tableRoom t o size = some (t',d)∧RoomP t o size t' d:=by
 unfold tableRoom
 rw[if_pos (by simp[tableOk_iff.2 T,o0,o1,s0,s1])]
 have n1:=T.n1
 dsimp only
 rcases find_row (λx=>x.kind == 2 && x.owner == o) t with ⟨h1,h2⟩ | ⟨h1,h2,h3⟩
 ·have ho:own t o = -1:=h1
  rw[ho]
  rw[if_neg (by omega)]
  rcases take_spec (size:=size) T o0 o1 (by rw[ho];omega) s1 with h | ⟨t',r,h,hr⟩
  ·left;simp only[h]
  ·right;simp only[h];exact⟨_,_,rfl,hr⟩
 ·have ho:own t o = findFrom (λx=>x.kind == 2 && x.owner == o) 1 t.tail:=rfl
  rw[← ho] at h1 h2 h3
  generalize own t o = r at h1 h2 h3
  simp only[z_b,beq_iff_eq] at h3
  have R:=T.row r h1 h2
  have hb:=base_eq (r:=r) (by omega) (by omega)
  rw[if_pos (by omega),idx_rv (by omega) h2]
  dsimp only
  rw[hb]
  by_cases hf:(rv t r).top + size≤16 * r + 16
  ·right
   have t0:=R.t0
   have ed:(rv t r).top / 16 = r:=by omega
   refine⟨_,_,by rw[if_pos hf],T,rfl,by omega,by rw[ed];exact h3.1,by rw[ed];exact h3.2,by rw[ed],by rw[ed];exact hf,λ_ _=>rfl,λ_ _=>rfl,λ_ _=>rfl,λ_ _=>Iff.rfl,λ_ _ _ _=>rfl⟩
  ·rw[if_neg hf]
   have hcl:tableClose t r = some (seti t r { rv t r with kind:=3,owner:=-1 }):=by
    unfold tableClose
    rw[if_pos (by simp[tableOk_iff.2 T,h1]),idx_rv (by omega) h2]
    dsimp only
    rw[if_pos (by simpa using h3.1)]
   rw[hcl]
   simp only[Option.getD_some]
   have gs:∀s,0≤s→rv (seti t r { rv t r with kind:=3,owner:=-1 }) s = if s = r then { rv t r with kind:=3,owner:=-1 } else rv t s:=λs hs=>rv_set (by omega) h2 hs
   have T2:TOk (seti t r { rv t r with kind:=3,owner:=-1 }):=by
    refine T.set h1 h2 ⟨by simp,by simp,R.t0,R.t1,R.s0,R.s1,R.l0,R.l1,?_,?_,by simp,by simp⟩ λs hs hs2 hne ho he=>?_
    ·intro h;cases h
    ·simp
    ·simp at ho
   have hno:own (seti t r { rv t r with kind:=3,owner:=-1 }) o < 0:=by
    rcases find_row (λx=>x.kind == 2 && x.owner == o) (seti t r { rv t r with kind:=3,owner:=-1 }) with ⟨g,_⟩ | ⟨g1,g2,g3⟩
    ·unfold own;rw[g];decide
    ·exfalso
     generalize findFrom (λx=>x.kind == 2 && x.owner == o) 1 (seti t r { rv t r with kind:=3,owner:=-1 }).tail = s at g1 g2 g3
     rw[gs s (by omega)] at g3
     simp only[seti_len] at g2
     by_cases c:s = r
     ·rw[if_pos c] at g3;simp at g3
     ·rw[if_neg c] at g3
      simp only[z_b,beq_iff_eq] at g3
      exact c (T.own s r g1 g2 h1 h2 (by rw[g3.2];exact o0) (by rw[g3.2,h3.2]))
   rcases take_spec (size:=size) T2 o0 o1 hno s1 with h | ⟨t',u,h,hr⟩
   ·left;simp only[h]
   ·right;simp only[h]
    refine⟨_,_,rfl,hr.ok,by rw[hr.len];simp,hr.d0,hr.dk,hr.do_,hr.dt,hr.fit,λs hs=>?_,λs hs=>?_,λs hs=>?_,λs hs=>?_,λs hs hk hoo=>?_⟩
    ·rw[hr.top s hs,gs s hs];split
     ·subst s;rfl
     ·rfl
    ·rw[hr.tams s hs,gs s hs];split
     ·subst s;rfl
     ·rfl
    ·rw[hr.live s hs,gs s hs];split
     ·subst s;rfl
     ·rfl
    ·rw[hr.frm s hs,gs s hs];split
     ·subst s;simp only[];omega
     ·exact Iff.rfl
    ·have hne:s≠r:=by intro c;subst c;exact hoo h3.2
     have:=hr.oth s hs (by rw[gs s hs,if_neg hne];exact hk) (by rw[gs s hs,if_neg hne];exact hoo)
     rw[this,gs s hs,if_neg hne]
end Sm
end
section
namespace Sm
def shp (w:List Int) (a:Int):Shp:=(shapeOf (wv w (a + 1))).1
def sz (w:List Int) (a:Int):Int:=shapeSize (shp w a)
def From (t:List Rg) (a:Int):Prop:=0≤a∧(rv t (a / 16)).kind = 4
theorem shapeOf_b (v:Int):0≤(shapeOf v).1.refs∧(shapeOf v).1.refs≤4∧0≤(shapeOf v).1.nums∧(shapeOf v).1.nums≤4:=by
 unfold shapeOf
 split
 ·simp only[];omega
 ·simp[shp0]
theorem size_b {s:Shp} (h:0≤s.refs∧s.refs≤4∧0≤s.nums∧s.nums≤4):shapeSize s = 2 + s.refs + s.nums:=by
 unfold shapeSize
 rw[if_pos (by simp[shapeOk];omega)]
theorem sz_b (w:List Int) (a:Int):sz w a = 2 + (shp w a).refs + (shp w a).nums∧0≤(shp w a).refs∧(shp w a).refs≤4∧0≤(shp w a).nums∧(shp w a).nums≤4:=by
 have h:=shapeOf_b (wv w (a + 1))
 exact⟨size_b h,h⟩
theorem shp_congr {w w' : List Int} {a:Int} (h:wv w' (a + 1) = wv w (a + 1)):shp w' a = shp w a:=by unfold shp;rw[h]
theorem sz_congr {w w' : List Int} {a:Int} (h:wv w' (a + 1) = wv w (a + 1)):sz w' a = sz w a:=by unfold sz;rw[shp_congr h]
structure Geo (w:List Int) (t:List Rg) (B:Int→Prop):Prop where
 len:(w.length:Int) = 16 * t.length
 ok:TOk t
 at_:∀a,B a→16≤a∧a + sz w a≤(rv t (a / 16)).top∧(shapeOf (wv w (a + 1))).2 = true
 nx:∀a,B a→a + sz w a = (rv t (a / 16)).top∨B (a + sz w a)
 bs:∀r:Int,1≤r→r < t.length→(rv t r).top = 16 * r∨B (16 * r)
 dj:∀a b,B a→B b→a < b→a + sz w a≤b
theorem Geo.inn {w:List Int} {t:List Rg} {B:Int→Prop} (G:Geo w t B) {a:Int} (h:B a):16≤a∧1≤a / 16∧a / 16 < t.length∧a + sz w a≤(rv t (a / 16)).top∧(rv t (a / 16)).top≤16 * (a / 16) + 16∧a + sz w a≤w.length∧2≤sz w a∧sz w a≤10:=by
 obtain⟨h1,h2,_⟩:=G.at_ a h
 have hs:=sz_b w a
 have hl:=G.len
 by_cases c:a / 16 < t.length
 ·have:=(G.ok.row (a / 16) (by omega) c).t1
  exact⟨h1,by omega,c,h2,this,by omega,by omega,by omega⟩
 ·rw[rv_out (by omega) (by omega)] at h2
  simp only[edge] at h2;omega
structure X where
 w:List Int
 t:List Rg
 m:List Bool
 ph:Int
 sk:List Int
 old:List Int
 pins:List Int
 B:Int→Prop
 L:Int→Prop
 q:Int→Int
 r0:Int→Prop
def X.tm (x:X) (a:Int):Int:=(rv x.t (a / 16)).tams
def Lg (x:X) (v:Int):Prop:=v = 0∨mv x.m v = true∨v∈x.sk∨v∈x.old∨(0≤v∧x.tm v≤v)
open Classical in
noncomputable def cnt (x:X) (r:Int):Nat:=(List.range 16).countP λ(k:Nat)=>decide (∃a,0≤a∧mv x.m a = true∧a≤16 * r + (k:Int)∧16 * r + (k:Int) < a + sz x.w a)
structure Mp (x:X):Prop where
 sk:∀a∈x.sk,x.L a
 old:∀a∈x.old,x.L a
 mn:∀Y:Int→Prop,(∀a,x.r0 a→Y a)→(∀a j,x.L a→a < x.tm a→Y a→0≤j→j < (shp x.w a).refs→x.q (a + 2 + j)≠0→Y (x.q (a + 2 + j)))→∀a,x.L a→a < x.tm a→Y a
 l0:∀a,x.r0 a→x.L a∧a < x.tm a∧Lg x a
 ql:∀a j,x.L a→a < x.tm a→0≤j→j < (shp x.w a).refs→x.q (a + 2 + j)≠0→x.L (x.q (a + 2 + j))∧x.q (a + 2 + j) < x.tm (x.q (a + 2 + j))
 un:∀a j,x.L a→a < x.tm a→0≤j→j < (shp x.w a).refs→wv x.w (a + 2 + j) = x.q (a + 2 + j)∨Lg x (x.q (a + 2 + j))
 cov:∀r:Int,1≤r→r < x.t.length→(rv x.t r).live = cnt x r
structure Sh (x:X):Prop where
 g:Geo x.w x.t x.B
 lb:∀a,x.L a→x.B a
 rf:∀a j,x.L a→0≤j→j < (shp x.w a).refs→wv x.w (a + 2 + j)≠0→x.L (wv x.w (a + 2 + j))
 st:∀a,x.B a→¬ From x.t a→wv x.w a = a
 fw:∀a,x.B a→From x.t a→wv x.w a≠a→x.L (wv x.w a)∧¬ From x.t (wv x.w a)∧wv x.w (wv x.w a + 1) = wv x.w (a + 1)
 ml:x.m.length = x.w.length
 mt:∀a,0≤a→mv x.m a = true→x.L a∧a < x.tm a
 ph:0≤x.ph∧x.ph≤3
 nf:x.ph≤1→∀r:Int,0≤r→(rv x.t r).kind≠4
 lm:2≤x.ph→∀a,x.L a→a < x.tm a→mv x.m a = true
 pl:∀a∈x.pins,x.L a∧¬ From x.t a
 fm:∀a,x.L a→From x.t a→mv x.m a = true
 nb:1≤x.ph→∀a,x.B a→x.tm a≤a→x.L a
 af:x.ph = 3→∀a,x.L a→From x.t a→wv x.w a≠a
 mp:x.ph = 1→Mp x
structure Kp (o:Int) (x y:X):Prop where
 wl:y.w.length = x.w.length
 tl:y.t.length = x.t.length
 ph:y.ph = x.ph
 l:∀a,x.L a→y.L a
 b:∀a,x.B a→y.B a
 lf:∀a,y.L a→From y.t a→x.L a
 fr:∀r:Int,0≤r→((rv y.t r).kind = 4↔(rv x.t r).kind = 4)
 tm:∀r:Int,0≤r→(rv y.t r).tams = (rv x.t r).tams
 own:∀r:Int,0≤r→(rv x.t r).kind = 2→(rv x.t r).owner≠o→((rv y.t r).kind = 2∧(rv y.t r).owner = (rv x.t r).owner∧(rv y.t r).top = (rv x.t r).top)∧∀z,(rv x.t r).top≤z→z < 16 * r + 16→wv y.w z = wv x.w z
 sh:∀a,x.B a→wv y.w (a + 1) = wv x.w (a + 1)
 bd:∀a z,x.L a→From x.t a→a < z→z < a + sz x.w a→wv y.w z = wv x.w z
 fwd:∀a,x.B a→wv x.w a≠a→wv y.w a = wv x.w a
 lg:x.ph = 1→∀v,Lg x v→Lg y v
 q:y.q = x.q
 cl:x.ph = 3→∀a j,y.L a→¬ From y.t a→0≤j→j < (shp y.w a).refs→From y.t (wv y.w (a + 2 + j))→x.L a∧wv x.w (a + 2 + j) = wv y.w (a + 2 + j)
theorem Kp.refl (o:Int) (x:X):Kp o x x:=
 ⟨rfl,rfl,rfl,λ_ h=>h,λ_ h=>h,λ_ h _=>h,λ_ _=>Iff.rfl,λ_ _=>rfl,λ_ _ h _=>⟨⟨h,rfl,rfl⟩,λ_ _ _=>rfl⟩,λ_ _=>rfl,λ_ _ _ _ _ _=>rfl,λ_ _ _=>rfl,λ_ _ h=>h,rfl,λ_ _ _ h _ _ _ _=>⟨h,rfl⟩⟩
theorem Kp.frm {o:Int} {x y:X} (K:Kp o x y) {a:Int}:From y.t a↔From x.t a:=
 ⟨λh=>⟨h.1,(K.fr (a / 16) (by have:=h.1;omega)).1 h.2⟩,λh=>⟨h.1,(K.fr (a / 16) (by have:=h.1;omega)).2 h.2⟩⟩
theorem Kp.trans {o:Int} {x y z:X} (K:Kp o x y) (K' : Kp o y z) (H:Sh x) (H' : Sh y):Kp o x z where
 wl:=by rw[K'.wl,K.wl]
 tl:=by rw[K'.tl,K.tl]
 ph:=by rw[K'.ph,K.ph]
 l a h:=K'.l a (K.l a h)
 b a h:=K'.b a (K.b a h)
 lf a h h':=K.lf a (K'.lf a h h') (K'.frm.1 h')
 fr r h:=(K'.fr r h).trans (K.fr r h)
 tm r h:=(K'.tm r h).trans (K.tm r h)
 own r h hk ho:=by
  obtain⟨⟨e1,e2,e3⟩,f⟩:=K.own r h hk ho
  obtain⟨⟨e1',e2',e3'⟩,f'⟩:=K'.own r h e1 (by rw[e2];exact ho)
  refine⟨⟨e1',by rw[e2',e2],by rw[e3',e3]⟩,λu h1 h2=>?_⟩
  rw[f' u (by rw[e3];exact h1) h2,f u h1 h2]
 sh a h:=(K'.sh a (K.b a h)).trans (K.sh a h)
 bd a u h hf h1 h2:=by
  rw[K'.bd a u (K.l a h) (K.frm.2 hf) h1 (by rw[sz_congr (K.sh a (H.lb a h))];exact h2)]
  exact K.bd a u h hf h1 h2
 fwd a h h':=by
  have e:=K.fwd a h h'
  rw[K'.fwd a (K.b a h) (by rw[e];exact h'),e]
 lg hp v hv:=K'.lg (by rw[K.ph];exact hp) v (K.lg hp v hv)
 q:=by rw[K'.q,K.q]
 cl hp a j h1 h2 h3 h4 h5:=by
  obtain⟨g1,g2⟩:=K'.cl (by rw[K.ph];exact hp) a j h1 h2 h3 h4 h5
  have e:=shp_congr (K'.sh a (H'.lb a g1))
  rw[e] at h4
  rw[← g2] at h5
  obtain⟨f1,f2⟩:=K.cl hp a j g1 (λh=>h2 (K'.frm.2 h)) h3 h4 (K'.frm.1 h5)
  exact⟨f1,by rw[f2,g2]⟩
end Sm
end
