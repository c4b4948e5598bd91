/- A part. -/
import Derived.Test.YtnphfnhhpcelbaaGreatYf
namespace Go.DD
noncomputable section
open Pa
instance RJ : Coe Pa EO := ⟨EO.t⟩
instance RB : Coe Pa (Nat -> XP) := ⟨λp _ es => some (Ae es (.t p))⟩
open Go
set_option maxRecDepth 100000
def r24:CE:=(cT [(sM "!" (0:Int))] (cT [(sM ")" o),(sM "$" o.l),(Bj 75 [")","$"] "("),(sM "!" "(")] (cE .ret)))
def e24:FE:=⟨r24,[(4,none)],8⟩
def xU:CE:=(cT [(sX ":" (Av .lss "<" "0"))] (cS (cC ":" (cE .normal) (cE (.exit 0))) (cS (cB 1 (cT [(sM "5" "<"),(sX ";" (Gf 2 "8" "<")),(sX "9" (Cj (some 2) ";")),(sU ")" (Rz 39 [.v (.slice none 0 0),.v (.slice none 0 0)])),(sM "!" "5"),(sU none (Jr 2 ")" "9"))] (cS (cT [(sX "=" (Eg 0 o.l)),(sX "?"
 (Cj none "=")),(sX "@" (Eg 1 o.l)),(sX "A" (Cj none "@")),(sX "B" (Cj (some 2) ")")),(Bj 122 ["?","A","B"] "C"),(sM "$" "C")] (cT [(sM "D" "$"),(sX "F" (Av .neq "D" (0:Int)))] (cC "F" (cT [(sM "G" "$"),(sM o.r "G")] (cE .ret)) (cE .normal)))) (cS (cT [(sM
 "I" "!"),(sX "O" (Av .eql "I" (0:Int)))] (cC "O" (cE (.exit 1)) (cE .normal))) (cS (cN (Gq 10 (dL [(dX [] [o.l] 0 "P" (Eg 2 o.l)),(dY [0] ["P"] 1 "E" (Cj none "P")),(dP [] 2 "H" "!"),(dX [2] ["H"] 3 "J" (Av .sub "H" (1:Int))),(dX [1,3,0,2] ["E","J"]
 4 "L" (Gf 2 "E" "J")),(dX [4,1,3,0,2] ["L"] 5 "K" (Eg 0 "L")),(dY [5,4,1,3,0,2] ["K"] 6 "N" (Cj none "K")),(dX [] [")"] 7 "Q" (Eg 0 ")")),(dY [7] ["Q"] 8 "M" (Cj none "Q")),(By [6,8,5,4,1,3,0,2,7] ["N","M"] (Cx 9 [6,8,5,4,1,3,0,2,7] (Bj 24 ["N","M"]
 "R")))]))) (cB 2 (cT [(sX "S" (Av .eql "R" (0:Int))),(sM "T" "S")] (cC "T" (cT [(sM o.r (5:Int))] (cE .ret)) (cT [(sX "W" (Av .eql "R" (1:Int))),(sM "Y" "W")] (cC "Y" (cT [(sM o.r (2:Int))] (cE .ret)) (cE .normal))))))))))) (cN (sL [(sX "X"
 (Av .add "<" (1:Int))),(sM "<" "X")])))))
def zq:CE:=(cT [(sU o.l (Pn 26 o)),(sM o.r (0:Int))] (cS (cT [(sX "(" (Eg 0 o.l)),(sX "%" (Cj none "(")),(sX "&" (Eg 1 o.l)),(sX "*" (Cj none "&")),(Bj 121 ["%","*"] ","),(sM ">" ",")] (cT [(sM "." ">"),(sX "+" (Av .neq "." (0:Int)))] (cC "+" (cT [(sM "1" ">"),(sM o.r "1")] (cE .ret)) (cE
 .normal)))) (cS (cT [(sX "4" (Eg 2 o.l)),(sX "2" (Cj none "4")),(sX "3" (Dp "2")),(sX "6" (Av .gtr "3" (4096:Int)))] (cC "6" (cT [(sM o.r (9:Int))] (cE .ret)) (cE .normal))) (cS (cT [(sX "7" (Eg 2 o.l)),(sX "8" (Cj none "7")),(sX "0" (Dp "8")),(sM "<" (0:Int))]
 (cB 0 (cL 1000000 xU))) (cT [(sM o.r (0:Int))] (cE .ret))))))
def e57:FE:=⟨zq,[(2,none)],53⟩
def zm:CE:=(cT [(sU o.l (Pn 201 o)),(sM o.r (.c (.v .nilFunc)))] (cT [(sU ">" (Bd (.mkf (.func 138) [] [.tmp 1]))),(sM o.r ">")] (cE .ret)))
def e68:FE:=⟨zm,[(2,none)],4⟩
def xQ:CE:=(cT [(sX "1" (Av .lss "+" "."))] (cS (cC "1" (cE .normal) (cE (.exit 0))) (cS (cB 1 (cT [(sM "4" "+"),(sM ")" "4")] (cS (cN (Gq 9 (dL [(dP [] 0 "2" o),(dP [] 1 "3" ")"),(dX [0,1] ["2","3"] 2 "6" (Gf 4 "2" "3")),(dY [2,0,1] ["6"] 3 "7" (Cj (some 4) "6")),(dP [] 4 "8" o.l),(dP [] 5
 "0" ")"),(dX [4,5] ["8","0"] 6 "<" (Gf 4 "8" "0")),(dY [6,4,5] ["<"] 7 ":" (Cj (some 4) "<")),(By [3,7,2,0,1,6,4,5] ["7",":"] (Ch 8 [3,7,2,0,1,6,4,5] false false "5" (Gd (Bd (.eqs true [0,0,0,2] (.tmp 19) (.tmp 23)))) ["7",":"]))]))) (cC "5" (cT [(sM "!" false)] (cE .ret)) (cE
 .normal))))) (cN (sL [(sX ";" (Av .add "+" (1:Int))),(sM "+" ";")])))))
def zl:CE:=(cT [(sM "!" false)] (cS (cT [(sM "$" o),(sX "(" (Dp "$")),(sM "%" o.l),(sX "&" (Dp "%")),(sX "*" (Av .neq "(" "&"))] (cC "*" (cT [(sM "!" false)] (cE .ret)) (cE .normal))) (cS (cT [(sM "," o),(sX "." (Dp ",")),(sM "+" (0:Int))] (cB 0 (cL 1000000 xQ))) (cT [(sM "!" (.c
 (.v (.bool true))))] (cE .ret)))))
def e69:FE:=⟨zl,[(4,none)],26⟩
def YE:CE:=(cT [(sM o.r (.c (.v (.slice none 0 0))))] (cS (cT [(sM ">" o),(sU "!" (Bd (.nilq 0 false (.tmp 3) (.const (.slice none 0 0)))))] (cC "!" (cT [(sM o.r (.c (.v (.slice none 0 0))))] (cE .ret)) (cE .normal))) (cT [(sU ")" (Bd (.bsl 3 0 1 [.int .i64 0] []))),(sM "$" o),(sU "(" (Bd (.app 3 1 8 (.tmp 5) (.tmp 6)))),(sM o.r "(")] (cE .ret))))
def e70:FE:=⟨YE,[(2,none)],8⟩
def xP:CE:=(cT [(sX "." (Av .lss "," "*"))] (cS (cC "." (cE .normal) (cE (.exit 0))) (cS (cB 1 (cT [(sM "+" ","),(sX "1" (Gf 1 "&" ",")),(sX "4" (Cj none "1")),(sM ")" "+"),(sM "$" "4")] (cS (cT [(sM "2" ")"),(sM "3" o.l),(sX "6" (Dp "3")),(sX "7" (Av .geq "2" "6"))] (cC "7" (cT [(sM
 "!" (1:Int))] (cE .ret)) (cE .normal))) (cT [(sM "8" o.l),(sM "0" ")"),(sX "<" (Gf 1 "8" "0")),(sX ":" (Cj none "<")),(sM "(" ":")] (cT [(sM "5" "$"),(sM ";" "("),(Bj 141 ["5",";"] "9"),(sM "%" "9")] (cT [(sM "=" "%"),(sX "?" (Av .neq "=" (.c (.v (.int .i64
 0)))))] (cC "?" (cT [(sM "@" "%"),(sM "!" "@")] (cE .ret)) (cE .normal)))))))) (cN (sL [(sX "A" (Av .add "," (1:Int))),(sM "," "A")])))))
def zk:CE:=(cT [(sM "!" (0:Int))] (cS (cT [(sM "&" o),(sX "*" (Dp "&")),(sM "," (0:Int))] (cB 0 (cL 1000000 xP))) (cS (cT [(sM "B" o),(sX "C" (Dp "B")),(sM "D" o.l),(sX "F" (Dp "D")),(sX "G" (Av .lss "C" "F"))] (cC "G" (cT [(sM "!" ((-1):Int))]
 (cE .ret)) (cE .normal))) (cT [(sM "!" (0:Int))] (cE .ret)))))
def e75:FE:=⟨zk,[(4,none)],36⟩
def xO:CE:=(cT [(sX "1" (Av .lss "+" "."))] (cS (cC "1" (cE .normal) (cE (.exit 0))) (cS (cB 1 (cT [(sM "4" "+"),(sM ")" "4")] (cS (cN (Gq 9 (dL [(dP [] 0 "2" o),(dP [] 1 "3" ")"),(dX [0,1] ["2","3"] 2 "6" (Gf 3 "2" "3")),(dY [2,0,1] ["6"] 3 "7" (Cj (some 3) "6")),(dP [] 4 "8" o.l),(dP [] 5
 "0" ")"),(dX [4,5] ["8","0"] 6 "<" (Gf 3 "8" "0")),(dY [6,4,5] ["<"] 7 ":" (Cj (some 3) "<")),(By [3,7,2,0,1,6,4,5] ["7",":"] (Ch 8 [3,7,2,0,1,6,4,5] false false "5" (Gd (Bd (.eqs true [2,0,0] (.tmp 19) (.tmp 23)))) ["7",":"]))]))) (cC "5" (cT [(sM "!" false)] (cE .ret)) (cE .normal)))))
 (cN (sL [(sX ";" (Av .add "+" (1:Int))),(sM "+" ";")])))))
def zj:CE:=(cT [(sM "!" false)] (cS (cT [(sM "$" o),(sX "(" (Dp "$")),(sM "%" o.l),(sX "&" (Dp "%")),(sX "*" (Av .neq "(" "&"))] (cC "*" (cT [(sM "!" false)] (cE .ret)) (cE .normal))) (cS (cT [(sM "," o),(sX "." (Dp ",")),(sM "+" (0:Int))] (cB 0 (cL 1000000 xO))) (cT [(sM "!" (.c
 (.v (.bool true))))] (cE .ret)))))
def e76:FE:=⟨zj,[(4,none)],26⟩
def xN:CE:=(cT [(sX "1" (Av .lss "+" "."))] (cS (cC "1" (cE .normal) (cE (.exit 0))) (cS (cB 1 (cT [(sM "4" "+"),(sM ")" "4")] (cS (cN (Gq 9 (dL [(dP [] 0 "2" o),(dP [] 1 "3" ")"),(dX [0,1] ["2","3"] 2 "6" (Gf 2 "2" "3")),(dY [2,0,1] ["6"] 3 "7" (Cj (some 2) "6")),(dP [] 4 "8" o.l),(dP [] 5
 "0" ")"),(dX [4,5] ["8","0"] 6 "<" (Gf 2 "8" "0")),(dY [6,4,5] ["<"] 7 ":" (Cj (some 2) "<")),(By [3,7,2,0,1,6,4,5] ["7",":"] (Ch 8 [3,7,2,0,1,6,4,5] false false "5" (Gd (Bd (.eqs true [2,0] (.tmp 19) (.tmp 23)))) ["7",":"]))]))) (cC "5" (cT [(sM "!" false)] (cE .ret)) (cE .normal)))))
 (cN (sL [(sX ";" (Av .add "+" (1:Int))),(sM "+" ";")])))))
def zi:CE:=(cT [(sM "!" false)] (cS (cT [(sM "$" o),(sX "(" (Dp "$")),(sM "%" o.l),(sX "&" (Dp "%")),(sX "*" (Av .neq "(" "&"))] (cC "*" (cT [(sM "!" false)] (cE .ret)) (cE .normal))) (cS (cT [(sM "," o),(sX "." (Dp ",")),(sM "+" (0:Int))] (cB 0 (cL 1000000 xN))) (cT [(sM "!" (.c
 (.v (.bool true))))] (cE .ret)))))
def e77:FE:=⟨zi,[(4,none)],26⟩
def xL:CE:=(cT [(sX "1" (Av .lss "+" "."))] (cS (cC "1" (cE .normal) (cE (.exit 0))) (cS (cB 1 (cT [(sM "4" "+"),(sM ")" "4")] (cS (cN (Gq 9 (dL [(dP [] 0 "2" o),(dP [] 1 "3" ")"),(dX [0,1] ["2","3"] 2 "6" (Gf 1 "2" "3")),(dY [2,0,1] ["6"] 3 "7" (Cj none "6")),(dP [] 4 "8" o.l),(dP [] 5 "0"
 ")"),(dX [4,5] ["8","0"] 6 "<" (Gf 1 "8" "0")),(dY [6,4,5] ["<"] 7 ":" (Cj none "<")),(dX [3,7,2,0,1,6,4,5] ["7",":"] 8 "5" (Av .neq "7" ":"))]))) (cC "5" (cT [(sM "!" false)] (cE .ret)) (cE .normal))))) (cN (sL [(sX ";" (Av .add "+" (1:Int))),(sM "+" ";")])))))
def zf:CE:=(cT [(sM "!" false)] (cS (cT [(sM "$" o),(sX "(" (Dp "$")),(sM "%" o.l),(sX "&" (Dp "%")),(sX "*" (Av .neq "(" "&"))] (cC "*" (cT [(sM "!" false)] (cE .ret)) (cE .normal))) (cS (cT [(sM "," o),(sX "." (Dp ",")),(sM "+" (0:Int))] (cB 0 (cL 1000000 xL))) (cT [(sM "!" (.c
 (.v (.bool true))))] (cE .ret)))))
def e80:FE:=⟨zf,[(4,none)],26⟩
def Z1:DC:=.seq (.reg false [⟨some 6,none,.mv (.tmp 12),[]⟩] ⟨[],true⟩) (.reg false [⟨some 7,none,.mv (.tmp 13),[]⟩] ⟨[],true⟩)
def Z0:DC:=.blk 1 (.seq (.reg true [⟨some 14,none,.mv (.tmp 7),[]⟩,⟨some 15,none,.ia 1 (.tmp 14) (.const (.int .i64 0)),[0]⟩,⟨some 16,none,.ld none (.tmp 15),[1]⟩,⟨some 17,none,.mv (.tmp 7),[]⟩,⟨some 18,none,.ia 1 (.tmp 17) (.const (.int .i64 1)),[3]⟩,⟨some 19,none,.ld none (.tmp 18),[4]⟩,⟨some 20,none,.call 69 [.tmp 16,.tmp 19],[2,5]⟩,⟨some 21,none,.un .not (.tmp 20),[6]⟩] ⟨[⟨[],0,0,false⟩,⟨[0],0,0,false⟩,⟨[1,0],0,0,false⟩,⟨[],0,0,false⟩,⟨[3],0,0,false⟩,⟨[4,3],0,0,false⟩,⟨[2,5,1,0,4,3],2,0,true⟩,⟨[6,2,5,1,0,4,3],0,0,false⟩],true⟩)
 (.cond (.tmp 21) (.reg true [⟨some 22,none,.ld none (.tmp 5),[]⟩,⟨some 23,none,.mv (.tmp 6),[]⟩,⟨some 24,none,.call 70 [.tmp 23],[1]⟩,⟨some 25,none,.mv (.tmp 7),[]⟩,⟨some 26,none,.ia 1 (.tmp 25) (.const (.int .i64 1)),[3]⟩,⟨some 27,none,.ld none (.tmp 26),[4]⟩,⟨some 28,none,.call 142 [.tmp 27],[5,2]⟩,⟨some 29,none,.bld [.slice none 0 0,.slice none 0 0] [(0,1,.tmp 24),(1,1,.tmp 28)],[2,6]⟩,⟨some 30,none,.bsl
 62 1 2 [.slice none 0 0,.slice none 0 0] [(0,2,.tmp 29)],[7]⟩,⟨some 31,none,.app 62 2 48 (.tmp 22) (.tmp 30),[0,8,6]⟩,⟨none,none,.st 1 (.tmp 5) (.tmp 31),[9,0,1,2,3,4,5,6,7,8]⟩] ⟨[⟨[],0,0,true⟩,⟨[],0,0,false⟩,⟨[1],2,0,true⟩,⟨[],0,0,true⟩,⟨[3],0,0,true⟩,⟨[4,3],0,0,true⟩,⟨[5,2,4,3,1],2,0,true⟩,⟨[2,6,1,5,4,3],0,0,false⟩,⟨[7,2,6,1,5,4,3],1,0,false⟩,⟨[0,8,6,7,2,1,5,4,3],2,0,true⟩,⟨[9,0,1,2,3,4,5,6,7,8],2,0,true⟩],true⟩)
 .skip))
def sa:CE:=(cT [(sM "$" ".")] (cN (sL [(sM "(" "+")])))
def ru:CE:=(cB 1 (cS (cN (Gq 8 (dL [(dP [] 0 "1" "("),(dX [0] ["1"] 1 "4" (Gf 1 "1" (0:Int))),(dY [1,0] ["4"] 2 "2" (Cj none "4")),(dP [] 3 "3" "("),(dX [3] ["3"] 4 "6" (Gf 1 "3" (1:Int))),(dY [4,3] ["6"] 5 "7" (Cj none "6")),(By [2,5,1,0,4,3] ["2","7"] (Cx
 6 [2,5,1,0,4,3] (Bj 69 ["2","7"] "8"))),(dX [6,2,5,1,0,4,3] ["8"] 7 "0" (Qs .not "8"))]))) (cC "0" (cN (Gq 11 (dL [(By [] [")"] (Ch 0 [] true true "<" (λ_ => (Cj none ")")) [")"])),(dP [] 1 ":" "$"),(By [1] [":"] (Cx 2 [1] (Bj 70 [":"] "5"))),(By [] ["("] (Ch 3 [] true false ";" ("(":Pa)
 ["("])),(By [3] [";"] (Ch 4 [3] true false "9" (λ_ => (Gf 1 ";" (1:Int))) [";"])),(By [4,3] ["9"] (Ch 5 [4,3] true true "=" (λ_ => (Cj none "9")) ["9"])),(By [5,2,4,3,1] ["="] (Cx 6 [5,2,4,3,1] (Bj 142 ["="] "?"))),(By [2,6,1,5,4,3] ["5","?"] (Ch 7 [2,6,1,5,4,3] false false
 "@" (Gd (Bd (.bld [.slice none 0 0,.slice none 0 0] [(0,1,.tmp 24),(1,1,.tmp 28)]))) ["5","?"])),(By [7,2,6,1,5,4,3] ["@"] (Rx 8 [7,2,6,1,5,4,3] false false "A" (Bd (.bsl 62 1 2 [.slice none 0 0,.slice none 0 0] [(0,2,.tmp 29)])) ["@"])),(By [0,8,6,7,2,1,5,4,3] ["<","A"] (Cx 9 [0,8,6,7,2,1,5,4,3] (sU "B" (Bd (.app 62 2 48 (.tmp
 22) (.tmp 30)))))),(By [9,0,1,2,3,4,5,6,7,8] [")","B"] (Cx 10 [9,0,1,2,3,4,5,6,7,8] (sU none (Jr 1 ")" "B"))))]))) (cE .normal))))
def ze:CE:=(cT [(sM "!" (.c (.v (.slice none 0 0))))] (cT [(sU ")" (Rz 109 [.v (.slice none 0 0)]))] (cS (cT [(sM "%" o),(sM "&" o.l),(sU "*" (Bd (.bsl 24 2 1 [.slice none 0 0] [(0,1,.tmp 8),(1,1,.tmp 9)]))),(Bj 68 ["*"] ",")] (cB 0 (cR 33 false "," [12,13] Z1 Z0))) (cT [(sX "C" (Cj none ")")),(sM "!" "C")] (cE .ret)))))
def e81:FE:=⟨ze,[(4,none)],33⟩
def xK:CE:=(cT [(sX "6" (Av .lss "3" "2"))] (cS (cC "6" (cE .normal) (cE (.exit 0))) (cS (cB 1 (cT [(sM "7" "3"),(sX "8" (Gf 1 "4" "3")),(sX "0" (Cj none "8")),(sM ">" "7"),(sM "!" "0")] (cT [(sM "<" "!"),(sX ":" (Av .geq "<" (.c (.v (.int .u8 97))))),(sM "5" ":"),(sG "5"
 true ";" (sM ";" "!")),(sG "5" true "9" (sX "9" (Av .leq ";" (.c (.v (.int .u8 122)))))),(sX "=" (Co "5" "9" false)),(sM ")" "=")] (cT [(sM "?" ")"),(sX "@" (Qs .not "?")),(sM "A" "@"),(sG "A" true "B" (sM "B" ">")),(sG "A" true "C" (sX "C"
 (Av .eql "B" (0:Int)))),(sG "A" true "D" (sM "D" "C")),(sG "D" false "F" (sM "F" "!")),(sG "D" false "G" (sX "G" (Av .neq "F" (.c (.v (.int .u8 95)))))),(sG "D" false "I" (sM "I" "G")),(sG "I" true "O" (sM "O" "!")),(sG "I"
 true "P" (sX "P" (Av .lss "O" (.c (.v (.int .u8 48)))))),(sG "I" true "E" (sM "E" "P")),(sG "E" false "H" (sM "H" "!")),(sG "E" false "J" (sX "J" (Av .gtr "H" (.c (.v (.int .u8 57)))))),(sG "I" true "L" (sX "L" (Co "E" true "J"))),(sG
 "D" false "K" (sX "K" (Co "I" "L" false))),(sG "A" true "N" (sX "N" (Co "D" true "K"))),(sX "Q" (Co "A" "N" false))] (cC "Q" (cT [(sM o.r false)] (cE .ret)) (cE .normal)))))) (cN (sL [(sX "M" (Av .add "3"
 (1:Int))),(sM "3" "M")])))))
def zb:CE:=(cT [(sM o.r false)] (cS (cT [(sM "$" o),(sU "(" (Bd (.lns (.tmp 6)))),(sX "%" (Av .lss "(" (1:Int))),(sM "&" "%"),(sG "&" false "*" (sM "*" o)),(sG "&" false "," (sU "," (Bd (.lns (.tmp 10))))),(sG "&" false "." (sX "." (Av .gtr "," (12:Int)))),(sX "+" (Co "&"
 true "."))] (cC "+" (cT [(sM o.r false)] (cE .ret)) (cE .normal))) (cS (cT [(sM "1" o),(sU "4" (Bd (.s2b (.tmp 14)))),(sX "2" (Dp "4")),(sM "3" (0:Int))] (cB 0 (cL 1000000 xK))) (cT [(sM o.r true)] (cE .ret)))))
def e83:FE:=⟨zb,[(2,none)],47⟩
def Cf7:CE:=(cT [(sX "=" (Av .lss "9" ";"))] (cS (cC "=" (cE .normal) (cE (.exit 0))) (cS (cB 1 (cT [(sX "?" (Gf 2 "5" "9")),(sX "@" (Cj (some 2) "?")),(sU "%" (Rz 131 [.v (.string (bs [])),.v (.int .i64 0)])),(sU none (Jr 2 "%" "@"))] (cS (cT [(sX "A" (Eg 0 "%")),(sX "B" (Cj none "A")),(Bj 83 ["B"]
 "C"),(sX "D" (Qs .not "C")),(sM "F" "D"),(sG "F" false "G" (sM "G" ")")),(sG "F" false "I" (sX "I" (Eg 0 "%"))),(sG "F" false "O" (sX "O" (Cj none "I"))),(sG "F" false "P" (sU "P" (Bd (.lkp (.p .string) (.bool false) (.tmp 35) (.tmp 37) false)))),(sX
 "E" (Co "F" true "P"))] (cC "E" (cT [(sM "!" (11:Int))] (cE .ret)) (cE .normal))) (cS (cT [(sX "H" (Eg 1 "%")),(sX "J" (Cj none "H")),(sX "L" (Av .lss "J" (1:Int))),(sM "K" "L"),(sG "K" false "N" (sX "N" (Eg 1 "%"))),(sG "K"
 false "Q" (sX "Q" (Cj none "N"))),(sG "K" false "M" (sX "M" (Av .gtr "Q" (4:Int)))),(sX "R" (Co "K" true "M"))] (cC "R" (cT [(sM "!" (12:Int))] (cE .ret)) (cE .normal))) (cN (sL [(sM "T" ")"),(sX "S" (Eg 0 "%")),(sX "Y" (Cj
 none "S")),(sU none (Bd (.mup (.p .string) (.tmp 48) (.tmp 50) (.const (.bool true)))))])))))) (cN (sL [(sX "W" (Av .add "9" (1:Int))),(sM "9" "W")])))))
def EF:CE:=(cT [(sM "!" (0:Int))] (cT [(sU "&" (Bd (.mkm))),(sM ")" "&")] (cS (cT [(sM "*" o),(sM "," ")"),(Bj 156 ["*",","] "."),(sM "$" ".")] (cT [(sM "+" "$"),(sX "1" (Av .neq "+" (0:Int)))] (cC "1" (cT [(sM "4" "$"),(sM "!" "4")] (cE .ret)) (cE .normal)))) (cS (cT [(sM "2" o.l),(sX
 "3" (Dp "2")),(sX "6" (Av .lss "3" (1:Int))),(sM "7" "6"),(sG "7" false "8" (sM "8" o.l)),(sG "7" false "0" (sX "0" (Dp "8"))),(sG "7" false "<" (sX "<" (Av .gtr "0" (6:Int)))),(sX ":" (Co "7" true "<"))] (cC ":" (cT
 [(sM "!" (9:Int))] (cE .ret)) (cE .normal))) (cS (cT [(sM "5" o.l),(sX ";" (Dp "5")),(sM "9" (0:Int))] (cB 0 (cL 1000000 Cf7))) (cT [(sM "!" (0:Int))] (cE .ret)))))))
def pq:FE:=⟨EF,[(4,none)],52⟩
def Cf8:CE:=(cT [(sX "C" (Av .lss "B" "A"))] (cS (cC "C" (cE .normal) (cE (.exit 0))) (cS (cB 1 (cT [(sM "D" "B"),(sX "F" (Gf 4 "@" "B")),(sX "G" (Cj (some 4) "F")),(sU "%" (Rz 41 [.v (.int .i64 0),.v (.int .i64 0),.v (.int .i64 0),.v (.string (bs []))])),(sM "(" "D"),(sU none (Jr 4 "%" "G"))]
 (cS (cN (Gq 8 (dL [(dY [] ["%"] 0 "I" (Cj (some 4) "%")),(dP [] 1 "O" o.l),(dP [] 2 "P" "("),(dX [1,2] ["O","P"] 3 "E" (Gf 2 "O" "P")),(dX [3,1,2] ["E"] 4 "H" (Eg 1 "E")),(dY [4,3,1,2] ["H"] 5 "J" (Cj none "H")),(By [0,5,4,3,1,2] ["I","J"] (Cx 6 [0,5,4,3,1,2]
 (Bj 123 ["I","J"] "L"))),(dX [6,0,5,4,3,1,2] ["L"] 7 "K" (Qs .not "L"))]))) (cC "K" (cT [(sM "$" (12:Int))] (cE .ret)) (cE .normal))))) (cN (sL [(sX "N" (Av .add "B" (1:Int))),(sM "B" "N")])))))
def EE:CE:=(cT [(sU ")" (Pn 39 o.r)),(sM "$" (0:Int))] (cS (cT [(sX "&" (Eg 0 ")")),(sX "*" (Cj none "&")),(sX "," (Dp "*")),(sM "." o),(sX "+" (Dp ".")),(sX "1" (Av .neq "," "+")),(sM "4" "1"),(sG "4" false "2" (sX "2" (Eg 1 ")"))),(sG "4" false "3" (sX "3" (Cj none "2"))),(sG
 "4" false "6" (sX "6" (Dp "3"))),(sG "4" false "7" (sM "7" o.l)),(sG "4" false "8" (sX "8" (Dp "7"))),(sG "4" false "0" (sX "0" (Av .neq "6" "8"))),(sX "<" (Co "4" true "0"))] (cC "<" (cT [(sM "$" (13:Int))] (cE .ret)) (cE .normal))) (cS
 (cT [(sM ":" o),(sX "5" (Eg 0 ")")),(sX ";" (Cj none "5")),(Bj 157 [":",";"] "9"),(sX "=" (Qs .not "9"))] (cC "=" (cT [(sM "$" (3:Int))] (cE .ret)) (cE .normal))) (cS (cT [(sX "?" (Eg 1 ")")),(sX "@" (Cj none "?")),(sX "A" (Dp "@")),(sM "B" (0:Int))] (cB 0
 (cL 1000000 Cf8))) (cT [(sM "$" (0:Int))] (cE .ret))))))
def po:FE:=⟨EE,[(6,none)],45⟩
def ED:CE:=(cT [(sU o.r (Pn 41 o)),(sM "!" false)] (cS (cT [(sX ")" (Cj (some 4) o.r)),(Bj 158 [")"] "$"),(sX "(" (Qs .not "$")),(sM "%" "("),(sG "%" false "&" (sM "&" o.l)),(sG "%" false "*" (sX "*" (Av .lss "&" (1:Int)))),(sX "," (Co "%" true "*")),(sM "." ","),(sG
 "." false "+" (sM "+" o.l)),(sG "." false "1" (sX "1" (Av .gtr "+" (4:Int)))),(sX "4" (Co "." true "1"))] (cC "4" (cT [(sM "!" false)] (cE .ret)) (cE .normal))) (cS (cT [(sX "2" (Eg 0 o.r)),(sX "3" (Cj none "2"))] (cB 0 (cT [(sX "7" (Av .eql "3" (.c (.v (.int .i64
 1))))),(sM "6" "7")] (cC "6" (cT [(sM "8" o.l),(sX "0" (Av .eql "8" (1:Int))),(sM "!" "0")] (cE .ret)) (cT [(sX ":" (Av .eql "3" (2:Int))),(sM "<" ":")] (cC "<" (cT [(sM "5" o.l),(sX ";" (Av .eql "5" (3:Int))),(sM "9" ";"),(sG "9" false "="
 (sM "=" o.l)),(sG "9" false "?" (sX "?" (Av .eql "=" (2:Int)))),(sG "9" false "@" (sM "@" "?")),(sG "@" true "A" (sX "A" (Eg 2 o.r))),(sG "@" true "B" (sX "B" (Cj none "A"))),(sG "@" true "C" (sX "C" (Av .eql "B" (1:Int)))),(sG "9"
 false "D" (sX "D" (Co "@" "C" false))),(sX "F" (Co "9" true "D")),(sM "!" "F")] (cE .ret)) (cT [(sX "I" (Av .eql "3" (3:Int))),(sM "G" "I")] (cC "G" (cT [(sM "O" o.l),(sX "P" (Av .eql "O" (4:Int))),(sM
 "!" "P")] (cE .ret)) (cE .normal))))))))) (cT [(sM "!" true)] (cE .ret)))))
def pn:FE:=⟨ED,[(4,none)],39⟩
def Cf9:CE:=(cT [(sX "4" (Av .lss "1" "+"))] (cS (cC "4" (cE .normal) (cE (.exit 2))) (cS (cB 3 (cT [(sX "2" (Gf 1 "." "1")),(sX "3" (Cj none "2")),(sM "$" "3")] (cT [(sM "6" "$"),(sX "7" (Dp "6")),(sX "8" (Av .gtr "7" (0:Int))),(sM "0" "8"),(sG "0" true "<" (sM "<"
 "!")),(sG "0" true ":" (sU ":" (Bd (.nilq 0 false (.tmp 22) (.const (.slice none 0 0)))))),(sG "0" true "5" (sM "5" ":")),(sG "5" false ";" (sM ";" "$")),(sG "5" false "9" (sX "9" (Gf 2 ";" (0:Int)))),(sG "5" false "=" (sX "=" (Eg 0 "9"))),(sG "5" false "?"
 (sX "?" (Cj none "="))),(sG "5" false "@" (sM "@" "!")),(sG "5" false "A" (Bj 24 ["?","@"] "A")),(sG "5" false "B" (sX "B" (Av .lss "A" (0:Int)))),(sG "0" true "C" (sX "C" (Co "5" true "B"))),(sX "D" (Co "0" "C"
 false))] (cC "D" (cN (sL [(sM "F" "$"),(sX "G" (Gf 2 "F" (0:Int))),(sX "I" (Eg 0 "G")),(sX "O" (Cj none "I")),(sM "!" "O")])) (cE .normal))))) (cN (sL [(sX "P" (Av .add "1" (1:Int))),(sM "1" "P")])))))
def Cg0:CE:=(cT [(sX "R" (Av .lss "M" "Q"))] (cS (cC "R" (cE .normal) (cE (.exit 4))) (cS (cB 5 (cT [(sM "T" "M"),(sX "S" (Gf 1 "N" "M")),(sX "Y" (Cj none "S")),(sM "%" "T"),(sM "&" "Y")] (cT [(sM "W" "&"),(sX "X" (Dp "W")),(sX "_" (Av .gtr "X"
 (0:Int))),(sM "U" "_"),(sG "U" true "^" (sM "^" "&")),(sG "U" true "b" (sX "b" (Gf 2 "^" (0:Int)))),(sG "U" true "e" (sX "e" (Eg 0 "b"))),(sG "U" true "Z" (sX "Z" (Cj none "e"))),(sG "U" true "V" (sM "V"
 "!")),(sG "U" true "f" (Bj 24 ["Z","V"] "f")),(sG "U" true "c" (sX "c" (Av .eql "f" (0:Int)))),(sX "[" (Co "U" "c" false))] (cC "[" (cN (Gq 14 (dL [(dP [] 0 "d" "("),(dP [] 1 "a" "%"),(By [] [">"] (Ch 2 [] true false
 "g" (">":Pa) [">"])),(By [] ["%"] (Ch 3 [] true false "]" ("%":Pa) ["%"])),(dP [] 4 "h" "&"),(dX [4] ["h"] 5 "n" (Gf 2 "h" (0:Int))),(dX [5,4] ["n"] 6 "j" (Eg 1 "n")),(dY [6,5,4] ["j"] 7 "m" (Cj none "j")),(By [] ["&"] (Ch 8 [] true false
 "s" ("&":Pa) ["&"])),(By [8] ["s"] (Ch 9 [8] true false "o" (Gd (Bd (.sli 2 (.tmp 71) (some (.const (.int .i64 1))) none))) ["s"])),(dX [0,1,4,5,6,7] ["d","a"] 10 "k" (Gf 1 "d" "a")),(By [10,7,0,1,4,5,6] ["k","m"] (Cx 11 [10,7,0,1,4,5,6] (sU none (Jr 1 "k" "m")))),(dX
 [2,3,0,1,4,5,6,7,8,9,10,11] ["g","]"] 12 "p" (Gf 1 "g" "]")),(By [12,9,11,0,1,2,3,4,5,6,7,8,10] ["p","o"] (Cx 13 [12,9,11,0,1,2,3,4,5,6,7,8,10] (sU none (Jr 1 "p" "o"))))]))) (cE .normal))))) (cN (sL [(sX "z" (Av .add "M" (1:Int))),(sM "M" "z")])))))
def Cg1:CE:=(cB 1 (cT [(sM "!" (.c (.v (.slice none 0 0))))] (cS (cT [(sM "." ">"),(sX "+" (Dp ".")),(sM "1" (0:Int))] (cB 2 (cL 1000000 Cf9))) (cS (cT [(sM "E" "!"),(sU "H" (Bd (.nilq 0 false (.tmp 39) (.const (.slice none 0 0)))))] (cC "H" (cE .ret) (cE .normal))) (cT [(sM "J" ">"),(sX "L" (Dp "J")),(sU
 "K" (Bd (.mks 37 1 24 [.slice none 0 0] (.tmp 42) (.tmp 42)))),(sM "(" "K")] (cS (cT [(sM "N" ">"),(sX "Q" (Dp "N")),(sM "M" (0:Int))] (cB 4 (cL 1000000 Cg0))) (cT [(sM "l" o),(sM "w" "!"),(sM "v" "("),(aZ none "l" ["w","v"] "x"),(sX "y"
 (Qs .not "x"))] (cC "y" (cE .ret) (cE .normal)))))))))
def DQ:CE:=(cT [(sX "*" (Cj none o.l)),(Bj 139 ["*"] ","),(sM ">" ",")] (cB 0 (cL 1000000 Cg1)))
def ow:FE:=⟨DQ,[],81⟩
def DP:CE:=(cT [(sM o.r (.c (.v (.slice none 0 0))))] (cS (cT [(sM ">" o),(sU "!" (Bd (.nilq 0 false (.tmp 3) (.const (.slice none 0 0)))))] (cC "!" (cT [(sM o.r (.c (.v (.slice none 0 0))))] (cE .ret)) (cE .normal))) (cT [(sU ")" (Bd (.bsl 24 0 1 [.slice none 0 0] []))),(sM "$" o),(sU "(" (Bd (.app 24 1 24 (.tmp 5) (.tmp 6)))),(sM o.r "(")] (cE .ret))))
def ov:FE:=⟨DP,[(2,none)],8⟩
def DO:CE:=(cT [(sM "!" (0:Int))] (cT [(sM "(" o),(Bj 173 ["("] "%"),(sM ")" "%")] (cT [(sM "&" o.l),(Bj 173 ["&"] "*"),(sM "$" "*")] (cS (cT [(sM "," ")")] (cC "," (cS (cT [(sM "." "$")] (cC "." (cT [(sM "!" (0:Int))] (cE .ret)) (cE .normal))) (cT [(sM "!" ((-1):Int))] (cE .ret))) (cE
 .normal))) (cS (cT [(sM "+" "$")] (cC "+" (cT [(sM "!" (1:Int))] (cE .ret)) (cE .normal))) (cS (cT [(sM "1" o),(sM "4" o.l),(sX "2" (Av .lss "1" "4"))] (cC "2" (cT [(sM "!" ((-1):Int))] (cE .ret)) (cE .normal))) (cS (cT [(sM "3" o),(sM "6" o.l),(sX "7" (Av .gtr "3" "6"))] (cC "7" (cT
 [(sM "!" (1:Int))] (cE .ret)) (cE .normal))) (cT [(sM "!" (0:Int))] (cE .ret)))))))))
def ou:FE:=⟨DO,[(4,none)],20⟩
def G4:CE:=(cT [(sM o.r (.c (.v (.slice none 0 0))))] (cS (cT [(sM ">" o),(sU "!" (Bd (.nilq 0 false (.tmp 3) (.const (.slice none 0 0)))))] (cC "!" (cT [(sM o.r (.c (.v (.slice none 0 0))))] (cE .ret)) (cE .normal))) (cT [(sU ")" (Bd (.bsl 41 0 4 [.int .i64 0,.int .i64 0,.int .i64 0,.string (bs [])] []))),(sM "$" o),(sU "(" (Bd (.app 41 4 40 (.tmp 5) (.tmp 6)))),(sM o.r "(")]
 (cE .ret))))
def ot:FE:=⟨G4,[(2,none)],8⟩
def Cg2:CE:=(cT [(sX "6" (Av .lss "3" "2"))] (cS (cC "6" (cE .normal) (cE (.exit 0))) (cS (cB 1 (cT [(sX "7" (Gf 3 "4" "3")),(sX "8" (Cj (some 3) "7")),(sU "$" (Rz 129 [.v (.string (bs [])),.v (.int .i64 0),.v (.int .i64 0)])),(sU none (Jr 3 "$" "8"))] (cS (cT [(sX "0" (Eg 0 "$")),(sX "<" (Cj none "0")),(Bj
 83 ["<"] ":"),(sX "5" (Qs .not ":")),(sM ";" "5"),(sG ";" false "9" (sM "9" o.l)),(sG ";" false "=" (sX "=" (Eg 0 "$"))),(sG ";" false "?" (sX "?" (Cj none "="))),(sG ";" false "@" (sU "@" (Bd (.lkp (.p .string) (.bool false) (.tmp 26) (.tmp 28) false)))),(sX "A" (Co ";"
 true "@"))] (cC "A" (cT [(sM "!" (11:Int))] (cE .ret)) (cE .normal))) (cS (cT [(sX "B" (Eg 1 "$")),(sX "C" (Cj none "B")),(sX "D" (Av .lss "C" ((-1073741824):Int))),(sM "F" "D"),(sG "F" false "G" (sX "G" (Eg 1 "$"))),(sG "F" false "I"
 (sX "I" (Cj none "G"))),(sG "F" false "O" (sX "O" (Av .gtr "I" (1073741824:Int)))),(sX "P" (Co "F" true "O")),(sM "E" "P"),(sG "E" false "H" (sX "H" (Eg 2 "$"))),(sG "E" false "J" (sX "J" (Cj none "H"))),(sG "E"
 false "L" (sX "L" (Eg 1 "$"))),(sG "E" false "K" (sX "K" (Cj none "L"))),(sG "E" false "N" (sX "N" (Av .lss "J" "K"))),(sX "Q" (Co "E" true "N")),(sM "M" "Q"),(sG "M" false "R" (sX "R" (Eg 2 "$"))),(sG "M" false
 "T" (sX "T" (Cj none "R"))),(sG "M" false "S" (sX "S" (Av .gtr "T" (1073741825:Int)))),(sX "Y" (Co "M" true "S"))] (cC "Y" (cT [(sM "!" (3:Int))] (cE .ret)) (cE .normal))) (cN (sL [(sM "W" o.l),(sX "X" (Eg 0 "$")),(sX "_" (Cj none
 "X")),(sU none (Bd (.mup (.p .string) (.tmp 51) (.tmp 53) (.const (.bool true)))))])))))) (cN (sL [(sX "U" (Av .add "3" (1:Int))),(sM "3" "U")])))))
def DL:CE:=(cT [(sM "!" (0:Int))] (cS (cT [(sM "(" o),(sX "%" (Dp "(")),(sX "&" (Av .lss "%" (1:Int))),(sM "*" "&"),(sG "*" false "," (sM "," o)),(sG "*" false "." (sX "." (Dp ","))),(sG "*" false "+" (sX "+" (Av .gtr "." (4:Int)))),(sX "1" (Co "*" (.c (.v (.bool
 true))) "+"))] (cC "1" (cT [(sM "!" (13:Int))] (cE .ret)) (cE .normal))) (cS (cT [(sM "4" o),(sX "2" (Dp "4")),(sM "3" (0:Int))] (cB 0 (cL 1000000 Cg2))) (cT [(sM "!" (0:Int))] (cE .ret)))))
def oj:FE:=⟨DL,[(4,none)],55⟩
def Cg3:CE:=(cT [(sX "4" (Av .lss "1" "+"))] (cS (cC "4" (cE .normal) (cE (.exit 0))) (cS (cB 1 (cT [(sM "2" "1"),(sX "3" (Gf 1 "." "1")),(sX "6" (Cj none "3")),(sM ")" "2"),(sM "$" "6")] (cT [(sM "7" "$"),(sM "8" o),(sM "0" ")"),(sX "<" (Gf 3 "8" "0")),(sX ":" (Eg 1 "<")),(sX
 "5" (Cj none ":")),(sX ";" (Av .lss "7" "5")),(sM "9" ";"),(sG "9" false "=" (sM "=" "$")),(sG "9" false "?" (sM "?" o)),(sG "9" false "@" (sM "@" ")")),(sG "9" false "A" (sX "A" (Gf 3 "?" "@"))),(sG "9" false "B" (sX "B" (Cj (some 3) "A"))),(sG
 "9" false "C" (Bj 180 ["B"] "C")),(sG "9" false "D" (sX "D" (Av .gtr "=" "C"))),(sX "F" (Co "9" true "D"))] (cC "F" (cT [(sM "!" false)] (cE .ret)) (cE .normal))))) (cN (sL [(sX "G" (Av .add "1" (1:Int))),(sM "1" "G")])))))
def DK:CE:=(cT [(sM "!" false)] (cS (cT [(sM "(" o.l),(sX "%" (Dp "(")),(sM "&" o),(sX "*" (Dp "&")),(sX "," (Av .neq "%" "*"))] (cC "," (cT [(sM "!" false)] (cE .ret)) (cE .normal))) (cS (cT [(sM "." o.l),(sX "+" (Dp ".")),(sM "1" (0:Int))] (cB 0 (cL 1000000 Cg3))) (cT [(sM "!"
 true)] (cE .ret)))))
def oi:FE:=⟨DK,[(4,none)],36⟩
def DJ:CE:=(cT [(sU o.l (Pn 41 o)),(sM o.r false)] (cS (cT [(sX "!" (Eg 0 o.l)),(sX ")" (Cj none "!"))] (cB 0 (cT [(sX "(" (Av .eql ")" (0:Int))),(sM "$" "(")] (cC "$" (cT [(sX "%" (Cj (some 4) o.l)),(Bj 181 ["%"] "&"),(sM "*" "&"),(sG "*" true "," (sX "," (Eg 1 o.l))),(sG "*" true "." (sX "."
 (Cj none ","))),(sG "*" true "+" (sX "+" (Av .geq "." (1:Int)))),(sX "1" (Co "*" "+" false)),(sM "4" "1"),(sG "4" true "2" (sX "2" (Eg 1 o.l))),(sG "4" true "3" (sX "3" (Cj none "2"))),(sG "4" true "6" (sX "6" (Av .leq "3" (255:Int)))),(sX
 "7" (Co "4" "6" false)),(sM o.r "7")] (cE .ret)) (cT [(sX "0" (Av .eql ")" (1:Int))),(sM "8" "0")] (cC "8" (cT [(sX "<" (Cj (some 4) o.l)),(Bj 181 ["<"] ":"),(sM "5" ":"),(sG "5" true ";" (sX ";" (Eg 1 o.l))),(sG "5" true "9" (sX "9" (Cj none
 ";"))),(sG "5" true "=" (sX "=" (Av .eql "9" (0:Int)))),(sG "5" true "?" (sM "?" "=")),(sG "?" false "@" (sX "@" (Eg 1 o.l))),(sG "?" false "A" (sX "A" (Cj none "@"))),(sG "?" false "B" (sX "B" (Av .eql "A" (1:Int)))),(sG "5" true "C"
 (sX "C" (Co "?" true "B"))),(sX "D" (Co "5" "C" false)),(sM o.r "D")] (cE .ret)) (cT [(sX "G" (Av .eql ")" (2:Int))),(sM "F" "G")] (cC "F" (cT [(sX "I" (Eg 3 o.l)),(sX "O" (Cj none "I")),(sX "P" (Av .eql "O" (.c
 (.v (.string (bs [])))))),(sM "E" "P"),(sG "E" true "H" (sX "H" (Eg 2 o.l))),(sG "E" true "J" (sX "J" (Cj none "H"))),(sG "E" true "L" (sX "L" (Av .geq "J" (1:Int)))),(sX "K" (Co "E" "L" false)),(sM "N" "K"),(sG "N"
 true "Q" (sX "Q" (Eg 2 o.l))),(sG "N" true "M" (sX "M" (Cj none "Q"))),(sG "N" true "R" (sX "R" (Av .leq "M" (1099511627776:Int)))),(sX "T" (Co "N" "R" false)),(sM "S" "T"),(sG "S" true "Y" (sX "Y" (Eg 1 o.l))),(sG "S"
 true "W" (sX "W" (Cj none "Y"))),(sG "S" true "X" (sX "X" (Av .geq "W" ((-1099511627776):Int)))),(sX "_" (Co "S" "X" false)),(sM "U" "_"),(sG "U" true "^" (sX "^" (Eg 1 o.l))),(sG "U" true "b" (sX "b" (Cj none "^"))),(sG
 "U" true "e" (sX "e" (Av .leq "b" (1099511627776:Int)))),(sX "Z" (Co "U" "e" false)),(sM "V" "Z"),(sG "V" true "f" (sX "f" (Eg 1 o.l))),(sG "V" true "c" (sX "c" (Cj none "f"))),(sG "V" true "[" (sX "[" (Eg 1
 o.l))),(sG "V" true "d" (sX "d" (Cj none "["))),(sG "V" true "a" (sX "a" (Qs .neg "d"))),(sG "V" true "g" (sU "g" (Bd (.mm true (.tmp 61) (.tmp 64))))),(sG "V" true "]" (sX "]" (Eg 2 o.l))),(sG "V" true "h" (sX "h" (Cj none "]"))),(sG
 "V" true "n" (Bj 182 ["g","h"] "n")),(sG "V" true "j" (sX "j" (Av .eql "n" (1:Int)))),(sX "m" (Co "V" "j" false)),(sM o.r "m")] (cE .ret)) (cT [(sX "o" (Av .eql ")" (3:Int))),(sM "s" "o")]
 (cC "s" (cT [(sM ">" (.c (.fn (.func 183) [.tup []])))] (cT [(sX "k" (Eg 1 o.l)),(sX "p" (Cj none "k")),(sX "z" (Av .eql "p" (0:Int))),(sM "l" "z"),(sG "l" true "w" (sX "w" (Eg 2 o.l))),(sG "l" true "v" (sX "v" (Cj none "w"))),(sG
 "l" true "x" (sX "x" (Av .eql "v" (0:Int)))),(sX "y" (Co "l" "x" false)),(sM "r" "y"),(sG "r" true "ag" (sX "ag" (Eg 3 o.l))),(sG "r" true "i" (sX "i" (Cj none "ag"))),(sG "r" true "|"
 (sU "|" (Bd (.lns (.tmp 83))))),(sG "r" true "t" (sX "t" (Av .leq "|" (16:Int)))),(sX "ac" (Co "r" "t" false)),(sM "u" "ac"),(sG "u" true "aa" (sX "aa" (Eg 3 o.l))),(sG "u" true "ad" (sX "ad" (Cj none "aa"))),(sG
 "u" true "ae" (sM "ae" ">")),(sG "u" true "af" (Bj 184 ["ad","ae"] "af")),(sG "u" true "~" (sX "~" (Av .lss "af" (0:Int)))),(sX "ab" (Co "u" "~" false)),(sM o.r "ab")] (cE .ret))) (cE .normal))))))))))) (cT
 [(sM o.r false)] (cE .ret))))
def oh:FE:=⟨DJ,[(2,none)],94⟩
def G2:CE:=(cT [(sM o.r (.c (.v (.slice none 0 0))))] (cS (cT [(sM ">" o),(sU "!" (Bd (.nilq 0 false (.tmp 3) (.const (.slice none 0 0)))))] (cC "!" (cT [(sM o.r (.c (.v (.slice none 0 0))))] (cE .ret)) (cE .normal))) (cT [(sU ")" (Bd (.bsl 129 0 3 [.string (bs []),.int .i64 0,.int .i64 0] []))),(sM "$" o),(sU "(" (Bd (.app 129 3 32 (.tmp 5) (.tmp 6)))),(sM o.r "(")] (cE .ret))))
def oc:FE:=⟨G2,[(2,none)],8⟩
def G1:CE:=(cT [(sM o.r (.c (.v (.slice none 0 0))))] (cS (cT [(sM ">" o),(sU "!" (Bd (.nilq 0 false (.tmp 3) (.const (.slice none 0 0)))))] (cC "!" (cT [(sM o.r (.c (.v (.slice none 0 0))))] (cE .ret)) (cE .normal))) (cT [(sU ")" (Bd (.bsl 131 0 2 [.string (bs []),.int .i64 0] []))),(sM "$" o),(sU "(" (Bd (.app 131 2 24 (.tmp 5) (.tmp 6)))),(sM o.r "(")] (cE .ret))))
def oa:FE:=⟨G1,[(2,none)],8⟩
def DA:CE:=(cT [(sM o.r false)] (cT [(sM ">" o),(sM "!" o),(sX ")" (Av .neq ">" "!")),(sM o.r ")")] (cE .ret)))
def nv:FE:=⟨DA,[(2,none)],6⟩
def CY:CE:=(cT [(sU o.l (Pn 129 o)),(sM o.r (0:Int))] (cT [(sX ">" (Eg 2 o.l)),(sX "!" (Cj none ">")),(sU ")" (Bd (.mm false (.tmp 4) (.const (.int .i64 1073741824))))),(sM o.r ")")] (cE .ret)))
def np:FE:=⟨CY,[(2,none)],6⟩
def CX:CE:=(cT [(sU o.l (Pn 41 o)),(sM o.r false)] (cT [(sX ">" (Eg 2 o.l)),(sX "!" (Cj none ">")),(sX ")" (Av .eql "!" (0:Int))),(sM "$" ")"),(sG "$" true "(" (sX "(" (Eg 3 o.l))),(sG "$" true "%" (sX "%" (Cj none "("))),(sG "$" true "&" (sX "&" (Av .eql "%" (.c (.v (.string (bs []))))))),(sX "*" (Co
 "$" "&" false)),(sM o.r "*")] (cE .ret)))
def nn:FE:=⟨CX,[(2,none)],11⟩
def Cg4:CE:=(cS (cT [(sM ")" o.l),(sX "$" (Av .neq ")" (0:Int)))] (cC "$" (cE .normal) (cE (.exit 0)))) (cB 1 (cN (Gq 6 (dL [(dP [] 0 "(" o.l),(dP [] 1 "%" o),(dP [] 2 "&" o.l),(dX [1,2] ["%","&"] 3 "*" (Av .rem "%" "&")),(dP [0,1] 4 o "("),(dP [3,4,0,1,2] 5 o.l "*")])))))
def CV:CE:=(cT [(sM "!" (0:Int))] (cS (cB 0 (cL 1000000 Cg4)) (cT [(sM "," o),(sM "!" ",")] (cE .ret))))
def nm:FE:=⟨CV,[(4,none)],12⟩
def CU:CE:=(cT [(sM o.r false)] (cT [(sM ">" o),(sX "!" (Av .lss ">" (.c (.v (.int .i32 32))))),(sM ")" "!"),(sG ")" false "$" (sM "$" o)),(sG ")" false "(" (sX "(" (Av .gtr "$" (.c (.v (.int .i32 126)))))),(sX "%" (Co ")" true "(")),(sM o.r "%")] (cE .ret)))
def nk:FE:=⟨CU,[(2,none)],9⟩
def CT:CE:=(cT [(sM "!" (0:Int))] (cT [(sM ")" o),(sM "$" o.l),(Bj 202 [")","$",true] "("),(sM "!" "(")] (cE .ret)))
def nj:FE:=⟨CT,[(4,none)],8⟩
def Cg5:CE:=(cT [(sU "," (Bd (.nxs (.tmp 10)))),(sX "." (Ga "," 0))] (cS (cC "." (cE .normal) (cE (.exit 0))) (cB 1 (cT [(sX "+" (Ga "," 1)),(sX "1" (Ga "," 2)),(sM "(" "+"),(sM "%" "1")] (cT [(sM "4" o.l),(sM "2" "%"),(aZ none "4" ["2"] "3"),(sM "6" o.r),(sU "7" (Bd (.bb false (.tmp 17) (.tmp
 18))))] (cC "7" (cT [(sM "8" "("),(sM "$" "8")] (cE .ret)) (cE .normal)))))))
def CP:CE:=(cT [(sM "$" (0:Int))] (cS (cT [(sM "&" o),(sU "*" (Bd (.rgs (.tmp 9))))] (cB 0 (cL 1000000 Cg5))) (cT [(sM "$" ((-1):Int))] (cE .ret))))
def nb:FE:=⟨CP,[(6,none)],21⟩
end
end Go.DD
