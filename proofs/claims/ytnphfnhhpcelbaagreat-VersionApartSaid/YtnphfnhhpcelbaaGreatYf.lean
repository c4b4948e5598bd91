/- A part. -/
import Derived.Test.YtnphfnhhpcelbaaGreatYd
namespace Go.DD
noncomputable section
open Pa
instance WU : Coe Pa EO := ⟨EO.t⟩
instance WO : Coe Pa (Nat -> XP) := ⟨λp _ es => some (Ac es (.t p))⟩
open Go
set_option maxRecDepth 100000
def r13:CE:=(cT [(sU o.r (Mj 26 o)),(sM "!" false)] (cT [(sX "." (Dl 0 o.r)),(sX ")" (Bs none ".")),(sX "+" (Dl 1 o.r)),(sX "$" (Bs none "+")),(Au 51 [")","$"] "%"),(sM "," "%"),(sG "," true "(" (sX "(" (Dl 2 o.r))),(sG "," true "&" (sX "&" (Bs none "("))),(sG "," true "*" (sM "*" o.l)),(sG ","
 true "1" (Au 52 ["&","*"] "1")),(sX "5" (Bz "," "1" false)),(sM "!" "5")] (cE .ret)))
def e13:FE:=⟨r13,[(4,none)],16⟩
def r24:CE:=(cT [(sM "!" (0:Int))] (cT [(sM "." o),(sM ")" o.l),(Au 75 [".",")"] "+"),(sM "!" "+")] (cE .ret)))
def e24:FE:=⟨r24,[(4,none)],8⟩
def zM:CE:=(cS (cT [(sM "5" "."),(sM "6" o),(sX "2" (Cy "6")),(sX ";" (Aj .lss "5" "2"))] (cC ";" (cE .normal) (cE (.exit 0)))) (cS (cB 1 (cT [(sM "0" o),(sM "3" "."),(sX "8" (Cs 3 "0" "3")),(sX "4" (Dl 0 "8")),(sX "=" (Bs none "4")),(Au 120 ["="] ":"),(sX ">" (Lk
 .not ":"))] (cC ">" (cT [(sM "!" false)] (cE .ret)) (cE .normal)))) (cN (sL [(sM "9" "."),(sX "<" (Aj .add "9" (1:Int))),(sM "." "<")]))))
def zL:CE:=(cS (cT [(sM "?" ")"),(sM "@" o.l),(sX "B" (Cy "@")),(sX "A" (Aj .lss "?" "B"))] (cC "A" (cE .normal) (cE (.exit 2)))) (cS (cB 3 (cT [(sM "E" o.l),(sM "F" ")"),(sX "I" (Cs 2 "E" "F")),(sX "J" (Dl 0 "I")),(sX "K" (Bs none "J")),(Au 120 ["K"] "G"),(sX
 "H" (Lk .not "G"))] (cC "H" (cT [(sM "!" false)] (cE .ret)) (cE .normal)))) (cN (sL [(sM "C" ")"),(sX "D" (Aj .add "C" (1:Int))),(sM ")" "D")]))))
def r51:CE:=(cT [(sM "!" false)] (cS (cT [(sM "+" o),(sX "$" (Cy "+")),(sX "%" (Aj .gtr "$" (10:Int))),(sM "," "%"),(sG "," false "(" (sM "(" o.l)),(sG "," false "&" (sX "&" (Cy "("))),(sG "," false "*" (sX "*" (Aj .gtr "&" (10:Int)))),(sX "1" (Bz "," (.c (.v
 (.bool true))) "*"))] (cC "1" (cT [(sM "!" false)] (cE .ret)) (cE .normal))) (cS (cT [(sM "." (0:Int))] (cB 0 (cL 1000000 zM))) (cS (cT [(sM ")" (0:Int))] (cB 2 (cL 1000000 zL))) (cT [(sM "!" true)] (cE .ret))))))
def e51:FE:=⟨r51,[(4,none)],41⟩
def zK:CE:=(cS (cT [(sM "D" ")"),(sM "E" o),(sM "F" "."),(sX "I" (Cs 2 "E" "F")),(sX "J" (Dl 1 "I")),(sX "K" (Bs none "J")),(sX "G" (Cy "K")),(sX "H" (Aj .lss "D" "G"))] (cC "H" (cE .normal) (cE (.exit 2)))) (cS (cB 3 (cT [(sM "L" o),(sM "O" "."),(sX
 "Q" (Cs 2 "L" "O")),(sX "P" (Dl 1 "Q")),(sX "T" (Bs none "P")),(sM "V" ")"),(sX "U" (Cs 4 "T" "V")),(sX "W" (Dl 3 "U")),(sX "X" (Bs none "W")),(Au 120 ["X"] "Z"),(sX "R" (Lk .not "Z"))] (cC "R" (cT [(sM "!" false)]
 (cE .ret)) (cE .normal)))) (cN (sL [(sM "M" ")"),(sX "N" (Aj .add "M" (1:Int))),(sM ")" "N")]))))
def zJ:CE:=(cS (cT [(sM "(" "."),(sM "&" o),(sX "*" (Cy "&")),(sX "1" (Aj .lss "(" "*"))] (cC "1" (cE .normal) (cE (.exit 0)))) (cS (cB 1 (cS (cT [(sM "2" o),(sM ";" "."),(sX "9" (Cs 2 "2" ";")),(sX "<" (Dl 0 "9")),(sX "0" (Bs none "<")),(sX "3" (Cy "0")),(sX "8" (Aj .gtr "3"
 (10:Int))),(sM "4" "8"),(sG "4" false "=" (sM "=" o)),(sG "4" false ":" (sM ":" ".")),(sG "4" false ">" (sX ">" (Cs 2 "=" ":"))),(sG "4" false "?" (sX "?" (Dl 1 ">"))),(sG "4" false "@" (sX "@" (Bs none "?"))),(sG "4" false "B" (sX "B" (Cy
 "@"))),(sG "4" false "A" (sX "A" (Aj .gtr "B" (10:Int)))),(sX "C" (Bz "4" true "A"))] (cC "C" (cT [(sM "!" false)] (cE .ret)) (cE .normal))) (cT [(sM ")" (0:Int))] (cB 2 (cL 1000000 zK))))) (cN (sL [(sM "5" "."),(sX "6" (Aj .add "5" (.c
 (.v (.int .i64 1))))),(sM "." "6")]))))
def r52:CE:=(cT [(sM "!" false)] (cS (cT [(sM "+" o),(sX "$" (Cy "+")),(sM "%" o.l),(sX "," (Aj .gtr "$" "%"))] (cC "," (cT [(sM "!" false)] (cE .ret)) (cE .normal))) (cS (cT [(sM "." (0:Int))] (cB 0 (cL 1000000 zJ))) (cT [(sM "!" true)] (cE .ret)))))
def e52:FE:=⟨r52,[(4,none)],54⟩
def zI:CE:=(cT [(sX "8" (Aj .lss "3" "0"))] (cS (cC "8" (cE .normal) (cE (.exit 0))) (cS (cB 1 (cT [(sM "4" "3"),(sX "=" (Cs 2 "<" "3")),(sX ":" (Bs (some 2) "=")),(sU "." (Me 39 [.v (.slice none 0 0),.v (.slice none 0 0)])),(sM "!" "4"),(sU none (Ej 2 "." ":"))] (cS (cT [(sX ">" (Dl 0 o.l)),(sX "?"
 (Bs none ">")),(sX "@" (Dl 1 o.l)),(sX "B" (Bs none "@")),(sX "A" (Bs (some 2) ".")),(Au 122 ["?","B","A"] "C"),(sM ")" "C")] (cT [(sM "D" ")"),(sX "E" (Aj .neq "D" (0:Int)))] (cC "E" (cT [(sM "F" ")"),(sM o.r "F")] (cE .ret)) (cE .normal)))) (cS (cT [(sM
 "I" "!"),(sX "J" (Aj .eql "I" (0:Int)))] (cC "J" (cE (.exit 1)) (cE .normal))) (cS (cN (Dg 10 (dL [(dX [] [o.l] 0 "K" (Dl 2 o.l)),(dY [0] ["K"] 1 "G" (Bs none "K")),(dP [] 2 "H" "!"),(dX [2] ["H"] 3 "M" (Aj .sub "H" (1:Int))),(dX [1,3,0,2] ["G","M"]
 4 "N" (Cs 2 "G" "M")),(dX [4,1,3,0,2] ["N"] 5 "L" (Dl 0 "N")),(dY [5,4,1,3,0,2] ["L"] 6 "O" (Bs none "L")),(dX [] ["."] 7 "Q" (Dl 0 ".")),(dY [7] ["Q"] 8 "P" (Bs none "Q")),(Az [6,8,5,4,1,3,0,2,7] ["O","P"] (Bt 9 [6,8,5,4,1,3,0,2,7] (Au 24 ["O","P"]
 "T")))]))) (cB 2 (cT [(sX "U" (Aj .eql "T" (0:Int))),(sM "V" "U")] (cC "V" (cT [(sM o.r (5:Int))] (cE .ret)) (cT [(sX "X" (Aj .eql "T" (1:Int))),(sM "W" "X")] (cC "W" (cT [(sM o.r (2:Int))] (cE .ret)) (cE .normal))))))))))) (cN (sL [(sX "Z"
 (Aj .add "3" (1:Int))),(sM "3" "Z")])))))
def r57:CE:=(cT [(sU o.l (Mj 26 o)),(sM o.r (0:Int))] (cS (cT [(sX "+" (Dl 0 o.l)),(sX "$" (Bs none "+")),(sX "%" (Dl 1 o.l)),(sX "," (Bs none "%")),(Au 121 ["$",","] "("),(sM "7" "(")] (cT [(sM "&" "7"),(sX "*" (Aj .neq "&" (0:Int)))] (cC "*" (cT [(sM "1" "7"),(sM o.r "1")] (cE .ret)) (cE
 .normal)))) (cS (cT [(sX "5" (Dl 2 o.l)),(sX "6" (Bs none "5")),(sX "2" (Cy "6")),(sX ";" (Aj .gtr "2" (4096:Int)))] (cC ";" (cT [(sM o.r (9:Int))] (cE .ret)) (cE .normal))) (cS (cT [(sX "9" (Dl 2 o.l)),(sX "<" (Bs none "9")),(sX "0" (Cy "<")),(sM "3" (0:Int))]
 (cB 0 (cL 1000000 zI))) (cT [(sM o.r (0:Int))] (cE .ret))))))
def e57:FE:=⟨r57,[(2,none)],53⟩
def r67:CE:=(cT [(sU o.r (Mj 26 o)),(sU "7" (Mj 26 o.l)),(sM "!" false)] (cT [(sX "." (Dl 0 o.r)),(sX ")" (Bs none ".")),(sX "+" (Dl 0 "7")),(sX "$" (Bs none "+")),(Au 76 [")","$"] "%"),(sM "," "%"),(sG "," true "(" (sX "(" (Dl 1 o.r))),(sG "," true "&" (sX "&" (Bs none "("))),(sG "," true "*"
 (sX "*" (Dl 1 "7"))),(sG "," true "1" (sX "1" (Bs none "*"))),(sG "," true "5" (Au 77 ["&","1"] "5")),(sX "6" (Bz "," "5" false)),(sM "!" "6")] (cE .ret)))
def e67:FE:=⟨r67,[(4,none)],17⟩
def r68:CE:=(cT [(sU o.l (Mj 201 o)),(sM o.r (.c (.v .nilFunc)))] (cT [(sU "7" (Bc (.mkf (.func 138) [] [.tmp 1]))),(sM o.r "7")] (cE .ret)))
def e68:FE:=⟨r68,[(2,none)],4⟩
def zE:CE:=(cT [(sX "1" (Aj .lss "*" "&"))] (cS (cC "1" (cE .normal) (cE (.exit 0))) (cS (cB 1 (cT [(sM "5" "*"),(sM "." "5")] (cS (cN (Dg 9 (dL [(dP [] 0 "6" o),(dP [] 1 "2" "."),(dX [0,1] ["6","2"] 2 ";" (Cs 4 "6" "2")),(dY [2,0,1] [";"] 3 "9" (Bs (some 4) ";")),(dP [] 4 "<" o.l),(dP [] 5
 "0" "."),(dX [4,5] ["<","0"] 6 "3" (Cs 4 "<" "0")),(dY [6,4,5] ["3"] 7 "8" (Bs (some 4) "3")),(Az [3,7,2,0,1,6,4,5] ["9","8"] (Bi 8 [3,7,2,0,1,6,4,5] false false "4" (Dz (Bc (.eqs true [0,0,0,2] (.tmp 19) (.tmp 23)))) ["9","8"]))]))) (cC "4" (cT [(sM "!" false)] (cE .ret)) (cE
 .normal))))) (cN (sL [(sX "=" (Aj .add "*" (1:Int))),(sM "*" "=")])))))
def r69:CE:=(cT [(sM "!" false)] (cS (cT [(sM ")" o),(sX "+" (Cy ")")),(sM "$" o.l),(sX "%" (Cy "$")),(sX "," (Aj .neq "+" "%"))] (cC "," (cT [(sM "!" false)] (cE .ret)) (cE .normal))) (cS (cT [(sM "(" o),(sX "&" (Cy "(")),(sM "*" (0:Int))] (cB 0 (cL 1000000 zE))) (cT [(sM "!" (.c
 (.v (.bool true))))] (cE .ret)))))
def e69:FE:=⟨r69,[(4,none)],26⟩
def fu:CE:=(cT [(sM o.r (.c (.v (.slice none 0 0))))] (cS (cT [(sM "7" o),(sU "!" (Bc (.nilq 0 false (.tmp 3) (.const (.slice none 0 0)))))] (cC "!" (cT [(sM o.r (.c (.v (.slice none 0 0))))] (cE .ret)) (cE .normal))) (cT [(sU "." (Bc (.bsl 3 0 1 [.int .i64 0] []))),(sM ")" o),(sU "+" (Bc (.app 3 1 8 (.tmp 5) (.tmp 6)))),(sM o.r "+")] (cE .ret))))
def e70:FE:=⟨fu,[(2,none)],8⟩
def zD:CE:=(cT [(sX "&" (Aj .lss "(" ","))] (cS (cC "&" (cE .normal) (cE (.exit 0))) (cS (cB 1 (cT [(sM "*" "("),(sX "1" (Cs 1 "%" "(")),(sX "5" (Bs none "1")),(sM "." "*"),(sM ")" "5")] (cS (cT [(sM "6" "."),(sM "2" o.l),(sX ";" (Cy "2")),(sX "9" (Aj .geq "6" ";"))] (cC "9" (cT [(sM
 "!" (1:Int))] (cE .ret)) (cE .normal))) (cT [(sM "<" o.l),(sM "0" "."),(sX "3" (Cs 1 "<" "0")),(sX "8" (Bs none "3")),(sM "+" "8")] (cT [(sM "4" ")"),(sM "=" "+"),(Au 141 ["4","="] ":"),(sM "$" ":")] (cT [(sM ">" "$"),(sX "?" (Aj .neq ">" (.c (.v (.int .i64
 0)))))] (cC "?" (cT [(sM "@" "$"),(sM "!" "@")] (cE .ret)) (cE .normal)))))))) (cN (sL [(sX "B" (Aj .add "(" (1:Int))),(sM "(" "B")])))))
def r75:CE:=(cT [(sM "!" (0:Int))] (cS (cT [(sM "%" o),(sX "," (Cy "%")),(sM "(" (0:Int))] (cB 0 (cL 1000000 zD))) (cS (cT [(sM "A" o),(sX "C" (Cy "A")),(sM "D" o.l),(sX "E" (Cy "D")),(sX "F" (Aj .lss "C" "E"))] (cC "F" (cT [(sM "!" ((-1):Int))]
 (cE .ret)) (cE .normal))) (cT [(sM "!" (0:Int))] (cE .ret)))))
def e75:FE:=⟨r75,[(4,none)],36⟩
def zC:CE:=(cT [(sX "1" (Aj .lss "*" "&"))] (cS (cC "1" (cE .normal) (cE (.exit 0))) (cS (cB 1 (cT [(sM "5" "*"),(sM "." "5")] (cS (cN (Dg 9 (dL [(dP [] 0 "6" o),(dP [] 1 "2" "."),(dX [0,1] ["6","2"] 2 ";" (Cs 3 "6" "2")),(dY [2,0,1] [";"] 3 "9" (Bs (some 3) ";")),(dP [] 4 "<" o.l),(dP [] 5
 "0" "."),(dX [4,5] ["<","0"] 6 "3" (Cs 3 "<" "0")),(dY [6,4,5] ["3"] 7 "8" (Bs (some 3) "3")),(Az [3,7,2,0,1,6,4,5] ["9","8"] (Bi 8 [3,7,2,0,1,6,4,5] false false "4" (Dz (Bc (.eqs true [2,0,0] (.tmp 19) (.tmp 23)))) ["9","8"]))]))) (cC "4" (cT [(sM "!" false)] (cE .ret)) (cE .normal)))))
 (cN (sL [(sX "=" (Aj .add "*" (1:Int))),(sM "*" "=")])))))
def r76:CE:=(cT [(sM "!" false)] (cS (cT [(sM ")" o),(sX "+" (Cy ")")),(sM "$" o.l),(sX "%" (Cy "$")),(sX "," (Aj .neq "+" "%"))] (cC "," (cT [(sM "!" false)] (cE .ret)) (cE .normal))) (cS (cT [(sM "(" o),(sX "&" (Cy "(")),(sM "*" (0:Int))] (cB 0 (cL 1000000 zC))) (cT [(sM "!" (.c
 (.v (.bool true))))] (cE .ret)))))
def e76:FE:=⟨r76,[(4,none)],26⟩
def zB:CE:=(cT [(sX "1" (Aj .lss "*" "&"))] (cS (cC "1" (cE .normal) (cE (.exit 0))) (cS (cB 1 (cT [(sM "5" "*"),(sM "." "5")] (cS (cN (Dg 9 (dL [(dP [] 0 "6" o),(dP [] 1 "2" "."),(dX [0,1] ["6","2"] 2 ";" (Cs 2 "6" "2")),(dY [2,0,1] [";"] 3 "9" (Bs (some 2) ";")),(dP [] 4 "<" o.l),(dP [] 5
 "0" "."),(dX [4,5] ["<","0"] 6 "3" (Cs 2 "<" "0")),(dY [6,4,5] ["3"] 7 "8" (Bs (some 2) "3")),(Az [3,7,2,0,1,6,4,5] ["9","8"] (Bi 8 [3,7,2,0,1,6,4,5] false false "4" (Dz (Bc (.eqs true [2,0] (.tmp 19) (.tmp 23)))) ["9","8"]))]))) (cC "4" (cT [(sM "!" false)] (cE .ret)) (cE .normal)))))
 (cN (sL [(sX "=" (Aj .add "*" (1:Int))),(sM "*" "=")])))))
def r77:CE:=(cT [(sM "!" false)] (cS (cT [(sM ")" o),(sX "+" (Cy ")")),(sM "$" o.l),(sX "%" (Cy "$")),(sX "," (Aj .neq "+" "%"))] (cC "," (cT [(sM "!" false)] (cE .ret)) (cE .normal))) (cS (cT [(sM "(" o),(sX "&" (Cy "(")),(sM "*" (0:Int))] (cB 0 (cL 1000000 zB))) (cT [(sM "!" (.c
 (.v (.bool true))))] (cE .ret)))))
def e77:FE:=⟨r77,[(4,none)],26⟩
def yY:CE:=(cT [(sX "1" (Aj .lss "*" "&"))] (cS (cC "1" (cE .normal) (cE (.exit 0))) (cS (cB 1 (cT [(sM "5" "*"),(sM "." "5")] (cS (cN (Dg 9 (dL [(dP [] 0 "6" o),(dP [] 1 "2" "."),(dX [0,1] ["6","2"] 2 ";" (Cs 1 "6" "2")),(dY [2,0,1] [";"] 3 "9" (Bs none ";")),(dP [] 4 "<" o.l),(dP [] 5 "0"
 "."),(dX [4,5] ["<","0"] 6 "3" (Cs 1 "<" "0")),(dY [6,4,5] ["3"] 7 "8" (Bs none "3")),(dX [3,7,2,0,1,6,4,5] ["9","8"] 8 "4" (Aj .neq "9" "8"))]))) (cC "4" (cT [(sM "!" false)] (cE .ret)) (cE .normal))))) (cN (sL [(sX "=" (Aj .add "*" (1:Int))),(sM "*" "=")])))))
def r80:CE:=(cT [(sM "!" false)] (cS (cT [(sM ")" o),(sX "+" (Cy ")")),(sM "$" o.l),(sX "%" (Cy "$")),(sX "," (Aj .neq "+" "%"))] (cC "," (cT [(sM "!" false)] (cE .ret)) (cE .normal))) (cS (cT [(sM "(" o),(sX "&" (Cy "(")),(sM "*" (0:Int))] (cB 0 (cL 1000000 yY))) (cT [(sM "!" (.c
 (.v (.bool true))))] (cE .ret)))))
def e80:FE:=⟨r80,[(4,none)],26⟩
def CX:DC:=.seq (.reg false [⟨some 6,none,.mv (.tmp 12),[]⟩] ⟨[],true⟩) (.reg false [⟨some 7,none,.mv (.tmp 13),[]⟩] ⟨[],true⟩)
def CV:DC:=.blk 1 (.seq (.reg true [⟨some 14,none,.mv (.tmp 7),[]⟩,⟨some 15,none,.ia 1 (.tmp 14) (.const (.int .i64 0)),[0]⟩,⟨some 16,none,.ld none (.tmp 15),[1]⟩,⟨some 17,none,.mv (.tmp 7),[]⟩,⟨some 18,none,.ia 1 (.tmp 17) (.const (.int .i64 1)),[3]⟩,⟨some 19,none,.ld none (.tmp 18),[4]⟩,⟨some 20,none,.call 69 [.tmp 16,.tmp 19],[2,5]⟩,⟨some 21,none,.un .not (.tmp 20),[6]⟩] ⟨[⟨[],0,0,false⟩,⟨[0],0,0,false⟩,⟨[1,0],0,0,false⟩,⟨[],0,0,false⟩,⟨[3],0,0,false⟩,⟨[4,3],0,0,false⟩,⟨[2,5,1,0,4,3],2,0,true⟩,⟨[6,2,5,1,0,4,3],0,0,false⟩],true⟩)
 (.cond (.tmp 21) (.reg true [⟨some 22,none,.ld none (.tmp 5),[]⟩,⟨some 23,none,.mv (.tmp 6),[]⟩,⟨some 24,none,.call 70 [.tmp 23],[1]⟩,⟨some 25,none,.mv (.tmp 7),[]⟩,⟨some 26,none,.ia 1 (.tmp 25) (.const (.int .i64 1)),[3]⟩,⟨some 27,none,.ld none (.tmp 26),[4]⟩,⟨some 28,none,.call 142 [.tmp 27],[5,2]⟩,⟨some 29,none,.bld [.slice none 0 0,.slice none 0 0] [(0,1,.tmp 24),(1,1,.tmp 28)],[2,6]⟩,⟨some 30,none,.bsl
 62 1 2 [.slice none 0 0,.slice none 0 0] [(0,2,.tmp 29)],[7]⟩,⟨some 31,none,.app 62 2 48 (.tmp 22) (.tmp 30),[0,8,6]⟩,⟨none,none,.st 1 (.tmp 5) (.tmp 31),[9,0,1,2,3,4,5,6,7,8]⟩] ⟨[⟨[],0,0,true⟩,⟨[],0,0,false⟩,⟨[1],2,0,true⟩,⟨[],0,0,true⟩,⟨[3],0,0,true⟩,⟨[4,3],0,0,true⟩,⟨[5,2,4,3,1],2,0,true⟩,⟨[2,6,1,5,4,3],0,0,false⟩,⟨[7,2,6,1,5,4,3],1,0,false⟩,⟨[0,8,6,7,2,1,5,4,3],2,0,true⟩,⟨[9,0,1,2,3,4,5,6,7,8],2,0,true⟩],true⟩)
 .skip))
def zm:CE:=(cT [(sM ")" "&")] (cN (sL [(sM "+" "*")])))
def zl:CE:=(cB 1 (cS (cN (Dg 8 (dL [(dP [] 0 "1" "+"),(dX [0] ["1"] 1 "5" (Cs 1 "1" (0:Int))),(dY [1,0] ["5"] 2 "6" (Bs none "5")),(dP [] 3 "2" "+"),(dX [3] ["2"] 4 ";" (Cs 1 "2" (1:Int))),(dY [4,3] [";"] 5 "9" (Bs none ";")),(Az [2,5,1,0,4,3] ["6","9"] (Bt
 6 [2,5,1,0,4,3] (Au 69 ["6","9"] "<"))),(dX [6,2,5,1,0,4,3] ["<"] 7 "0" (Lk .not "<"))]))) (cC "0" (cN (Dg 11 (dL [(Az [] ["."] (Bi 0 [] true true "3" (λ_ => (Bs none ".")) ["."])),(dP [] 1 "8" ")"),(Az [1] ["8"] (Bt 2 [1] (Au 70 ["8"] "4"))),(Az [] ["+"] (Bi 3 [] true false "=" ("+":Pa)
 ["+"])),(Az [3] ["="] (Bi 4 [3] true false ":" (λ_ => (Cs 1 "=" (1:Int))) ["="])),(Az [4,3] [":"] (Bi 5 [4,3] true true ">" (λ_ => (Bs none ":")) [":"])),(Az [5,2,4,3,1] [">"] (Bt 6 [5,2,4,3,1] (Au 142 [">"] "?"))),(Az [2,6,1,5,4,3] ["4","?"] (Bi 7 [2,6,1,5,4,3] false false
 "@" (Dz (Bc (.bld [.slice none 0 0,.slice none 0 0] [(0,1,.tmp 24),(1,1,.tmp 28)]))) ["4","?"])),(Az [7,2,6,1,5,4,3] ["@"] (Ox 8 [7,2,6,1,5,4,3] false false "B" (Bc (.bsl 62 1 2 [.slice none 0 0,.slice none 0 0] [(0,2,.tmp 29)])) ["@"])),(Az [0,8,6,7,2,1,5,4,3] ["3","B"] (Bt 9 [0,8,6,7,2,1,5,4,3] (sU "A" (Bc (.app 62 2 48 (.tmp
 22) (.tmp 30)))))),(Az [9,0,1,2,3,4,5,6,7,8] [".","A"] (Bt 10 [9,0,1,2,3,4,5,6,7,8] (sU none (Ej 1 "." "A"))))]))) (cE .normal))))
def r81:CE:=(cT [(sM "!" (.c (.v (.slice none 0 0))))] (cT [(sU "." (Me 109 [.v (.slice none 0 0)]))] (cS (cT [(sM "$" o),(sM "%" o.l),(sU "," (Bc (.bsl 24 2 1 [.slice none 0 0] [(0,1,.tmp 8),(1,1,.tmp 9)]))),(Au 68 [","] "(")] (cB 0 (cR 33 false "(" [12,13] CX CV))) (cT [(sX "C" (Bs none ".")),(sM "!" "C")] (cE .ret)))))
def e81:FE:=⟨r81,[(4,none)],33⟩
def yX:CE:=(cT [(sX ";" (Aj .lss "2" "6"))] (cS (cC ";" (cE .normal) (cE (.exit 0))) (cS (cB 1 (cT [(sM "9" "2"),(sX "<" (Cs 1 "5" "2")),(sX "0" (Bs none "<")),(sM "7" "9"),(sM "!" "0")] (cT [(sM "3" "!"),(sX "8" (Aj .geq "3" (.c (.v (.int .u8 97))))),(sM "4" "8"),(sG "4"
 true "=" (sM "=" "!")),(sG "4" true ":" (sX ":" (Aj .leq "=" (.c (.v (.int .u8 122)))))),(sX ">" (Bz "4" ":" false)),(sM "." ">")] (cT [(sM "?" "."),(sX "@" (Lk .not "?")),(sM "B" "@"),(sG "B" true "A" (sM "A" "7")),(sG "B" true "C" (sX "C"
 (Aj .eql "A" (0:Int)))),(sG "B" true "D" (sM "D" "C")),(sG "D" false "E" (sM "E" "!")),(sG "D" false "F" (sX "F" (Aj .neq "E" (.c (.v (.int .u8 95)))))),(sG "D" false "I" (sM "I" "F")),(sG "I" true "J" (sM "J" "!")),(sG "I"
 true "K" (sX "K" (Aj .lss "J" (.c (.v (.int .u8 48)))))),(sG "I" true "G" (sM "G" "K")),(sG "G" false "H" (sM "H" "!")),(sG "G" false "M" (sX "M" (Aj .gtr "H" (.c (.v (.int .u8 57)))))),(sG "I" true "N" (sX "N" (Bz "G" true "M"))),(sG
 "D" false "L" (sX "L" (Bz "I" "N" false))),(sG "B" true "O" (sX "O" (Bz "D" true "L"))),(sX "Q" (Bz "B" "O" false))] (cC "Q" (cT [(sM o.r false)] (cE .ret)) (cE .normal)))))) (cN (sL [(sX "P" (Aj .add "2"
 (1:Int))),(sM "2" "P")])))))
def r83:CE:=(cT [(sM o.r false)] (cS (cT [(sM ")" o),(sU "+" (Bc (.lns (.tmp 6)))),(sX "$" (Aj .lss "+" (1:Int))),(sM "%" "$"),(sG "%" false "," (sM "," o)),(sG "%" false "(" (sU "(" (Bc (.lns (.tmp 10))))),(sG "%" false "&" (sX "&" (Aj .gtr "(" (12:Int)))),(sX "*" (Bz "%"
 true "&"))] (cC "*" (cT [(sM o.r false)] (cE .ret)) (cE .normal))) (cS (cT [(sM "1" o),(sU "5" (Bc (.s2b (.tmp 14)))),(sX "6" (Cy "5")),(sM "2" (0:Int))] (cB 0 (cL 1000000 yX))) (cT [(sM o.r true)] (cE .ret)))))
def e83:FE:=⟨r83,[(2,none)],47⟩
def IH:CE:=(cT [(sM o.r false)] (cT [(sM "7" o),(sU "!" (Bc (.lns (.tmp 3)))),(sX "." (Aj .leq "!" (40:Int))),(sM o.r ".")] (cE .ret)))
def xx:FE:=⟨IH,[(2,none)],6⟩
def Ce3:CE:=(cT [(sX ">" (Aj .lss ":" "="))] (cS (cC ">" (cE .normal) (cE (.exit 0))) (cS (cB 1 (cT [(sX "?" (Cs 2 "4" ":")),(sX "@" (Bs (some 2) "?")),(sU "$" (Me 131 [.v (.string (bs [])),.v (.int .i64 0)])),(sU none (Ej 2 "$" "@"))] (cS (cT [(sX "B" (Dl 0 "$")),(sX "A" (Bs none "B")),(Au 83 ["A"]
 "C"),(sX "D" (Lk .not "C")),(sM "E" "D"),(sG "E" false "F" (sM "F" ".")),(sG "E" false "I" (sX "I" (Dl 0 "$"))),(sG "E" false "J" (sX "J" (Bs none "I"))),(sG "E" false "K" (sU "K" (Bc (.lkp (.p .string) (.bool false) (.tmp 35) (.tmp 37) false)))),(sX
 "G" (Bz "E" true "K"))] (cC "G" (cT [(sM "!" (11:Int))] (cE .ret)) (cE .normal))) (cS (cT [(sX "H" (Dl 1 "$")),(sX "M" (Bs none "H")),(sX "N" (Aj .lss "M" (1:Int))),(sM "L" "N"),(sG "L" false "O" (sX "O" (Dl 1 "$"))),(sG "L"
 false "Q" (sX "Q" (Bs none "O"))),(sG "L" false "P" (sX "P" (Aj .gtr "Q" (4:Int)))),(sX "T" (Bz "L" true "P"))] (cC "T" (cT [(sM "!" (12:Int))] (cE .ret)) (cE .normal))) (cN (sL [(sM "V" "."),(sX "U" (Dl 0 "$")),(sX "W" (Bs
 none "U")),(sU none (Bc (.mup (.p .string) (.tmp 48) (.tmp 50) (.const (.bool true)))))])))))) (cN (sL [(sX "X" (Aj .add ":" (1:Int))),(sM ":" "X")])))))
def IG:CE:=(cT [(sM "!" (0:Int))] (cT [(sU "%" (Bc (.mkm))),(sM "." "%")] (cS (cT [(sM "," o),(sM "(" "."),(Au 156 [",","("] "&"),(sM ")" "&")] (cT [(sM "*" ")"),(sX "1" (Aj .neq "*" (0:Int)))] (cC "1" (cT [(sM "5" ")"),(sM "!" "5")] (cE .ret)) (cE .normal)))) (cS (cT [(sM "6" o.l),(sX
 "2" (Cy "6")),(sX ";" (Aj .lss "2" (1:Int))),(sM "9" ";"),(sG "9" false "<" (sM "<" o.l)),(sG "9" false "0" (sX "0" (Cy "<"))),(sG "9" false "3" (sX "3" (Aj .gtr "0" (6:Int)))),(sX "8" (Bz "9" true "3"))] (cC "8" (cT
 [(sM "!" (9:Int))] (cE .ret)) (cE .normal))) (cS (cT [(sM "4" o.l),(sX "=" (Cy "4")),(sM ":" (0:Int))] (cB 0 (cL 1000000 Ce3))) (cT [(sM "!" (0:Int))] (cE .ret)))))))
def xw:FE:=⟨IG,[(4,none)],52⟩
def Ce4:CE:=(cT [(sX "C" (Aj .lss "A" "B"))] (cS (cC "C" (cE .normal) (cE (.exit 0))) (cS (cB 1 (cT [(sM "D" "A"),(sX "E" (Cs 4 "@" "A")),(sX "F" (Bs (some 4) "E")),(sU "$" (Me 41 [.v (.int .i64 0),.v (.int .i64 0),.v (.int .i64 0),.v (.string (bs []))])),(sM "+" "D"),(sU none (Ej 4 "$" "F"))]
 (cS (cN (Dg 8 (dL [(dY [] ["$"] 0 "I" (Bs (some 4) "$")),(dP [] 1 "J" o.l),(dP [] 2 "K" "+"),(dX [1,2] ["J","K"] 3 "G" (Cs 2 "J" "K")),(dX [3,1,2] ["G"] 4 "H" (Dl 1 "G")),(dY [4,3,1,2] ["H"] 5 "M" (Bs none "H")),(Az [0,5,4,3,1,2] ["I","M"] (Bt 6 [0,5,4,3,1,2]
 (Au 123 ["I","M"] "N"))),(dX [6,0,5,4,3,1,2] ["N"] 7 "L" (Lk .not "N"))]))) (cC "L" (cT [(sM ")" (12:Int))] (cE .ret)) (cE .normal))))) (cN (sL [(sX "O" (Aj .add "A" (1:Int))),(sM "A" "O")])))))
def IF:CE:=(cT [(sU "." (Mj 39 o.r)),(sM ")" (0:Int))] (cS (cT [(sX "%" (Dl 0 ".")),(sX "," (Bs none "%")),(sX "(" (Cy ",")),(sM "&" o),(sX "*" (Cy "&")),(sX "1" (Aj .neq "(" "*")),(sM "5" "1"),(sG "5" false "6" (sX "6" (Dl 1 "."))),(sG "5" false "2" (sX "2" (Bs none "6"))),(sG
 "5" false ";" (sX ";" (Cy "2"))),(sG "5" false "9" (sM "9" o.l)),(sG "5" false "<" (sX "<" (Cy "9"))),(sG "5" false "0" (sX "0" (Aj .neq ";" "<"))),(sX "3" (Bz "5" true "0"))] (cC "3" (cT [(sM ")" (13:Int))] (cE .ret)) (cE .normal))) (cS
 (cT [(sM "8" o),(sX "4" (Dl 0 ".")),(sX "=" (Bs none "4")),(Au 157 ["8","="] ":"),(sX ">" (Lk .not ":"))] (cC ">" (cT [(sM ")" (3:Int))] (cE .ret)) (cE .normal))) (cS (cT [(sX "?" (Dl 1 ".")),(sX "@" (Bs none "?")),(sX "B" (Cy "@")),(sM "A" (0:Int))] (cB 0
 (cL 1000000 Ce4))) (cT [(sM ")" (0:Int))] (cE .ret))))))
def xv:FE:=⟨IF,[(6,none)],45⟩
def IE:CE:=(cT [(sU o.r (Mj 41 o)),(sM "!" false)] (cS (cT [(sX "." (Bs (some 4) o.r)),(Au 158 ["."] ")"),(sX "+" (Lk .not ")")),(sM "$" "+"),(sG "$" false "%" (sM "%" o.l)),(sG "$" false "," (sX "," (Aj .lss "%" (1:Int)))),(sX "(" (Bz "$" true ",")),(sM "&" "("),(sG
 "&" false "*" (sM "*" o.l)),(sG "&" false "1" (sX "1" (Aj .gtr "*" (4:Int)))),(sX "5" (Bz "&" true "1"))] (cC "5" (cT [(sM "!" false)] (cE .ret)) (cE .normal))) (cS (cT [(sX "6" (Dl 0 o.r)),(sX "2" (Bs none "6"))] (cB 0 (cT [(sX "9" (Aj .eql "2" (.c (.v (.int .i64
 1))))),(sM ";" "9")] (cC ";" (cT [(sM "<" o.l),(sX "0" (Aj .eql "<" (1:Int))),(sM "!" "0")] (cE .ret)) (cT [(sX "8" (Aj .eql "2" (2:Int))),(sM "3" "8")] (cC "3" (cT [(sM "4" o.l),(sX "=" (Aj .eql "4" (3:Int))),(sM ":" "="),(sG ":" false ">"
 (sM ">" o.l)),(sG ":" false "?" (sX "?" (Aj .eql ">" (2:Int)))),(sG ":" false "@" (sM "@" "?")),(sG "@" true "B" (sX "B" (Dl 2 o.r))),(sG "@" true "A" (sX "A" (Bs none "B"))),(sG "@" true "C" (sX "C" (Aj .eql "A" (1:Int)))),(sG ":"
 false "D" (sX "D" (Bz "@" "C" false))),(sX "E" (Bz ":" true "D")),(sM "!" "E")] (cE .ret)) (cT [(sX "I" (Aj .eql "2" (3:Int))),(sM "F" "I")] (cC "F" (cT [(sM "J" o.l),(sX "K" (Aj .eql "J" (4:Int))),(sM
 "!" "K")] (cE .ret)) (cE .normal))))))))) (cT [(sM "!" true)] (cE .ret)))))
def xu:FE:=⟨IE,[(4,none)],39⟩
def Ce5:CE:=(cT [(sX "5" (Aj .lss "1" "*"))] (cS (cC "5" (cE .normal) (cE (.exit 2))) (cS (cB 3 (cT [(sX "6" (Cs 1 "&" "1")),(sX "2" (Bs none "6")),(sM ")" "2")] (cT [(sM ";" ")"),(sX "9" (Cy ";")),(sX "<" (Aj .gtr "9" (0:Int))),(sM "0" "<"),(sG "0" true "3" (sM "3"
 "!")),(sG "0" true "8" (sU "8" (Bc (.nilq 0 false (.tmp 22) (.const (.slice none 0 0)))))),(sG "0" true "4" (sM "4" "8")),(sG "4" false "=" (sM "=" ")")),(sG "4" false ":" (sX ":" (Cs 2 "=" (0:Int)))),(sG "4" false ">" (sX ">" (Dl 0 ":"))),(sG "4" false "?"
 (sX "?" (Bs none ">"))),(sG "4" false "@" (sM "@" "!")),(sG "4" false "B" (Au 24 ["?","@"] "B")),(sG "4" false "A" (sX "A" (Aj .lss "B" (0:Int)))),(sG "0" true "C" (sX "C" (Bz "4" true "A"))),(sX "D" (Bz "0" "C"
 false))] (cC "D" (cN (sL [(sM "E" ")"),(sX "F" (Cs 2 "E" (0:Int))),(sX "I" (Dl 0 "F")),(sX "J" (Bs none "I")),(sM "!" "J")])) (cE .normal))))) (cN (sL [(sX "K" (Aj .add "1" (1:Int))),(sM "1" "K")])))))
def Ce6:CE:=(cT [(sX "T" (Aj .lss "P" "Q"))] (cS (cC "T" (cE .normal) (cE (.exit 4))) (cS (cB 5 (cT [(sM "V" "P"),(sX "U" (Cs 1 "O" "P")),(sX "W" (Bs none "U")),(sM "$" "V"),(sM "%" "W")] (cT [(sM "X" "%"),(sX "Z" (Cy "X")),(sX "R" (Aj .gtr "Z"
 (0:Int))),(sM "S" "R"),(sG "S" true "^" (sM "^" "%")),(sG "S" true "a" (sX "a" (Cs 2 "^" (0:Int)))),(sG "S" true "b" (sX "b" (Dl 0 "a"))),(sG "S" true "[" (sX "[" (Bs none "b"))),(sG "S" true "Y" (sM "Y"
 "!")),(sG "S" true "c" (Au 24 ["[","Y"] "c")),(sG "S" true "]" (sX "]" (Aj .eql "c" (0:Int)))),(sX "_" (Bz "S" "]" false))] (cC "_" (cN (Dg 14 (dL [(dP [] 0 "e" "+"),(dP [] 1 "d" "$"),(Az [] ["7"] (Bi 2 [] true false
 "f" ("7":Pa) ["7"])),(Az [] ["$"] (Bi 3 [] true false "g" ("$":Pa) ["$"])),(dP [] 4 "j" "%"),(dX [4] ["j"] 5 "m" (Cs 2 "j" (0:Int))),(dX [5,4] ["m"] 6 "l" (Dl 1 "m")),(dY [6,5,4] ["l"] 7 "n" (Bs none "l")),(Az [] ["%"] (Bi 8 [] true false
 "r" ("%":Pa) ["%"])),(Az [8] ["r"] (Bi 9 [8] true false "k" (Dz (Bc (.sli 2 (.tmp 71) (some (.const (.int .i64 1))) none))) ["r"])),(dX [0,1,4,5,6,7] ["e","d"] 10 "i" (Cs 1 "e" "d")),(Az [10,7,0,1,4,5,6] ["i","n"] (Bt 11 [10,7,0,1,4,5,6] (sU none (Ej 1 "i" "n")))),(dX
 [2,3,0,1,4,5,6,7,8,9,10,11] ["f","g"] 12 "o" (Cs 1 "f" "g")),(Az [12,9,11,0,1,2,3,4,5,6,7,8,10] ["o","k"] (Bt 13 [12,9,11,0,1,2,3,4,5,6,7,8,10] (sU none (Ej 1 "o" "k"))))]))) (cE .normal))))) (cN (sL [(sX "u" (Aj .add "P" (1:Int))),(sM "P" "u")])))))
def Ce7:CE:=(cB 1 (cT [(sM "!" (.c (.v (.slice none 0 0))))] (cS (cT [(sM "&" "7"),(sX "*" (Cy "&")),(sM "1" (0:Int))] (cB 2 (cL 1000000 Ce5))) (cS (cT [(sM "G" "!"),(sU "H" (Bc (.nilq 0 false (.tmp 39) (.const (.slice none 0 0)))))] (cC "H" (cE .ret) (cE .normal))) (cT [(sM "M" "7"),(sX "N" (Cy "M")),(sU
 "L" (Bc (.mks 37 1 24 [.slice none 0 0] (.tmp 42) (.tmp 42)))),(sM "+" "L")] (cS (cT [(sM "O" "7"),(sX "Q" (Cy "O")),(sM "P" (0:Int))] (cB 4 (cL 1000000 Ce6))) (cT [(sM "p" o),(sM "t" "!"),(sM "v" "+"),(eP none "p" ["t","v"] "w"),(sX "x"
 (Lk .not "w"))] (cC "x" (cE .ret) (cE .normal)))))))))
def HV:CE:=(cT [(sX "," (Bs none o.l)),(Au 139 [","] "("),(sM "7" "(")] (cB 0 (cL 1000000 Ce7)))
def xf:FE:=⟨HV,[],81⟩
def HU:CE:=(cT [(sM o.r (.c (.v (.slice none 0 0))))] (cS (cT [(sM "7" o),(sU "!" (Bc (.nilq 0 false (.tmp 3) (.const (.slice none 0 0)))))] (cC "!" (cT [(sM o.r (.c (.v (.slice none 0 0))))] (cE .ret)) (cE .normal))) (cT [(sU "." (Bc (.bsl 24 0 1 [.slice none 0 0] []))),(sM ")" o),(sU "+" (Bc (.app 24 1 24 (.tmp 5) (.tmp 6)))),(sM o.r "+")] (cE .ret))))
def xe:FE:=⟨HU,[(2,none)],8⟩
def HT:CE:=(cT [(sM "!" (0:Int))] (cT [(sM "+" o),(Au 173 ["+"] "$"),(sM "." "$")] (cT [(sM "%" o.l),(Au 173 ["%"] ","),(sM ")" ",")] (cS (cT [(sM "(" ".")] (cC "(" (cS (cT [(sM "&" ")")] (cC "&" (cT [(sM "!" (0:Int))] (cE .ret)) (cE .normal))) (cT [(sM "!" ((-1):Int))] (cE .ret))) (cE
 .normal))) (cS (cT [(sM "*" ")")] (cC "*" (cT [(sM "!" (1:Int))] (cE .ret)) (cE .normal))) (cS (cT [(sM "1" o),(sM "5" o.l),(sX "6" (Aj .lss "1" "5"))] (cC "6" (cT [(sM "!" ((-1):Int))] (cE .ret)) (cE .normal))) (cS (cT [(sM "2" o),(sM ";" o.l),(sX "9" (Aj .gtr "2" ";"))] (cC "9" (cT
 [(sM "!" (1:Int))] (cE .ret)) (cE .normal))) (cT [(sM "!" (0:Int))] (cE .ret)))))))))
def xd:FE:=⟨HT,[(4,none)],20⟩
def M8:CE:=(cT [(sM o.r (.c (.v (.slice none 0 0))))] (cS (cT [(sM "7" o),(sU "!" (Bc (.nilq 0 false (.tmp 3) (.const (.slice none 0 0)))))] (cC "!" (cT [(sM o.r (.c (.v (.slice none 0 0))))] (cE .ret)) (cE .normal))) (cT [(sU "." (Bc (.bsl 41 0 4 [.int .i64 0,.int .i64 0,.int .i64 0,.string (bs [])] []))),(sM ")" o),(sU "+" (Bc (.app 41 4 40 (.tmp 5) (.tmp 6)))),(sM o.r "+")]
 (cE .ret))))
def xb:FE:=⟨M8,[(2,none)],8⟩
def Ce8:CE:=(cT [(sX ";" (Aj .lss "2" "6"))] (cS (cC ";" (cE .normal) (cE (.exit 0))) (cS (cB 1 (cT [(sX "9" (Cs 3 "5" "2")),(sX "<" (Bs (some 3) "9")),(sU ")" (Me 129 [.v (.string (bs [])),.v (.int .i64 0),.v (.int .i64 0)])),(sU none (Ej 3 ")" "<"))] (cS (cT [(sX "0" (Dl 0 ")")),(sX "3" (Bs none "0")),(Au
 83 ["3"] "8"),(sX "4" (Lk .not "8")),(sM "=" "4"),(sG "=" false ":" (sM ":" o.l)),(sG "=" false ">" (sX ">" (Dl 0 ")"))),(sG "=" false "?" (sX "?" (Bs none ">"))),(sG "=" false "@" (sU "@" (Bc (.lkp (.p .string) (.bool false) (.tmp 26) (.tmp 28) false)))),(sX "B" (Bz "="
 true "@"))] (cC "B" (cT [(sM "!" (11:Int))] (cE .ret)) (cE .normal))) (cS (cT [(sX "A" (Dl 1 ")")),(sX "C" (Bs none "A")),(sX "D" (Aj .lss "C" ((-1073741824):Int))),(sM "E" "D"),(sG "E" false "F" (sX "F" (Dl 1 ")"))),(sG "E" false "I"
 (sX "I" (Bs none "F"))),(sG "E" false "J" (sX "J" (Aj .gtr "I" (1073741824:Int)))),(sX "K" (Bz "E" true "J")),(sM "G" "K"),(sG "G" false "H" (sX "H" (Dl 2 ")"))),(sG "G" false "M" (sX "M" (Bs none "H"))),(sG "G"
 false "N" (sX "N" (Dl 1 ")"))),(sG "G" false "L" (sX "L" (Bs none "N"))),(sG "G" false "O" (sX "O" (Aj .lss "M" "L"))),(sX "Q" (Bz "G" true "O")),(sM "P" "Q"),(sG "P" false "T" (sX "T" (Dl 2 ")"))),(sG "P" false
 "V" (sX "V" (Bs none "T"))),(sG "P" false "U" (sX "U" (Aj .gtr "V" (1073741825:Int)))),(sX "W" (Bz "P" true "U"))] (cC "W" (cT [(sM "!" (3:Int))] (cE .ret)) (cE .normal))) (cN (sL [(sM "X" o.l),(sX "Z" (Dl 0 ")")),(sX "R" (Bs none
 "Z")),(sU none (Bc (.mup (.p .string) (.tmp 51) (.tmp 53) (.const (.bool true)))))])))))) (cN (sL [(sX "S" (Aj .add "2" (1:Int))),(sM "2" "S")])))))
def HR:CE:=(cT [(sM "!" (0:Int))] (cS (cT [(sM "+" o),(sX "$" (Cy "+")),(sX "%" (Aj .lss "$" (1:Int))),(sM "," "%"),(sG "," false "(" (sM "(" o)),(sG "," false "&" (sX "&" (Cy "("))),(sG "," false "*" (sX "*" (Aj .gtr "&" (4:Int)))),(sX "1" (Bz "," (.c (.v (.bool
 true))) "*"))] (cC "1" (cT [(sM "!" (13:Int))] (cE .ret)) (cE .normal))) (cS (cT [(sM "5" o),(sX "6" (Cy "5")),(sM "2" (0:Int))] (cB 0 (cL 1000000 Ce8))) (cT [(sM "!" (0:Int))] (cE .ret)))))
def wz:FE:=⟨HR,[(4,none)],55⟩
def Ce9:CE:=(cT [(sX "5" (Aj .lss "1" "*"))] (cS (cC "5" (cE .normal) (cE (.exit 0))) (cS (cB 1 (cT [(sM "6" "1"),(sX "2" (Cs 1 "&" "1")),(sX ";" (Bs none "2")),(sM "." "6"),(sM ")" ";")] (cT [(sM "9" ")"),(sM "<" o),(sM "0" "."),(sX "3" (Cs 3 "<" "0")),(sX "8" (Dl 1 "3")),(sX
 "4" (Bs none "8")),(sX "=" (Aj .lss "9" "4")),(sM ":" "="),(sG ":" false ">" (sM ">" ")")),(sG ":" false "?" (sM "?" o)),(sG ":" false "@" (sM "@" ".")),(sG ":" false "B" (sX "B" (Cs 3 "?" "@"))),(sG ":" false "A" (sX "A" (Bs (some 3) "B"))),(sG
 ":" false "C" (Au 180 ["A"] "C")),(sG ":" false "D" (sX "D" (Aj .gtr ">" "C"))),(sX "E" (Bz ":" true "D"))] (cC "E" (cT [(sM "!" false)] (cE .ret)) (cE .normal))))) (cN (sL [(sX "F" (Aj .add "1" (1:Int))),(sM "1" "F")])))))
def HQ:CE:=(cT [(sM "!" false)] (cS (cT [(sM "+" o.l),(sX "$" (Cy "+")),(sM "%" o),(sX "," (Cy "%")),(sX "(" (Aj .neq "$" ","))] (cC "(" (cT [(sM "!" false)] (cE .ret)) (cE .normal))) (cS (cT [(sM "&" o.l),(sX "*" (Cy "&")),(sM "1" (0:Int))] (cB 0 (cL 1000000 Ce9))) (cT [(sM "!"
 true)] (cE .ret)))))
def wy:FE:=⟨HQ,[(4,none)],36⟩
def HP:CE:=(cT [(sU o.l (Mj 41 o)),(sM o.r false)] (cS (cT [(sX "!" (Dl 0 o.l)),(sX "." (Bs none "!"))] (cB 0 (cT [(sX "+" (Aj .eql "." (0:Int))),(sM ")" "+")] (cC ")" (cT [(sX "$" (Bs (some 4) o.l)),(Au 181 ["$"] "%"),(sM "," "%"),(sG "," true "(" (sX "(" (Dl 1 o.l))),(sG "," true "&" (sX "&"
 (Bs none "("))),(sG "," true "*" (sX "*" (Aj .geq "&" (1:Int)))),(sX "1" (Bz "," "*" false)),(sM "5" "1"),(sG "5" true "6" (sX "6" (Dl 1 o.l))),(sG "5" true "2" (sX "2" (Bs none "6"))),(sG "5" true ";" (sX ";" (Aj .leq "2" (255:Int)))),(sX
 "9" (Bz "5" ";" false)),(sM o.r "9")] (cE .ret)) (cT [(sX "0" (Aj .eql "." (1:Int))),(sM "<" "0")] (cC "<" (cT [(sX "3" (Bs (some 4) o.l)),(Au 181 ["3"] "8"),(sM "4" "8"),(sG "4" true "=" (sX "=" (Dl 1 o.l))),(sG "4" true ":" (sX ":" (Bs none
 "="))),(sG "4" true ">" (sX ">" (Aj .eql ":" (0:Int)))),(sG "4" true "?" (sM "?" ">")),(sG "?" false "@" (sX "@" (Dl 1 o.l))),(sG "?" false "B" (sX "B" (Bs none "@"))),(sG "?" false "A" (sX "A" (Aj .eql "B" (1:Int)))),(sG "4" true "C"
 (sX "C" (Bz "?" true "A"))),(sX "D" (Bz "4" "C" false)),(sM o.r "D")] (cE .ret)) (cT [(sX "F" (Aj .eql "." (2:Int))),(sM "E" "F")] (cC "E" (cT [(sX "I" (Dl 3 o.l)),(sX "J" (Bs none "I")),(sX "K" (Aj .eql "J" (.c
 (.v (.string (bs [])))))),(sM "G" "K"),(sG "G" true "H" (sX "H" (Dl 2 o.l))),(sG "G" true "M" (sX "M" (Bs none "H"))),(sG "G" true "N" (sX "N" (Aj .geq "M" (1:Int)))),(sX "L" (Bz "G" "N" false)),(sM "O" "L"),(sG "O"
 true "Q" (sX "Q" (Dl 2 o.l))),(sG "O" true "P" (sX "P" (Bs none "Q"))),(sG "O" true "T" (sX "T" (Aj .leq "P" (1099511627776:Int)))),(sX "V" (Bz "O" "T" false)),(sM "U" "V"),(sG "U" true "W" (sX "W" (Dl 1 o.l))),(sG "U"
 true "X" (sX "X" (Bs none "W"))),(sG "U" true "Z" (sX "Z" (Aj .geq "X" ((-1099511627776):Int)))),(sX "R" (Bz "U" "Z" false)),(sM "S" "R"),(sG "S" true "^" (sX "^" (Dl 1 o.l))),(sG "S" true "a" (sX "a" (Bs none "^"))),(sG
 "S" true "b" (sX "b" (Aj .leq "a" (1099511627776:Int)))),(sX "[" (Bz "S" "b" false)),(sM "Y" "["),(sG "Y" true "c" (sX "c" (Dl 1 o.l))),(sG "Y" true "]" (sX "]" (Bs none "c"))),(sG "Y" true "_" (sX "_" (Dl 1
 o.l))),(sG "Y" true "e" (sX "e" (Bs none "_"))),(sG "Y" true "d" (sX "d" (Lk .neg "e"))),(sG "Y" true "f" (sU "f" (Bc (.mm true (.tmp 61) (.tmp 64))))),(sG "Y" true "g" (sX "g" (Dl 2 o.l))),(sG "Y" true "j" (sX "j" (Bs none "g"))),(sG
 "Y" true "m" (Au 182 ["f","j"] "m")),(sG "Y" true "l" (sX "l" (Aj .eql "m" (1:Int)))),(sX "n" (Bz "Y" "l" false)),(sM o.r "n")] (cE .ret)) (cT [(sX "k" (Aj .eql "." (3:Int))),(sM "r" "k")]
 (cC "r" (cT [(sM "7" (.c (.fn (.func 183) [.tup []])))] (cT [(sX "i" (Dl 1 o.l)),(sX "o" (Bs none "i")),(sX "u" (Aj .eql "o" (0:Int))),(sM "p" "u"),(sG "p" true "t" (sX "t" (Dl 2 o.l))),(sG "p" true "v" (sX "v" (Bs none "t"))),(sG
 "p" true "w" (sX "w" (Aj .eql "v" (0:Int)))),(sX "x" (Bz "p" "w" false)),(sM "q" "x"),(sG "q" true "aa" (sX "aa" (Dl 3 o.l))),(sG "q" true "h" (sX "h" (Bs none "aa"))),(sG "q" true "|"
 (sU "|" (Bc (.lns (.tmp 83))))),(sG "q" true "~" (sX "~" (Aj .leq "|" (16:Int)))),(sX "ad" (Bz "q" "~" false)),(sM "s" "ad"),(sG "s" true "ab" (sX "ab" (Dl 3 o.l))),(sG "s" true "ac" (sX "ac" (Bs none "ab"))),(sG
 "s" true "aj" (sM "aj" "7")),(sG "s" true "ag" (Au 184 ["ac","aj"] "ag")),(sG "s" true "ae" (sX "ae" (Aj .lss "ag" (0:Int)))),(sX "af" (Bz "s" "ae" false)),(sM o.r "af")] (cE .ret))) (cE .normal))))))))))) (cT
 [(sM o.r false)] (cE .ret))))
def wx:FE:=⟨HP,[(2,none)],94⟩
def M6:CE:=(cT [(sM o.r (.c (.v (.slice none 0 0))))] (cS (cT [(sM "7" o),(sU "!" (Bc (.nilq 0 false (.tmp 3) (.const (.slice none 0 0)))))] (cC "!" (cT [(sM o.r (.c (.v (.slice none 0 0))))] (cE .ret)) (cE .normal))) (cT [(sU "." (Bc (.bsl 129 0 3 [.string (bs []),.int .i64 0,.int .i64 0] []))),(sM ")" o),(sU "+" (Bc (.app 129 3 32 (.tmp 5) (.tmp 6)))),(sM o.r "+")] (cE .ret))))
def wm:FE:=⟨M6,[(2,none)],8⟩
def M5:CE:=(cT [(sM o.r (.c (.v (.slice none 0 0))))] (cS (cT [(sM "7" o),(sU "!" (Bc (.nilq 0 false (.tmp 3) (.const (.slice none 0 0)))))] (cC "!" (cT [(sM o.r (.c (.v (.slice none 0 0))))] (cE .ret)) (cE .normal))) (cT [(sU "." (Bc (.bsl 131 0 2 [.string (bs []),.int .i64 0] []))),(sM ")" o),(sU "+" (Bc (.app 131 2 24 (.tmp 5) (.tmp 6)))),(sM o.r "+")] (cE .ret))))
def wk:FE:=⟨M5,[(2,none)],8⟩
def HJ:CE:=(cT [(sM o.r false)] (cT [(sM "7" o),(sM "!" o),(sX "." (Aj .neq "7" "!")),(sM o.r ".")] (cE .ret)))
def wg:FE:=⟨HJ,[(2,none)],6⟩
def HG:CE:=(cT [(sU o.l (Mj 129 o)),(sM o.r (0:Int))] (cT [(sX "7" (Dl 2 o.l)),(sX "!" (Bs none "7")),(sU "." (Bc (.mm false (.tmp 4) (.const (.int .i64 1073741824))))),(sM o.r ".")] (cE .ret)))
def wc:FE:=⟨HG,[(2,none)],6⟩
def HF:CE:=(cT [(sU o.l (Mj 41 o)),(sM o.r false)] (cT [(sX "7" (Dl 2 o.l)),(sX "!" (Bs none "7")),(sX "." (Aj .eql "!" (0:Int))),(sM ")" "."),(sG ")" true "+" (sX "+" (Dl 3 o.l))),(sG ")" true "$" (sX "$" (Bs none "+"))),(sG ")" true "%" (sX "%" (Aj .eql "$" (.c (.v (.string (bs []))))))),(sX "," (Bz
 ")" "%" false)),(sM o.r ",")] (cE .ret)))
def wa:FE:=⟨HF,[(2,none)],11⟩
def Cf0:CE:=(cS (cT [(sM "." o.l),(sX ")" (Aj .neq "." (0:Int)))] (cC ")" (cE .normal) (cE (.exit 0)))) (cB 1 (cN (Dg 6 (dL [(dP [] 0 "+" o.l),(dP [] 1 "$" o),(dP [] 2 "%" o.l),(dX [1,2] ["$","%"] 3 "," (Aj .rem "$" "%")),(dP [0,1] 4 o "+"),(dP [3,4,0,1,2] 5 o.l ",")])))))
def HE:CE:=(cT [(sM "!" (0:Int))] (cS (cB 0 (cL 1000000 Cf0)) (cT [(sM "(" o),(sM "!" "(")] (cE .ret))))
def vz:FE:=⟨HE,[(4,none)],12⟩
def HD:CE:=(cT [(sM o.r false)] (cT [(sM "7" o),(sX "!" (Aj .lss "7" (.c (.v (.int .i32 32))))),(sM "." "!"),(sG "." false ")" (sM ")" o)),(sG "." false "+" (sX "+" (Aj .gtr ")" (.c (.v (.int .i32 126)))))),(sX "$" (Bz "." true "+")),(sM o.r "$")] (cE .ret)))
def vy:FE:=⟨HD,[(2,none)],9⟩
def HC:CE:=(cT [(sM "!" (0:Int))] (cT [(sM "." o),(sM ")" o.l),(Au 202 [".",")",true] "+"),(sM "!" "+")] (cE .ret)))
def vx:FE:=⟨HC,[(4,none)],8⟩
def Cf1:CE:=(cT [(sU "(" (Bc (.nxs (.tmp 10)))),(sX "&" (Ea "(" 0))] (cS (cC "&" (cE .normal) (cE (.exit 0))) (cB 1 (cT [(sX "*" (Ea "(" 1)),(sX "1" (Ea "(" 2)),(sM "+" "*"),(sM "$" "1")] (cT [(sM "5" o.l),(sM "6" "$"),(eP none "5" ["6"] "2"),(sM ";" o.r),(sU "9" (Bc (.bb false (.tmp 17) (.tmp
 18))))] (cC "9" (cT [(sM "<" "+"),(sM ")" "<")] (cE .ret)) (cE .normal)))))))
def GY:CE:=(cT [(sM ")" (0:Int))] (cS (cT [(sM "%" o),(sU "," (Bc (.rgs (.tmp 9))))] (cB 0 (cL 1000000 Cf1))) (cT [(sM ")" ((-1):Int))] (cE .ret))))
def vq:FE:=⟨GY,[(6,none)],21⟩
end
end Go.DD
