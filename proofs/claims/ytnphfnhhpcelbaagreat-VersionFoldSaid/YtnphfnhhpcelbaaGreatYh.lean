/- A part. -/
import Derived.Test.YtnphfnhhpcelbaaGreatYf
namespace Go.DD
noncomputable section
open Pa
instance TD : Coe Pa EO := ⟨EO.t⟩
instance SX : Coe Pa (Nat -> XP) := ⟨λp _ es => some (Ad es (.t p))⟩
open Go
set_option maxRecDepth 100000
def r13:CE:=(cT [(sU o.r (Nx 26 o)),(sM "!" false)] (cT [(sX "&" (Ea 0 o.r)),(sX "%" (Cf none "&")),(sX ")" (Ea 1 o.r)),(sX "(" (Cf none ")")),(Bj 51 ["%","("] "$"),(sM "*" "$"),(sG "*" true "," (sX "," (Ea 2 o.r))),(sG "*" true "." (sX "." (Cf none ","))),(sG "*" true "+" (sM "+" o.l)),(sG "*"
 true "1" (Bj 52 [".","+"] "1")),(sX "3" (Co "*" "1" false)),(sM "!" "3")] (cE .ret)))
def e13:FE:=⟨r13,[(4,none)],16⟩
def r24:CE:=(cT [(sM "!" (0:Int))] (cT [(sM "&" o),(sM "%" o.l),(Bj 75 ["&","%"] ")"),(sM "!" ")")] (cE .ret)))
def e24:FE:=⟨r24,[(4,none)],8⟩
def yJ:CE:=(cS (cT [(sM "3" "&"),(sM "4" o),(sX "2" (Cu "4")),(sX "7" (Ar .lss "3" "2"))] (cC "7" (cE .normal) (cE (.exit 0)))) (cS (cB 1 (cT [(sM "0" o),(sM ":" "&"),(sX ";" (Fg 3 "0" ":")),(sX "5" (Ea 0 ";")),(sX "=" (Cf none "5")),(Bj 120 ["="] "9"),(sX "<" (Nz
 .not "9"))] (cC "<" (cT [(sM "!" false)] (cE .ret)) (cE .normal)))) (cN (sL [(sM "8" "&"),(sX "6" (Ar .add "8" (1:Int))),(sM "&" "6")]))))
def yI:CE:=(cS (cT [(sM "?" "%"),(sM "@" o.l),(sX "A" (Cu "@")),(sX "B" (Ar .lss "?" "A"))] (cC "B" (cE .normal) (cE (.exit 2)))) (cS (cB 3 (cT [(sM "F" o.l),(sM "G" "%"),(sX "I" (Fg 2 "F" "G")),(sX "O" (Ea 0 "I")),(sX "N" (Cf none "O")),(Bj 120 ["N"] "E"),(sX
 "H" (Nz .not "E"))] (cC "H" (cT [(sM "!" false)] (cE .ret)) (cE .normal)))) (cN (sL [(sM "C" "%"),(sX "D" (Ar .add "C" (1:Int))),(sM "%" "D")]))))
def r51:CE:=(cT [(sM "!" false)] (cS (cT [(sM ")" o),(sX "(" (Cu ")")),(sX "$" (Ar .gtr "(" (10:Int))),(sM "*" "$"),(sG "*" false "," (sM "," o.l)),(sG "*" false "." (sX "." (Cu ","))),(sG "*" false "+" (sX "+" (Ar .gtr "." (10:Int)))),(sX "1" (Co "*" (.c (.v
 (.bool true))) "+"))] (cC "1" (cT [(sM "!" false)] (cE .ret)) (cE .normal))) (cS (cT [(sM "&" (0:Int))] (cB 0 (cL 1000000 yJ))) (cS (cT [(sM "%" (0:Int))] (cB 2 (cL 1000000 yI))) (cT [(sM "!" true)] (cE .ret))))))
def e51:FE:=⟨r51,[(4,none)],41⟩
def yH:CE:=(cS (cT [(sM "D" "%"),(sM "F" o),(sM "G" "&"),(sX "I" (Fg 2 "F" "G")),(sX "O" (Ea 1 "I")),(sX "N" (Cf none "O")),(sX "E" (Cu "N")),(sX "H" (Ar .lss "D" "E"))] (cC "H" (cE .normal) (cE (.exit 2)))) (cS (cB 3 (cT [(sM "L" o),(sM "P" "&"),(sX
 "Q" (Fg 2 "L" "P")),(sX "M" (Ea 1 "Q")),(sX "R" (Cf none "M")),(sM "T" "%"),(sX "S" (Fg 4 "R" "T")),(sX "V" (Ea 3 "S")),(sX "U" (Cf none "V")),(Bj 120 ["U"] "Y"),(sX "c" (Nz .not "Y"))] (cC "c" (cT [(sM "!" false)]
 (cE .ret)) (cE .normal)))) (cN (sL [(sM "J" "%"),(sX "K" (Ar .add "J" (1:Int))),(sM "%" "K")]))))
def yG:CE:=(cS (cT [(sM "," "&"),(sM "." o),(sX "+" (Cu ".")),(sX "1" (Ar .lss "," "+"))] (cC "1" (cE .normal) (cE (.exit 0)))) (cS (cB 1 (cS (cT [(sM "2" o),(sM "7" "&"),(sX "8" (Fg 2 "2" "7")),(sX "6" (Ea 0 "8")),(sX "0" (Cf none "6")),(sX ":" (Cu "0")),(sX ";" (Ar .gtr ":"
 (10:Int))),(sM "5" ";"),(sG "5" false "=" (sM "=" o)),(sG "5" false "9" (sM "9" "&")),(sG "5" false "<" (sX "<" (Fg 2 "=" "9"))),(sG "5" false "?" (sX "?" (Ea 1 "<"))),(sG "5" false "@" (sX "@" (Cf none "?"))),(sG "5" false "A" (sX "A" (Cu
 "@"))),(sG "5" false "B" (sX "B" (Ar .gtr "A" (10:Int)))),(sX "C" (Co "5" true "B"))] (cC "C" (cT [(sM "!" false)] (cE .ret)) (cE .normal))) (cT [(sM "%" (0:Int))] (cB 2 (cL 1000000 yH))))) (cN (sL [(sM "3" "&"),(sX "4" (Ar .add "3" (.c
 (.v (.int .i64 1))))),(sM "&" "4")]))))
def r52:CE:=(cT [(sM "!" false)] (cS (cT [(sM ")" o),(sX "(" (Cu ")")),(sM "$" o.l),(sX "*" (Ar .gtr "(" "$"))] (cC "*" (cT [(sM "!" false)] (cE .ret)) (cE .normal))) (cS (cT [(sM "&" (0:Int))] (cB 0 (cL 1000000 yG))) (cT [(sM "!" true)] (cE .ret)))))
def e52:FE:=⟨r52,[(4,none)],54⟩
def yF:CE:=(cT [(sX ";" (Ar .lss ":" "0"))] (cS (cC ";" (cE .normal) (cE (.exit 0))) (cS (cB 1 (cT [(sM "5" ":"),(sX "=" (Fg 2 "6" ":")),(sX "9" (Cf (some 2) "=")),(sU "&" (Qe 39 [.v (.slice none 0 0),.v (.slice none 0 0)])),(sM "!" "5"),(sU none (Is 2 "&" "9"))] (cS (cT [(sX "<" (Ea 0 o.l)),(sX "?"
 (Cf none "<")),(sX "@" (Ea 1 o.l)),(sX "A" (Cf none "@")),(sX "B" (Cf (some 2) "&")),(Bj 122 ["?","A","B"] "C"),(sM "%" "C")] (cT [(sM "D" "%"),(sX "F" (Ar .neq "D" (0:Int)))] (cC "F" (cT [(sM "G" "%"),(sM o.r "G")] (cE .ret)) (cE .normal)))) (cS (cT [(sM
 "I" "!"),(sX "O" (Ar .eql "I" (0:Int)))] (cC "O" (cE (.exit 1)) (cE .normal))) (cS (cN (Gk 10 (dL [(dX [] [o.l] 0 "N" (Ea 2 o.l)),(dY [0] ["N"] 1 "E" (Cf none "N")),(dP [] 2 "H" "!"),(dX [2] ["H"] 3 "J" (Ar .sub "H" (1:Int))),(dX [1,3,0,2] ["E","J"]
 4 "K" (Fg 2 "E" "J")),(dX [4,1,3,0,2] ["K"] 5 "L" (Ea 0 "K")),(dY [5,4,1,3,0,2] ["L"] 6 "P" (Cf none "L")),(dX [] ["&"] 7 "Q" (Ea 0 "&")),(dY [7] ["Q"] 8 "M" (Cf none "Q")),(Bx [6,8,5,4,1,3,0,2,7] ["P","M"] (Cx 9 [6,8,5,4,1,3,0,2,7] (Bj 24 ["P","M"]
 "R")))]))) (cB 2 (cT [(sX "S" (Ar .eql "R" (0:Int))),(sM "T" "S")] (cC "T" (cT [(sM o.r (5:Int))] (cE .ret)) (cT [(sX "U" (Ar .eql "R" (1:Int))),(sM "V" "U")] (cC "V" (cT [(sM o.r (2:Int))] (cE .ret)) (cE .normal))))))))))) (cN (sL [(sX "Y"
 (Ar .add ":" (1:Int))),(sM ":" "Y")])))))
def r57:CE:=(cT [(sU o.l (Nx 26 o)),(sM o.r (0:Int))] (cS (cT [(sX ")" (Ea 0 o.l)),(sX "(" (Cf none ")")),(sX "$" (Ea 1 o.l)),(sX "*" (Cf none "$")),(Bj 121 ["(","*"] ","),(sM ">" ",")] (cT [(sM "." ">"),(sX "+" (Ar .neq "." (0:Int)))] (cC "+" (cT [(sM "1" ">"),(sM o.r "1")] (cE .ret)) (cE
 .normal)))) (cS (cT [(sX "3" (Ea 2 o.l)),(sX "4" (Cf none "3")),(sX "2" (Cu "4")),(sX "7" (Ar .gtr "2" (4096:Int)))] (cC "7" (cT [(sM o.r (9:Int))] (cE .ret)) (cE .normal))) (cS (cT [(sX "8" (Ea 2 o.l)),(sX "6" (Cf none "8")),(sX "0" (Cu "6")),(sM ":" (0:Int))]
 (cB 0 (cL 1000000 yF))) (cT [(sM o.r (0:Int))] (cE .ret))))))
def e57:FE:=⟨r57,[(2,none)],53⟩
def r68:CE:=(cT [(sU o.l (Nx 201 o)),(sM o.r (.c (.v .nilFunc)))] (cT [(sU ">" (Bi (.mkf (.func 138) [] [.tmp 1]))),(sM o.r ">")] (cE .ret)))
def e68:FE:=⟨r68,[(2,none)],4⟩
def yB:CE:=(cT [(sX "1" (Ar .lss "+" "."))] (cS (cC "1" (cE .normal) (cE (.exit 0))) (cS (cB 1 (cT [(sM "3" "+"),(sM "&" "3")] (cS (cN (Gk 9 (dL [(dP [] 0 "4" o),(dP [] 1 "2" "&"),(dX [0,1] ["4","2"] 2 "7" (Fg 4 "4" "2")),(dY [2,0,1] ["7"] 3 "8" (Cf (some 4) "7")),(dP [] 4 "6" o.l),(dP [] 5
 "0" "&"),(dX [4,5] ["6","0"] 6 ":" (Fg 4 "6" "0")),(dY [6,4,5] [":"] 7 ";" (Cf (some 4) ":")),(Bx [3,7,2,0,1,6,4,5] ["8",";"] (Ch 8 [3,7,2,0,1,6,4,5] false false "5" (Fu (Bi (.eqs true [0,0,0,2] (.tmp 19) (.tmp 23)))) ["8",";"]))]))) (cC "5" (cT [(sM "!" false)] (cE .ret)) (cE
 .normal))))) (cN (sL [(sX "=" (Ar .add "+" (1:Int))),(sM "+" "=")])))))
def r69:CE:=(cT [(sM "!" false)] (cS (cT [(sM "%" o),(sX ")" (Cu "%")),(sM "(" o.l),(sX "$" (Cu "(")),(sX "*" (Ar .neq ")" "$"))] (cC "*" (cT [(sM "!" false)] (cE .ret)) (cE .normal))) (cS (cT [(sM "," o),(sX "." (Cu ",")),(sM "+" (0:Int))] (cB 0 (cL 1000000 yB))) (cT [(sM "!" (.c
 (.v (.bool true))))] (cE .ret)))))
def e69:FE:=⟨r69,[(4,none)],26⟩
def ZB:CE:=(cT [(sM o.r (.c (.v (.slice none 0 0))))] (cS (cT [(sM ">" o),(sU "!" (Bi (.nilq 0 false (.tmp 3) (.const (.slice none 0 0)))))] (cC "!" (cT [(sM o.r (.c (.v (.slice none 0 0))))] (cE .ret)) (cE .normal))) (cT [(sU "&" (Bi (.bsl 3 0 1 [.int .i64 0] []))),(sM "%" o),(sU ")" (Bi (.app 3 1 8 (.tmp 5) (.tmp 6)))),(sM o.r ")")] (cE .ret))))
def e70:FE:=⟨ZB,[(2,none)],8⟩
def yA:CE:=(cT [(sX "." (Ar .lss "," "*"))] (cS (cC "." (cE .normal) (cE (.exit 0))) (cS (cB 1 (cT [(sM "+" ","),(sX "1" (Fg 1 "$" ",")),(sX "3" (Cf none "1")),(sM "&" "+"),(sM "%" "3")] (cS (cT [(sM "4" "&"),(sM "2" o.l),(sX "7" (Cu "2")),(sX "8" (Ar .geq "4" "7"))] (cC "8" (cT [(sM
 "!" (1:Int))] (cE .ret)) (cE .normal))) (cT [(sM "6" o.l),(sM "0" "&"),(sX ":" (Fg 1 "6" "0")),(sX ";" (Cf none ":")),(sM ")" ";")] (cT [(sM "5" "%"),(sM "=" ")"),(Bj 141 ["5","="] "9"),(sM "(" "9")] (cT [(sM "<" "("),(sX "?" (Ar .neq "<" (.c (.v (.int .i64
 0)))))] (cC "?" (cT [(sM "@" "("),(sM "!" "@")] (cE .ret)) (cE .normal)))))))) (cN (sL [(sX "A" (Ar .add "," (1:Int))),(sM "," "A")])))))
def r75:CE:=(cT [(sM "!" (0:Int))] (cS (cT [(sM "$" o),(sX "*" (Cu "$")),(sM "," (0:Int))] (cB 0 (cL 1000000 yA))) (cS (cT [(sM "B" o),(sX "C" (Cu "B")),(sM "D" o.l),(sX "F" (Cu "D")),(sX "G" (Ar .lss "C" "F"))] (cC "G" (cT [(sM "!" ((-1):Int))]
 (cE .ret)) (cE .normal))) (cT [(sM "!" (0:Int))] (cE .ret)))))
def e75:FE:=⟨r75,[(4,none)],36⟩
def xZ:CE:=(cT [(sX "1" (Ar .lss "+" "."))] (cS (cC "1" (cE .normal) (cE (.exit 0))) (cS (cB 1 (cT [(sM "3" "+"),(sM "&" "3")] (cS (cN (Gk 9 (dL [(dP [] 0 "4" o),(dP [] 1 "2" "&"),(dX [0,1] ["4","2"] 2 "7" (Fg 3 "4" "2")),(dY [2,0,1] ["7"] 3 "8" (Cf (some 3) "7")),(dP [] 4 "6" o.l),(dP [] 5
 "0" "&"),(dX [4,5] ["6","0"] 6 ":" (Fg 3 "6" "0")),(dY [6,4,5] [":"] 7 ";" (Cf (some 3) ":")),(Bx [3,7,2,0,1,6,4,5] ["8",";"] (Ch 8 [3,7,2,0,1,6,4,5] false false "5" (Fu (Bi (.eqs true [2,0,0] (.tmp 19) (.tmp 23)))) ["8",";"]))]))) (cC "5" (cT [(sM "!" false)] (cE .ret)) (cE .normal)))))
 (cN (sL [(sX "=" (Ar .add "+" (1:Int))),(sM "+" "=")])))))
def r76:CE:=(cT [(sM "!" false)] (cS (cT [(sM "%" o),(sX ")" (Cu "%")),(sM "(" o.l),(sX "$" (Cu "(")),(sX "*" (Ar .neq ")" "$"))] (cC "*" (cT [(sM "!" false)] (cE .ret)) (cE .normal))) (cS (cT [(sM "," o),(sX "." (Cu ",")),(sM "+" (0:Int))] (cB 0 (cL 1000000 xZ))) (cT [(sM "!" (.c
 (.v (.bool true))))] (cE .ret)))))
def e76:FE:=⟨r76,[(4,none)],26⟩
def xY:CE:=(cT [(sX "1" (Ar .lss "+" "."))] (cS (cC "1" (cE .normal) (cE (.exit 0))) (cS (cB 1 (cT [(sM "3" "+"),(sM "&" "3")] (cS (cN (Gk 9 (dL [(dP [] 0 "4" o),(dP [] 1 "2" "&"),(dX [0,1] ["4","2"] 2 "7" (Fg 2 "4" "2")),(dY [2,0,1] ["7"] 3 "8" (Cf (some 2) "7")),(dP [] 4 "6" o.l),(dP [] 5
 "0" "&"),(dX [4,5] ["6","0"] 6 ":" (Fg 2 "6" "0")),(dY [6,4,5] [":"] 7 ";" (Cf (some 2) ":")),(Bx [3,7,2,0,1,6,4,5] ["8",";"] (Ch 8 [3,7,2,0,1,6,4,5] false false "5" (Fu (Bi (.eqs true [2,0] (.tmp 19) (.tmp 23)))) ["8",";"]))]))) (cC "5" (cT [(sM "!" false)] (cE .ret)) (cE .normal)))))
 (cN (sL [(sX "=" (Ar .add "+" (1:Int))),(sM "+" "=")])))))
def r77:CE:=(cT [(sM "!" false)] (cS (cT [(sM "%" o),(sX ")" (Cu "%")),(sM "(" o.l),(sX "$" (Cu "(")),(sX "*" (Ar .neq ")" "$"))] (cC "*" (cT [(sM "!" false)] (cE .ret)) (cE .normal))) (cS (cT [(sM "," o),(sX "." (Cu ",")),(sM "+" (0:Int))] (cB 0 (cL 1000000 xY))) (cT [(sM "!" (.c
 (.v (.bool true))))] (cE .ret)))))
def e77:FE:=⟨r77,[(4,none)],26⟩
def xW:CE:=(cT [(sX "1" (Ar .lss "+" "."))] (cS (cC "1" (cE .normal) (cE (.exit 0))) (cS (cB 1 (cT [(sM "3" "+"),(sM "&" "3")] (cS (cN (Gk 9 (dL [(dP [] 0 "4" o),(dP [] 1 "2" "&"),(dX [0,1] ["4","2"] 2 "7" (Fg 1 "4" "2")),(dY [2,0,1] ["7"] 3 "8" (Cf none "7")),(dP [] 4 "6" o.l),(dP [] 5 "0"
 "&"),(dX [4,5] ["6","0"] 6 ":" (Fg 1 "6" "0")),(dY [6,4,5] [":"] 7 ";" (Cf none ":")),(dX [3,7,2,0,1,6,4,5] ["8",";"] 8 "5" (Ar .neq "8" ";"))]))) (cC "5" (cT [(sM "!" false)] (cE .ret)) (cE .normal))))) (cN (sL [(sX "=" (Ar .add "+" (1:Int))),(sM "+" "=")])))))
def r80:CE:=(cT [(sM "!" false)] (cS (cT [(sM "%" o),(sX ")" (Cu "%")),(sM "(" o.l),(sX "$" (Cu "(")),(sX "*" (Ar .neq ")" "$"))] (cC "*" (cT [(sM "!" false)] (cE .ret)) (cE .normal))) (cS (cT [(sM "," o),(sX "." (Cu ",")),(sM "+" (0:Int))] (cB 0 (cL 1000000 xW))) (cT [(sM "!" (.c
 (.v (.bool true))))] (cE .ret)))))
def e80:FE:=⟨r80,[(4,none)],26⟩
def AQ:DC:=.seq (.reg false [⟨some 6,none,.mv (.tmp 12),[]⟩] ⟨[],true⟩) (.reg false [⟨some 7,none,.mv (.tmp 13),[]⟩] ⟨[],true⟩)
def AP:DC:=.blk 1 (.seq (.reg true [⟨some 14,none,.mv (.tmp 7),[]⟩,⟨some 15,none,.ia 1 (.tmp 14) (.const (.int .i64 0)),[0]⟩,⟨some 16,none,.ld none (.tmp 15),[1]⟩,⟨some 17,none,.mv (.tmp 7),[]⟩,⟨some 18,none,.ia 1 (.tmp 17) (.const (.int .i64 1)),[3]⟩,⟨some 19,none,.ld none (.tmp 18),[4]⟩,⟨some 20,none,.call 69 [.tmp 16,.tmp 19],[2,5]⟩,⟨some 21,none,.un .not (.tmp 20),[6]⟩] ⟨[⟨[],0,0,false⟩,⟨[0],0,0,false⟩,⟨[1,0],0,0,false⟩,⟨[],0,0,false⟩,⟨[3],0,0,false⟩,⟨[4,3],0,0,false⟩,⟨[2,5,1,0,4,3],2,0,true⟩,⟨[6,2,5,1,0,4,3],0,0,false⟩],true⟩)
 (.cond (.tmp 21) (.reg true [⟨some 22,none,.ld none (.tmp 5),[]⟩,⟨some 23,none,.mv (.tmp 6),[]⟩,⟨some 24,none,.call 70 [.tmp 23],[1]⟩,⟨some 25,none,.mv (.tmp 7),[]⟩,⟨some 26,none,.ia 1 (.tmp 25) (.const (.int .i64 1)),[3]⟩,⟨some 27,none,.ld none (.tmp 26),[4]⟩,⟨some 28,none,.call 142 [.tmp 27],[5,2]⟩,⟨some 29,none,.bld [.slice none 0 0,.slice none 0 0] [(0,1,.tmp 24),(1,1,.tmp 28)],[2,6]⟩,⟨some 30,none,.bsl
 62 1 2 [.slice none 0 0,.slice none 0 0] [(0,2,.tmp 29)],[7]⟩,⟨some 31,none,.app 62 2 48 (.tmp 22) (.tmp 30),[0,8,6]⟩,⟨none,none,.st 1 (.tmp 5) (.tmp 31),[9,0,1,2,3,4,5,6,7,8]⟩] ⟨[⟨[],0,0,true⟩,⟨[],0,0,false⟩,⟨[1],2,0,true⟩,⟨[],0,0,true⟩,⟨[3],0,0,true⟩,⟨[4,3],0,0,true⟩,⟨[5,2,4,3,1],2,0,true⟩,⟨[2,6,1,5,4,3],0,0,false⟩,⟨[7,2,6,1,5,4,3],1,0,false⟩,⟨[0,8,6,7,2,1,5,4,3],2,0,true⟩,⟨[9,0,1,2,3,4,5,6,7,8],2,0,true⟩],true⟩)
 .skip))
def uc:CE:=(cT [(sM "%" ".")] (cN (sL [(sM ")" "+")])))
def ua:CE:=(cB 1 (cS (cN (Gk 8 (dL [(dP [] 0 "1" ")"),(dX [0] ["1"] 1 "3" (Fg 1 "1" (0:Int))),(dY [1,0] ["3"] 2 "4" (Cf none "3")),(dP [] 3 "2" ")"),(dX [3] ["2"] 4 "7" (Fg 1 "2" (1:Int))),(dY [4,3] ["7"] 5 "8" (Cf none "7")),(Bx [2,5,1,0,4,3] ["4","8"] (Cx
 6 [2,5,1,0,4,3] (Bj 69 ["4","8"] "6"))),(dX [6,2,5,1,0,4,3] ["6"] 7 "0" (Nz .not "6"))]))) (cC "0" (cN (Gk 11 (dL [(Bx [] ["&"] (Ch 0 [] true true ":" (λ_ => (Cf none "&")) ["&"])),(dP [] 1 ";" "%"),(Bx [1] [";"] (Cx 2 [1] (Bj 70 [";"] "5"))),(Bx [] [")"] (Ch 3 [] true false "=" (")":Pa)
 [")"])),(Bx [3] ["="] (Ch 4 [3] true false "9" (λ_ => (Fg 1 "=" (1:Int))) ["="])),(Bx [4,3] ["9"] (Ch 5 [4,3] true true "<" (λ_ => (Cf none "9")) ["9"])),(Bx [5,2,4,3,1] ["<"] (Cx 6 [5,2,4,3,1] (Bj 142 ["<"] "?"))),(Bx [2,6,1,5,4,3] ["5","?"] (Ch 7 [2,6,1,5,4,3] false false
 "@" (Fu (Bi (.bld [.slice none 0 0,.slice none 0 0] [(0,1,.tmp 24),(1,1,.tmp 28)]))) ["5","?"])),(Bx [7,2,6,1,5,4,3] ["@"] (Qa 8 [7,2,6,1,5,4,3] false false "A" (Bi (.bsl 62 1 2 [.slice none 0 0,.slice none 0 0] [(0,2,.tmp 29)])) ["@"])),(Bx [0,8,6,7,2,1,5,4,3] [":","A"] (Cx 9 [0,8,6,7,2,1,5,4,3] (sU "B" (Bi (.app 62 2 48 (.tmp
 22) (.tmp 30)))))),(Bx [9,0,1,2,3,4,5,6,7,8] ["&","B"] (Cx 10 [9,0,1,2,3,4,5,6,7,8] (sU none (Is 1 "&" "B"))))]))) (cE .normal))))
def r81:CE:=(cT [(sM "!" (.c (.v (.slice none 0 0))))] (cT [(sU "&" (Qe 109 [.v (.slice none 0 0)]))] (cS (cT [(sM "(" o),(sM "$" o.l),(sU "*" (Bi (.bsl 24 2 1 [.slice none 0 0] [(0,1,.tmp 8),(1,1,.tmp 9)]))),(Bj 68 ["*"] ",")] (cB 0 (cR 33 false "," [12,13] AQ AP))) (cT [(sX "C" (Cf none "&")),(sM "!" "C")] (cE .ret)))))
def e81:FE:=⟨r81,[(4,none)],33⟩
def xV:CE:=(cT [(sX "7" (Ar .lss "2" "4"))] (cS (cC "7" (cE .normal) (cE (.exit 0))) (cS (cB 1 (cT [(sM "8" "2"),(sX "6" (Fg 1 "3" "2")),(sX "0" (Cf none "6")),(sM ">" "8"),(sM "!" "0")] (cT [(sM ":" "!"),(sX ";" (Ar .geq ":" (.c (.v (.int .u8 97))))),(sM "5" ";"),(sG "5"
 true "=" (sM "=" "!")),(sG "5" true "9" (sX "9" (Ar .leq "=" (.c (.v (.int .u8 122)))))),(sX "<" (Co "5" "9" false)),(sM "&" "<")] (cT [(sM "?" "&"),(sX "@" (Nz .not "?")),(sM "A" "@"),(sG "A" true "B" (sM "B" ">")),(sG "A" true "C" (sX "C"
 (Ar .eql "B" (0:Int)))),(sG "A" true "D" (sM "D" "C")),(sG "D" false "F" (sM "F" "!")),(sG "D" false "G" (sX "G" (Ar .neq "F" (.c (.v (.int .u8 95)))))),(sG "D" false "I" (sM "I" "G")),(sG "I" true "O" (sM "O" "!")),(sG "I"
 true "N" (sX "N" (Ar .lss "O" (.c (.v (.int .u8 48)))))),(sG "I" true "E" (sM "E" "N")),(sG "E" false "H" (sM "H" "!")),(sG "E" false "J" (sX "J" (Ar .gtr "H" (.c (.v (.int .u8 57)))))),(sG "I" true "K" (sX "K" (Co "E" true "J"))),(sG
 "D" false "L" (sX "L" (Co "I" "K" false))),(sG "A" true "P" (sX "P" (Co "D" true "L"))),(sX "Q" (Co "A" "P" false))] (cC "Q" (cT [(sM o.r false)] (cE .ret)) (cE .normal)))))) (cN (sL [(sX "M" (Ar .add "2"
 (1:Int))),(sM "2" "M")])))))
def r83:CE:=(cT [(sM o.r false)] (cS (cT [(sM "%" o),(sU ")" (Bi (.lns (.tmp 6)))),(sX "(" (Ar .lss ")" (1:Int))),(sM "$" "("),(sG "$" false "*" (sM "*" o)),(sG "$" false "," (sU "," (Bi (.lns (.tmp 10))))),(sG "$" false "." (sX "." (Ar .gtr "," (12:Int)))),(sX "+" (Co "$"
 true "."))] (cC "+" (cT [(sM o.r false)] (cE .ret)) (cE .normal))) (cS (cT [(sM "1" o),(sU "3" (Bi (.s2b (.tmp 14)))),(sX "4" (Cu "3")),(sM "2" (0:Int))] (cB 0 (cL 1000000 xV))) (cT [(sM o.r true)] (cE .ret)))))
def e83:FE:=⟨r83,[(2,none)],47⟩
def FZ:CE:=(cT [(sM o.r false)] (cT [(sM ">" o),(sU "!" (Bi (.lns (.tmp 3)))),(sX "&" (Ar .leq "!" (40:Int))),(sM o.r "&")] (cE .ret)))
def sd:FE:=⟨FZ,[(2,none)],6⟩
def Ch5:CE:=(cT [(sX "<" (Ar .lss "9" "="))] (cS (cC "<" (cE .normal) (cE (.exit 0))) (cS (cB 1 (cT [(sX "?" (Fg 2 "5" "9")),(sX "@" (Cf (some 2) "?")),(sU "(" (Qe 131 [.v (.string (bs [])),.v (.int .i64 0)])),(sU none (Is 2 "(" "@"))] (cS (cT [(sX "A" (Ea 0 "(")),(sX "B" (Cf none "A")),(Bj 83 ["B"]
 "C"),(sX "D" (Nz .not "C")),(sM "F" "D"),(sG "F" false "G" (sM "G" "&")),(sG "F" false "I" (sX "I" (Ea 0 "("))),(sG "F" false "O" (sX "O" (Cf none "I"))),(sG "F" false "N" (sU "N" (Bi (.lkp (.p .string) (.bool false) (.tmp 35) (.tmp 37) false)))),(sX
 "E" (Co "F" true "N"))] (cC "E" (cT [(sM "!" (11:Int))] (cE .ret)) (cE .normal))) (cS (cT [(sX "H" (Ea 1 "(")),(sX "J" (Cf none "H")),(sX "K" (Ar .lss "J" (1:Int))),(sM "L" "K"),(sG "L" false "P" (sX "P" (Ea 1 "("))),(sG "L"
 false "Q" (sX "Q" (Cf none "P"))),(sG "L" false "M" (sX "M" (Ar .gtr "Q" (4:Int)))),(sX "R" (Co "L" true "M"))] (cC "R" (cT [(sM "!" (12:Int))] (cE .ret)) (cE .normal))) (cN (sL [(sM "T" "&"),(sX "S" (Ea 0 "(")),(sX "V" (Cf
 none "S")),(sU none (Bi (.mup (.p .string) (.tmp 48) (.tmp 50) (.const (.bool true)))))])))))) (cN (sL [(sX "U" (Ar .add "9" (1:Int))),(sM "9" "U")])))))
def FY:CE:=(cT [(sM "!" (0:Int))] (cT [(sU "$" (Bi (.mkm))),(sM "&" "$")] (cS (cT [(sM "*" o),(sM "," "&"),(Bj 156 ["*",","] "."),(sM "%" ".")] (cT [(sM "+" "%"),(sX "1" (Ar .neq "+" (0:Int)))] (cC "1" (cT [(sM "3" "%"),(sM "!" "3")] (cE .ret)) (cE .normal)))) (cS (cT [(sM "4" o.l),(sX
 "2" (Cu "4")),(sX "7" (Ar .lss "2" (1:Int))),(sM "8" "7"),(sG "8" false "6" (sM "6" o.l)),(sG "8" false "0" (sX "0" (Cu "6"))),(sG "8" false ":" (sX ":" (Ar .gtr "0" (6:Int)))),(sX ";" (Co "8" true ":"))] (cC ";" (cT
 [(sM "!" (9:Int))] (cE .ret)) (cE .normal))) (cS (cT [(sM "5" o.l),(sX "=" (Cu "5")),(sM "9" (0:Int))] (cB 0 (cL 1000000 Ch5))) (cT [(sM "!" (0:Int))] (cE .ret)))))))
def sb:FE:=⟨FY,[(4,none)],52⟩
def Ch6:CE:=(cT [(sX "C" (Ar .lss "B" "A"))] (cS (cC "C" (cE .normal) (cE (.exit 0))) (cS (cB 1 (cT [(sM "D" "B"),(sX "F" (Fg 4 "@" "B")),(sX "G" (Cf (some 4) "F")),(sU "(" (Qe 41 [.v (.int .i64 0),.v (.int .i64 0),.v (.int .i64 0),.v (.string (bs []))])),(sM ")" "D"),(sU none (Is 4 "(" "G"))]
 (cS (cN (Gk 8 (dL [(dY [] ["("] 0 "I" (Cf (some 4) "(")),(dP [] 1 "O" o.l),(dP [] 2 "N" ")"),(dX [1,2] ["O","N"] 3 "E" (Fg 2 "O" "N")),(dX [3,1,2] ["E"] 4 "H" (Ea 1 "E")),(dY [4,3,1,2] ["H"] 5 "J" (Cf none "H")),(Bx [0,5,4,3,1,2] ["I","J"] (Cx 6 [0,5,4,3,1,2]
 (Bj 123 ["I","J"] "K"))),(dX [6,0,5,4,3,1,2] ["K"] 7 "L" (Nz .not "K"))]))) (cC "L" (cT [(sM "%" (12:Int))] (cE .ret)) (cE .normal))))) (cN (sL [(sX "P" (Ar .add "B" (1:Int))),(sM "B" "P")])))))
def FX:CE:=(cT [(sU "&" (Nx 39 o.r)),(sM "%" (0:Int))] (cS (cT [(sX "$" (Ea 0 "&")),(sX "*" (Cf none "$")),(sX "," (Cu "*")),(sM "." o),(sX "+" (Cu ".")),(sX "1" (Ar .neq "," "+")),(sM "3" "1"),(sG "3" false "4" (sX "4" (Ea 1 "&"))),(sG "3" false "2" (sX "2" (Cf none "4"))),(sG
 "3" false "7" (sX "7" (Cu "2"))),(sG "3" false "8" (sM "8" o.l)),(sG "3" false "6" (sX "6" (Cu "8"))),(sG "3" false "0" (sX "0" (Ar .neq "7" "6"))),(sX ":" (Co "3" true "0"))] (cC ":" (cT [(sM "%" (13:Int))] (cE .ret)) (cE .normal))) (cS
 (cT [(sM ";" o),(sX "5" (Ea 0 "&")),(sX "=" (Cf none "5")),(Bj 157 [";","="] "9"),(sX "<" (Nz .not "9"))] (cC "<" (cT [(sM "%" (3:Int))] (cE .ret)) (cE .normal))) (cS (cT [(sX "?" (Ea 1 "&")),(sX "@" (Cf none "?")),(sX "A" (Cu "@")),(sM "B" (0:Int))] (cB 0
 (cL 1000000 Ch6))) (cT [(sM "%" (0:Int))] (cE .ret))))))
def sa:FE:=⟨FX,[(6,none)],45⟩
def FW:CE:=(cT [(sU o.r (Nx 41 o)),(sM "!" false)] (cS (cT [(sX "&" (Cf (some 4) o.r)),(Bj 158 ["&"] "%"),(sX ")" (Nz .not "%")),(sM "(" ")"),(sG "(" false "$" (sM "$" o.l)),(sG "(" false "*" (sX "*" (Ar .lss "$" (1:Int)))),(sX "," (Co "(" true "*")),(sM "." ","),(sG
 "." false "+" (sM "+" o.l)),(sG "." false "1" (sX "1" (Ar .gtr "+" (4:Int)))),(sX "3" (Co "." true "1"))] (cC "3" (cT [(sM "!" false)] (cE .ret)) (cE .normal))) (cS (cT [(sX "4" (Ea 0 o.r)),(sX "2" (Cf none "4"))] (cB 0 (cT [(sX "8" (Ar .eql "2" (.c (.v (.int .i64
 1))))),(sM "7" "8")] (cC "7" (cT [(sM "6" o.l),(sX "0" (Ar .eql "6" (1:Int))),(sM "!" "0")] (cE .ret)) (cT [(sX ";" (Ar .eql "2" (2:Int))),(sM ":" ";")] (cC ":" (cT [(sM "5" o.l),(sX "=" (Ar .eql "5" (3:Int))),(sM "9" "="),(sG "9" false "<"
 (sM "<" o.l)),(sG "9" false "?" (sX "?" (Ar .eql "<" (2:Int)))),(sG "9" false "@" (sM "@" "?")),(sG "@" true "A" (sX "A" (Ea 2 o.r))),(sG "@" true "B" (sX "B" (Cf none "A"))),(sG "@" true "C" (sX "C" (Ar .eql "B" (1:Int)))),(sG "9"
 false "D" (sX "D" (Co "@" "C" false))),(sX "F" (Co "9" true "D")),(sM "!" "F")] (cE .ret)) (cT [(sX "I" (Ar .eql "2" (3:Int))),(sM "G" "I")] (cC "G" (cT [(sM "O" o.l),(sX "N" (Ar .eql "O" (4:Int))),(sM
 "!" "N")] (cE .ret)) (cE .normal))))))))) (cT [(sM "!" true)] (cE .ret)))))
def ru:FE:=⟨FW,[(4,none)],39⟩
def Ch7:CE:=(cT [(sX "3" (Ar .lss "1" "+"))] (cS (cC "3" (cE .normal) (cE (.exit 2))) (cS (cB 3 (cT [(sX "4" (Fg 1 "." "1")),(sX "2" (Cf none "4")),(sM "%" "2")] (cT [(sM "7" "%"),(sX "8" (Cu "7")),(sX "6" (Ar .gtr "8" (0:Int))),(sM "0" "6"),(sG "0" true ":" (sM ":"
 "!")),(sG "0" true ";" (sU ";" (Bi (.nilq 0 false (.tmp 22) (.const (.slice none 0 0)))))),(sG "0" true "5" (sM "5" ";")),(sG "5" false "=" (sM "=" "%")),(sG "5" false "9" (sX "9" (Fg 2 "=" (0:Int)))),(sG "5" false "<" (sX "<" (Ea 0 "9"))),(sG "5" false "?"
 (sX "?" (Cf none "<"))),(sG "5" false "@" (sM "@" "!")),(sG "5" false "A" (Bj 24 ["?","@"] "A")),(sG "5" false "B" (sX "B" (Ar .lss "A" (0:Int)))),(sG "0" true "C" (sX "C" (Co "5" true "B"))),(sX "D" (Co "0" "C"
 false))] (cC "D" (cN (sL [(sM "F" "%"),(sX "G" (Fg 2 "F" (0:Int))),(sX "I" (Ea 0 "G")),(sX "O" (Cf none "I")),(sM "!" "O")])) (cE .normal))))) (cN (sL [(sX "N" (Ar .add "1" (1:Int))),(sM "1" "N")])))))
def Ch8:CE:=(cT [(sX "R" (Ar .lss "M" "Q"))] (cS (cC "R" (cE .normal) (cE (.exit 4))) (cS (cB 5 (cT [(sM "T" "M"),(sX "S" (Fg 1 "P" "M")),(sX "V" (Cf none "S")),(sM "(" "T"),(sM "$" "V")] (cT [(sM "U" "$"),(sX "Y" (Cu "U")),(sX "c" (Ar .gtr "Y"
 (0:Int))),(sM "W" "c"),(sG "W" true "^" (sM "^" "$")),(sG "W" true "d" (sX "d" (Fg 2 "^" (0:Int)))),(sG "W" true "h" (sX "h" (Ea 0 "d"))),(sG "W" true "Z" (sX "Z" (Cf none "h"))),(sG "W" true "X" (sM "X"
 "!")),(sG "W" true "e" (Bj 24 ["Z","X"] "e")),(sG "W" true "a" (sX "a" (Ar .eql "e" (0:Int)))),(sX "_" (Co "W" "a" false))] (cC "_" (cN (Gk 14 (dL [(dP [] 0 "f" ")"),(dP [] 1 "b" "("),(Bx [] [">"] (Ch 2 [] true false
 "i" (">":Pa) [">"])),(Bx [] ["("] (Ch 3 [] true false "]" ("(":Pa) ["("])),(dP [] 4 "g" "$"),(dX [4] ["g"] 5 "o" (Fg 2 "g" (0:Int))),(dX [5,4] ["o"] 6 "j" (Ea 1 "o")),(dY [6,5,4] ["j"] 7 "l" (Cf none "j")),(Bx [] ["$"] (Ch 8 [] true false
 "q" ("$":Pa) ["$"])),(Bx [8] ["q"] (Ch 9 [8] true false "t" (Fu (Bi (.sli 2 (.tmp 71) (some (.const (.int .i64 1))) none))) ["q"])),(dX [0,1,4,5,6,7] ["f","b"] 10 "k" (Fg 1 "f" "b")),(Bx [10,7,0,1,4,5,6] ["k","l"] (Cx 11 [10,7,0,1,4,5,6] (sU none (Is 1 "k" "l")))),(dX
 [2,3,0,1,4,5,6,7,8,9,10,11] ["i","]"] 12 "u" (Fg 1 "i" "]")),(Bx [12,9,11,0,1,2,3,4,5,6,7,8,10] ["u","t"] (Cx 13 [12,9,11,0,1,2,3,4,5,6,7,8,10] (sU none (Is 1 "u" "t"))))]))) (cE .normal))))) (cN (sL [(sX "z" (Ar .add "M" (1:Int))),(sM "M" "z")])))))
def Ch9:CE:=(cB 1 (cT [(sM "!" (.c (.v (.slice none 0 0))))] (cS (cT [(sM "." ">"),(sX "+" (Cu ".")),(sM "1" (0:Int))] (cB 2 (cL 1000000 Ch7))) (cS (cT [(sM "E" "!"),(sU "H" (Bi (.nilq 0 false (.tmp 39) (.const (.slice none 0 0)))))] (cC "H" (cE .ret) (cE .normal))) (cT [(sM "J" ">"),(sX "K" (Cu "J")),(sU
 "L" (Bi (.mks 37 1 24 [.slice none 0 0] (.tmp 42) (.tmp 42)))),(sM ")" "L")] (cS (cT [(sM "P" ">"),(sX "Q" (Cu "P")),(sM "M" (0:Int))] (cB 4 (cL 1000000 Ch8))) (cT [(sM "v" o),(sM "|" "!"),(sM "y" ")"),(eA none "v" ["|","y"] "~"),(sX "ak"
 (Nz .not "~"))] (cC "ak" (cE .ret) (cE .normal)))))))))
def FM:CE:=(cT [(sX "*" (Cf none o.l)),(Bj 139 ["*"] ","),(sM ">" ",")] (cB 0 (cL 1000000 Ch9)))
def qx:FE:=⟨FM,[],81⟩
def FL:CE:=(cT [(sM o.r (.c (.v (.slice none 0 0))))] (cS (cT [(sM ">" o),(sU "!" (Bi (.nilq 0 false (.tmp 3) (.const (.slice none 0 0)))))] (cC "!" (cT [(sM o.r (.c (.v (.slice none 0 0))))] (cE .ret)) (cE .normal))) (cT [(sU "&" (Bi (.bsl 24 0 1 [.slice none 0 0] []))),(sM "%" o),(sU ")" (Bi (.app 24 1 24 (.tmp 5) (.tmp 6)))),(sM o.r ")")] (cE .ret))))
def qw:FE:=⟨FL,[(2,none)],8⟩
def FK:CE:=(cT [(sM "!" (0:Int))] (cT [(sM ")" o),(Bj 173 [")"] "("),(sM "&" "(")] (cT [(sM "$" o.l),(Bj 173 ["$"] "*"),(sM "%" "*")] (cS (cT [(sM "," "&")] (cC "," (cS (cT [(sM "." "%")] (cC "." (cT [(sM "!" (0:Int))] (cE .ret)) (cE .normal))) (cT [(sM "!" ((-1):Int))] (cE .ret))) (cE
 .normal))) (cS (cT [(sM "+" "%")] (cC "+" (cT [(sM "!" (1:Int))] (cE .ret)) (cE .normal))) (cS (cT [(sM "1" o),(sM "3" o.l),(sX "4" (Ar .lss "1" "3"))] (cC "4" (cT [(sM "!" ((-1):Int))] (cE .ret)) (cE .normal))) (cS (cT [(sM "2" o),(sM "7" o.l),(sX "8" (Ar .gtr "2" "7"))] (cC "8" (cT
 [(sM "!" (1:Int))] (cE .ret)) (cE .normal))) (cT [(sM "!" (0:Int))] (cE .ret)))))))))
def qv:FE:=⟨FK,[(4,none)],20⟩
def J0:CE:=(cT [(sM o.r (.c (.v (.slice none 0 0))))] (cS (cT [(sM ">" o),(sU "!" (Bi (.nilq 0 false (.tmp 3) (.const (.slice none 0 0)))))] (cC "!" (cT [(sM o.r (.c (.v (.slice none 0 0))))] (cE .ret)) (cE .normal))) (cT [(sU "&" (Bi (.bsl 41 0 4 [.int .i64 0,.int .i64 0,.int .i64 0,.string (bs [])] []))),(sM "%" o),(sU ")" (Bi (.app 41 4 40 (.tmp 5) (.tmp 6)))),(sM o.r ")")]
 (cE .ret))))
def qu:FE:=⟨J0,[(2,none)],8⟩
def Ci0:CE:=(cT [(sX "7" (Ar .lss "2" "4"))] (cS (cC "7" (cE .normal) (cE (.exit 0))) (cS (cB 1 (cT [(sX "8" (Fg 3 "3" "2")),(sX "6" (Cf (some 3) "8")),(sU "%" (Qe 129 [.v (.string (bs [])),.v (.int .i64 0),.v (.int .i64 0)])),(sU none (Is 3 "%" "6"))] (cS (cT [(sX "0" (Ea 0 "%")),(sX ":" (Cf none "0")),(Bj
 83 [":"] ";"),(sX "5" (Nz .not ";")),(sM "=" "5"),(sG "=" false "9" (sM "9" o.l)),(sG "=" false "<" (sX "<" (Ea 0 "%"))),(sG "=" false "?" (sX "?" (Cf none "<"))),(sG "=" false "@" (sU "@" (Bi (.lkp (.p .string) (.bool false) (.tmp 26) (.tmp 28) false)))),(sX "A" (Co "="
 true "@"))] (cC "A" (cT [(sM "!" (11:Int))] (cE .ret)) (cE .normal))) (cS (cT [(sX "B" (Ea 1 "%")),(sX "C" (Cf none "B")),(sX "D" (Ar .lss "C" ((-1073741824):Int))),(sM "F" "D"),(sG "F" false "G" (sX "G" (Ea 1 "%"))),(sG "F" false "I"
 (sX "I" (Cf none "G"))),(sG "F" false "O" (sX "O" (Ar .gtr "I" (1073741824:Int)))),(sX "N" (Co "F" true "O")),(sM "E" "N"),(sG "E" false "H" (sX "H" (Ea 2 "%"))),(sG "E" false "J" (sX "J" (Cf none "H"))),(sG "E"
 false "K" (sX "K" (Ea 1 "%"))),(sG "E" false "L" (sX "L" (Cf none "K"))),(sG "E" false "P" (sX "P" (Ar .lss "J" "L"))),(sX "Q" (Co "E" true "P")),(sM "M" "Q"),(sG "M" false "R" (sX "R" (Ea 2 "%"))),(sG "M" false
 "T" (sX "T" (Cf none "R"))),(sG "M" false "S" (sX "S" (Ar .gtr "T" (1073741825:Int)))),(sX "V" (Co "M" true "S"))] (cC "V" (cT [(sM "!" (3:Int))] (cE .ret)) (cE .normal))) (cN (sL [(sM "U" o.l),(sX "Y" (Ea 0 "%")),(sX "c" (Cf none
 "Y")),(sU none (Bi (.mup (.p .string) (.tmp 51) (.tmp 53) (.const (.bool true)))))])))))) (cN (sL [(sX "W" (Ar .add "2" (1:Int))),(sM "2" "W")])))))
def FH:CE:=(cT [(sM "!" (0:Int))] (cS (cT [(sM ")" o),(sX "(" (Cu ")")),(sX "$" (Ar .lss "(" (1:Int))),(sM "*" "$"),(sG "*" false "," (sM "," o)),(sG "*" false "." (sX "." (Cu ","))),(sG "*" false "+" (sX "+" (Ar .gtr "." (4:Int)))),(sX "1" (Co "*" (.c (.v (.bool
 true))) "+"))] (cC "1" (cT [(sM "!" (13:Int))] (cE .ret)) (cE .normal))) (cS (cT [(sM "3" o),(sX "4" (Cu "3")),(sM "2" (0:Int))] (cB 0 (cL 1000000 Ci0))) (cT [(sM "!" (0:Int))] (cE .ret)))))
def qn:FE:=⟨FH,[(4,none)],55⟩
def Ci1:CE:=(cT [(sX "3" (Ar .lss "1" "+"))] (cS (cC "3" (cE .normal) (cE (.exit 0))) (cS (cB 1 (cT [(sM "4" "1"),(sX "2" (Fg 1 "." "1")),(sX "7" (Cf none "2")),(sM "&" "4"),(sM "%" "7")] (cT [(sM "8" "%"),(sM "6" o),(sM "0" "&"),(sX ":" (Fg 3 "6" "0")),(sX ";" (Ea 1 ":")),(sX
 "5" (Cf none ";")),(sX "=" (Ar .lss "8" "5")),(sM "9" "="),(sG "9" false "<" (sM "<" "%")),(sG "9" false "?" (sM "?" o)),(sG "9" false "@" (sM "@" "&")),(sG "9" false "A" (sX "A" (Fg 3 "?" "@"))),(sG "9" false "B" (sX "B" (Cf (some 3) "A"))),(sG
 "9" false "C" (Bj 180 ["B"] "C")),(sG "9" false "D" (sX "D" (Ar .gtr "<" "C"))),(sX "F" (Co "9" true "D"))] (cC "F" (cT [(sM "!" false)] (cE .ret)) (cE .normal))))) (cN (sL [(sX "G" (Ar .add "1" (1:Int))),(sM "1" "G")])))))
def FG:CE:=(cT [(sM "!" false)] (cS (cT [(sM ")" o.l),(sX "(" (Cu ")")),(sM "$" o),(sX "*" (Cu "$")),(sX "," (Ar .neq "(" "*"))] (cC "," (cT [(sM "!" false)] (cE .ret)) (cE .normal))) (cS (cT [(sM "." o.l),(sX "+" (Cu ".")),(sM "1" (0:Int))] (cB 0 (cL 1000000 Ci1))) (cT [(sM "!"
 true)] (cE .ret)))))
def qm:FE:=⟨FG,[(4,none)],36⟩
def FF:CE:=(cT [(sU o.l (Nx 41 o)),(sM o.r false)] (cS (cT [(sX "!" (Ea 0 o.l)),(sX "&" (Cf none "!"))] (cB 0 (cT [(sX ")" (Ar .eql "&" (0:Int))),(sM "%" ")")] (cC "%" (cT [(sX "(" (Cf (some 4) o.l)),(Bj 181 ["("] "$"),(sM "*" "$"),(sG "*" true "," (sX "," (Ea 1 o.l))),(sG "*" true "." (sX "."
 (Cf none ","))),(sG "*" true "+" (sX "+" (Ar .geq "." (1:Int)))),(sX "1" (Co "*" "+" false)),(sM "3" "1"),(sG "3" true "4" (sX "4" (Ea 1 o.l))),(sG "3" true "2" (sX "2" (Cf none "4"))),(sG "3" true "7" (sX "7" (Ar .leq "2" (255:Int)))),(sX
 "8" (Co "3" "7" false)),(sM o.r "8")] (cE .ret)) (cT [(sX "0" (Ar .eql "&" (1:Int))),(sM "6" "0")] (cC "6" (cT [(sX ":" (Cf (some 4) o.l)),(Bj 181 [":"] ";"),(sM "5" ";"),(sG "5" true "=" (sX "=" (Ea 1 o.l))),(sG "5" true "9" (sX "9" (Cf none
 "="))),(sG "5" true "<" (sX "<" (Ar .eql "9" (0:Int)))),(sG "5" true "?" (sM "?" "<")),(sG "?" false "@" (sX "@" (Ea 1 o.l))),(sG "?" false "A" (sX "A" (Cf none "@"))),(sG "?" false "B" (sX "B" (Ar .eql "A" (1:Int)))),(sG "5" true "C"
 (sX "C" (Co "?" true "B"))),(sX "D" (Co "5" "C" false)),(sM o.r "D")] (cE .ret)) (cT [(sX "G" (Ar .eql "&" (2:Int))),(sM "F" "G")] (cC "F" (cT [(sX "I" (Ea 3 o.l)),(sX "O" (Cf none "I")),(sX "N" (Ar .eql "O" (.c
 (.v (.string (bs [])))))),(sM "E" "N"),(sG "E" true "H" (sX "H" (Ea 2 o.l))),(sG "E" true "J" (sX "J" (Cf none "H"))),(sG "E" true "K" (sX "K" (Ar .geq "J" (1:Int)))),(sX "L" (Co "E" "K" false)),(sM "P" "L"),(sG "P"
 true "Q" (sX "Q" (Ea 2 o.l))),(sG "P" true "M" (sX "M" (Cf none "Q"))),(sG "P" true "R" (sX "R" (Ar .leq "M" (1099511627776:Int)))),(sX "T" (Co "P" "R" false)),(sM "S" "T"),(sG "S" true "V" (sX "V" (Ea 1 o.l))),(sG "S"
 true "U" (sX "U" (Cf none "V"))),(sG "S" true "Y" (sX "Y" (Ar .geq "U" ((-1099511627776):Int)))),(sX "c" (Co "S" "Y" false)),(sM "W" "c"),(sG "W" true "^" (sX "^" (Ea 1 o.l))),(sG "W" true "d" (sX "d" (Cf none "^"))),(sG
 "W" true "h" (sX "h" (Ar .leq "d" (1099511627776:Int)))),(sX "Z" (Co "W" "h" false)),(sM "X" "Z"),(sG "X" true "e" (sX "e" (Ea 1 o.l))),(sG "X" true "a" (sX "a" (Cf none "e"))),(sG "X" true "_" (sX "_" (Ea 1
 o.l))),(sG "X" true "f" (sX "f" (Cf none "_"))),(sG "X" true "b" (sX "b" (Nz .neg "f"))),(sG "X" true "i" (sU "i" (Bi (.mm true (.tmp 61) (.tmp 64))))),(sG "X" true "]" (sX "]" (Ea 2 o.l))),(sG "X" true "g" (sX "g" (Cf none "]"))),(sG
 "X" true "o" (Bj 182 ["i","g"] "o")),(sG "X" true "j" (sX "j" (Ar .eql "o" (1:Int)))),(sX "l" (Co "X" "j" false)),(sM o.r "l")] (cE .ret)) (cT [(sX "t" (Ar .eql "&" (3:Int))),(sM "q" "t")]
 (cC "q" (cT [(sM ">" (.c (.fn (.func 183) [.tup []])))] (cT [(sX "k" (Ea 1 o.l)),(sX "u" (Cf none "k")),(sX "z" (Ar .eql "u" (0:Int))),(sM "v" "z"),(sG "v" true "|" (sX "|" (Ea 2 o.l))),(sG "v" true "y" (sX "y" (Cf none "|"))),(sG
 "v" true "~" (sX "~" (Ar .eql "y" (0:Int)))),(sX "ak" (Co "v" "~" false)),(sM "s" "ak"),(sG "s" true "al" (sX "al" (Ea 3 o.l))),(sG "s" true "[" (sX "[" (Cf none "al"))),(sG "s" true "w"
 (sU "w" (Bi (.lns (.tmp 83))))),(sG "s" true "p" (sX "p" (Ar .leq "w" (16:Int)))),(sX "am" (Co "s" "p" false)),(sM "r" "am"),(sG "r" true "ab" (sX "ab" (Ea 3 o.l))),(sG "r" true "ac" (sX "ac" (Cf none "ab"))),(sG
 "r" true "ad" (sM "ad" ">")),(sG "r" true "ae" (Bj 184 ["ac","ad"] "ae")),(sG "r" true "m" (sX "m" (Ar .lss "ae" (0:Int)))),(sX "x" (Co "r" "m" false)),(sM o.r "x")] (cE .ret))) (cE .normal))))))))))) (cT
 [(sM o.r false)] (cE .ret))))
def ql:FE:=⟨FF,[(2,none)],94⟩
def I8:CE:=(cT [(sM o.r (.c (.v (.slice none 0 0))))] (cS (cT [(sM ">" o),(sU "!" (Bi (.nilq 0 false (.tmp 3) (.const (.slice none 0 0)))))] (cC "!" (cT [(sM o.r (.c (.v (.slice none 0 0))))] (cE .ret)) (cE .normal))) (cT [(sU "&" (Bi (.bsl 129 0 3 [.string (bs []),.int .i64 0,.int .i64 0] []))),(sM "%" o),(sU ")" (Bi (.app 129 3 32 (.tmp 5) (.tmp 6)))),(sM o.r ")")] (cE .ret))))
def qh:FE:=⟨I8,[(2,none)],8⟩
def I7:CE:=(cT [(sM o.r (.c (.v (.slice none 0 0))))] (cS (cT [(sM ">" o),(sU "!" (Bi (.nilq 0 false (.tmp 3) (.const (.slice none 0 0)))))] (cC "!" (cT [(sM o.r (.c (.v (.slice none 0 0))))] (cE .ret)) (cE .normal))) (cT [(sU "&" (Bi (.bsl 131 0 2 [.string (bs []),.int .i64 0] []))),(sM "%" o),(sU ")" (Bi (.app 131 2 24 (.tmp 5) (.tmp 6)))),(sM o.r ")")] (cE .ret))))
def qg:FE:=⟨I7,[(2,none)],8⟩
def EY:CE:=(cT [(sM o.r false)] (cT [(sM ">" o),(sM "!" o),(sX "&" (Ar .neq ">" "!")),(sM o.r "&")] (cE .ret)))
def pz:FE:=⟨EY,[(2,none)],6⟩
def EV:CE:=(cT [(sU o.l (Nx 129 o)),(sM o.r (0:Int))] (cT [(sX ">" (Ea 2 o.l)),(sX "!" (Cf none ">")),(sU "&" (Bi (.mm false (.tmp 4) (.const (.int .i64 1073741824))))),(sM o.r "&")] (cE .ret)))
def pq:FE:=⟨EV,[(2,none)],6⟩
def EU:CE:=(cT [(sU o.l (Nx 41 o)),(sM o.r false)] (cT [(sX ">" (Ea 2 o.l)),(sX "!" (Cf none ">")),(sX "&" (Ar .eql "!" (0:Int))),(sM "%" "&"),(sG "%" true ")" (sX ")" (Ea 3 o.l))),(sG "%" true "(" (sX "(" (Cf none ")"))),(sG "%" true "$" (sX "$" (Ar .eql "(" (.c (.v (.string (bs []))))))),(sX "*" (Co
 "%" "$" false)),(sM o.r "*")] (cE .ret)))
def po:FE:=⟨EU,[(2,none)],11⟩
def Ci2:CE:=(cS (cT [(sM "&" o.l),(sX "%" (Ar .neq "&" (0:Int)))] (cC "%" (cE .normal) (cE (.exit 0)))) (cB 1 (cN (Gk 6 (dL [(dP [] 0 ")" o.l),(dP [] 1 "(" o),(dP [] 2 "$" o.l),(dX [1,2] ["(","$"] 3 "*" (Ar .rem "(" "$")),(dP [0,1] 4 o ")"),(dP [3,4,0,1,2] 5 o.l "*")])))))
def ET:CE:=(cT [(sM "!" (0:Int))] (cS (cB 0 (cL 1000000 Ci2)) (cT [(sM "," o),(sM "!" ",")] (cE .ret))))
def pn:FE:=⟨ET,[(4,none)],12⟩
def ER:CE:=(cT [(sM o.r false)] (cT [(sM ">" o),(sX "!" (Ar .lss ">" (.c (.v (.int .i32 32))))),(sM "&" "!"),(sG "&" false "%" (sM "%" o)),(sG "&" false ")" (sX ")" (Ar .gtr "%" (.c (.v (.int .i32 126)))))),(sX "(" (Co "&" true ")")),(sM o.r "(")] (cE .ret)))
def pk:FE:=⟨ER,[(2,none)],9⟩
def EP:CE:=(cT [(sM "!" (0:Int))] (cT [(sM "&" o),(sM "%" o.l),(Bj 202 ["&","%",true] ")"),(sM "!" ")")] (cE .ret)))
def pj:FE:=⟨EP,[(4,none)],8⟩
def Ci3:CE:=(cT [(sU "," (Bi (.nxs (.tmp 10)))),(sX "." (Gd "," 0))] (cS (cC "." (cE .normal) (cE (.exit 0))) (cB 1 (cT [(sX "+" (Gd "," 1)),(sX "1" (Gd "," 2)),(sM ")" "+"),(sM "(" "1")] (cT [(sM "3" o.l),(sM "4" "("),(eA none "3" ["4"] "2"),(sM "7" o.r),(sU "8" (Bi (.bb false (.tmp 17) (.tmp
 18))))] (cC "8" (cT [(sM "6" ")"),(sM "%" "6")] (cE .ret)) (cE .normal)))))))
def EK:CE:=(cT [(sM "%" (0:Int))] (cS (cT [(sM "$" o),(sU "*" (Bi (.rgs (.tmp 9))))] (cB 0 (cL 1000000 Ci3))) (cT [(sM "%" ((-1):Int))] (cE .ret))))
def oy:FE:=⟨EK,[(6,none)],21⟩
end
end Go.DD
