/- A part. -/
import Derived.Test.YtnphfnhhpcelbaaGreatYf
namespace Go.DD
noncomputable section
open Pa
instance TA : Coe Pa EO := ⟨EO.t⟩
instance SV : Coe Pa (Nat -> XP) := ⟨λp _ es => some (Ad es (.t p))⟩
open Go
set_option maxRecDepth 100000
def yM:CE:=(cS (cT [(sM "*" "&"),(sM "," o),(sX "." (Cu ",")),(sX "+" (Ar .lss "*" "."))] (cC "+" (cE .normal) (cE (.exit 0)))) (cS (cB 1 (cS (cN (Gk 15 (dL [(dP [] 0 "4" o),(dP [] 1 "2" "&"),(dX [0,1] ["4","2"] 2 "7" (Fg 2 "4" "2")),(dX [2,0,1] ["7"] 3 "8" (Ea 0 "7")),(dY [3,2,0,1] ["8"]
 4 "6" (Cf none "8")),(dP [] 5 "0" o),(dP [] 6 ":" "&"),(dX [5,6] ["0",":"] 7 ";" (Fg 2 "0" ":")),(dX [7,5,6] [";"] 8 "5" (Ea 1 ";")),(dY [8,7,5,6] ["5"] 9 "=" (Cf none "5")),(Bx [4,9,3,2,0,1,8,7,5,6] ["6","="] (Ch 10 [4,9,3,2,0,1,8,7,5,6] false false "9" (Fu (Bi (.bld [.slice none
 0 0,.slice none 0 0] [(0,1,.tmp 20),(1,1,.tmp 25)]))) ["6","="])),(Bx [10,4,9,3,2,0,1,8,7,5,6] ["9"] (Qa 11 [10,4,9,3,2,0,1,8,7,5,6] false false "<" (Bi (.bsl 39 1 2 [.slice none 0 0,.slice none 0 0] [(0,2,.tmp 26)])) ["9"])),(Bx [11,10,4,9,3,2,0,1,8,7,5,6] ["<"] (Ch 12 [11,10,4,9,3,2,0,1,8,7,5,6] false false "?" (Fu (Bi (.bld [.slice none 0
 0,.slice none 0 0,.slice none 0 0] [(2,1,.tmp 27)]))) ["<"])),(Bx [12,11,10,4,9,3,2,0,1,8,7,5,6] ["?"] (Cx 13 [12,11,10,4,9,3,2,0,1,8,7,5,6] (Bj 13 ["?",(1:Int)] "@"))),(dX [13,12,11,10,4,9,3,2,0,1,8,7,5,6] ["@"] 14 "A" (Nz .not "@"))]))) (cC "A" (cT [(sM "!" false)] (cE .ret)) (cE .normal)))) (cN (sL [(sM "1"
 "&"),(sX "3" (Ar .add "1" (1:Int))),(sM "&" "3")]))))
def r14:CE:=(cT [(sM "!" false)] (cS (cT [(sM "%" o),(sX ")" (Cu "%")),(sM "(" o.l),(sX "$" (Ar .gtr ")" "("))] (cC "$" (cT [(sM "!" false)] (cE .ret)) (cE .normal))) (cS (cT [(sM "&" (0:Int))] (cB 0 (cL 1000000 yM))) (cT [(sM "!" true)] (cE .ret)))))
def e14:FE:=⟨r14,[(4,none)],31⟩
def r17:CE:=(cT [(sU o.r (Nx 26 o)),(sU "!" (Qe 26 [.v (.slice none 0 0),.v (.slice none 0 0),.v (.slice none 0 0)])),(sM "&" (0:Int))] (cS (cT [(sX "(" (Cf (some 3) o.r)),(Bj 57 ["("] "$"),(sX "*" (Ar .neq "$" (0:Int)))] (cC "*" (cT [(sU "," (Bi (.bld [.slice none 0 0,.slice none 0 0,.slice none 0 0] []))),(sU none (Is 3 "!"
 ",")),(sM "&" (2:Int))] (cE .ret)) (cE .normal))) (cT [(sX "+" (Cf (some 3) o.r)),(sM "1" o.l),(Bj 58 ["+","1"] "3"),(sM "." "3"),(sX "4" (Gd "." 0)),(sX "2" (Gd "." 1)),(sM "%" "4"),(sM ")" "2")] (cS (cT [(sM "7" ")"),(sX "8" (Ar .neq "7" (0:Int)))] (cC "8"
 (cT [(sU "6" (Bi (.bld [.slice none 0 0,.slice none 0 0,.slice none 0 0] []))),(sM "0" ")"),(sU none (Is 3 "!" "6")),(sM "&" "0")] (cE .ret)) (cE .normal))) (cS (cN (Gk 13 (dL [(Bx [] [o.r] (Ch 0 [] true false ":" (λ_ => (Ea 0 o.r)) [o.r])),(Bx [0] [":"] (Ch 1 [0] true true ";" (λ_ => (Cf none ":")) [":"])),(Bx []
 [o.r] (Ch 2 [] true false "5" (λ_ => (Ea 1 o.r)) [o.r])),(Bx [2] ["5"] (Ch 3 [2] true true "=" (λ_ => (Cf none "5")) ["5"])),(dP [] 4 "9" "%"),(dX [] [o.r] 5 "<" (Ea 2 o.r)),(dY [5] ["<"] 6 "?" (Cf none "<")),(Bx [4,6,5] ["9","?"] (Cx 7 [4,6,5] (Bj 60 ["9","?"] "@"))),(Bx [1,3,7,0,2,4,6,5]
 [";","=","@"] (Cx 8 [1,3,7,0,2,4,6,5] (Bj 59 [";","=","@"] "A"))),(dX [8,1,3,7,0,2,4,6,5] ["A"] 9 "B" (Gd "A" 0)),(dX [8,1,3,7,0,2,4,6,5] ["A"] 10 "C" (Gd "A" 1)),(Bx [9,8,0,1,2,3,4,5,6,7,10] ["!","B"] (Cx 11 [9,8,0,1,2,3,4,5,6,7,10] (sU none (Is 3 "!" "B")))),(dP [10,11,0,1,2,3,4,5,6,7,8,9]
 12 "&" "C")]))) (cE .ret))))))
def e17:FE:=⟨r17,[(4,some (some 3)),(5,none)],33⟩
def nK:CE:=(cT [(sX "M" (Ar .lss "Q" "P"))] (cS (cC "M" (cE .normal) (cE (.exit 2))) (cS (cB 3 (cT [(sM "R" "Q"),(sX "T" (Fg 3 "L" "Q")),(sX "S" (Cf (some 3) "T")),(sU "$" (Qe 129 [.v (.string (bs [])),.v (.int .i64 0),.v (.int .i64 0)])),(sM "(" "R"),(sU none (Is 3 "$" "S"))]
 (cS (cN (Gk 19 (dL [(dX [] [")"] 0 "V" (Ea 0 ")")),(dY [0] ["V"] 1 "U" (Cf none "V")),(dP [] 2 "Y" "("),(dX [1,2,0] ["U","Y"] 3 "c" (Fg 1 "U" "Y")),(dY [3,1,2,0] ["c"] 4 "W" (Cf none "c")),(dX [] ["$"] 5 "^" (Ea 1 "$")),(dY [5] ["^"] 6 "d" (Cf none
 "^")),(dX [4,6,3,1,2,0,5] ["W","d"] 7 "h" (Ar .lss "W" "d")),(dP [7,4,6,3,1,2,0,5] 8 "Z" "h"),(dG "Z" false "X" (dX [8,7,4,6,3,1,2,0,5] [")"] 9 "X" (Ea 0 ")"))),(dG "Z" false "e" (dY [9,8,7,4,6,3,1,2,0,5] ["X"] 10 "e" (Cf none "X"))),(dG "Z" false "a"
 (dP [8,7,4,6,3,1,2,0,5] 11 "a" "(")),(dG "Z" false "_" (dX [10,11,8,9,7,4,6,3,1,2,0,5] ["e","a"] 12 "_" (Fg 1 "e" "a"))),(dG "Z" false "f" (dY [12,8,10,11,9,7,4,6,3,1,2,0,5] ["_"] 13 "f" (Cf none "_"))),(dG "Z" false "b" (dX [8,7,4,6,3,1,2,0,5] ["$"] 14 "b"
 (Ea 2 "$"))),(dG "Z" false "i" (dY [14,8,7,4,6,3,1,2,0,5] ["b"] 15 "i" (Cf none "b"))),(dG "Z" false "]" (Bx [15,8,14,7,4,6,3,1,2,0,5] ["i"] (Ch 16 [15,8,14,7,4,6,3,1,2,0,5] false false "]" (Fu (Bi (.mm false (.tmp 65) (.const (.int .i64 1073741824))))) ["i"]))),(dG "Z" false "g"
 (dX [13,16,8,12,10,11,9,7,4,6,3,1,2,0,5,15,14] ["f","]"] 17 "g" (Ar .gtr "f" "]"))),(dX [8,17,7,4,6,3,1,2,0,5,13,16,12,10,11,9,15,14] ["Z","g"] 18 "o" (Co "Z" true "g"))]))) (cC "o" (cT [(sM "!" (.c (.v (.slice none 0 0)))),(sM "&" (3:Int))] (cE .ret))
 (cE .normal))))) (cN (sL [(sX "j" (Ar .add "Q" (1:Int))),(sM "Q" "j")])))))
def nJ:CE:=(cT [(sX "u" (Ar .lss "k" "t"))] (cS (cC "u" (cE .normal) (cE (.exit 4))) (cS (cB 5 (cT [(sM "z" "k"),(sX "v" (Fg 4 "q" "k")),(sX "|" (Cf (some 4) "v")),(sU "," (Qe 41 [.v (.int .i64 0),.v (.int .i64 0),.v (.int .i64 0),.v (.string (bs []))])),(sM "*" "z"),(sU
 none (Is 4 "," "|"))] (cS (cN (Gk 9 (dL [(dY [] [","] 0 "y" (Cf (some 4) ",")),(dX [] [o.r] 1 "~" (Ea 1 o.r)),(dY [1] ["~"] 2 "ak" (Cf none "~")),(dP [] 3 "s" "*"),(dX [2,3,1] ["ak","s"] 4 "al" (Fg 2 "ak" "s")),(dX [4,2,3,1] ["al"] 5 "[" (Ea 1
 "al")),(dY [5,4,2,3,1] ["["] 6 "w" (Cf none "[")),(Bx [0,6,5,4,2,3,1] ["y","w"] (Cx 7 [0,6,5,4,2,3,1] (Bj 123 ["y","w"] "p"))),(dX [7,0,6,5,4,2,3,1] ["p"] 8 "am" (Nz .not "p"))]))) (cC "am" (cT [(sM "!" (.c (.v (.slice none 0 0)))),(sM "&" (12:Int))]
 (cE .ret)) (cE .normal))))) (cN (sL [(sX "r" (Ar .add "k" (1:Int))),(sM "k" "r")])))))
def nI:CE:=(cT [(sX "2" (Ar .lss "4" "3"))] (cS (cC "2" (cE .normal) (cE (.exit 0))) (cS (cB 1 (cT [(sX "7" (Fg 2 "1" "4")),(sX "8" (Cf (some 2) "7")),(sU ")" (Qe 62 [.v (.slice none 0 0),.v (.slice none 0 0)])),(sU none (Is 2 ")" "8"))] (cS (cT [(sX "6" (Ea 0 ")")),(sX "0" (Cf none "6")),(sX ":"
 (Cu "0")),(sX ";" (Ea 0 o.r)),(sX "5" (Cf none ";")),(sX "=" (Cu "5")),(sX "9" (Ar .neq ":" "=")),(sM "<" "9"),(sG "<" false "?" (sX "?" (Ea 1 ")"))),(sG "<" false "@" (sX "@" (Cf none "?"))),(sG "<" false "A" (sX "A" (Cu "@"))),(sG "<" false "B"
 (sX "B" (Ar .neq "A" (0:Int)))),(sG "<" false "C" (sM "C" "B")),(sG "C" true "D" (sX "D" (Ea 1 ")"))),(sG "C" true "F" (sX "F" (Cf none "D"))),(sG "C" true "G" (sX "G" (Cu "F"))),(sG "C" true "I" (sX "I" (Ea 1 o.r))),(sG
 "C" true "O" (sX "O" (Cf none "I"))),(sG "C" true "N" (sX "N" (Cu "O"))),(sG "C" true "E" (sX "E" (Ar .neq "G" "N"))),(sG "<" false "H" (sX "H" (Co "C" "E" false))),(sX "J" (Co "<" true "H"))]
 (cC "J" (cT [(sM "!" (.c (.v (.slice none 0 0)))),(sM "&" (13:Int))] (cE .ret)) (cE .normal))) (cS (cT [(sX "K" (Ea 0 o.r)),(sX "L" (Cf none "K")),(sX "P" (Cu "L")),(sM "Q" (0:Int))] (cB 2 (cL 1000000 nK))) (cT [(sX "l" (Ea 1 ")")),(sX "q" (Cf none "l")),(sX "t"
 (Cu "q")),(sM "k" (0:Int))] (cB 4 (cL 1000000 nJ))))))) (cN (sL [(sX "ab" (Ar .add "4" (1:Int))),(sM "4" "ab")])))))
def nG:CE:=(cS (cT [(sM "m" "+"),(sM "x" "."),(sX "af" (Cu "x")),(sX "ag" (Ar .lss "m" "af"))] (cC "ag" (cE .normal) (cE (.exit 6)))) (cS (cB 7 (cS (cN (Gk 13 (dL [(dP [] 0 "as" "."),(dP [] 1 "an" "+"),(dX [1] ["an"] 2 "ao" (Ar .sub "an" (.c (.v (.int .i64
 1))))),(dX [0,2,1] ["as","ao"] 3 "ap" (Fg 2 "as" "ao")),(dX [3,0,2,1] ["ap"] 4 "aq" (Ea 0 "ap")),(dY [4,3,0,2,1] ["aq"] 5 "at" (Cf none "aq")),(dP [] 6 "ai" "."),(dP [] 7 "aj" "+"),(dX [6,7] ["ai","aj"] 8 "ar" (Fg 2 "ai" "aj")),(dX
 [8,6,7] ["ar"] 9 "aD" (Ea 0 "ar")),(dY [9,8,6,7] ["aD"] 10 "au" (Cf none "aD")),(Bx [5,10,4,3,0,2,1,9,8,6,7] ["at","au"] (Cx 11 [5,10,4,3,0,2,1,9,8,6,7] (Bj 24 ["at","au"] "av"))),(dX [11,5,10,4,3,0,2,1,9,8,6,7] ["av"] 12 "ay" (Ar .eql "av" (0:Int)))])))
 (cC "ay" (cT [(sM "!" (.c (.v (.slice none 0 0)))),(sM "&" (5:Int))] (cE .ret)) (cE .normal)))) (cN (sL [(sM "ah" "+"),(sX "n" (Ar .add "ah" (1:Int))),(sM "+" "n")]))))
def r58:CE:=(cT [(sU o.r (Nx 26 o)),(sM "!" (.c (.v (.slice none 0 0)))),(sM "&" (0:Int))] (cS (cT [(sM "1" o.l),(sX "3" (Cu "1")),(sM "4" (0:Int))] (cB 0 (cL 1000000 nI))) (cT [(sM "ac" o.l),(Bj 125 ["ac"] "ad"),(Bj 124 ["ad",(.c (.fn (.func 126) [.tup []]))] "ae"),(sM "." "ae")]
 (cS (cT [(sM "+" (1:Int))] (cB 6 (cL 1000000 nG))) (cT [(sM "aB" "."),(sM "!" "aB"),(sM "&" (0:Int))] (cE .ret))))))
def e58:FE:=⟨r58,[(4,none),(5,none)],112⟩
def yC:CE:=(cT [(sX "+" (Ar .lss "." ","))] (cS (cC "+" (cE .normal) (cE (.exit 0))) (cS (cB 1 (cT [(sX "1" (Fg 2 "*" ".")),(sX "3" (Cf (some 2) "1")),(sU ")" (Qe 62 [.v (.slice none 0 0),.v (.slice none 0 0)])),(sU none (Is 2 ")" "3"))] (cT [(sM "2" o.l),(sX "7" (Ea 0 ")")),(sX "8" (Cf none "7")),(Bj 130 ["2","8",(.c
 (.fn (.func 131) [.tup []]))] "6"),(sM "4" "6"),(sX "0" (Gd "4" 0)),(sX ":" (Gd "4" 1)),(sM "(" "0"),(sM "$" ":")] (cT [(sM ";" "&"),(sM "5" o.l),(sM "=" "("),(sU "9" (Bi (.sli 2 (.tmp 24) none (some (.tmp 25))))),(sU "<" (Bi (.app 39 2 48 (.tmp 23) (.tmp 26)))),(sM "&" "<")] (cS (cT [(sX
 "?" (Ea 1 ")")),(sX "@" (Cf none "?")),(sX "A" (Cu "@")),(sX "B" (Ar .gtr "A" (0:Int)))] (cC "B" (cN (sL [(sM "C" "&"),(sX "D" (Ea 0 ")")),(sX "F" (Cf none "D")),(sX "G" (Ea 1 ")")),(sX "I" (Cf none "G")),(sU "O" (Bi (.bld [.slice none 0 0,.slice
 none 0 0] [(0,1,.tmp 34),(1,1,.tmp 36)]))),(sU "N" (Bi (.bsl 39 1 2 [.slice none 0 0,.slice none 0 0] [(0,2,.tmp 37)]))),(sU "E" (Bi (.app 39 2 48 (.tmp 32) (.tmp 38)))),(sM "&" "E")])) (cE .normal))) (cS (cT [(sM "H" "$")] (cC "H" (cN (sL [(sM "J" "("),(sX "K" (Ar .add "J" (1:Int))),(sM "(" "K")]))
 (cE .normal))) (cN (sL [(sM "L" o.l),(sM "P" "("),(sU "Q" (Bi (.sli 2 (.tmp 43) (some (.tmp 44)) none))),(sM o.l "Q")])))))))) (cN (sL [(sX "M" (Ar .add "." (1:Int))),(sM "." "M")])))))
def r60:CE:=(cT [(sM "!" (.c (.v (.slice none 0 0))))] (cT [(sM "&" (.c (.v (.slice none 0 0))))] (cS (cT [(sM "*" o),(sX "," (Cu "*")),(sM "." (0:Int))] (cB 0 (cL 1000000 yC))) (cT [(sM "R" "&"),(sM "T" o.l),(sU "S" (Bi (.app 39 2 48 (.tmp 47) (.tmp 48)))),(sM "!" "S")] (cE .ret)))))
def e60:FE:=⟨r60,[(4,none)],50⟩
def FV:CE:=(cT [(sM "!" (.c (.v (.slice none 0 0))))] (cT [(sM "%" o),(Bj 159 ["%"] ")"),(sM "&" ")")] (cT [(sM "(" "&"),(sM "$" o.l),(Bj 160 ["(","$"] "*")] (cT [(sM "," "&"),(sM "!" ",")] (cE .ret)))))
def rq:FE:=⟨FV,[(4,none)],12⟩
def FU:CE:=(cT [(sU o.l (Nx 27 o)),(sM o.r (.c (.v .nilFunc)))] (cT [(sU ">" (Bi (.mkf (.func 161) [] [.tmp 1]))),(sM o.r ">")] (cE .ret)))
def rn:FE:=⟨FU,[(2,none)],4⟩
def FT:CE:=(cT [(sU o.r (Nx 62 o)),(sU ">" (Nx 62 o.l)),(sM "!" (0:Int))] (cT [(sX "&" (Ea 0 o.r)),(sX "%" (Cf none "&")),(sX ")" (Ea 0 ">")),(sX "(" (Cf none ")")),(Bj 24 ["%","("] "$"),(sM "!" "$")] (cE .ret)))
def rm:FE:=⟨FT,[(4,none)],10⟩
def Ck6:CE:=(cS (cT [(sM "3" "$"),(sM "4" "*"),(sX "2" (Ar .lss "3" "4"))] (cC "2" (cE .normal) (cE (.exit 0)))) (cB 1 (cT [(sM "7" "$"),(sM "8" "*"),(sX "6" (Ar .add "7" "8")),(sU "0" (Bi (.cvi .u64 (.tmp 20)))),(sX ":" (Ar .shr "0" (.c (.v (.int .u64 1))))),(sU ";" (Bi (.cvi .i64
 (.tmp 22)))),(sM "," ";")] (cT [(sM "5" o.r),(sM "=" o),(sM "9" ","),(sX "<" (Fg 2 "=" "9")),(sX "?" (Cf (some 2) "<")),(sM "@" o.l),(eA none "5" ["?","@"] "A"),(sX "B" (Ar .lss "A" (0:Int)))] (cC "B" (cN (sL [(sM "C" ","),(sX "D" (Ar .add "C"
 (1:Int))),(sM "$" "D")])) (cN (sL [(sM "F" ","),(sM "*" "F")])))))))
def FO:CE:=(cT [(sM "%" (0:Int)),(sM ")" false)] (cT [(sM "." o),(sX "+" (Cu ".")),(sM "(" "+")] (cT [(sM "1" "("),(sM "$" (0:Int)),(sM "*" "1")] (cS (cB 0 (cL 1000000 Ck6)) (cT [(sM "G" "$"),(sM "I" "$"),(sM "O" "("),(sX "N" (Ar .lss "I" "O")),(sM
 "E" "N"),(sG "E" true "H" (sM "H" o.r)),(sG "E" true "J" (sM "J" o)),(sG "E" true "K" (sM "K" "$")),(sG "E" true "L" (sX "L" (Fg 2 "J" "K"))),(sG "E" true "P" (sX "P" (Cf (some 2) "L"))),(sG "E" true "Q" (sM "Q"
 o.l)),(sG "E" true "M" (eA none "H" ["P","Q"] "M")),(sG "E" true "R" (sX "R" (Ar .eql "M" (0:Int)))),(sX "T" (Co "E" "R" false)),(sM "%" "G"),(sM ")" "T")] (cE .ret))))))
def qz:FE:=⟨FO,[(6,none),(7,none)],49⟩
def FN:CE:=(cT [(sU o.r (Nx 39 o)),(sM "!" (0:Int))] (cT [(sX "&" (Ea 0 o.r)),(sX "%" (Cf none "&")),(sM ")" o.l),(Bj 24 ["%",")"] "("),(sM "!" "(")] (cE .ret)))
def qy:FE:=⟨FN,[(4,none)],9⟩
def FD:CE:=(cT [(sM o.r (.c (.v (.slice none 0 0))))] (cT [(sM ">" o),(Bj 185 [(.c (.v (.slice none 0 0))),">"] "!"),(sM o.r "!")] (cE .ret)))
def qk:FE:=⟨FD,[(2,none)],5⟩
def I9:CE:=(cT [(sM "&" o),(sX "%" (Cu "&")),(sM "!" "%")] (cN (sL [(sM ")" o),(sM "(" "!"),(sM "$" "!"),(sU "*" (Bi (.cvi .u64 (.tmp 9)))),(Bj 176 ["*"] ","),(sM "." o.l),(Bj 186 [")",(0:Int),"(",",","."] "+")])))
def qj:FE:=⟨I9,[],14⟩
def Ck7:CE:=(cT [(sX "(" (Ar .lss ")" "%"))] (cS (cC "(" (cE .normal) (cE (.exit 0))) (cS (cB 1 (cT [(sX "$" (Fg 2 "&" ")")),(sX "*" (Cf (some 2) "$")),(sU "!" (Qe 62 [.v (.slice none 0 0),.v (.slice none 0 0)])),(sU none (Is 2 "!" "*"))] (cT [(sM "," o),(sX "." (Cf (some 2) "!")),(eA none "," ["."] "+"),(sX "1" (Nz .not "+"))]
 (cC "1" (cE .ret) (cE .normal))))) (cN (sL [(sX "3" (Ar .add ")" (1:Int))),(sM ")" "3")])))))
def FC:CE:=(cT [(sX "&" (Cf none o.l)),(sX "%" (Cu "&")),(sM ")" (0:Int))] (cB 0 (cL 1000000 Ck7)))
def qi:FE:=⟨FC,[],16⟩
def EX:CE:=(cT [(sM o.r (0:Int))] (cS (cC false (cT [(sM ">" o),(sU "!" (Bi (.cvi .u32 (.tmp 3)))),(Bj 200 ["!"] "&"),(sM o.r "&")] (cE .ret)) (cE .normal)) (cT [(sM "%" o),(Bj 201 ["%"] ")"),(sM o.r ")")] (cE .ret))))
def pw:FE:=⟨EX,[(2,none)],8⟩
def Y6:DC:=.reg false [⟨some 5,none,.al 62 [.slice none 0 0,.slice none 0 0],[]⟩,⟨none,none,.st 2 (.tmp 5) (.tmp 7),[]⟩] ⟨[],true⟩
def Y5:DC:=.blk 1 (.reg false [⟨some 8,none,.ld none (.tmp 2),[]⟩,⟨some 9,none,.ld (some 2) (.tmp 5),[]⟩,⟨some 10,none,.bsl 62 1 2 [.slice none 0 0,.slice none 0 0] [(0,2,.tmp 9)],[]⟩,⟨some 11,none,.app 62 2 48 (.tmp 8) (.tmp 10),[]⟩,⟨none,none,.st 1 (.tmp 2) (.tmp 11),[]⟩] ⟨[],true⟩)
def vq:CE:=(cN (sL [(sU "&" (Qe 62 [.v (.slice none 0 0),.v (.slice none 0 0)])),(sU none (Is 2 "&" ")"))]))
def vp:CE:=(cB 1 (cN (sL [(sX "(" (Cf none o.r)),(sX "$" (Cf (some 2) "&")),(sU "*" (Bi (.bsl 62 1 2 [.slice none 0 0,.slice none 0 0] [(0,2,.tmp 9)]))),(sU "," (Bi (.app 62 2 48 (.tmp 8) (.tmp 10)))),(sU none (Is 1 o.r ","))])))
def EN:CE:=(cT [(sU o.r (Nx 27 o)),(sM "!" (.c (.v (.slice none 0 0))))] (cS (cT [(sM "%" o.l)] (cB 0 (cR 13 false "%" [7] Y6 Y5))) (cT [(sX "." (Cf none o.r)),(sM "!" ".")] (cE .ret))))
def ph:FE:=⟨EN,[(4,none)],13⟩
def xg:CE:=(cB 1 (cT [(sM "0" o.r),(sM ":" o.l),(sX ";" (Ar .sub "0" ":")),(sM "." ";")] (cS (cT [(sM "5" "."),(sX "=" (Ar .leq "5" (12:Int)))] (cC "=" (cT [(sM "9" o),(sM "<" o.l),(sM "?" o.r),(sM "@" "!"),(Bj 203 ["9","<","?","@"] "A")] (cE .ret)) (cE
 .normal))) (cS (cT [(sM "B" ">"),(sX "C" (Ar .eql "B" (0:Int)))] (cC "C" (cT [(sM "D" o),(sM "F" o.l),(sM "G" o.r),(sM "I" "!"),(Bj 204 ["D","F","G","I"] "O")] (cE .ret)) (cE .normal))) (cS (cT [(sM "N" "*"),(sX "E" (Nz .not "N"))] (cC "E"
 (cT [(sM "H" o),(sM "J" o.l),(sM "K" o.r),(sM "L" "!"),(Bj 205 ["H","J","K","L"] "P")] (cN (sL [(sM "Q" ">"),(sX "M" (Ar .sub "Q" (1:Int))),(sM ">" "M")]))) (cE .normal))) (cT [(sM "T" o),(sM "S" o.l),(sM "V" o.r),(sM "U" "!"),(Bj 206
 ["T","S","V","U"] "Y"),(sM "R" "Y"),(sX "c" (Gd "R" 0)),(sX "W" (Gd "R" 1)),(sM "+" "c"),(sM "1" "W")] (cS (cT [(sM "^" "1"),(sX "d" (Ar .eql "^" (2:Int)))] (cC "d" (cT [(sM "h" o),(sM "Z" o.l),(sM "X" o.r),(sM
 "e" "!"),(Bj 207 ["h","Z","X","e"] "a")] (cT [(sM "_" o.r),(sX "f" (Ar .sub "_" (1:Int))),(sM "b" "+"),(sM "i" o.l),(sX "]" (Ar .sub "b" "i")),(sX "g" (Ar .sub "f" "]")),(sM "+" "g")] (cN (sL [(sM "1"
 (1:Int))])))) (cE .normal))) (cS (cT [(sM "o" "*"),(sM "j" "o"),(sG "j" true "l" (sM "l" ",")),(sX "q" (Co "j" "l" false)),(sM "t" "q"),(sG "t" true "k" (sM "k" "1")),(sG "t" true "u" (sX "u"
 (Ar .eql "k" (1:Int)))),(sX "z" (Co "t" "u" false))] (cC "z" (cT [(sM "v" o),(sM "|" o.l),(sM "y" o.r),(sM "~" "!"),(Bj 208 ["v","|","y","~"] "ak")] (cC "ak" (cE .ret) (cE .normal))) (cE .normal))) (cS (cS (cN
 (Gk 17 (dL [(dP [] 0 "s" o.l),(dX [0] ["s"] 1 "al" (Ar .gtr "s" (0:Int))),(dP [1,0] 2 "[" "al"),(dG "[" true "w" (dP [2,1,0] 3 "w" "!")),(dG "[" true "p" (dP [2,1,0] 4 "p" o)),(dG "[" true "am" (dP [2,1,0] 5 "am" o.l)),(dG "["
 true "r" (dX [5,2,1,0] ["am"] 6 "r" (Ar .sub "am" (1:Int)))),(dG "[" true "ab" (dX [4,6,2,1,0,5] ["p","r"] 7 "ab" (Fg 2 "p" "r"))),(dG "[" true "ac" (dY [7,2,4,6,1,0,5] ["ab"] 8 "ac" (Cf (some 2) "ab"))),(dG "[" true "ad"
 (dP [2,1,0] 9 "ad" o)),(dG "[" true "ae" (dP [2,1,0] 10 "ae" "+")),(dG "[" true "m" (dX [9,10,2,1,0] ["ad","ae"] 11 "m" (Fg 2 "ad" "ae"))),(dG "[" true "x" (dY [11,2,9,10,1,0] ["m"] 12 "x" (Cf (some 2) "m"))),(dG "[" true "af"
 (Bx [3,8,12,2,1,0,7,4,6,5,11,9,10] ["w","ac","x"] (Cx 13 [3,8,12,2,1,0,7,4,6,5,11,9,10] (jF none "w" ["ac","x"] "af")))),(dG "[" true "ag" (dX [13,2,3,8,12,1,0,7,4,6,5,11,9,10] ["af"] 14 "ag" (Ar .lss "af" (0:Int)))),(dG "[" true "ah" (dX [14,2,13,3,8,12,1,0,7,4,6,5,11,9,10]
 ["ag"] 15 "ah" (Nz .not "ag"))),(dX [2,15,1,0,14,13,3,8,12,7,4,6,5,11,9,10] ["[","ah"] 16 "n" (Co "[" "ah" false))]))) (cC "n" (cT [(sM "as" o),(sM "an" o.l),(sM "ao" o.r),(sM "ap" "+"),(sM "aq" "!"),(Bj 209 ["as","an","ao","ap","aq"]
 "at"),(sM "3" "at")] (cT [(sM "ai" "3"),(sM o.l "ai")] (cE (.exit 1)))) (cE .normal))) (cT [(sM "ar" o),(sM "aD" o.l),(sM "au" o.r),(sM "av" "+"),(sM "ay" "!"),(Bj 210 ["ar","aD","au","av","ay"] "aB"),(sM "aj" "aB"),(sX "aP"
 (Gd "aj" 0)),(sX "aE" (Gd "aj" 1)),(sM "4" "aP"),(sM "2" "aE")] (cT [(sM "aw" "2"),(sM "," "aw")] (cT [(sM "az" "4"),(sM "ax" o.l),(sX "aF" (Ar .sub "az" "ax")),(sM "aG" o.r),(sM "aH" "4"),(sX "aI" (Ar .sub "aG" "aH")),(sM
 "7" "aF"),(sM "8" "aI")] (cT [(sM "aJ" "."),(sX "aA" (Ar .quo "aJ" (8:Int))),(sM "6" "aA")] (cT [(sM "aK" "7"),(sM "aL" "8"),(sX "aU" (Ar .lss "aK" "aL"))] (cC "aU" (cT [(sM "aV" "7"),(sM "aN" "6"),(sX "aO"
 (Ar .geq "aV" "aN")),(sM "*" "aO")] (cT [(sM "aR" o),(sM "aW" o.l),(sM "a5" "4"),(sM "aX" ">"),(sM "bg" "!"),(Bj 186 ["aR","aW","a5","aX","bg"] "bh")] (cN (sL [(sM "bi" "4"),(sX "a6" (Ar .add "bi"
 (1:Int))),(sM o.l "a6")])))) (cT [(sM "aY" "8"),(sM "a7" "6"),(sX "aZ" (Ar .geq "aY" "a7")),(sM "*" "aZ")] (cT [(sM "aS" o),(sM "a0" "4"),(sX "a1" (Ar .add "a0" (1:Int))),(sM "a2" o.r),(sM "a3" ">"),(sM
 "bj" "!"),(Bj 186 ["aS","a1","a2","a3","bj"] "bE")] (cN (sL [(sM "bk" "4"),(sM o.r "bk")])))))))))))))))))))
def I6:CE:=(cT [(sM "*" true)] (cT [(sM "," true)] (cB 0 (cL 1000000 xg))))
def pg:FE:=⟨I6,[],148⟩
def EL:CE:=(cT [(sM o.r (0:Int))] (cS (cT [(sM ">" o),(sX "!" (Ar .geq ">" (.c (.v (.int .u64 4294967296)))))] (cC "!" (cT [(sM "&" o),(sX "%" (Ar .shr "&" (.c (.v (.int .u64 32))))),(sM o "%")] (cN (sL [(sM o.r (32:Int))]))) (cE .normal))) (cS (cT [(sM ")" o),(sX "(" (Ar .geq ")" (.c (.v (.int .u64 65536)))))] (cC "(" (cT [(sM
 "$" o),(sX "*" (Ar .shr "$" (.c (.v (.int .u64 16))))),(sM o "*")] (cN (sL [(sM "," o.r),(sX "." (Ar .add "," (16:Int))),(sM o.r ".")]))) (cE .normal))) (cS (cT [(sM "+" o),(sX "1" (Ar .geq "+" (.c (.v (.int .u64 256)))))] (cC "1" (cT [(sM "3" o),(sX "4" (Ar .shr "3" (.c (.v (.int .u64 8))))),(sM o "4")]
 (cN (sL [(sM "2" o.r),(sX "7" (Ar .add "2" (8:Int))),(sM o.r "7")]))) (cE .normal))) (cT [(sM "8" o.r),(sM "6" o),(sU "0" (Bi (.cvi .u8 (.tmp 20)))),(sU ":" (Bi (.ixs (.const (.string (bs [0,1,2,2,3,3,3,3,4,4,4,4,4,4,4,4,5,5,5,5,5,5,5,5,5,5,5,5,5,5,5,5,6,6,6,6,6,6,6,6,6,6,6,6,6,6,6,6,6,6,6,6,6,6,6,6,6,6,6,6,6,6,6,6,7,7,7,7,7,7,7,7,7,7,7,7,7,7,7,7,7,7,7,7,7,7,7,7,7,7,7,7,7,7,7,7,7,7,7,7,7,7,7,7,7,7,7,7,7,7,7,7,7,7,7,7,7,7,7,7,7,7,7,7,7,7,7,7,8,8,8,8,8,8,8,8,8,8,8,8,8,8,8,8,8,8,8,8,8,8,8,8,8,8,8,8,8,8,8,8,8,8,8,8,8,8,8,8,8,8,8,8,8,8,8,8,8,8,8,8,8,8,8,8,8,8,8,8,8,8,8,8,8,8,8,8,8,8,8,8,8,8,8,8,8,8,8,8,8,8,8,8,8,8,8,8,8,8,8,8,8,8,8,8,8,8,8,8,8,8,8,8,8,8,8,8,8,8,8,8,8,8,8,8,8,8,8,8,8,8,8,8,8,8,8,8])))
 (.tmp 21)))),(sU ";" (Bi (.cvi .i64 (.tmp 22)))),(sX "5" (Ar .add "8" ";")),(sM o.r "5")] (cE .ret))))))
def pd:FE:=⟨EL,[(2,none)],25⟩
def Ck8:CE:=(cS (cS (cN (Gk 17 (dL [(dP [] 0 "7" "$"),(dP [] 1 "8" o.l),(dX [0,1] ["7","8"] 2 "6" (Ar .gtr "7" "8")),(dP [2,0,1] 3 "0" "6"),(dG "0" true ":" (dP [3,2,0,1] 4 ":" ">")),(dG "0" true ";" (dP [3,2,0,1] 5 ";" o)),(dG "0" true "5" (dP [3,2,0,1] 6 "5" "$")),(dG "0"
 true "=" (dX [5,6,3,2,0,1] [";","5"] 7 "=" (Fg 2 ";" "5"))),(dG "0" true "9" (dY [7,3,5,6,2,0,1] ["="] 8 "9" (Cf (some 2) "="))),(dG "0" true "<" (dP [3,2,0,1] 9 "<" o)),(dG "0" true "?" (dP [3,2,0,1] 10 "?" "$")),(dG "0" true "@" (dX [10,3,2,0,1] ["?"] 11 "@" (Ar .sub
 "?" (1:Int)))),(dG "0" true "A" (dX [9,11,3,2,0,1,10] ["<","@"] 12 "A" (Fg 2 "<" "@"))),(dG "0" true "B" (dY [12,3,9,11,2,0,1,10] ["A"] 13 "B" (Cf (some 2) "A"))),(dG "0" true "C" (Bx [4,8,13,3,2,0,1,7,5,6,12,9,11,10] [":","9","B"] (Cx 14 [4,8,13,3,2,0,1,7,5,6,12,9,11,10]
 (jF none ":" ["9","B"] "C")))),(dG "0" true "D" (dX [14,3,4,8,13,2,0,1,7,5,6,12,9,11,10] ["C"] 15 "D" (Ar .lss "C" (0:Int)))),(dX [3,15,2,0,1,14,4,8,13,7,5,6,12,9,11,10] ["0","D"] 16 "F" (Co "0" "D" false))]))) (cC "F" (cE .normal) (cE (.exit 2)))) (cS
 (cB 3 (cN (Gk 18 (dL [(dP [] 0 "O" o),(dP [] 1 "N" "$"),(Bx [] [o] (Ch 2 [] true false "E" o [o])),(Bx [] ["$"] (Ch 3 [] true false "H" ("$":Pa) ["$"])),(Bx [3] ["H"] (Ch 4 [3] true false "J" (λ_ => (Ar .sub "H" (1:Int))) ["H"])),(dP [] 5 "K" o),(dP [] 6 "L" "$"),(dX [6]
 ["L"] 7 "P" (Ar .sub "L" (1:Int))),(dX [5,7,6] ["K","P"] 8 "Q" (Fg 2 "K" "P")),(dY [8,5,7,6] ["Q"] 9 "M" (Cf (some 2) "Q")),(dP [] 10 "R" o),(dP [] 11 "T" "$"),(dX [10,11] ["R","T"] 12 "S" (Fg 2 "R" "T")),(dY [12,10,11] ["S"]
 13 "V" (Cf (some 2) "S")),(dX [0,1,5,6,7,8,9,13,12,10,11] ["O","N"] 14 "U" (Fg 2 "O" "N")),(Bx [14,9,0,1,5,6,7,8,13,12,10,11] ["U","M"] (Cx 15 [14,9,0,1,5,6,7,8,13,12,10,11] (sU none (Is 2 "U" "M")))),(dX [2,4,0,1,3,5,6,7,8,9,10,11,12,13,14,15] ["E","J"] 16 "Y" (Fg 2 "E" "J")),(Bx
 [16,13,15,0,1,2,3,4,5,6,7,8,9,10,11,12,14] ["Y","V"] (Cx 17 [16,13,15,0,1,2,3,4,5,6,7,8,9,10,11,12,14] (sU none (Is 2 "Y" "V"))))])))) (cN (sL [(sM "G" "$"),(sX "I" (Ar .sub "G" (1:Int))),(sM "$" "I")]))))
def xf:CE:=(cS (cT [(sM "." "("),(sM "+" o.r),(sX "1" (Ar .lss "." "+"))] (cC "1" (cE .normal) (cE (.exit 0)))) (cS (cB 1 (cT [(sM "2" "("),(sM "$" "2")] (cB 2 (cL 1000000 Ck8)))) (cN (sL [(sM "3" "("),(sX "4" (Ar .add "3" (1:Int))),(sM "(" "4")]))))
def I5:CE:=(cT [(sM "*" o.l),(sX "," (Ar .add "*" (1:Int))),(sM "(" ",")] (cB 0 (cL 1000000 xf)))
def ox:FE:=⟨I5,[],53⟩
end
end Go.DD
