/- A part. -/
import Derived.Test.YtnphfnhhpcelbaaGreatYf
namespace Go.DD
noncomputable section
open Pa
instance RH : Coe Pa EO := ⟨EO.t⟩
instance RA : Coe Pa (Nat -> XP) := ⟨λp _ es => some (Ae es (.t p))⟩
open Go
set_option maxRecDepth 100000
def r17:CE:=(cT [(sU o.r (Pn 26 o)),(sU "!" (Rz 26 [.v (.slice none 0 0),.v (.slice none 0 0),.v (.slice none 0 0)])),(sM ")" (0:Int))] (cS (cT [(sX "%" (Cj (some 3) o.r)),(Bj 57 ["%"] "&"),(sX "*" (Av .neq "&" (0:Int)))] (cC "*" (cT [(sU "," (Bd (.bld [.slice none 0 0,.slice none 0 0,.slice none 0 0] []))),(sU none (Jr 3 "!"
 ",")),(sM ")" (2:Int))] (cE .ret)) (cE .normal))) (cT [(sX "+" (Cj (some 3) o.r)),(sM "1" o.l),(Bj 58 ["+","1"] "4"),(sM "." "4"),(sX "2" (Ga "." 0)),(sX "3" (Ga "." 1)),(sM "$" "2"),(sM "(" "3")] (cS (cT [(sM "6" "("),(sX "7" (Av .neq "6" (0:Int)))] (cC "7"
 (cT [(sU "8" (Bd (.bld [.slice none 0 0,.slice none 0 0,.slice none 0 0] []))),(sM "0" "("),(sU none (Jr 3 "!" "8")),(sM ")" "0")] (cE .ret)) (cE .normal))) (cS (cN (Gq 13 (dL [(By [] [o.r] (Ch 0 [] true false "<" (λ_ => (Eg 0 o.r)) [o.r])),(By [0] ["<"] (Ch 1 [0] true true ":" (λ_ => (Cj none "<")) ["<"])),(By []
 [o.r] (Ch 2 [] true false "5" (λ_ => (Eg 1 o.r)) [o.r])),(By [2] ["5"] (Ch 3 [2] true true ";" (λ_ => (Cj none "5")) ["5"])),(dP [] 4 "9" "$"),(dX [] [o.r] 5 "=" (Eg 2 o.r)),(dY [5] ["="] 6 "?" (Cj none "=")),(By [4,6,5] ["9","?"] (Cx 7 [4,6,5] (Bj 60 ["9","?"] "@"))),(By [1,3,7,0,2,4,6,5]
 [":",";","@"] (Cx 8 [1,3,7,0,2,4,6,5] (Bj 59 [":",";","@"] "A"))),(dX [8,1,3,7,0,2,4,6,5] ["A"] 9 "B" (Ga "A" 0)),(dX [8,1,3,7,0,2,4,6,5] ["A"] 10 "C" (Ga "A" 1)),(By [9,8,0,1,2,3,4,5,6,7,10] ["!","B"] (Cx 11 [9,8,0,1,2,3,4,5,6,7,10] (sU none (Jr 3 "!" "B")))),(dP [10,11,0,1,2,3,4,5,6,7,8,9]
 12 ")" "C")]))) (cE .ret))))))
def e17:FE:=⟨r17,[(4,some (some 3)),(5,none)],33⟩
def nT:CE:=(cT [(sX "M" (Av .lss "Q" "N"))] (cS (cC "M" (cE .normal) (cE (.exit 2))) (cS (cB 3 (cT [(sM "R" "Q"),(sX "T" (Gf 3 "K" "Q")),(sX "S" (Cj (some 3) "T")),(sU "&" (Rz 129 [.v (.string (bs [])),.v (.int .i64 0),.v (.int .i64 0)])),(sM "%" "R"),(sU none (Jr 3 "&" "S"))]
 (cS (cN (Gq 19 (dL [(dX [] ["("] 0 "Y" (Eg 0 "(")),(dY [0] ["Y"] 1 "W" (Cj none "Y")),(dP [] 2 "X" "%"),(dX [1,2,0] ["W","X"] 3 "_" (Gf 1 "W" "X")),(dY [3,1,2,0] ["_"] 4 "U" (Cj none "_")),(dX [] ["&"] 5 "^" (Eg 1 "&")),(dY [5] ["^"] 6 "b" (Cj none
 "^")),(dX [4,6,3,1,2,0,5] ["U","b"] 7 "e" (Av .lss "U" "b")),(dP [7,4,6,3,1,2,0,5] 8 "Z" "e"),(dG "Z" false "V" (dX [8,7,4,6,3,1,2,0,5] ["("] 9 "V" (Eg 0 "("))),(dG "Z" false "f" (dY [9,8,7,4,6,3,1,2,0,5] ["V"] 10 "f" (Cj none "V"))),(dG "Z" false "c"
 (dP [8,7,4,6,3,1,2,0,5] 11 "c" "%")),(dG "Z" false "[" (dX [10,11,8,9,7,4,6,3,1,2,0,5] ["f","c"] 12 "[" (Gf 1 "f" "c"))),(dG "Z" false "d" (dY [12,8,10,11,9,7,4,6,3,1,2,0,5] ["["] 13 "d" (Cj none "["))),(dG "Z" false "a" (dX [8,7,4,6,3,1,2,0,5] ["&"] 14 "a"
 (Eg 2 "&"))),(dG "Z" false "g" (dY [14,8,7,4,6,3,1,2,0,5] ["a"] 15 "g" (Cj none "a"))),(dG "Z" false "]" (By [15,8,14,7,4,6,3,1,2,0,5] ["g"] (Ch 16 [15,8,14,7,4,6,3,1,2,0,5] false false "]" (Gd (Bd (.mm false (.tmp 65) (.const (.int .i64 1073741824))))) ["g"]))),(dG "Z" false "h"
 (dX [13,16,8,12,10,11,9,7,4,6,3,1,2,0,5,15,14] ["d","]"] 17 "h" (Av .gtr "d" "]"))),(dX [8,17,7,4,6,3,1,2,0,5,13,16,12,10,11,9,15,14] ["Z","h"] 18 "n" (Co "Z" true "h"))]))) (cC "n" (cT [(sM "!" (.c (.v (.slice none 0 0)))),(sM ")" (3:Int))] (cE .ret))
 (cE .normal))))) (cN (sL [(sX "j" (Av .add "Q" (1:Int))),(sM "Q" "j")])))))
def nS:CE:=(cT [(sX "p" (Av .lss "k" "o"))] (cS (cC "p" (cE .normal) (cE (.exit 4))) (cS (cB 5 (cT [(sM "z" "k"),(sX "l" (Gf 4 "s" "k")),(sX "w" (Cj (some 4) "l")),(sU "," (Rz 41 [.v (.int .i64 0),.v (.int .i64 0),.v (.int .i64 0),.v (.string (bs []))])),(sM "*" "z"),(sU
 none (Jr 4 "," "w"))] (cS (cN (Gq 9 (dL [(dY [] [","] 0 "v" (Cj (some 4) ",")),(dX [] [o.r] 1 "x" (Eg 1 o.r)),(dY [1] ["x"] 2 "y" (Cj none "x")),(dP [] 3 "r" "*"),(dX [2,3,1] ["y","r"] 4 "ag" (Gf 2 "y" "r")),(dX [4,2,3,1] ["ag"] 5 "i" (Eg 1
 "ag")),(dY [5,4,2,3,1] ["i"] 6 "|" (Cj none "i")),(By [0,6,5,4,2,3,1] ["v","|"] (Cx 7 [0,6,5,4,2,3,1] (Bj 123 ["v","|"] "t"))),(dX [7,0,6,5,4,2,3,1] ["t"] 8 "ac" (Qs .not "t"))]))) (cC "ac" (cT [(sM "!" (.c (.v (.slice none 0 0)))),(sM ")" (12:Int))]
 (cE .ret)) (cE .normal))))) (cN (sL [(sX "u" (Av .add "k" (1:Int))),(sM "k" "u")])))))
def nR:CE:=(cT [(sX "3" (Av .lss "2" "4"))] (cS (cC "3" (cE .normal) (cE (.exit 0))) (cS (cB 1 (cT [(sX "6" (Gf 2 "1" "2")),(sX "7" (Cj (some 2) "6")),(sU "(" (Rz 62 [.v (.slice none 0 0),.v (.slice none 0 0)])),(sU none (Jr 2 "(" "7"))] (cS (cT [(sX "8" (Eg 0 "(")),(sX "0" (Cj none "8")),(sX "<"
 (Dp "0")),(sX ":" (Eg 0 o.r)),(sX "5" (Cj none ":")),(sX ";" (Dp "5")),(sX "9" (Av .neq "<" ";")),(sM "=" "9"),(sG "=" false "?" (sX "?" (Eg 1 "("))),(sG "=" false "@" (sX "@" (Cj none "?"))),(sG "=" false "A" (sX "A" (Dp "@"))),(sG "=" false "B"
 (sX "B" (Av .neq "A" (0:Int)))),(sG "=" false "C" (sM "C" "B")),(sG "C" true "D" (sX "D" (Eg 1 "("))),(sG "C" true "F" (sX "F" (Cj none "D"))),(sG "C" true "G" (sX "G" (Dp "F"))),(sG "C" true "I" (sX "I" (Eg 1 o.r))),(sG
 "C" true "O" (sX "O" (Cj none "I"))),(sG "C" true "P" (sX "P" (Dp "O"))),(sG "C" true "E" (sX "E" (Av .neq "G" "P"))),(sG "=" false "H" (sX "H" (Co "C" "E" false))),(sX "J" (Co "=" true "H"))]
 (cC "J" (cT [(sM "!" (.c (.v (.slice none 0 0)))),(sM ")" (13:Int))] (cE .ret)) (cE .normal))) (cS (cT [(sX "L" (Eg 0 o.r)),(sX "K" (Cj none "L")),(sX "N" (Dp "K")),(sM "Q" (0:Int))] (cB 2 (cL 1000000 nT))) (cT [(sX "m" (Eg 1 "(")),(sX "s" (Cj none "m")),(sX "o"
 (Dp "s")),(sM "k" (0:Int))] (cB 4 (cL 1000000 nS))))))) (cN (sL [(sX "aa" (Av .add "2" (1:Int))),(sM "2" "aa")])))))
def nQ:CE:=(cS (cT [(sM "~" "+"),(sM "ab" "."),(sX "ah" (Dp "ab")),(sX "ai" (Av .lss "~" "ah"))] (cC "ai" (cE .normal) (cE (.exit 6)))) (cS (cB 7 (cS (cN (Gq 13 (dL [(dP [] 0 "ap" "."),(dP [] 1 "ak" "+"),(dX [1] ["ak"] 2 "al" (Av .sub "ak" (.c (.v (.int .i64
 1))))),(dX [0,2,1] ["ap","al"] 3 "am" (Gf 2 "ap" "al")),(dX [3,0,2,1] ["am"] 4 "an" (Eg 0 "am")),(dY [4,3,0,2,1] ["an"] 5 "aq" (Cj none "an")),(dP [] 6 "ar" "."),(dP [] 7 "ao" "+"),(dX [6,7] ["ar","ao"] 8 "as" (Gf 2 "ar" "ao")),(dX
 [8,6,7] ["as"] 9 "ay" (Eg 0 "as")),(dY [9,8,6,7] ["ay"] 10 "at" (Cj none "ay")),(By [5,10,4,3,0,2,1,9,8,6,7] ["aq","at"] (Cx 11 [5,10,4,3,0,2,1,9,8,6,7] (Bj 24 ["aq","at"] "au"))),(dX [11,5,10,4,3,0,2,1,9,8,6,7] ["au"] 12 "av" (Av .eql "au" (0:Int)))])))
 (cC "av" (cT [(sM "!" (.c (.v (.slice none 0 0)))),(sM ")" (5:Int))] (cE .ret)) (cE .normal)))) (cN (sL [(sM "aj" "+"),(sX "q" (Av .add "aj" (1:Int))),(sM "+" "q")]))))
def zp:CE:=(cT [(sU o.r (Pn 26 o)),(sM "!" (.c (.v (.slice none 0 0)))),(sM ")" (0:Int))] (cS (cT [(sM "1" o.l),(sX "4" (Dp "1")),(sM "2" (0:Int))] (cB 0 (cL 1000000 nR))) (cT [(sM "ad" o.l),(Bj 125 ["ad"] "ae"),(Bj 124 ["ae",(.c (.fn (.func 126) [.tup []]))] "af"),(sM "." "af")]
 (cS (cT [(sM "+" (1:Int))] (cB 6 (cL 1000000 nQ))) (cT [(sM "ax" "."),(sM "!" "ax"),(sM ")" (0:Int))] (cE .ret))))))
def e58:FE:=⟨zp,[(4,none),(5,none)],112⟩
def xR:CE:=(cT [(sX "+" (Av .lss "." ","))] (cS (cC "+" (cE .normal) (cE (.exit 0))) (cS (cB 1 (cT [(sX "1" (Gf 2 "*" ".")),(sX "4" (Cj (some 2) "1")),(sU "(" (Rz 62 [.v (.slice none 0 0),.v (.slice none 0 0)])),(sU none (Jr 2 "(" "4"))] (cT [(sM "3" o.l),(sX "6" (Eg 0 "(")),(sX "7" (Cj none "6")),(Bj 130 ["3","7",(.c
 (.fn (.func 131) [.tup []]))] "8"),(sM "2" "8"),(sX "0" (Ga "2" 0)),(sX "<" (Ga "2" 1)),(sM "%" "0"),(sM "&" "<")] (cT [(sM ":" ")"),(sM "5" o.l),(sM ";" "%"),(sU "9" (Bd (.sli 2 (.tmp 24) none (some (.tmp 25))))),(sU "=" (Bd (.app 39 2 48 (.tmp 23) (.tmp 26)))),(sM ")" "=")] (cS (cT [(sX
 "?" (Eg 1 "(")),(sX "@" (Cj none "?")),(sX "A" (Dp "@")),(sX "B" (Av .gtr "A" (0:Int)))] (cC "B" (cN (sL [(sM "C" ")"),(sX "D" (Eg 0 "(")),(sX "F" (Cj none "D")),(sX "G" (Eg 1 "(")),(sX "I" (Cj none "G")),(sU "O" (Bd (.bld [.slice none 0 0,.slice
 none 0 0] [(0,1,.tmp 34),(1,1,.tmp 36)]))),(sU "P" (Bd (.bsl 39 1 2 [.slice none 0 0,.slice none 0 0] [(0,2,.tmp 37)]))),(sU "E" (Bd (.app 39 2 48 (.tmp 32) (.tmp 38)))),(sM ")" "E")])) (cE .normal))) (cS (cT [(sM "H" "&")] (cC "H" (cN (sL [(sM "J" "%"),(sX "L" (Av .add "J" (1:Int))),(sM "%" "L")]))
 (cE .normal))) (cN (sL [(sM "K" o.l),(sM "N" "%"),(sU "Q" (Bd (.sli 2 (.tmp 43) (some (.tmp 44)) none))),(sM o.l "Q")])))))))) (cN (sL [(sX "M" (Av .add "." (1:Int))),(sM "." "M")])))))
def zn:CE:=(cT [(sM "!" (.c (.v (.slice none 0 0))))] (cT [(sM ")" (.c (.v (.slice none 0 0))))] (cS (cT [(sM "*" o),(sX "," (Dp "*")),(sM "." (0:Int))] (cB 0 (cL 1000000 xR))) (cT [(sM "R" ")"),(sM "T" o.l),(sU "S" (Bd (.app 39 2 48 (.tmp 47) (.tmp 48)))),(sM "!" "S")] (cE .ret)))))
def e60:FE:=⟨zn,[(4,none)],50⟩
def EC:CE:=(cT [(sM "!" (.c (.v (.slice none 0 0))))] (cT [(sM "$" o),(Bj 159 ["$"] "("),(sM ")" "(")] (cT [(sM "%" ")"),(sM "&" o.l),(Bj 160 ["%","&"] "*")] (cT [(sM "," ")"),(sM "!" ",")] (cE .ret)))))
def pk:FE:=⟨EC,[(4,none)],12⟩
def EB:CE:=(cT [(sU o.l (Pn 27 o)),(sM o.r (.c (.v .nilFunc)))] (cT [(sU ">" (Bd (.mkf (.func 161) [] [.tmp 1]))),(sM o.r ">")] (cE .ret)))
def pj:FE:=⟨EB,[(2,none)],4⟩
def EA:CE:=(cT [(sU o.r (Pn 62 o)),(sU ">" (Pn 62 o.l)),(sM "!" (0:Int))] (cT [(sX ")" (Eg 0 o.r)),(sX "$" (Cj none ")")),(sX "(" (Eg 0 ">")),(sX "%" (Cj none "(")),(Bj 24 ["$","%"] "&"),(sM "!" "&")] (cE .ret)))
def ph:FE:=⟨EA,[(4,none)],10⟩
def Ci7:CE:=(cS (cT [(sM "4" "&"),(sM "2" "*"),(sX "3" (Av .lss "4" "2"))] (cC "3" (cE .normal) (cE (.exit 0)))) (cB 1 (cT [(sM "6" "&"),(sM "7" "*"),(sX "8" (Av .add "6" "7")),(sU "0" (Bd (.cvi .u64 (.tmp 20)))),(sX "<" (Av .shr "0" (.c (.v (.int .u64 1))))),(sU ":" (Bd (.cvi .i64
 (.tmp 22)))),(sM "," ":")] (cT [(sM "5" o.r),(sM ";" o),(sM "9" ","),(sX "=" (Gf 2 ";" "9")),(sX "?" (Cj (some 2) "=")),(sM "@" o.l),(aZ none "5" ["?","@"] "A"),(sX "B" (Av .lss "A" (0:Int)))] (cC "B" (cN (sL [(sM "C" ","),(sX "D" (Av .add "C"
 (1:Int))),(sM "&" "D")])) (cN (sL [(sM "F" ","),(sM "*" "F")])))))))
def DU:CE:=(cT [(sM "$" (0:Int)),(sM "(" false)] (cT [(sM "." o),(sX "+" (Dp ".")),(sM "%" "+")] (cT [(sM "1" "%"),(sM "&" (0:Int)),(sM "*" "1")] (cS (cB 0 (cL 1000000 Ci7)) (cT [(sM "G" "&"),(sM "I" "&"),(sM "O" "%"),(sX "P" (Av .lss "I" "O")),(sM
 "E" "P"),(sG "E" true "H" (sM "H" o.r)),(sG "E" true "J" (sM "J" o)),(sG "E" true "L" (sM "L" "&")),(sG "E" true "K" (sX "K" (Gf 2 "J" "L"))),(sG "E" true "N" (sX "N" (Cj (some 2) "K"))),(sG "E" true "Q" (sM "Q"
 o.l)),(sG "E" true "M" (aZ none "H" ["N","Q"] "M")),(sG "E" true "R" (sX "R" (Av .eql "M" (0:Int)))),(sX "T" (Co "E" "R" false)),(sM "$" "G"),(sM "(" "T")] (cE .ret))))))
def oy:FE:=⟨DU,[(6,none),(7,none)],49⟩
def DT:CE:=(cT [(sU o.r (Pn 39 o)),(sM "!" (0:Int))] (cT [(sX ")" (Eg 0 o.r)),(sX "$" (Cj none ")")),(sM "(" o.l),(Bj 24 ["$","("] "%"),(sM "!" "%")] (cE .ret)))
def ox:FE:=⟨DT,[(4,none)],9⟩
def DI:CE:=(cT [(sM o.r (.c (.v (.slice none 0 0))))] (cT [(sM ">" o),(Bj 185 [(.c (.v (.slice none 0 0))),">"] "!"),(sM o.r "!")] (cE .ret)))
def og:FE:=⟨DI,[(2,none)],5⟩
def G3:CE:=(cT [(sM ")" o),(sX "$" (Dp ")")),(sM "!" "$")] (cN (sL [(sM "(" o),(sM "%" "!"),(sM "&" "!"),(sU "*" (Bd (.cvi .u64 (.tmp 9)))),(Bj 176 ["*"] ","),(sM "." o.l),(Bj 186 ["(",(0:Int),"%",",","."] "+")])))
def oe:FE:=⟨G3,[],14⟩
def Ci8:CE:=(cT [(sX "%" (Av .lss "(" "$"))] (cS (cC "%" (cE .normal) (cE (.exit 0))) (cS (cB 1 (cT [(sX "&" (Gf 2 ")" "(")),(sX "*" (Cj (some 2) "&")),(sU "!" (Rz 62 [.v (.slice none 0 0),.v (.slice none 0 0)])),(sU none (Jr 2 "!" "*"))] (cT [(sM "," o),(sX "." (Cj (some 2) "!")),(aZ none "," ["."] "+"),(sX "1" (Qs .not "+"))]
 (cC "1" (cE .ret) (cE .normal))))) (cN (sL [(sX "4" (Av .add "(" (1:Int))),(sM "(" "4")])))))
def DH:CE:=(cT [(sX ")" (Cj none o.l)),(sX "$" (Dp ")")),(sM "(" (0:Int))] (cB 0 (cL 1000000 Ci8)))
def od:FE:=⟨DH,[],16⟩
def CZ:CE:=(cT [(sM o.r (0:Int))] (cS (cC false (cT [(sM ">" o),(sU "!" (Bd (.cvi .u32 (.tmp 3)))),(Bj 200 ["!"] ")"),(sM o.r ")")] (cE .ret)) (cE .normal)) (cT [(sM "$" o),(Bj 201 ["$"] "("),(sM o.r "(")] (cE .ret))))
def nq:FE:=⟨CZ,[(2,none)],8⟩
def W3:DC:=.reg false [⟨some 5,none,.al 62 [.slice none 0 0,.slice none 0 0],[]⟩,⟨none,none,.st 2 (.tmp 5) (.tmp 7),[]⟩] ⟨[],true⟩
def W2:DC:=.blk 1 (.reg false [⟨some 8,none,.ld none (.tmp 2),[]⟩,⟨some 9,none,.ld (some 2) (.tmp 5),[]⟩,⟨some 10,none,.bsl 62 1 2 [.slice none 0 0,.slice none 0 0] [(0,2,.tmp 9)],[]⟩,⟨some 11,none,.app 62 2 48 (.tmp 8) (.tmp 10),[]⟩,⟨none,none,.st 1 (.tmp 2) (.tmp 11),[]⟩] ⟨[],true⟩)
def tu:CE:=(cN (sL [(sU ")" (Rz 62 [.v (.slice none 0 0),.v (.slice none 0 0)])),(sU none (Jr 2 ")" "("))]))
def tt:CE:=(cB 1 (cN (sL [(sX "%" (Cj none o.r)),(sX "&" (Cj (some 2) ")")),(sU "*" (Bd (.bsl 62 1 2 [.slice none 0 0,.slice none 0 0] [(0,2,.tmp 9)]))),(sU "," (Bd (.app 62 2 48 (.tmp 8) (.tmp 10)))),(sU none (Jr 1 o.r ","))])))
def CS:CE:=(cT [(sU o.r (Pn 27 o)),(sM "!" (.c (.v (.slice none 0 0))))] (cS (cT [(sM "$" o.l)] (cB 0 (cR 13 false "$" [7] W3 W2))) (cT [(sX "." (Cj none o.r)),(sM "!" ".")] (cE .ret))))
def ni:FE:=⟨CS,[(4,none)],13⟩
def rm:CE:=(cB 1 (cT [(sM "0" o.r),(sM "<" o.l),(sX ":" (Av .sub "0" "<")),(sM "." ":")] (cS (cT [(sM "5" "."),(sX ";" (Av .leq "5" (12:Int)))] (cC ";" (cT [(sM "9" o),(sM "=" o.l),(sM "?" o.r),(sM "@" "!"),(Bj 203 ["9","=","?","@"] "A")] (cE .ret)) (cE
 .normal))) (cS (cT [(sM "B" ">"),(sX "C" (Av .eql "B" (0:Int)))] (cC "C" (cT [(sM "D" o),(sM "F" o.l),(sM "G" o.r),(sM "I" "!"),(Bj 204 ["D","F","G","I"] "O")] (cE .ret)) (cE .normal))) (cS (cT [(sM "P" "*"),(sX "E" (Qs .not "P"))] (cC "E"
 (cT [(sM "H" o),(sM "J" o.l),(sM "L" o.r),(sM "K" "!"),(Bj 205 ["H","J","L","K"] "N")] (cN (sL [(sM "Q" ">"),(sX "M" (Av .sub "Q" (1:Int))),(sM ">" "M")]))) (cE .normal))) (cT [(sM "T" o),(sM "S" o.l),(sM "Y" o.r),(sM "W" "!"),(Bj 206
 ["T","S","Y","W"] "X"),(sM "R" "X"),(sX "_" (Ga "R" 0)),(sX "U" (Ga "R" 1)),(sM "+" "_"),(sM "1" "U")] (cS (cT [(sM "^" "1"),(sX "b" (Av .eql "^" (2:Int)))] (cC "b" (cT [(sM "e" o),(sM "Z" o.l),(sM "V" o.r),(sM
 "f" "!"),(Bj 207 ["e","Z","V","f"] "c")] (cT [(sM "[" o.r),(sX "d" (Av .sub "[" (1:Int))),(sM "a" "+"),(sM "g" o.l),(sX "]" (Av .sub "a" "g")),(sX "h" (Av .sub "d" "]")),(sM "+" "h")] (cN (sL [(sM "1"
 (1:Int))])))) (cE .normal))) (cS (cT [(sM "n" "*"),(sM "j" "n"),(sG "j" true "m" (sM "m" ",")),(sX "s" (Co "j" "m" false)),(sM "o" "s"),(sG "o" true "k" (sM "k" "1")),(sG "o" true "p" (sX "p"
 (Av .eql "k" (1:Int)))),(sX "z" (Co "o" "p" false))] (cC "z" (cT [(sM "l" o),(sM "w" o.l),(sM "v" o.r),(sM "x" "!"),(Bj 208 ["l","w","v","x"] "y")] (cC "y" (cE .ret) (cE .normal))) (cE .normal))) (cS (cS (cN
 (Gq 17 (dL [(dP [] 0 "r" o.l),(dX [0] ["r"] 1 "ag" (Av .gtr "r" (0:Int))),(dP [1,0] 2 "i" "ag"),(dG "i" true "|" (dP [2,1,0] 3 "|" "!")),(dG "i" true "t" (dP [2,1,0] 4 "t" o)),(dG "i" true "ac" (dP [2,1,0] 5 "ac" o.l)),(dG "i"
 true "u" (dX [5,2,1,0] ["ac"] 6 "u" (Av .sub "ac" (1:Int)))),(dG "i" true "aa" (dX [4,6,2,1,0,5] ["t","u"] 7 "aa" (Gf 2 "t" "u"))),(dG "i" true "ad" (dY [7,2,4,6,1,0,5] ["aa"] 8 "ad" (Cj (some 2) "aa"))),(dG "i" true "ae"
 (dP [2,1,0] 9 "ae" o)),(dG "i" true "af" (dP [2,1,0] 10 "af" "+")),(dG "i" true "~" (dX [9,10,2,1,0] ["ae","af"] 11 "~" (Gf 2 "ae" "af"))),(dG "i" true "ab" (dY [11,2,9,10,1,0] ["~"] 12 "ab" (Cj (some 2) "~"))),(dG "i" true "ah"
 (By [3,8,12,2,1,0,7,4,6,5,11,9,10] ["|","ad","ab"] (Cx 13 [3,8,12,2,1,0,7,4,6,5,11,9,10] (jY none "|" ["ad","ab"] "ah")))),(dG "i" true "ai" (dX [13,2,3,8,12,1,0,7,4,6,5,11,9,10] ["ah"] 14 "ai" (Av .lss "ah" (0:Int)))),(dG "i" true "aj" (dX [14,2,13,3,8,12,1,0,7,4,6,5,11,9,10]
 ["ai"] 15 "aj" (Qs .not "ai"))),(dX [2,15,1,0,14,13,3,8,12,7,4,6,5,11,9,10] ["i","aj"] 16 "q" (Co "i" "aj" false))]))) (cC "q" (cT [(sM "ap" o),(sM "ak" o.l),(sM "al" o.r),(sM "am" "+"),(sM "an" "!"),(Bj 209 ["ap","ak","al","am","an"]
 "aq"),(sM "4" "aq")] (cT [(sM "ar" "4"),(sM o.l "ar")] (cE (.exit 1)))) (cE .normal))) (cT [(sM "as" o),(sM "ay" o.l),(sM "at" o.r),(sM "au" "+"),(sM "av" "!"),(Bj 210 ["as","ay","at","au","av"] "ax"),(sM "ao" "ax"),(sX "aM"
 (Ga "ao" 0)),(sX "az" (Ga "ao" 1)),(sM "2" "aM"),(sM "3" "az")] (cT [(sM "aA" "3"),(sM "," "aA")] (cT [(sM "aB" "2"),(sM "aw" o.l),(sX "aC" (Av .sub "aB" "aw")),(sM "aD" o.r),(sM "aE" "2"),(sX "aF" (Av .sub "aD" "aE")),(sM
 "6" "aC"),(sM "7" "aF")] (cT [(sM "aG" "."),(sX "aH" (Av .quo "aG" (8:Int))),(sM "8" "aH")] (cT [(sM "aI" "6"),(sM "aJ" "7"),(sX "aO" (Av .lss "aI" "aJ"))] (cC "aO" (cT [(sM "aP" "6"),(sM "aK" "8"),(sX "aL"
 (Av .geq "aP" "aK")),(sM "*" "aL")] (cT [(sM "aN" o),(sM "aQ" o.l),(sM "a0" "2"),(sM "aR" ">"),(sM "a1" "!"),(Bj 186 ["aN","aQ","a0","aR","a1"] o.l.l.l.l.r.r.r)] (cN (sL [(sM "a2" "2"),(sX "aS" (Av .add "a2"
 (1:Int))),(sM o.l "aS")])))) (cT [(sM "aT" "7"),(sM "a3" "8"),(sX "aU" (Av .geq "aT" "a3")),(sM "*" "aU")] (cT [(sM "aV" o),(sM "aW" "2"),(sX "aX" (Av .add "aW" (1:Int))),(sM "aY" o.r),(sM "aZ" ">"),(sM
 o.l.l.r.l.l.r.l "!"),(Bj 186 ["aV","aX","aY","aZ",o.l.l.r.l.l.r.l] o.l.l.r.l.l.r.r)] (cN (sL [(sM o.l.l.r.l.r.l.l "2"),(sM o.r o.l.l.r.l.r.l.l)])))))))))))))))))))
def G0:CE:=(cT [(sM "*" true)] (cT [(sM "," true)] (cB 0 (cL 1000000 rm))))
def nh:FE:=⟨G0,[],148⟩
def CQ:CE:=(cT [(sM o.r (0:Int))] (cS (cT [(sM ">" o),(sX "!" (Av .geq ">" (.c (.v (.int .u64 4294967296)))))] (cC "!" (cT [(sM ")" o),(sX "$" (Av .shr ")" (.c (.v (.int .u64 32))))),(sM o "$")] (cN (sL [(sM o.r (32:Int))]))) (cE .normal))) (cS (cT [(sM "(" o),(sX "%" (Av .geq "(" (.c (.v (.int .u64 65536)))))] (cC "%" (cT [(sM
 "&" o),(sX "*" (Av .shr "&" (.c (.v (.int .u64 16))))),(sM o "*")] (cN (sL [(sM "," o.r),(sX "." (Av .add "," (16:Int))),(sM o.r ".")]))) (cE .normal))) (cS (cT [(sM "+" o),(sX "1" (Av .geq "+" (.c (.v (.int .u64 256)))))] (cC "1" (cT [(sM "4" o),(sX "2" (Av .shr "4" (.c (.v (.int .u64 8))))),(sM o "2")]
 (cN (sL [(sM "3" o.r),(sX "6" (Av .add "3" (8:Int))),(sM o.r "6")]))) (cE .normal))) (cT [(sM "7" o.r),(sM "8" o),(sU "0" (Bd (.cvi .u8 (.tmp 20)))),(sU "<" (Bd (.ixs (.const (.string (bs [0,1,2,2,3,3,3,3,4,4,4,4,4,4,4,4,5,5,5,5,5,5,5,5,5,5,5,5,5,5,5,5,6,6,6,6,6,6,6,6,6,6,6,6,6,6,6,6,6,6,6,6,6,6,6,6,6,6,6,6,6,6,6,6,7,7,7,7,7,7,7,7,7,7,7,7,7,7,7,7,7,7,7,7,7,7,7,7,7,7,7,7,7,7,7,7,7,7,7,7,7,7,7,7,7,7,7,7,7,7,7,7,7,7,7,7,7,7,7,7,7,7,7,7,7,7,7,7,8,8,8,8,8,8,8,8,8,8,8,8,8,8,8,8,8,8,8,8,8,8,8,8,8,8,8,8,8,8,8,8,8,8,8,8,8,8,8,8,8,8,8,8,8,8,8,8,8,8,8,8,8,8,8,8,8,8,8,8,8,8,8,8,8,8,8,8,8,8,8,8,8,8,8,8,8,8,8,8,8,8,8,8,8,8,8,8,8,8,8,8,8,8,8,8,8,8,8,8,8,8,8,8,8,8,8,8,8,8,8,8,8,8,8,8,8,8,8,8,8,8,8,8,8,8,8,8])))
 (.tmp 21)))),(sU ":" (Bd (.cvi .i64 (.tmp 22)))),(sX "5" (Av .add "7" ":")),(sM o.r "5")] (cE .ret))))))
def nf:FE:=⟨CQ,[(2,none)],25⟩
def Ci9:CE:=(cS (cS (cN (Gq 17 (dL [(dP [] 0 "6" "&"),(dP [] 1 "7" o.l),(dX [0,1] ["6","7"] 2 "8" (Av .gtr "6" "7")),(dP [2,0,1] 3 "0" "8"),(dG "0" true "<" (dP [3,2,0,1] 4 "<" ">")),(dG "0" true ":" (dP [3,2,0,1] 5 ":" o)),(dG "0" true "5" (dP [3,2,0,1] 6 "5" "&")),(dG "0"
 true ";" (dX [5,6,3,2,0,1] [":","5"] 7 ";" (Gf 2 ":" "5"))),(dG "0" true "9" (dY [7,3,5,6,2,0,1] [";"] 8 "9" (Cj (some 2) ";"))),(dG "0" true "=" (dP [3,2,0,1] 9 "=" o)),(dG "0" true "?" (dP [3,2,0,1] 10 "?" "&")),(dG "0" true "@" (dX [10,3,2,0,1] ["?"] 11 "@" (Av .sub
 "?" (1:Int)))),(dG "0" true "A" (dX [9,11,3,2,0,1,10] ["=","@"] 12 "A" (Gf 2 "=" "@"))),(dG "0" true "B" (dY [12,3,9,11,2,0,1,10] ["A"] 13 "B" (Cj (some 2) "A"))),(dG "0" true "C" (By [4,8,13,3,2,0,1,7,5,6,12,9,11,10] ["<","9","B"] (Cx 14 [4,8,13,3,2,0,1,7,5,6,12,9,11,10]
 (jY none "<" ["9","B"] "C")))),(dG "0" true "D" (dX [14,3,4,8,13,2,0,1,7,5,6,12,9,11,10] ["C"] 15 "D" (Av .lss "C" (0:Int)))),(dX [3,15,2,0,1,14,4,8,13,7,5,6,12,9,11,10] ["0","D"] 16 "F" (Co "0" "D" false))]))) (cC "F" (cE .normal) (cE (.exit 2)))) (cS
 (cB 3 (cN (Gq 18 (dL [(dP [] 0 "O" o),(dP [] 1 "P" "&"),(By [] [o] (Ch 2 [] true false "E" o [o])),(By [] ["&"] (Ch 3 [] true false "H" ("&":Pa) ["&"])),(By [3] ["H"] (Ch 4 [3] true false "J" (λ_ => (Av .sub "H" (1:Int))) ["H"])),(dP [] 5 "L" o),(dP [] 6 "K" "&"),(dX [6]
 ["K"] 7 "N" (Av .sub "K" (1:Int))),(dX [5,7,6] ["L","N"] 8 "Q" (Gf 2 "L" "N")),(dY [8,5,7,6] ["Q"] 9 "M" (Cj (some 2) "Q")),(dP [] 10 "R" o),(dP [] 11 "T" "&"),(dX [10,11] ["R","T"] 12 "S" (Gf 2 "R" "T")),(dY [12,10,11] ["S"]
 13 "Y" (Cj (some 2) "S")),(dX [0,1,5,6,7,8,9,13,12,10,11] ["O","P"] 14 "W" (Gf 2 "O" "P")),(By [14,9,0,1,5,6,7,8,13,12,10,11] ["W","M"] (Cx 15 [14,9,0,1,5,6,7,8,13,12,10,11] (sU none (Jr 2 "W" "M")))),(dX [2,4,0,1,3,5,6,7,8,9,10,11,12,13,14,15] ["E","J"] 16 "X" (Gf 2 "E" "J")),(By
 [16,13,15,0,1,2,3,4,5,6,7,8,9,10,11,12,14] ["X","Y"] (Cx 17 [16,13,15,0,1,2,3,4,5,6,7,8,9,10,11,12,14] (sU none (Jr 2 "X" "Y"))))])))) (cN (sL [(sM "G" "&"),(sX "I" (Av .sub "G" (1:Int))),(sM "&" "I")]))))
def ri:CE:=(cS (cT [(sM "." "%"),(sM "+" o.r),(sX "1" (Av .lss "." "+"))] (cC "1" (cE .normal) (cE (.exit 0)))) (cS (cB 1 (cT [(sM "3" "%"),(sM "&" "3")] (cB 2 (cL 1000000 Ci9)))) (cN (sL [(sM "4" "%"),(sX "2" (Av .add "4" (1:Int))),(sM "%" "2")]))))
def F9:CE:=(cT [(sM "*" o.l),(sX "," (Av .add "*" (1:Int))),(sM "%" ",")] (cB 0 (cL 1000000 ri)))
def na:FE:=⟨F9,[],53⟩
end
end Go.DD
