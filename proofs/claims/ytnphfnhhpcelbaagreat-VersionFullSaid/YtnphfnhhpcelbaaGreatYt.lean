/- A part. -/
import Derived.Test.YtnphfnhhpcelbaaGreatYf
namespace Go.DD
noncomputable section
open Pa
instance RF : Coe Pa EO := ⟨EO.t⟩
instance QZ : Coe Pa (Nat -> XP) := ⟨λp _ es => some (Ae es (.t p))⟩
open Go
set_option maxRecDepth 100000
def zy:CE:=(cT [(sU o.l (Pn 26 o)),(sM o.r (.c (.v (.pointer none)))),(sM ">" (0:Int))] (cS (cT [(sX "$" (Cj (some 3) o.l)),(Bj 57 ["$"] "("),(sX "%" (Av .neq "(" (0:Int)))] (cC "%" (cT [(sM o.r (.c (.v (.pointer none)))),(sM ">" (2:Int))] (cE .ret)) (cE .normal))) (cT [(sX "*" (Eg 0 o.l)),(sX "," (Cj none "*")),(sX
 "." (Eg 1 o.l)),(sX "+" (Cj none ".")),(Bj 59 [",","+",(.c (.v (.slice none 0 0)))] "1"),(sM "&" "1"),(sX "4" (Ga "&" 0)),(sX "2" (Ga "&" 1)),(sU "!" (Rz 26 [.v (.slice none 0 0),.v (.slice none 0 0),.v (.slice none 0 0)])),(sU none (Jr 3 "!" "4")),(sM ")" "2")] (cS (cT [(sM "3" ")"),(sX "6" (Av .neq "3"
 (0:Int)))] (cC "6" (cT [(sM "7" ")"),(sM o.r (.c (.v (.pointer none)))),(sM ">" "7")] (cE .ret)) (cE .normal))) (cS (cN (Gq 13 (dL [(By [] ["!"] (Ch 0 [] true true "8" (λ_ => (Cj (some 3) "!")) ["!"])),(dX [] [o.l] 1 "0" (Eg 2 o.l)),(dY [1] ["0"] 2 "<" (Cj none "0")),(By [2,1] ["<"] (Cx 3 [2,1] (Bj 81
 [(.c (.v (.slice none 0 0))),"<"] ":"))),(By [3,2,1] [":"] (Ch 4 [3,2,1] false false "5" (Gd (Bd (.bld [.slice none 0 0,.slice none 0 0,.bool false] [(0,1,.tmp 23)]))) [":"])),(By [4,3,2,1] ["5"] (Rx 5 [4,3,2,1] false false ";" (Bd (.bsl 136 1 3 [.slice none 0 0,.slice none 0 0,.bool false] [(0,3,.tmp 24)])) ["5"])),(By [] [] (Rx 6
 [] true false "9" (Bd (.mkm)) [])),(By [6] ["9"] (zZ 7 [6] 6 none (Bd (.mup (.p .string) (.tmp 26) (.const (.string (bs [109,97,105,110]))) (.const (.int .i64 1)))) ["9"])),(By [6,7] ["9"] (Ch 8 [6,7] true false "=" ("9":Pa) ["9"])),(By [0,5,8,4,3,2,1,6,7] ["8",";","="] (Ch 9 [0,5,8,4,3,2,1,6,7] false false "?" (Gd (Bd
 (.bld [.slice none 0 0,.slice none 0 0,.slice none 0 0,.slice none 0 0,.map none] [(0,3,.tmp 20),(3,1,.tmp 25),(4,1,.tmp 27)]))) ["8",";","="])),(By [9,0,5,8,4,3,2,1,6,7] ["?"] (Rx 10 [9,0,5,8,4,3,2,1,6,7] false false "@" (Pn 140 "?") ["?"])),(dP [10,3,0,1,2,4,5,6,7,8,9] 11 o.r "@"),(By [11,0,1,2,3,4,5,6,7,8,9,10] [] (Ch 12 [11,0,1,2,3,4,5,6,7,8,9,10]
 false false ">" (λ_ es => some (Ae es (0:Int))) []))]))) (cE .ret))))))
def e27:FE:=⟨zy,[(2,none),(3,none)],30⟩
def PA:CE:=(cT [(sM "$" (0:Int))] (cS (cT [(sM "*" o),(Bj 82 ["*"] ","),(sX "." (Qs .not ","))] (cC "." (cT [(sM "$" (1:Int))] (cE .ret)) (cE .normal))) (cS (cT [(sM "+" o.l),(Bj 83 ["+"] "1"),(sX "4" (Qs .not "1"))] (cC "4" (cT [(sM "$" (11:Int))] (cE .ret)) (cE .normal))) (cS (cT [(sM
 "3" o),(sU "6" (Bd (.nck (.tmp 17)))),(sX "7" (Eg 4 "6")),(sX "8" (Cj none "7")),(sM "0" o.l),(sU "<" (Bd (.lkp (.p .string) (.int .i64 0) (.tmp 20) (.tmp 21) true))),(sM "2" "<"),(sX ":" (Ga "2" 0)),(sX "5" (Ga "2" 1)),(sM "(" ":"),(sM "%" "5")] (cT [(sM ";" "%")] (cC ";"
 (cT [(sM "$" (5:Int))] (cE .ret)) (cE .normal)))) (cS (cT [(sM "9" o),(sM "=" o.r),(Bj 84 ["9","="] "?"),(sM "&" "?")] (cT [(sM "@" "&"),(sX "A" (Av .neq "@" (0:Int)))] (cC "A" (cT [(sM "B" "&"),(sM "$" "B")] (cE .ret)) (cE .normal)))) (cS (cT [(sM "C" o),(sU "D"
 (Bd (.nck (.tmp 32)))),(sX "F" (Eg 4 "D")),(sX "G" (Cj none "F")),(sU "I" (Bd (.lnm (.tmp 35)))),(sX "O" (Av .geq "I" (8:Int)))] (cC "O" (cT [(sM "$" (18:Int))] (cE .ret)) (cE .normal))) (cT [(sM "P" o),(sU "E" (Bd (.nck (.tmp 38)))),(sX "H" (Eg 4 "E")),(sX "J"
 (Cj none "H")),(sM "L" o.l),(sM "K" o.r),(sU none (Bd (.mup (.p .string) (.tmp 41) (.tmp 42) (.tmp 43))))] (cT [(sM "$" (0:Int))] (cE .ret)))))))))
def e28:FE:=⟨PA,[(6,none)],44⟩
def zx:CE:=(cT [(sM "%" (0:Int)),(sM "&" (0:Int))] (cS (cT [(sM "4" o),(Bj 82 ["4"] "2"),(sX "3" (Qs .not "2"))] (cC "3" (cT [(sM "%" (0:Int)),(sM "&" (1:Int))] (cE .ret)) (cE .normal))) (cS (cT [(sM "7" o),(sU "8" (Bd (.nck (.tmp 19)))),(sX "0" (Eg 4 "8")),(sX
 "<" (Cj none "0")),(sM ":" o.l),(sU "5" (Bd (.lkp (.p .string) (.int .i64 0) (.tmp 22) (.tmp 23) true))),(sM "6" "5"),(sX ";" (Ga "6" 0)),(sX "9" (Ga "6" 1)),(sM "*" ";"),(sM "," "9")] (cB 0 (cT [(sM "?" ","),(sX "@" (Qs .not "?")),(sM "=" "@")] (cC "=" (cT [(sM "%" (.c
 (.v (.int .i64 0)))),(sM "&" (11:Int))] (cE .ret)) (cT [(sM "B" "*"),(sM "C" o.r),(sX "D" (Av .neq "B" "C")),(sM "A" "D")] (cC "A" (cT [(sM "%" (0:Int)),(sM "&" (23:Int))] (cE .ret)) (cE .normal))))))) (cT [(sM "G" o),(sM "I" o.r),(Bj 85 ["G","I"]
 "O"),(sM "F" "O"),(sX "P" (Ga "F" 0)),(sX "E" (Ga "F" 1)),(sU "." (Rz 26 [.v (.slice none 0 0),.v (.slice none 0 0),.v (.slice none 0 0)])),(sU none (Jr 3 "." "P")),(sM "+" "E")] (cS (cT [(sM "H" "+"),(sX "J" (Av .neq "H" (0:Int)))] (cC "J" (cT [(sM "L"
 "+"),(sM "%" (0:Int)),(sM "&" "L")] (cE .ret)) (cE .normal))) (cT [(sX "N" (Cj (some 3) ".")),(sM "Q" ">"),(Bj 17 ["N","Q"] "M"),(sM "K" "M"),(sX "R" (Ga "K" 0)),(sX "T" (Ga "K" 1)),(sU "1" (Rz 26 [.v (.slice none 0 0),.v (.slice none 0 0),.v (.slice none 0 0)])),(sU
 none (Jr 3 "1" "R")),(sM "+" "T")] (cS (cB 1 (cT [(sM "Y" "+"),(sX "W" (Av .neq "Y" (0:Int))),(sM "S" "W")] (cC "S" (cT [(sM "X" "+"),(sM "%" (0:Int)),(sM "&" "X")] (cE .ret)) (cT [(sX "U" (Cj (some 3) ".")),(sX "^" (Cj (some 3) "1")),(Bj
 25 ["U","^"] "b"),(sM "_" "b")] (cC "_" (cT [(sM "%" (0:Int)),(sM "&" (6:Int))] (cE .ret)) (cE .normal)))))) (cT [(sM "e" o),(sM "Z" o.l),(sX "V" (Cj (some 3) "1")),(sM "f" o.r),(sU "c" (Bd (.bsl 3 1 1 [.int .i64 0] [(0,1,.tmp 60)]))),(Bj 86 ["e","Z","V","c"]
 "["),(sX "d" (Ga "[" 0)),(sX "a" (Ga "[" 1)),(sM "%" "d"),(sM "&" "a")] (cE .ret)))))))))
def e29:FE:=⟨zx,[(8,none),(9,none)],65⟩
def xV:CE:=(cT [(sX "4" (Av .lss "1" "+"))] (cS (cC "4" (cE .normal) (cE (.exit 0))) (cS (cB 1 (cT [(sM "2" "1"),(sX "3" (Gf 3 "." "1")),(sX "6" (Cj (some 3) "3")),(sU ")" (Rz 136 [.v (.slice none 0 0),.v (.slice none 0 0),.v (.bool false)])),(sM "!" "2"),(sU none (Jr 3 ")" "6"))] (cT [(sX "7" (Eg 2 ")")),(sX
 "8" (Cj none "7")),(sX "0" (Qs .not "8"))] (cC "0" (cN (sL [(sM "<" ">"),(sM ":" "!"),(sX "5" (Av .add ":" (1:Int))),(sU ";" (Bd (.bsl 3 1 1 [.int .i64 0] [(0,1,.tmp 24)]))),(sU "9" (Bd (.app 3 1 8 (.tmp 22) (.tmp 25)))),(sM ">" "9")])) (cE .normal))))) (cN (sL [(sX "=" (Av .add "1" (.c
 (.v (.int .i64 1))))),(sM "1" "=")])))))
def zw:CE:=(cT [(sM o.r (.c (.v (.slice none 0 0))))] (cS (cT [(sM "$" o),(Bj 82 ["$"] "("),(sX "%" (Qs .not "("))] (cC "%" (cT [(sM o.r (.c (.v (.slice none 0 0))))] (cE .ret)) (cE .normal))) (cT [(sM ">" (.c (.v (.slice none 0 0))))] (cS (cT [(sM "&" o),(sU "*" (Bd (.nck (.tmp 9)))),(sX "," (Eg 3 "*")),(sX "." (Cj none ",")),(sX "+" (Dp
 ".")),(sM "1" (0:Int))] (cB 0 (cL 1000000 xV))) (cT [(sM "?" ">"),(sM o.r "?")] (cE .ret))))))
def e37:FE:=⟨zw,[(2,none)],29⟩
def zd:CE:=(cT [(sM o.r false)] (cT [(sM ">" o),(sU "!" (Bd (.nilq 1 true (.tmp 3) (.const (.pointer none))))),(sM ")" "!"),(sG ")" true "$" (sM "$" o)),(sG ")" true "(" (sU "(" (Bd (.nck (.tmp 6))))),(sG ")" true "%" (sX "%" (Eg 4 "("))),(sG ")" true "&" (sX "&" (Cj none "%"))),(sG ")" true "*" (sU "*" (Bd (.nilq
 2 true (.tmp 9) (.const (.map none)))))),(sX "," (Co ")" "*" false)),(sM o.r ",")] (cE .ret)))
def e82:FE:=⟨zd,[(2,none)],12⟩
def za:CE:=(cT [(sM "!" (0:Int))] (cS (cB 0 (cT [(sM "$" o.l),(sX "(" (Av .lss "$" (1:Int))),(sM "%" "("),(sG "%" false "&" (sM "&" o.l)),(sG "%" false "*" (sM "*" o)),(sG "%" false "," (sU "," (Bd (.nck (.tmp 10))))),(sG "%" false "." (sX "." (Eg 3 ","))),(sG "%" false "+" (sX "+"
 (Cj none "."))),(sG "%" false "1" (sX "1" (Dp "+"))),(sG "%" false "4" (sX "4" (Av .gtr "&" "1"))),(sX "2" (Co "%" true "4")),(sM ")" "2")] (cC ")" (cT [(sM "!" (4:Int))] (cE .ret)) (cT [(sM "6" o),(sM "7" o.l),(Bj 99 ["6","7"] "8"),(sU "0" (Bd (.nck
 (.tmp 20)))),(sX "<" (Eg 2 "0")),(sX ":" (Cj none "<")),(sM "3" ":")] (cC "3" (cT [(sM "!" (23:Int))] (cE .ret)) (cE .normal)))))) (cT [(sM "!" (0:Int))] (cE .ret))))
def e84:FE:=⟨za,[(4,none)],24⟩
def yz:CE:=(cT [(sU "!" (Rz 26 [.v (.slice none 0 0),.v (.slice none 0 0),.v (.slice none 0 0)])),(sM ")" (0:Int))] (cS (cN (Gq 18 (dL [(By [] [o] (Ch 0 [] true false "$" o [o])),(By [0] ["$"] (Ch 1 [0] true false "(" (Gd (Bd (.nck (.tmp 6)))) ["$"])),(By [1,0] ["("] (Ch 2 [1,0] true false "%" (λ_ => (Eg 0 "(")) ["("])),(By
 [2,1,0] ["%"] (Ch 3 [2,1,0] true false "&" (λ_ => (Eg 0 "%")) ["%"])),(By [3,2,1,0] ["&"] (Ch 4 [3,2,1,0] true true "*" (λ_ => (Cj none "&")) ["&"])),(By [] [o] (Ch 5 [] true false "," o [o])),(By [5] [","] (Ch 6 [5] true false "." (Gd (Bd (.nck (.tmp 11)))) [","])),(By [6,5] ["."] (Ch 7 [6,5] true false "+"
 (λ_ => (Eg 0 ".")) ["."])),(By [7,6,5] ["+"] (Ch 8 [7,6,5] true false "1" (λ_ => (Eg 1 "+")) ["+"])),(By [8,7,6,5] ["1"] (Ch 9 [8,7,6,5] true true "4" (λ_ => (Cj none "1")) ["1"])),(dP [] 10 "2" o),(dP [] 11 "3" o.l),(By [10,11] ["2","3"] (Cx 12 [10,11] (Bj 97 ["2","3"] "6"))),(By [4,9,12,3,2,1,0,8,7,6,5,10,11]
 ["*","4","6"] (Cx 13 [4,9,12,3,2,1,0,8,7,6,5,10,11] (Bj 59 ["*","4","6"] "7"))),(dX [13,4,9,12,3,2,1,0,8,7,6,5,10,11] ["7"] 14 "8" (Ga "7" 0)),(dX [13,4,9,12,3,2,1,0,8,7,6,5,10,11] ["7"] 15 "0" (Ga "7" 1)),(By [14,13,0,1,2,3,4,5,6,7,8,9,10,11,12,15] ["!","8"] (Cx 16 [14,13,0,1,2,3,4,5,6,7,8,9,10,11,12,15]
 (sU none (Jr 3 "!" "8")))),(dP [15,16,0,1,2,3,4,5,6,7,8,9,10,11,12,13,14] 17 ")" "0")]))) (cE .ret)))
def e85:FE:=⟨yz,[(4,some (some 3)),(5,none)],22⟩
def yy:CE:=(cT [(sU "$" (Pn 26 o.r)),(sM "%" (0:Int)),(sM "&" (0:Int))] (cS (cT [(sM "*" o),(Bj 37 ["*"] ","),(sX "." (Dp ",")),(sX "+" (Av .geq "." (100:Int)))] (cC "+" (cT [(sM "%" (0:Int)),(sM "&" (18:Int))] (cE .ret)) (cE .normal))) (cS (cN (Gq 21 (dL [(By
 [] [o] (Ch 0 [] true false "1" o [o])),(By [] [o] (Ch 1 [] true false "4" o [o])),(By [1] ["4"] (Ch 2 [1] true false "2" (Gd (Bd (.nck (.tmp 15)))) ["4"])),(By [2,1] ["2"] (Ch 3 [2,1] true false "3" (λ_ => (Eg 3 "2")) ["2"])),(By [3,2,1] ["3"] (Ch 4 [3,2,1] true true "6" (λ_ => (Cj none "3")) ["3"])),(dP
 [] 5 "7" o),(dP [] 6 "8" ">"),(dX [6] ["8"] 7 "0" (Gf 1 "8" (0:Int))),(dY [7,6] ["0"] 8 "<" (Cj none "0")),(By [5,8,7,6] ["7","<"] (Cx 9 [5,8,7,6] (Bj 97 ["7","<"] ":"))),(By [] ["$"] (Ch 10 [] true false "5" (λ_ => (Eg 2 "$")) ["$"])),(By [10] ["5"] (Ch 11 [10] true
 true ";" (λ_ => (Cj none "5")) ["5"])),(By [9,11,5,8,7,6,10] [":",";"] (Cx 12 [9,11,5,8,7,6,10] (Bj 81 [":",";"] "9"))),(By [] [">"] (Ch 13 [] true false "=" (">":Pa) [">"])),(By [13,12,9,11,5,8,7,6,10] ["="] (Cx 14 [13,12,9,11,5,8,7,6,10] (Bj 70 ["="] "?"))),(By [12,14,9,11,5,8,7,6,10,13] ["9","?"]
 (Ch 15 [12,14,9,11,5,8,7,6,10,13] false false "@" (Gd (Bd (.bld [.slice none 0 0,.slice none 0 0,.bool false] [(0,1,.tmp 26),(1,1,.tmp 28)]))) ["9","?"])),(By [15,12,14,9,11,5,8,7,6,10,13] ["@"] (Rx 16 [15,12,14,9,11,5,8,7,6,10,13] false false "A" (Bd (.bsl 136 1 3 [.slice none 0 0,.slice none 0 0,.bool false] [(0,3,.tmp 29)])) ["@"])),(By [4,16,14,3,2,1,15,12,9,11,5,8,7,6,10,13]
 ["6","A"] (Cx 17 [4,16,14,3,2,1,15,12,9,11,5,8,7,6,10,13] (sU "B" (Bd (.app 136 3 56 (.tmp 18) (.tmp 30)))))),(By [0,1,2,3,4,5,6,7,8,9,10,11,12,13,14,15,16,17] ["1"] (Ch 18 [0,1,2,3,4,5,6,7,8,9,10,11,12,13,14,15,16,17] false false "C" (Gd (Bd (.nck (.tmp 14)))) ["1"])),(dX [18,0,1,2,3,4,5,6,7,8,9,10,11,12,13,14,15,16,17] ["C"] 19 "D"
 (Eg 3 "C")),(By [19,17,0,1,2,3,4,5,6,7,8,9,10,11,12,13,14,15,16,18] ["D","B"] (Cx 20 [19,17,0,1,2,3,4,5,6,7,8,9,10,11,12,13,14,15,16,18] (sU none (Jr 1 "D" "B"))))]))) (cS (cN (Gq 11 (dL [(dP [] 0 "F" o),(By [0] ["F"] (Ch 1 [0] false false "G" (Gd (Bd (.nck (.tmp 34)))) ["F"])),(dX [1,0] ["G"] 2 "I"
 (Eg 4 "G")),(dY [2,1,0] ["I"] 3 "O" (Cj none "I")),(dP [] 4 "P" o.l),(dP [] 5 "E" o),(By [5] ["E"] (Ch 6 [5] false false "H" (Gd (Bd (.nck (.tmp 39)))) ["E"])),(dX [6,5] ["H"] 7 "J" (Eg 3 "H")),(dY [7,6,5] ["J"] 8 "L" (Cj none "J")),(dX [8,7,6,5] ["L"] 9 "K"
 (Dp "L")),(By [3,4,9,0,1,2,5,6,7,8] ["O","P","K"] (Cx 10 [3,4,9,0,1,2,5,6,7,8] (sU none (Bd (.mup (.p .string) (.tmp 37) (.tmp 38) (.tmp 43))))))]))) (cT [(sM "N" o),(sU "Q" (Bd (.nck (.tmp 44)))),(sX "M" (Eg 3 "Q")),(sX "R" (Cj none "M")),(sX "T" (Dp "R")),(sM "%" "T"),(sM "&"
 (0:Int))] (cE .ret))))))
def e86:FE:=⟨yy,[(8,none),(9,none)],49⟩
def xJ:CE:=(cS (cT [(sM "7" "("),(sM "8" "&"),(sX "0" (Gf 1 "7" "8")),(sX "<" (Cj none "0")),(sX ":" (Qs .not "<")),(sM "5" ":"),(sG "5" false ";" (sM ";" "%")),(sG "5" false "9" (sM "9" "&")),(sG "5" false "=" (sX "=" (Gf 1 ";" "9"))),(sG "5"
 false "?" (sX "?" (Cj none "="))),(sG "5" false "@" (sX "@" (Qs .not "?"))),(sX "A" (Co "5" true "@"))] (cC "A" (cE .normal) (cE (.exit 0)))) (cB 1 (cN (sL [(sM "B" "&"),(sX "C" (Av .sub "B" (1:Int))),(sM "&" "C")]))))
def yx:CE:=(cT [(sM "$" (0:Int))] (cT [(sM "*" o),(sM "," o.l),(Bj 143 ["*",","] "."),(sM "+" o),(sM "1" o.r),(Bj 143 ["+","1"] "4"),(sM "(" "."),(sM "%" "4")] (cT [(sM "2" o.l),(sM "3" o.r),(sU "6" (Bd (.mm false (.tmp 16) (.tmp 17)))),(sM "&" "6")] (cS (cB 0 (cL 1000000 xJ)) (cT [(sM
 "D" "&"),(sM "$" "D")] (cE .ret))))))
def e87:FE:=⟨yx,[(6,none)],34⟩
def OZ:CE:=(cT [(sM "!" (.c (.v (.slice none 0 0))))] (cS (cT [(sM ")" o.l),(sX "$" (Av .eql ")" (0:Int)))] (cC "$" (cT [(sM "!" (.c (.v (.slice none 0 0))))] (cE .ret)) (cE .normal))) (cS (cN (Gq 13 (dL [(dP [] 0 "(" o),(dP [] 1 "%" o.l),(By [0,1] ["(","%"] (Cx 2 [0,1] (Bj 99 ["(","%"] "&"))),(By [2,0,1] ["&"] (Ch 3 [2,0,1]
 true false "*" (Gd (Bd (.nck (.tmp 9)))) ["&"])),(By [3,2,0,1] ["*"] (Ch 4 [3,2,0,1] true false "," (λ_ => (Eg 0 "*")) ["*"])),(By [4,3,2,0,1] [","] (Ch 5 [4,3,2,0,1] true true "." (λ_ => (Cj none ",")) [","])),(By [] [o] (Ch 6 [] true false "+" o [o])),(By [] [o] (Ch 7 [] true false "1" o [o])),(By [] [o.l] (Ch 8
 [] true false "4" o.l [o.l])),(By [7,8,2,0,1] ["1","4"] (Cx 9 [7,8,2,0,1] (Bj 98 ["1","4"] "2"))),(By [6,9,7,8,2,0,1] ["+","2"] (Cx 10 [6,9,7,8,2,0,1] (Bj 97 ["+","2"] "3"))),(By [5,10,4,3,2,0,1,6,9,7,8] [".","3"] (Cx 11 [5,10,4,3,2,0,1,6,9,7,8] (Bj 60 [".","3"] "6"))),(dP [11,0,1,2,3,4,5,6,7,8,9,10]
 12 "!" "6")]))) (cE .ret))))
def e97:FE:=⟨OZ,[(4,none)],19⟩
def xG:CE:=(cS (cT [(sM "." ")"),(sX "+" (Dp ".")),(sX "1" (Av .gtr "+" (0:Int)))] (cC "1" (cE .normal) (cE (.exit 0)))) (cS (cB 1 (cT [(sM ":" o),(sM "5" ")"),(sX ";" (Gf 1 "5" (0:Int))),(sX "9" (Cj none ";")),(Bj 99 [":","9"] "="),(sU "?" (Bd (.nck (.tmp 27)))),(sX
 "@" (Eg 2 "?")),(sX "A" (Cj none "@")),(sX "B" (Qs .not "A"))] (cC "B" (cT [(sM "C" ")"),(sX "D" (Gf 1 "C" (0:Int))),(sX "F" (Cj none "D")),(sM "!" "F")] (cE .ret)) (cE .normal)))) (cN (sL [(sM "4" o),(sM "2" ")"),(sX "3" (Gf 1 "2" (0:Int))),(sX
 "6" (Cj none "3")),(Bj 99 ["4","6"] "7"),(sU "8" (Bd (.nck (.tmp 19)))),(sX "0" (Eg 1 "8")),(sX "<" (Cj none "0")),(sM ")" "<")]))))
def yu:CE:=(cT [(sM "!" (0:Int))] (cS (cT [(sM "$" o),(sM "(" o.l),(Bj 99 ["$","("] "%"),(sU "&" (Bd (.nck (.tmp 8)))),(sX "*" (Eg 1 "&")),(sX "," (Cj none "*")),(sM ")" ",")] (cB 0 (cL 1000000 xG))) (cT [(sM "!" (0:Int))] (cE .ret))))
def e98:FE:=⟨yu,[(4,none)],35⟩
def yr:CE:=(cT [(sM "!" (.c (.v (.pointer none))))] (cT [(sM ")" o),(sU "$" (Bd (.nck (.tmp 5)))),(sX "(" (Eg 3 "$")),(sX "%" (Cj none "(")),(sM "&" o.l),(sX "*" (Av .sub "&" (1:Int))),(sX "," (Gf 3 "%" "*")),(sM "!" ",")] (cE .ret)))
def e99:FE:=⟨yr,[(4,none)],12⟩
def Cj6:CE:=(cT [(sX "I" (Av .lss "G" "F"))] (cS (cC "I" (cE .normal) (cE (.exit 2))) (cS (cB 3 (cT [(sX "O" (Gf 1 "D" "G")),(sX "P" (Cj none "O")),(sM "%" "P")] (cN (sL [(sM "E" ")"),(sM "H" "%"),(sX "J" (Gf 1 "E" "H")),(sU none (Jr 1 "J" (.c (.v (.bool
 true)))))])))) (cN (sL [(sX "L" (Av .add "G" (1:Int))),(sM "G" "L")])))))
def Cj7:CE:=(cS (cT [(sM "8" "$"),(sX "0" (Av .gtr "8" (0:Int)))] (cC "0" (cE .normal) (cE (.exit 0)))) (cS (cB 1 (cT [(sM "5" ")"),(sM ";" "$"),(sX "9" (Gf 1 "5" ";")),(sX "=" (Cj none "9"))] (cC "=" (cT [(sM "?" o),(sM "@" "$"),(Bj 99 ["?","@"] "A"),(sU "B"
 (Bd (.nck (.tmp 30)))),(sX "C" (Eg 1 "B")),(sX "D" (Cj none "C")),(sX "F" (Dp "D")),(sM "G" (0:Int))] (cB 2 (cL 1000000 Cj6))) (cE .normal)))) (cN (sL [(sM "<" "$"),(sX ":" (Av .sub "<" (1:Int))),(sM "$" ":")]))))
def DN:CE:=(cT [(sM "!" (.c (.v (.slice none 0 0))))] (cT [(sM "&" o),(sU "*" (Bd (.nck (.tmp 9)))),(sX "," (Eg 3 "*")),(sX "." (Cj none ",")),(sX "+" (Dp ".")),(sX "1" (Av .add "+" (1:Int))),(sU "4" (Bd (.mks 4 1 1 [.bool false] (.tmp 14) (.tmp 14)))),(sM ")" "4")] (cT [(sM "2" ")"),(sM "3" o.l),(sX "6"
 (Gf 1 "2" "3")),(sU none (Jr 1 "6" true))] (cS (cT [(sM "7" o.l),(sM "$" "7")] (cB 0 (cL 1000000 Cj7))) (cT [(sM "K" ")"),(sM "!" "K")] (cE .ret))))))
def oo:FE:=⟨DN,[(4,none)],44⟩
end
end Go.DD
