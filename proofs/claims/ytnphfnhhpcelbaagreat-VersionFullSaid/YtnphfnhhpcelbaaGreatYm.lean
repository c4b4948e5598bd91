/- A part. -/
import Derived.Test.YtnphfnhhpcelbaaGreatYf
namespace Go.DD
noncomputable section
open Pa
instance RK : Coe Pa EO := ⟨EO.t⟩
instance RD : Coe Pa (Nat -> XP) := ⟨λp _ es => some (Ae es (.t p))⟩
open Go
set_option maxRecDepth 100000
def r25:CE:=(cT [(sU o.r (Pn 26 o)),(sU ">" (Pn 26 o.l)),(sM "!" false)] (cS (cT [(sX ")" (Cj (some 3) o.r)),(Bj 57 [")"] "$"),(sX "(" (Av .neq "$" (0:Int))),(sM "%" "("),(sG "%" false "&" (sX "&" (Cj (some 3) ">"))),(sG "%" false "*" (Bj 57 ["&"] "*")),(sG "%" false "," (sX "," (Av .neq
 "*" (0:Int)))),(sX "." (Co "%" true ",")),(sM "+" "."),(sG "+" false "1" (sX "1" (Eg 0 o.r))),(sG "+" false "4" (sX "4" (Cj none "1"))),(sG "+" false "2" (sX "2" (Eg 0 ">"))),(sG "+" false "3" (sX "3" (Cj none "2"))),(sG "+" false "6" (Bj 76 ["4","3"]
 "6")),(sG "+" false "7" (sX "7" (Qs .not "6"))),(sX "8" (Co "+" true "7")),(sM "0" "8"),(sG "0" false "<" (sX "<" (Eg 1 o.r))),(sG "0" false ":" (sX ":" (Cj none "<"))),(sG "0" false "5" (sX "5" (Eg 1 ">"))),(sG "0" false ";" (sX ";" (Cj none
 "5"))),(sG "0" false "9" (Bj 77 [":",";"] "9")),(sG "0" false "=" (sX "=" (Qs .not "9"))),(sX "?" (Co "0" true "="))] (cC "?" (cT [(sM "!" false)] (cE .ret)) (cE .normal))) (cT [(sX "@" (Eg 2 o.r)),(sX "A" (Cj none "@")),(sX "B" (Eg 2 ">")),(sX
 "C" (Cj none "B")),(Bj 78 ["A","C",(.c (.fn (.func 79) [.tup []]))] "D"),(sM "!" "D")] (cE .ret))))
def e25:FE:=⟨r25,[(4,none)],34⟩
def xT:CE:=(cT [(sX "?" (Av .lss "=" "9"))] (cS (cC "?" (cE .normal) (cE (.exit 0))) (cS (cB 1 (cT [(sX "@" (Gf 2 ";" "=")),(sX "A" (Cj (some 2) "@")),(sU "*" (Rz 39 [.v (.slice none 0 0),.v (.slice none 0 0)])),(sU none (Jr 2 "*" "A"))] (cT [(sM "B" o),(sM "C" o.l),(sX "D" (Cj (some 2) "*")),(Bj
 122 ["B","C","D"] "F"),(sM "," "F")] (cT [(sM "G" ","),(sX "I" (Av .neq "G" (0:Int)))] (cC "I" (cT [(sU "O" (Bd (.bld [.slice none 0 0,.slice none 0 0,.slice none 0 0] []))),(sM "P" ","),(sU none (Jr 3 "$" "O")),(sM "(" "P")] (cE .ret)) (cE .normal)))))) (cN
 (sL [(sX "E" (Av .add "=" (1:Int))),(sM "=" "E")])))))
def xS:CE:=(cS (cT [(sM "R" "+"),(sX "T" (Eg 2 ".")),(sX "S" (Cj none "T")),(sX "Y" (Dp "S")),(sX "W" (Av .lss "R" "Y"))] (cC "W" (cE .normal) (cE (.exit 2)))) (cS (cB 3 (cS (cN (Gq 15 (dL [(dX [] ["."] 0 "U" (Eg 2 ".")),(dY [0] ["U"] 1 "^" (Cj none "U")),(dP []
 2 "b" "+"),(dX [2] ["b"] 3 "e" (Av .sub "b" (1:Int))),(dX [1,3,0,2] ["^","e"] 4 "Z" (Gf 2 "^" "e")),(dX [4,1,3,0,2] ["Z"] 5 "V" (Eg 0 "Z")),(dY [5,4,1,3,0,2] ["V"] 6 "f" (Cj none "V")),(dX [] ["."] 7 "c" (Eg 2 ".")),(dY [7] ["c"] 8
 "[" (Cj none "c")),(dP [] 9 "d" "+"),(dX [8,9,7] ["[","d"] 10 "a" (Gf 2 "[" "d")),(dX [10,8,9,7] ["a"] 11 "g" (Eg 0 "a")),(dY [11,10,8,9,7] ["g"] 12 "]" (Cj none "g")),(By [6,12,5,4,1,3,0,2,11,10,8,9,7] ["f","]"] (Cx 13 [6,12,5,4,1,3,0,2,11,10,8,9,7]
 (Bj 24 ["f","]"] "h"))),(dX [13,6,12,5,4,1,3,0,2,11,10,8,9,7] ["h"] 14 "n" (Av .eql "h" (0:Int)))]))) (cC "n" (cT [(sU "j" (Bd (.bld [.slice none 0 0,.slice none 0 0,.slice none 0 0] []))),(sU none (Jr 3 "$" "j")),(sM "(" (5:Int))] (cE .ret)) (cE .normal)))) (cN (sL [(sM
 "X" "+"),(sX "_" (Av .add "X" (1:Int))),(sM "+" "_")]))))
def zo:CE:=(cT [(sU "$" (Rz 26 [.v (.slice none 0 0),.v (.slice none 0 0),.v (.slice none 0 0)])),(sM "(" (0:Int))] (cS (cT [(sM "1" o),(sM "4" o.l),(Bj 121 ["1","4"] "2"),(sM "%" "2")] (cT [(sM "3" "%"),(sX "6" (Av .neq "3" (0:Int)))] (cC "6" (cT [(sU "7" (Bd (.bld [.slice none 0 0,.slice
 none 0 0,.slice none 0 0] []))),(sM "8" "%"),(sU none (Jr 3 "$" "7")),(sM "(" "8")] (cE .ret)) (cE .normal)))) (cS (cT [(sM "0" o.r),(sX "<" (Dp "0")),(sX ":" (Av .gtr "<" (4096:Int)))] (cC ":" (cT [(sU "5" (Bd (.bld [.slice none 0 0,.slice none 0 0,.slice none 0 0] []))),(sU none (Jr 3 "$" "5")),(sM
 "(" (9:Int))] (cE .ret)) (cE .normal))) (cS (cT [(sM ";" o.r),(sX "9" (Dp ";")),(sM "=" (0:Int))] (cB 0 (cL 1000000 xT))) (cT [(sM "H" o),(sM "J" o.l),(sM "L" o.r),(Bj 127 ["H","J","L"] "K"),(sU "." (Rz 26 [.v (.slice none 0 0),.v (.slice none 0 0),.v (.slice none 0 0)])),(sU
 none (Jr 3 "." "K"))] (cT [(sX "N" (Eg 2 ".")),(sX "Q" (Cj none "N")),(Bj 128 ["Q",(.c (.fn (.func 129) [.tup []]))] "M")] (cS (cT [(sM "+" (1:Int))] (cB 2 (cL 1000000 xS))) (cT [(sX "m" (Cj (some 3) ".")),(sU none (Jr 3 "$" "m")),(sM "(" (0:Int))] (cE .ret)))))))))
def e59:FE:=⟨zo,[(6,some (some 3)),(7,none)],71⟩
def xM:CE:=(cT [(sX "6" (Av .lss "3" "2"))] (cS (cC "6" (cE .normal) (cE (.exit 0))) (cS (cB 1 (cT [(sM "7" "3"),(sX "8" (Gf 2 "4" "3")),(sX "0" (Cj (some 2) "8")),(sU "%" (Rz 39 [.v (.slice none 0 0),.v (.slice none 0 0)])),(sM "(" "7"),(sU none (Jr 2 "%" "0"))] (cT [(sM "<" o.l),(sM ":" "("),(sX
 "5" (Gf 2 "<" ":")),(sX ";" (Cj (some 2) "5")),(sU "&" (Rz 39 [.v (.slice none 0 0),.v (.slice none 0 0)])),(sU none (Jr 2 "&" ";"))] (cT [(sM "9" o.r),(sX "=" (Cj (some 2) "%")),(sX "?" (Cj (some 2) "&")),(aZ none "9" ["=","?"] "@"),(sX "A" (Qs .not "@"))] (cC "A" (cT [(sM "$" (.c
 (.v (.bool false))))] (cE .ret)) (cE .normal)))))) (cN (sL [(sX "B" (Av .add "3" (1:Int))),(sM "3" "B")])))))
def zh:CE:=(cT [(sM "$" false)] (cS (cT [(sM "*" o),(sX "," (Dp "*")),(sM "." o.l),(sX "+" (Dp ".")),(sX "1" (Av .neq "," "+"))] (cC "1" (cT [(sM "$" false)] (cE .ret)) (cE .normal))) (cS (cT [(sM "4" o),(sX "2" (Dp "4")),(sM "3" (0:Int))] (cB 0 (cL 1000000 xM))) (cT [(sM
 "$" true)] (cE .ret)))))
def e78:FE:=⟨zh,[(6,none)],32⟩
def zg:CE:=(cT [(sU o.r (Pn 39 o)),(sU ">" (Pn 39 o.l)),(sM "!" false)] (cT [(sX ")" (Eg 0 o.r)),(sX "$" (Cj none ")")),(sX "(" (Eg 0 ">")),(sX "%" (Cj none "(")),(Bj 80 ["$","%"] "&"),(sM "*" "&"),(sG "*" true "," (sX "," (Eg 1 o.r))),(sG "*" true "." (sX "." (Cj none ","))),(sG "*" true "+"
 (sX "+" (Eg 1 ">"))),(sG "*" true "1" (sX "1" (Cj none "+"))),(sG "*" true "4" (Bj 69 [".","1"] "4")),(sX "2" (Co "*" "4" false)),(sM "!" "2")] (cE .ret)))
def e79:FE:=⟨zg,[(4,none)],17⟩
def Ch6:CE:=(cT [(sX "6" (Av .lss "3" "2"))] (cS (cC "6" (cE .normal) (cE (.exit 0))) (cS (cB 1 (cT [(sX "7" (Gf 2 "4" "3")),(sX "8" (Cj (some 2) "7")),(sU "&" (Rz 39 [.v (.slice none 0 0),.v (.slice none 0 0)])),(sU none (Jr 2 "&" "8"))] (cN (Gq 8 (dL [(By [] ["("] (Ch 0 [] true false "0" (λ_ => (Eg 2
 "(")) ["("])),(By [0] ["0"] (Ch 1 [0] true true "<" (λ_ => (Cj none "0")) ["0"])),(dY [] ["&"] 2 ":" (Cj (some 2) "&")),(By [2] [":"] (Cx 3 [2] (Bj 164 [":"] "5"))),(By [3,2] ["5"] (Rx 4 [3,2] false false ";" (Bd (.bsl 39 1 2 [.slice none 0 0,.slice none 0 0] [(0,2,.tmp 24)])) ["5"])),(By [1,4,3,0,2]
 ["<",";"] (Cx 5 [1,4,3,0,2] (sU "9" (Bd (.app 39 2 48 (.tmp 22) (.tmp 25)))))),(dX [0,1,2,3,4,5] ["("] 6 "=" (Eg 2 "(")),(By [6,5,0,1,2,3,4] ["=","9"] (Cx 7 [6,5,0,1,2,3,4] (sU none (Jr 1 "=" "9"))))]))))) (cN (sL [(sX "?" (Av .add "3" (1:Int))),(sM "3" "?")])))))
def DZ:CE:=(cT [(sU "$" (Rz 26 [.v (.slice none 0 0),.v (.slice none 0 0),.v (.slice none 0 0)]))] (cT [(sM "*" o),(Bj 162 ["*"] ","),(sM "." o.l),(Bj 163 ["."] "+"),(sU "1" (Bd (.bld [.slice none 0 0,.slice none 0 0,.slice none 0 0] [(0,1,.tmp 11),(1,1,.tmp 13)]))),(sU "(" (Rz 26 [.v (.slice none 0 0),.v (.slice none 0 0),.v (.slice none 0 0)])),(sU none
 (Jr 3 "(" "1"))] (cS (cT [(sM "4" o.r),(sX "2" (Dp "4")),(sM "3" (0:Int))] (cB 0 (cL 1000000 Ch6))) (cT [(sX "@" (Cj (some 3) "(")),(sU none (Jr 3 "$" "@"))] (cE .ret)))))
def pg:FE:=⟨DZ,[(6,some (some 3))],30⟩
def DY:CE:=(cT [(sU ">" (Pn 195 o.l))] (cN (sL [(sM "!" o),(sU ")" (Bd (.mkf (.func 166) [] [.tmp 3]))),(Bj 165 ["!",")"] "$")])))
def pf:FE:=⟨DY,[],7⟩
def DX:CE:=(cT [(sU o.l (Pn 39 o)),(sM o.r (.c (.v (.slice none 0 0))))] (cT [(sX ">" (Eg 0 o.l)),(sX "!" (Cj none ">")),(sM o.r "!")] (cE .ret)))
def pd:FE:=⟨DX,[(2,none)],5⟩
def DG:CE:=(cT [(sU o.l (Pn 39 o)),(sU o.r (Rz 39 [.v (.slice none 0 0),.v (.slice none 0 0)]))] (cS (cN (Gq 8 (dL [(dX [] [o.l] 0 ">" (Eg 0 o.l)),(dY [0] [">"] 1 "!" (Cj none ">")),(By [1,0] ["!"] (Cx 2 [1,0] (Bj 70 ["!"] ")"))),(By [] [o.l] (Ch 3 [] true false "$" (λ_ => (Eg 1 o.l)) [o.l])),(By [3] ["$"] (Ch 4 [3] true true "(" (λ_ => (Cj none
 "$")) ["$"])),(By [4,2,3,1,0] ["("] (Cx 5 [4,2,3,1,0] (Bj 142 ["("] "%"))),(By [2,5,1,0,4,3] [")","%"] (Ch 6 [2,5,1,0,4,3] false false "&" (Gd (Bd (.bld [.slice none 0 0,.slice none 0 0] [(0,1,.tmp 5),(1,1,.tmp 8)]))) [")","%"])),(By [6,5,0,1,2,3,4] [o.r,"&"] (Cx 7 [6,5,0,1,2,3,4] (sU none (Jr 2 o.r "&"))))]))) (cE .ret)))
def nz:FE:=⟨DG,[(2,some (some 2))],10⟩
def DE:CE:=(cN (sL [(sM "!" o),(sM ")" o),(sX "$" (Dp ")")),(sM "(" o.l),(Bj 187 ["!","$","("] "%")]))
def ny:FE:=⟨DE,[],9⟩
def DB:CE:=(cT [(sU ">" (Pn 39 o)),(sU "!" (Pn 39 o.l)),(sM ")" (0:Int))] (cS (cN (Gq 8 (dL [(dY [] [o.r] 0 "$" (Cj none o.r)),(dY [] [">"] 1 "(" (Cj (some 2) ">")),(By [0,1] ["$","("] (Cx 2 [0,1] (jY none "$" ["("] "%"))),(By [] [o.r] (Ch 3 [] true true "&" (λ_ => (Cj none o.r)) [o.r])),(By [] ["!"] (Ch 4 [] true true
 "*" (λ_ => (Cj (some 2) "!")) ["!"])),(By [3,4,2,0,1] ["&","*"] (Cx 5 [3,4,2,0,1] (jY none "&" ["*"] ","))),(By [2,5,0,1,3,4] ["%",","] (Cx 6 [2,5,0,1,3,4] (Bj 24 ["%",","] "."))),(dP [6,0,1,2,3,4,5] 7 ")" ".")]))) (cE .ret)))
def nw:FE:=⟨DB,[(5,none)],13⟩
def Ch7:CE:=(cS (cT [(sM "," "%"),(sM "." o.l),(sX "+" (Av .leq "," "."))] (cC "+" (cE .normal) (cE (.exit 0)))) (cB 1 (cT [(sM "1" o),(sM "4" "("),(sM "2" "%"),(sM "3" o.r),(Bj 211 ["1","4","2","3"] "6")] (cT [(sM "7" "%"),(sM "(" "7")] (cN (sL [(sM "8" "%"),(sM "0" "$"),(sX
 "<" (Av .add "8" "0")),(sM "%" "<")]))))))
def Ch8:CE:=(cS (cT [(sM "D" "%"),(sM "F" o.l),(sX "G" (Av .leq "D" "F"))] (cC "G" (cE .normal) (cE (.exit 4)))) (cB 5 (cT [(sM "I" o),(sM "O" "("),(sM "P" "("),(sM "E" "$"),(sX "H" (Av .add "P" "E")),(sM "J" "%"),(sM "L" o.r),(Bj 212 ["I","O","H","J","L"]
 "K")] (cT [(sM "N" "%"),(sM "(" "N")] (cN (sL [(sM "Q" "%"),(sM "M" "$"),(sX "R" (Av .mul (2:Int) "M")),(sX "T" (Av .add "Q" "R")),(sM "%" "T")]))))))
def Ch9:CE:=(cS (cT [(sM "?" "$"),(sM "@" o.l),(sX "A" (Av .lss "?" "@"))] (cC "A" (cE .normal) (cE (.exit 2)))) (cB 3 (cT [(sM "B" "$"),(sX "C" (Av .mul (2:Int) "B")),(sM "(" (0:Int)),(sM "%" "C")] (cS (cB 4 (cL 1000000 Ch8)) (cS (cT [(sM "S" "("),(sM "Y" "$"),(sX
 "W" (Av .add "S" "Y")),(sM "&" "W")] (cT [(sM "X" "&"),(sM "_" o.l),(sX "U" (Av .lss "X" "_"))] (cC "U" (cN (sL [(sM "^" o),(sM "b" "("),(sM "e" "&"),(sM "Z" o.l),(sM "V" o.r),(Bj 212 ["^","b","e","Z","V"] "f")]))
 (cE .normal)))) (cN (sL [(sM "c" "$"),(sX "[" (Av .mul "c" (2:Int))),(sM "$" "[")])))))))
def CR:CE:=(cT [(sM "$" (20:Int))] (cT [(sM "*" "$"),(sM "(" (0:Int)),(sM "%" "*")] (cS (cB 0 (cL 1000000 Ch7)) (cT [(sM ":" o),(sM "5" "("),(sM ";" o.l),(sM "9" o.r),(Bj 211 [":","5",";","9"] "=")] (cB 2 (cL 1000000 Ch9))))))
def ng:FE:=⟨CR,[],63⟩
def Ci0:CE:=(cS (cS (cN (Gq 17 (dL [(dP [] 0 "6" "&"),(dP [] 1 "7" o.l),(dX [0,1] ["6","7"] 2 "8" (Av .gtr "6" "7")),(dP [2,0,1] 3 "0" "8"),(dG "0" true "<" (dP [3,2,0,1] 4 "<" ">")),(dG "0" true ":" (dP [3,2,0,1] 5 ":" o)),(dG "0" true "5" (dP [3,2,0,1] 6 "5" "&")),(dG "0"
 true ";" (dX [5,6,3,2,0,1] [":","5"] 7 ";" (Gf 2 ":" "5"))),(dG "0" true "9" (dY [7,3,5,6,2,0,1] [";"] 8 "9" (Cj (some 2) ";"))),(dG "0" true "=" (dP [3,2,0,1] 9 "=" o)),(dG "0" true "?" (dP [3,2,0,1] 10 "?" "&")),(dG "0" true "@" (dX [10,3,2,0,1] ["?"] 11 "@" (Av .sub
 "?" (1:Int)))),(dG "0" true "A" (dX [9,11,3,2,0,1,10] ["=","@"] 12 "A" (Gf 2 "=" "@"))),(dG "0" true "B" (dY [12,3,9,11,2,0,1,10] ["A"] 13 "B" (Cj (some 2) "A"))),(dG "0" true "C" (By [4,8,13,3,2,0,1,7,5,6,12,9,11,10] ["<","9","B"] (Cx 14 [4,8,13,3,2,0,1,7,5,6,12,9,11,10]
 (jY none "<" ["9","B"] "C")))),(dG "0" true "D" (dX [14,3,4,8,13,2,0,1,7,5,6,12,9,11,10] ["C"] 15 "D" (Av .lss "C" (0:Int)))),(dX [3,15,2,0,1,14,4,8,13,7,5,6,12,9,11,10] ["0","D"] 16 "F" (Co "0" "D" false))]))) (cC "F" (cE .normal) (cE (.exit 2)))) (cS
 (cB 3 (cN (Gq 18 (dL [(dP [] 0 "O" o),(dP [] 1 "P" "&"),(By [] [o] (Ch 2 [] true false "E" o [o])),(By [] ["&"] (Ch 3 [] true false "H" ("&":Pa) ["&"])),(By [3] ["H"] (Ch 4 [3] true false "J" (λ_ => (Av .sub "H" (1:Int))) ["H"])),(dP [] 5 "L" o),(dP [] 6 "K" "&"),(dX [6]
 ["K"] 7 "N" (Av .sub "K" (1:Int))),(dX [5,7,6] ["L","N"] 8 "Q" (Gf 2 "L" "N")),(dY [8,5,7,6] ["Q"] 9 "M" (Cj (some 2) "Q")),(dP [] 10 "R" o),(dP [] 11 "T" "&"),(dX [10,11] ["R","T"] 12 "S" (Gf 2 "R" "T")),(dY [12,10,11] ["S"]
 13 "Y" (Cj (some 2) "S")),(dX [0,1,5,6,7,8,9,13,12,10,11] ["O","P"] 14 "W" (Gf 2 "O" "P")),(By [14,9,0,1,5,6,7,8,13,12,10,11] ["W","M"] (Cx 15 [14,9,0,1,5,6,7,8,13,12,10,11] (sU none (Jr 2 "W" "M")))),(dX [2,4,0,1,3,5,6,7,8,9,10,11,12,13,14,15] ["E","J"] 16 "X" (Gf 2 "E" "J")),(By
 [16,13,15,0,1,2,3,4,5,6,7,8,9,10,11,12,14] ["X","Y"] (Cx 17 [16,13,15,0,1,2,3,4,5,6,7,8,9,10,11,12,14] (sU none (Jr 2 "X" "Y"))))])))) (cN (sL [(sM "G" "&"),(sX "I" (Av .sub "G" (1:Int))),(sM "&" "I")]))))
def rq:CE:=(cS (cT [(sM "." "%"),(sM "+" o.r),(sX "1" (Av .lss "." "+"))] (cC "1" (cE .normal) (cE (.exit 0)))) (cS (cB 1 (cT [(sM "3" "%"),(sM "&" "3")] (cB 2 (cL 1000000 Ci0)))) (cN (sL [(sM "4" "%"),(sX "2" (Av .add "4" (1:Int))),(sM "%" "2")]))))
def CO:CE:=(cT [(sM "*" o.l),(sX "," (Av .add "*" (1:Int))),(sM "%" ",")] (cB 0 (cL 1000000 rq)))
def mz:FE:=⟨CO,[],53⟩
def Ci1:CE:=(cS (cT [(sM "B" "*"),(sM "C" ","),(sX "D" (Av .lss "B" "C"))] (cC "D" (cE .normal) (cE (.exit 0)))) (cB 1 (cT [(sM "F" "*"),(sM "G" ","),(sX "I" (Av .add "F" "G")),(sU "O" (Bd (.cvi .u64 (.tmp 36)))),(sX "P" (Av .shr "O" (.c (.v (.int .u64 1))))),(sU
 "E" (Bd (.cvi .i64 (.tmp 38)))),(sM "." "E")] (cS (cN (Gq 11 (dL [(dP [] 0 "H" "!"),(dP [] 1 "J" o),(dP [] 2 "L" "."),(dX [1,2] ["J","L"] 3 "K" (Gf 2 "J" "L")),(dY [3,1,2] ["K"] 4 "N" (Cj (some 2) "K")),(dP [] 5 "Q" o),(dP [] 6 "M" o.l),(dX [5,6] ["Q","M"]
 7 "R" (Gf 2 "Q" "M")),(dY [7,5,6] ["R"] 8 "T" (Cj (some 2) "R")),(By [0,4,8,3,1,2,7,5,6] ["H","N","T"] (Cx 9 [0,4,8,3,1,2,7,5,6] (jY none "H" ["N","T"] "S"))),(dX [9,0,4,8,3,1,2,7,5,6] ["S"] 10 "Y" (Av .lss "S" (0:Int)))]))) (cC "Y" (cN (sL
 [(sM "W" "."),(sX "X" (Av .add "W" (1:Int))),(sM "*" "X")])) (cN (sL [(sM "_" "."),(sM "," "_")])))))))
def Ci2:CE:=(cS (cT [(sM "^" "+"),(sM "b" "*"),(sX "e" (Av .sub "b" (1:Int))),(sX "Z" (Av .lss "^" "e"))] (cC "Z" (cE .normal) (cE (.exit 2)))) (cS (cB 3 (cN (Gq 18 (dL [(dP [] 0 "c" o),(dP [] 1 "[" "+"),(By [] [o] (Ch 2 [] true false "d" o [o])),(By [] ["+"] (Ch
 3 [] true false "a" ("+":Pa) ["+"])),(By [3] ["a"] (Ch 4 [3] true false "g" (λ_ => (Av .add "a" (1:Int))) ["a"])),(dP [] 5 "]" o),(dP [] 6 "h" "+"),(dX [6] ["h"] 7 "n" (Av .add "h" (1:Int))),(dX [5,7,6] ["]","n"] 8 "j" (Gf
 2 "]" "n")),(dY [8,5,7,6] ["j"] 9 "m" (Cj (some 2) "j")),(dP [] 10 "s" o),(dP [] 11 "o" "+"),(dX [10,11] ["s","o"] 12 "k" (Gf 2 "s" "o")),(dY [12,10,11] ["k"] 13 "p" (Cj (some 2) "k")),(dX [0,1,5,6,7,8,9,13,12,10,11] ["c","["] 14
 "z" (Gf 2 "c" "[")),(By [14,9,0,1,5,6,7,8,13,12,10,11] ["z","m"] (Cx 15 [14,9,0,1,5,6,7,8,13,12,10,11] (sU none (Jr 2 "z" "m")))),(dX [2,4,0,1,3,5,6,7,8,9,10,11,12,13,14,15] ["d","g"] 16 "l" (Gf 2 "d" "g")),(By [16,13,15,0,1,2,3,4,5,6,7,8,9,10,11,12,14] ["l","p"]
 (Cx 17 [16,13,15,0,1,2,3,4,5,6,7,8,9,10,11,12,14] (sU none (Jr 2 "l" "p"))))])))) (cN (sL [(sM "V" "+"),(sX "f" (Av .add "V" (1:Int))),(sM "+" "f")]))))
def Ci3:CE:=(cS (cT [(sM "i" "1"),(sM "|" "4"),(sX "t" (Av .lss "i" "|"))] (cC "t" (cE .normal) (cE (.exit 4)))) (cB 5 (cT [(sM "ac" "1"),(sM "u" "4"),(sX "aa" (Av .add "ac" "u")),(sU "ad" (Bd (.cvi .u64 (.tmp 88)))),(sX "ae" (Av .shr "ad"
 (.c (.v (.int .u64 1))))),(sU "af" (Bd (.cvi .i64 (.tmp 90)))),(sM "2" "af")] (cS (cN (Gq 12 (dL [(dP [] 0 "~" "!"),(dP [] 1 "ab" o),(dP [] 2 "ah" o.r),(dX [1,2] ["ab","ah"] 3 "ai" (Gf 2 "ab" "ah")),(dY [3,1,2] ["ai"] 4 "aj" (Cj (some 2) "ai")),(dP [] 5 "q" o),(dP
 [] 6 "ap" "2"),(dX [5,6] ["q","ap"] 7 "ak" (Gf 2 "q" "ap")),(dY [7,5,6] ["ak"] 8 "al" (Cj (some 2) "ak")),(By [0,4,8,3,1,2,7,5,6] ["~","aj","al"] (Cx 9 [0,4,8,3,1,2,7,5,6] (jY none "~" ["aj","al"] "am"))),(dX [9,0,4,8,3,1,2,7,5,6] ["am"]
 10 "an" (Av .lss "am" (0:Int))),(dX [10,9,0,4,8,3,1,2,7,5,6] ["an"] 11 "aq" (Qs .not "an"))]))) (cC "aq" (cN (sL [(sM "ar" "2"),(sX "ao" (Av .add "ar" (1:Int))),(sM "1" "ao")])) (cN (sL [(sM "as" "2"),(sM "4" "as")])))))))
def Ci4:CE:=(cS (cT [(sM "at" "3"),(sM "au" "1"),(sX "av" (Av .gtr "at" "au"))] (cC "av" (cE .normal) (cE (.exit 6)))) (cS (cB 7 (cN (Gq 18 (dL [(dP [] 0 "az" o),(dP [] 1 "aA" "3"),(By [] [o] (Ch 2 [] true false "aB" o [o])),(By [] ["3"] (Ch 3 [] true false "aw" ("3":Pa)
 ["3"])),(By [3] ["aw"] (Ch 4 [3] true false "aC" (λ_ => (Av .sub "aw" (1:Int))) ["aw"])),(dP [] 5 "aD" o),(dP [] 6 "aE" "3"),(dX [6] ["aE"] 7 "aF" (Av .sub "aE" (1:Int))),(dX [5,7,6] ["aD","aF"] 8 "aG" (Gf 2 "aD" "aF")),(dY
 [8,5,7,6] ["aG"] 9 "aH" (Cj (some 2) "aG")),(dP [] 10 "aI" o),(dP [] 11 "aJ" "3"),(dX [10,11] ["aI","aJ"] 12 "aO" (Gf 2 "aI" "aJ")),(dY [12,10,11] ["aO"] 13 "aP" (Cj (some 2) "aO")),(dX [0,1,5,6,7,8,9,13,12,10,11] ["az","aA"] 14 "aK" (Gf 2 "az"
 "aA")),(By [14,9,0,1,5,6,7,8,13,12,10,11] ["aK","aH"] (Cx 15 [14,9,0,1,5,6,7,8,13,12,10,11] (sU none (Jr 2 "aK" "aH")))),(dX [2,4,0,1,3,5,6,7,8,9,10,11,12,13,14,15] ["aB","aC"] 16 "aL" (Gf 2 "aB" "aC")),(By [16,13,15,0,1,2,3,4,5,6,7,8,9,10,11,12,14] ["aL","aP"] (Cx 17 [16,13,15,0,1,2,3,4,5,6,7,8,9,10,11,12,14]
 (sU none (Jr 2 "aL" "aP"))))])))) (cN (sL [(sM "ax" "3"),(sX "aM" (Av .sub "ax" (1:Int))),(sM "3" "aM")]))))
def rn:CE:=(cS (cT [(sM o.l.l.r.l.r.r.l "8"),(sM o.l.l.r.l.r.r.r "0"),(sX o.l.l.r.r.l.l.l (Av .lss o.l.l.r.l.r.r.l o.l.l.r.l.r.r.r))] (cC o.l.l.r.r.l.l.l (cE .normal) (cE (.exit 8)))) (cB 9 (cT [(sM o.l.l.r.r.l.l.r "8"),(sM o.l.l.r.r.l.r.l "0"),(sX o.l.l.r.r.l.r.r (Av .add o.l.l.r.r.l.l.r o.l.l.r.r.l.r.l)),(sU o.l.l.r.r.r.l.l (Bd (.cvi .u64 (.tmp 154)))),(sX o.l.l.r.r.r.l.r
 (Av .shr o.l.l.r.r.r.l.l (.c (.v (.int .u64 1))))),(sU o.l.l.r.r.r.r.l (Bd (.cvi .i64 (.tmp 156)))),(sM ":" o.l.l.r.r.r.r.l)] (cS (cN (Gq 14 (dL [(dP [] 0 o.l.l.r.r.r.r.r "!"),(dP [] 1 o.l.r.l.l.l.l.l o),(dP [] 2 o.l.r.l.l.l.l.r "<"),(dP [] 3 o.l.r.l.l.l.r.l ":"),(dX [2,3] [o.l.r.l.l.l.l.r,o.l.r.l.l.l.r.l] 4 o.l.r.l.l.l.r.r (Av .sub o.l.r.l.l.l.l.r o.l.r.l.l.l.r.l)),(dX [1,4,2,3]
 [o.l.r.l.l.l.l.l,o.l.r.l.l.l.r.r] 5 o.l.r.l.l.r.l.l (Gf 2 o.l.r.l.l.l.l.l o.l.r.l.l.l.r.r)),(dY [5,1,4,2,3] [o.l.r.l.l.r.l.l] 6 o.l.r.l.l.r.l.r (Cj (some 2) o.l.r.l.l.r.l.l)),(dP [] 7 o.l.r.l.l.r.r.l o),(dP [] 8 o.l.r.l.l.r.r.r ":"),(dX [7,8] [o.l.r.l.l.r.r.l,o.l.r.l.l.r.r.r] 9 o.l.r.l.r.l.l.l (Gf 2 o.l.r.l.l.r.r.l o.l.r.l.l.r.r.r)),(dY [9,7,8] [o.l.r.l.r.l.l.l] 10 o.l.r.l.r.l.l.r (Cj (some
 2) o.l.r.l.r.l.l.l)),(By [0,6,10,5,1,4,2,3,9,7,8] [o.l.l.r.r.r.r.r,o.l.r.l.l.r.l.r,o.l.r.l.r.l.l.r] (Cx 11 [0,6,10,5,1,4,2,3,9,7,8] (jY none o.l.l.r.r.r.r.r [o.l.r.l.l.r.l.r,o.l.r.l.r.l.l.r] o.l.r.l.r.l.r.l))),(dX [11,0,6,10,5,1,4,2,3,9,7,8] [o.l.r.l.r.l.r.l] 12 o.l.r.l.r.l.r.r (Av .lss o.l.r.l.r.l.r.l (0:Int))),(dX [12,11,0,6,10,5,1,4,2,3,9,7,8] [o.l.r.l.r.l.r.r] 13 o.l.r.l.r.r.l.l
 (Qs .not o.l.r.l.r.l.r.r))]))) (cC o.l.r.l.r.r.l.l (cN (sL [(sM o.l.r.l.r.r.l.r ":"),(sX o.l.r.l.r.r.r.l (Av .add o.l.r.l.r.r.l.r (1:Int))),(sM "8" o.l.r.l.r.r.r.l)])) (cN (sL [(sM o.l.r.l.r.r.r.r ":"),(sM "0" o.l.r.l.r.r.r.r)])))))))
def sT:CE:=(cS (cT [(sM ";" o.r),(sM "9" o.l),(sX "=" (Av .sub ";" "9")),(sX "?" (Av .eql "=" (1:Int)))] (cC "?" (cT [(sM "@" o.r),(sM "*" "@")] (cT [(sM "A" ">"),(sM "," "A")] (cS (cB 0 (cL 1000000 Ci1)) (cS (cT [(sM "U" o.l),(sM "+" "U")] (cB 2 (cL 1000000 Ci2))) (cE .ret)))))
 (cE .normal))) (cS (cT [(sM "w" ">"),(sM "v" o.r),(sX "x" (Av .sub "w" "v")),(sX "y" (Av .eql "x" (1:Int)))] (cC "y" (cT [(sM "r" o.l),(sM "1" "r")] (cT [(sM "ag" o.r),(sM "4" "ag")] (cS (cB 4 (cL 1000000 Ci3)) (cS (cT [(sM "ay" o.r),(sM "3"
 "ay")] (cB 6 (cL 1000000 Ci4))) (cE .ret))))) (cE .normal))) (cT [(sM "aN" o.l),(sM "aQ" ">"),(sX "a0" (Av .add "aN" "aQ")),(sU "aR" (Bd (.cvi .u64 (.tmp 131)))),(sX "a1" (Av .shr "aR" (.c (.v (.int .u64 1))))),(sU o.l.l.l.l.r.r.r (Bd (.cvi .i64 (.tmp 133)))),(sM "6" o.l.l.l.l.r.r.r)]
 (cT [(sM "a2" "6"),(sM "aS" o.r),(sX "aT" (Av .add "a2" "aS")),(sM "7" "aT")] (cT [(sM "8" (0:Int)),(sM "0" (0:Int))] (cS (cT [(sM "a3" o.r),(sM "aU" "6"),(sX "aV" (Av .gtr "a3" "aU"))] (cC "aV" (cT [(sM
 "aW" "7"),(sM "aX" ">"),(sX "aY" (Av .sub "aW" "aX")),(sM "8" "aY")] (cN (sL [(sM "aZ" "6"),(sM "0" "aZ")]))) (cT [(sM o.l.l.r.l.l.r.l o.l),(sM "8" o.l.l.r.l.l.r.l)] (cN (sL [(sM o.l.l.r.l.l.r.r o.r),(sM "0" o.l.l.r.l.l.r.r)]))))) (cT [(sM o.l.l.r.l.r.l.l "7"),(sX o.l.l.r.l.r.l.r
 (Av .sub o.l.l.r.l.r.l.l (1:Int))),(sM "<" o.l.l.r.l.r.l.r)] (cS (cB 8 (cL 1000000 rn)) (cT [(sM o.l.r.r.l.l.l.l "7"),(sM o.l.r.r.l.l.l.r "8"),(sX o.l.r.r.l.l.r.l (Av .sub o.l.r.r.l.l.l.l o.l.r.r.l.l.l.r)),(sM "5" o.l.r.r.l.l.r.l)] (cS (cT [(sM o.l.r.r.l.l.r.r "8"),(sM o.l.r.r.l.r.l.l o.r),(sX o.l.r.r.l.r.l.r (Av .lss o.l.r.r.l.l.r.r o.l.r.r.l.r.l.l)),(sM
 "a4" o.l.r.r.l.r.l.r),(sG "a4" true o.l.r.r.l.r.r.r (sM o.l.r.r.l.r.r.r o.r)),(sG "a4" true o.l.r.r.r.l.l.l (sM o.l.r.r.r.l.l.l "5")),(sG "a4" true o.l.r.r.r.l.l.r (sX o.l.r.r.r.l.l.r (Av .lss o.l.r.r.l.r.r.r o.l.r.r.r.l.l.l))),(sX o.l.r.r.r.l.r.l (Co "a4" o.l.r.r.r.l.l.r false))] (cC o.l.r.r.r.l.r.l (cN (sL [(sM o.l.r.r.r.l.r.r
 o),(sM o.l.r.r.r.r.l.l "8"),(sM o.l.r.r.r.r.l.r o.r),(sM o.l.r.r.r.r.r.l "5"),(sM o.l.r.r.r.r.r.r "!"),(Bj 226 [o.l.r.r.r.l.r.r,o.l.r.r.r.r.l.l,o.l.r.r.r.r.l.r,o.l.r.r.r.r.r.l,o.l.r.r.r.r.r.r] o.r.l.l.l.l.l.l)])) (cE .normal))) (cS (cT [(sM o.r.l.l.l.l.l.r o.l),(sM o.r.l.l.l.l.r.l "8"),(sX o.r.l.l.l.l.r.r (Av .lss o.r.l.l.l.l.l.r o.r.l.l.l.l.r.l)),(sM "a5" o.r.l.l.l.l.r.r),(sG
 "a5" true o.r.l.l.l.r.l.r (sM o.r.l.l.l.r.l.r "8")),(sG "a5" true o.r.l.l.l.r.r.l (sM o.r.l.l.l.r.r.l "6")),(sG "a5" true o.r.l.l.l.r.r.r (sX o.r.l.l.l.r.r.r (Av .lss o.r.l.l.l.r.l.r o.r.l.l.l.r.r.l))),(sX o.r.l.l.r.l.l.l (Co "a5" o.r.l.l.l.r.r.r false))] (cC o.r.l.l.r.l.l.l (cN (sL [(sM o.r.l.l.r.l.l.r o),(sM o.r.l.l.r.l.r.l
 o.l),(sM o.r.l.l.r.l.r.r "8"),(sM o.r.l.l.r.r.l.l "6"),(sM o.r.l.l.r.r.l.r "!"),(Bj 212 [o.r.l.l.r.l.l.r,o.r.l.l.r.l.r.l,o.r.l.l.r.l.r.r,o.r.l.l.r.r.l.l,o.r.l.l.r.r.l.r] o.r.l.l.r.r.r.l)])) (cE .normal))) (cT [(sM o.r.l.l.r.r.r.r "6"),(sM o.r.l.r.l.l.l.l "5"),(sX o.r.l.r.l.l.l.r (Av .lss o.r.l.l.r.r.r.r o.r.l.r.l.l.l.l)),(sM "a6" o.r.l.r.l.l.l.r),(sG "a6"
 true o.r.l.r.l.l.r.r (sM o.r.l.r.l.l.r.r "5")),(sG "a6" true o.r.l.r.l.r.l.l (sM o.r.l.r.l.r.l.l ">")),(sG "a6" true o.r.l.r.l.r.l.r (sX o.r.l.r.l.r.l.r (Av .lss o.r.l.r.l.l.r.r o.r.l.r.l.r.l.l))),(sX o.r.l.r.l.r.r.l (Co "a6" o.r.l.r.l.r.l.r false))] (cC o.r.l.r.l.r.r.l (cN (sL [(sM o.r.l.r.l.r.r.r o),(sM o.r.l.r.r.l.l.l "6"),(sM
 o.r.l.r.r.l.l.r "5"),(sM o.r.l.r.r.l.r.l ">"),(sM o.r.l.r.r.l.r.r "!"),(Bj 212 [o.r.l.r.l.r.r.r,o.r.l.r.r.l.l.l,o.r.l.r.r.l.l.r,o.r.l.r.r.l.r.l,o.r.l.r.r.l.r.r] o.r.l.r.r.r.l.l)])) (cE .normal))))))))))))))
def my:FE:=⟨sT,[],220⟩
end
end Go.DD
