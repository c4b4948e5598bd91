/- A part. -/
import Derived.Test.YtnphfnhhpcelbaaGreatYf
namespace Go.DD
noncomputable section
open Pa
instance TE : Coe Pa EO := ⟨EO.t⟩
instance SY : Coe Pa (Nat -> XP) := ⟨λp _ es => some (Ad es (.t p))⟩
open Go
set_option maxRecDepth 100000
def r25:CE:=(cT [(sU o.r (Nx 26 o)),(sU ">" (Nx 26 o.l)),(sM "!" false)] (cS (cT [(sX "&" (Cf (some 3) o.r)),(Bj 57 ["&"] "%"),(sX ")" (Ar .neq "%" (0:Int))),(sM "(" ")"),(sG "(" false "$" (sX "$" (Cf (some 3) ">"))),(sG "(" false "*" (Bj 57 ["$"] "*")),(sG "(" false "," (sX "," (Ar .neq
 "*" (0:Int)))),(sX "." (Co "(" true ",")),(sM "+" "."),(sG "+" false "1" (sX "1" (Ea 0 o.r))),(sG "+" false "3" (sX "3" (Cf none "1"))),(sG "+" false "4" (sX "4" (Ea 0 ">"))),(sG "+" false "2" (sX "2" (Cf none "4"))),(sG "+" false "7" (Bj 76 ["3","2"]
 "7")),(sG "+" false "8" (sX "8" (Nz .not "7"))),(sX "6" (Co "+" true "8")),(sM "0" "6"),(sG "0" false ":" (sX ":" (Ea 1 o.r))),(sG "0" false ";" (sX ";" (Cf none ":"))),(sG "0" false "5" (sX "5" (Ea 1 ">"))),(sG "0" false "=" (sX "=" (Cf none
 "5"))),(sG "0" false "9" (Bj 77 [";","="] "9")),(sG "0" false "<" (sX "<" (Nz .not "9"))),(sX "?" (Co "0" true "<"))] (cC "?" (cT [(sM "!" false)] (cE .ret)) (cE .normal))) (cT [(sX "@" (Ea 2 o.r)),(sX "A" (Cf none "@")),(sX "B" (Ea 2 ">")),(sX
 "C" (Cf none "B")),(Bj 78 ["A","C",(.c (.fn (.func 79) [.tup []]))] "D"),(sM "!" "D")] (cE .ret))))
def e25:FE:=⟨r25,[(4,none)],34⟩
def yE:CE:=(cT [(sX "?" (Ar .lss "<" "9"))] (cS (cC "?" (cE .normal) (cE (.exit 0))) (cS (cB 1 (cT [(sX "@" (Fg 2 "=" "<")),(sX "A" (Cf (some 2) "@")),(sU "*" (Qe 39 [.v (.slice none 0 0),.v (.slice none 0 0)])),(sU none (Is 2 "*" "A"))] (cT [(sM "B" o),(sM "C" o.l),(sX "D" (Cf (some 2) "*")),(Bj
 122 ["B","C","D"] "F"),(sM "," "F")] (cT [(sM "G" ","),(sX "I" (Ar .neq "G" (0:Int)))] (cC "I" (cT [(sU "O" (Bi (.bld [.slice none 0 0,.slice none 0 0,.slice none 0 0] []))),(sM "N" ","),(sU none (Is 3 "%" "O")),(sM ")" "N")] (cE .ret)) (cE .normal)))))) (cN
 (sL [(sX "E" (Ar .add "<" (1:Int))),(sM "<" "E")])))))
def yD:CE:=(cS (cT [(sM "R" "+"),(sX "T" (Ea 2 ".")),(sX "S" (Cf none "T")),(sX "V" (Cu "S")),(sX "U" (Ar .lss "R" "V"))] (cC "U" (cE .normal) (cE (.exit 2)))) (cS (cB 3 (cS (cN (Gk 15 (dL [(dX [] ["."] 0 "W" (Ea 2 ".")),(dY [0] ["W"] 1 "^" (Cf none "W")),(dP []
 2 "d" "+"),(dX [2] ["d"] 3 "h" (Ar .sub "d" (1:Int))),(dX [1,3,0,2] ["^","h"] 4 "Z" (Fg 2 "^" "h")),(dX [4,1,3,0,2] ["Z"] 5 "X" (Ea 0 "Z")),(dY [5,4,1,3,0,2] ["X"] 6 "e" (Cf none "X")),(dX [] ["."] 7 "a" (Ea 2 ".")),(dY [7] ["a"] 8
 "_" (Cf none "a")),(dP [] 9 "f" "+"),(dX [8,9,7] ["_","f"] 10 "b" (Fg 2 "_" "f")),(dX [10,8,9,7] ["b"] 11 "i" (Ea 0 "b")),(dY [11,10,8,9,7] ["i"] 12 "]" (Cf none "i")),(Bx [6,12,5,4,1,3,0,2,11,10,8,9,7] ["e","]"] (Cx 13 [6,12,5,4,1,3,0,2,11,10,8,9,7]
 (Bj 24 ["e","]"] "g"))),(dX [13,6,12,5,4,1,3,0,2,11,10,8,9,7] ["g"] 14 "o" (Ar .eql "g" (0:Int)))]))) (cC "o" (cT [(sU "j" (Bi (.bld [.slice none 0 0,.slice none 0 0,.slice none 0 0] []))),(sU none (Is 3 "%" "j")),(sM ")" (5:Int))] (cE .ret)) (cE .normal)))) (cN (sL [(sM
 "Y" "+"),(sX "c" (Ar .add "Y" (1:Int))),(sM "+" "c")]))))
def r59:CE:=(cT [(sU "%" (Qe 26 [.v (.slice none 0 0),.v (.slice none 0 0),.v (.slice none 0 0)])),(sM ")" (0:Int))] (cS (cT [(sM "1" o),(sM "3" o.l),(Bj 121 ["1","3"] "4"),(sM "(" "4")] (cT [(sM "2" "("),(sX "7" (Ar .neq "2" (0:Int)))] (cC "7" (cT [(sU "8" (Bi (.bld [.slice none 0 0,.slice
 none 0 0,.slice none 0 0] []))),(sM "6" "("),(sU none (Is 3 "%" "8")),(sM ")" "6")] (cE .ret)) (cE .normal)))) (cS (cT [(sM "0" o.r),(sX ":" (Cu "0")),(sX ";" (Ar .gtr ":" (4096:Int)))] (cC ";" (cT [(sU "5" (Bi (.bld [.slice none 0 0,.slice none 0 0,.slice none 0 0] []))),(sU none (Is 3 "%" "5")),(sM
 ")" (9:Int))] (cE .ret)) (cE .normal))) (cS (cT [(sM "=" o.r),(sX "9" (Cu "=")),(sM "<" (0:Int))] (cB 0 (cL 1000000 yE))) (cT [(sM "H" o),(sM "J" o.l),(sM "K" o.r),(Bj 127 ["H","J","K"] "L"),(sU "." (Qe 26 [.v (.slice none 0 0),.v (.slice none 0 0),.v (.slice none 0 0)])),(sU
 none (Is 3 "." "L"))] (cT [(sX "P" (Ea 2 ".")),(sX "Q" (Cf none "P")),(Bj 128 ["Q",(.c (.fn (.func 129) [.tup []]))] "M")] (cS (cT [(sM "+" (1:Int))] (cB 2 (cL 1000000 yD))) (cT [(sX "l" (Cf (some 3) ".")),(sU none (Is 3 "%" "l")),(sM ")" (0:Int))] (cE .ret)))))))))
def e59:FE:=⟨r59,[(6,some (some 3)),(7,none)],71⟩
def xX:CE:=(cT [(sX "7" (Ar .lss "2" "4"))] (cS (cC "7" (cE .normal) (cE (.exit 0))) (cS (cB 1 (cT [(sM "8" "2"),(sX "6" (Fg 2 "3" "2")),(sX "0" (Cf (some 2) "6")),(sU "(" (Qe 39 [.v (.slice none 0 0),.v (.slice none 0 0)])),(sM ")" "8"),(sU none (Is 2 "(" "0"))] (cT [(sM ":" o.l),(sM ";" ")"),(sX
 "5" (Fg 2 ":" ";")),(sX "=" (Cf (some 2) "5")),(sU "$" (Qe 39 [.v (.slice none 0 0),.v (.slice none 0 0)])),(sU none (Is 2 "$" "="))] (cT [(sM "9" o.r),(sX "<" (Cf (some 2) "(")),(sX "?" (Cf (some 2) "$")),(eA none "9" ["<","?"] "@"),(sX "A" (Nz .not "@"))] (cC "A" (cT [(sM "%" (.c
 (.v (.bool false))))] (cE .ret)) (cE .normal)))))) (cN (sL [(sX "B" (Ar .add "2" (1:Int))),(sM "2" "B")])))))
def r78:CE:=(cT [(sM "%" false)] (cS (cT [(sM "*" o),(sX "," (Cu "*")),(sM "." o.l),(sX "+" (Cu ".")),(sX "1" (Ar .neq "," "+"))] (cC "1" (cT [(sM "%" false)] (cE .ret)) (cE .normal))) (cS (cT [(sM "3" o),(sX "4" (Cu "3")),(sM "2" (0:Int))] (cB 0 (cL 1000000 xX))) (cT [(sM
 "%" true)] (cE .ret)))))
def e78:FE:=⟨r78,[(6,none)],32⟩
def r79:CE:=(cT [(sU o.r (Nx 39 o)),(sU ">" (Nx 39 o.l)),(sM "!" false)] (cT [(sX "&" (Ea 0 o.r)),(sX "%" (Cf none "&")),(sX ")" (Ea 0 ">")),(sX "(" (Cf none ")")),(Bj 80 ["%","("] "$"),(sM "*" "$"),(sG "*" true "," (sX "," (Ea 1 o.r))),(sG "*" true "." (sX "." (Cf none ","))),(sG "*" true "+"
 (sX "+" (Ea 1 ">"))),(sG "*" true "1" (sX "1" (Cf none "+"))),(sG "*" true "3" (Bj 69 [".","1"] "3")),(sX "4" (Co "*" "3" false)),(sM "!" "4")] (cE .ret)))
def e79:FE:=⟨r79,[(4,none)],17⟩
def Cj5:CE:=(cT [(sX "7" (Ar .lss "2" "4"))] (cS (cC "7" (cE .normal) (cE (.exit 0))) (cS (cB 1 (cT [(sX "8" (Fg 2 "3" "2")),(sX "6" (Cf (some 2) "8")),(sU "$" (Qe 39 [.v (.slice none 0 0),.v (.slice none 0 0)])),(sU none (Is 2 "$" "6"))] (cN (Gk 8 (dL [(Bx [] [")"] (Ch 0 [] true false "0" (λ_ => (Ea 2
 ")")) [")"])),(Bx [0] ["0"] (Ch 1 [0] true true ":" (λ_ => (Cf none "0")) ["0"])),(dY [] ["$"] 2 ";" (Cf (some 2) "$")),(Bx [2] [";"] (Cx 3 [2] (Bj 164 [";"] "5"))),(Bx [3,2] ["5"] (Qa 4 [3,2] false false "=" (Bi (.bsl 39 1 2 [.slice none 0 0,.slice none 0 0] [(0,2,.tmp 24)])) ["5"])),(Bx [1,4,3,0,2]
 [":","="] (Cx 5 [1,4,3,0,2] (sU "9" (Bi (.app 39 2 48 (.tmp 22) (.tmp 25)))))),(dX [0,1,2,3,4,5] [")"] 6 "<" (Ea 2 ")")),(Bx [6,5,0,1,2,3,4] ["<","9"] (Cx 7 [6,5,0,1,2,3,4] (sU none (Is 1 "<" "9"))))]))))) (cN (sL [(sX "?" (Ar .add "2" (1:Int))),(sM "2" "?")])))))
def FR:CE:=(cT [(sU "%" (Qe 26 [.v (.slice none 0 0),.v (.slice none 0 0),.v (.slice none 0 0)]))] (cT [(sM "*" o),(Bj 162 ["*"] ","),(sM "." o.l),(Bj 163 ["."] "+"),(sU "1" (Bi (.bld [.slice none 0 0,.slice none 0 0,.slice none 0 0] [(0,1,.tmp 11),(1,1,.tmp 13)]))),(sU ")" (Qe 26 [.v (.slice none 0 0),.v (.slice none 0 0),.v (.slice none 0 0)])),(sU none
 (Is 3 ")" "1"))] (cS (cT [(sM "3" o.r),(sX "4" (Cu "3")),(sM "2" (0:Int))] (cB 0 (cL 1000000 Cj5))) (cT [(sX "@" (Cf (some 3) ")")),(sU none (Is 3 "%" "@"))] (cE .ret)))))
def ri:FE:=⟨FR,[(6,some (some 3))],30⟩
def FQ:CE:=(cT [(sU ">" (Nx 195 o.l))] (cN (sL [(sM "!" o),(sU "&" (Bi (.mkf (.func 166) [] [.tmp 3]))),(Bj 165 ["!","&"] "%")])))
def rf:FE:=⟨FQ,[],7⟩
def FP:CE:=(cT [(sU o.l (Nx 39 o)),(sM o.r (.c (.v (.slice none 0 0))))] (cT [(sX ">" (Ea 0 o.l)),(sX "!" (Cf none ">")),(sM o.r "!")] (cE .ret)))
def re:FE:=⟨FP,[(2,none)],5⟩
def FB:CE:=(cT [(sU o.l (Nx 39 o)),(sU o.r (Qe 39 [.v (.slice none 0 0),.v (.slice none 0 0)]))] (cS (cN (Gk 8 (dL [(dX [] [o.l] 0 ">" (Ea 0 o.l)),(dY [0] [">"] 1 "!" (Cf none ">")),(Bx [1,0] ["!"] (Cx 2 [1,0] (Bj 70 ["!"] "&"))),(Bx [] [o.l] (Ch 3 [] true false "%" (λ_ => (Ea 1 o.l)) [o.l])),(Bx [3] ["%"] (Ch 4 [3] true true ")" (λ_ => (Cf none
 "%")) ["%"])),(Bx [4,2,3,1,0] [")"] (Cx 5 [4,2,3,1,0] (Bj 142 [")"] "("))),(Bx [2,5,1,0,4,3] ["&","("] (Ch 6 [2,5,1,0,4,3] false false "$" (Fu (Bi (.bld [.slice none 0 0,.slice none 0 0] [(0,1,.tmp 5),(1,1,.tmp 8)]))) ["&","("])),(Bx [6,5,0,1,2,3,4] [o.r,"$"] (Cx 7 [6,5,0,1,2,3,4] (sU none (Is 2 o.r "$"))))]))) (cE .ret)))
def qf:FE:=⟨FB,[(2,some (some 2))],10⟩
def FA:CE:=(cN (sL [(sM "!" o),(sM "&" o),(sX "%" (Cu "&")),(sM ")" o.l),(Bj 187 ["!","%",")"] "(")]))
def qe:FE:=⟨FA,[],9⟩
def EZ:CE:=(cT [(sU ">" (Nx 39 o)),(sU "!" (Nx 39 o.l)),(sM "&" (0:Int))] (cS (cN (Gk 8 (dL [(dY [] [o.r] 0 "%" (Cf none o.r)),(dY [] [">"] 1 ")" (Cf (some 2) ">")),(Bx [0,1] ["%",")"] (Cx 2 [0,1] (jF none "%" [")"] "("))),(Bx [] [o.r] (Ch 3 [] true true "$" (λ_ => (Cf none o.r)) [o.r])),(Bx [] ["!"] (Ch 4 [] true true
 "*" (λ_ => (Cf (some 2) "!")) ["!"])),(Bx [3,4,2,0,1] ["$","*"] (Cx 5 [3,4,2,0,1] (jF none "$" ["*"] ","))),(Bx [2,5,0,1,3,4] ["(",","] (Cx 6 [2,5,0,1,3,4] (Bj 24 ["(",","] "."))),(dP [6,0,1,2,3,4,5] 7 "&" ".")]))) (cE .ret)))
def qd:FE:=⟨EZ,[(5,none)],13⟩
def Cj6:CE:=(cS (cT [(sM "," "("),(sM "." o.l),(sX "+" (Ar .leq "," "."))] (cC "+" (cE .normal) (cE (.exit 0)))) (cB 1 (cT [(sM "1" o),(sM "3" ")"),(sM "4" "("),(sM "2" o.r),(Bj 211 ["1","3","4","2"] "7")] (cT [(sM "8" "("),(sM ")" "8")] (cN (sL [(sM "6" "("),(sM "0" "%"),(sX
 ":" (Ar .add "6" "0")),(sM "(" ":")]))))))
def Cj7:CE:=(cS (cT [(sM "D" "("),(sM "F" o.l),(sX "G" (Ar .leq "D" "F"))] (cC "G" (cE .normal) (cE (.exit 4)))) (cB 5 (cT [(sM "I" o),(sM "O" ")"),(sM "N" ")"),(sM "E" "%"),(sX "H" (Ar .add "N" "E")),(sM "J" "("),(sM "K" o.r),(Bj 212 ["I","O","H","J","K"]
 "L")] (cT [(sM "P" "("),(sM ")" "P")] (cN (sL [(sM "Q" "("),(sM "M" "%"),(sX "R" (Ar .mul (2:Int) "M")),(sX "T" (Ar .add "Q" "R")),(sM "(" "T")]))))))
def Cj8:CE:=(cS (cT [(sM "?" "%"),(sM "@" o.l),(sX "A" (Ar .lss "?" "@"))] (cC "A" (cE .normal) (cE (.exit 2)))) (cB 3 (cT [(sM "B" "%"),(sX "C" (Ar .mul (2:Int) "B")),(sM ")" (0:Int)),(sM "(" "C")] (cS (cB 4 (cL 1000000 Cj7)) (cS (cT [(sM "S" ")"),(sM "V" "%"),(sX
 "U" (Ar .add "S" "V")),(sM "$" "U")] (cT [(sM "Y" "$"),(sM "c" o.l),(sX "W" (Ar .lss "Y" "c"))] (cC "W" (cN (sL [(sM "^" o),(sM "d" ")"),(sM "h" "$"),(sM "Z" o.l),(sM "X" o.r),(Bj 212 ["^","d","h","Z","X"] "e")]))
 (cE .normal)))) (cN (sL [(sM "a" "%"),(sX "_" (Ar .mul "a" (2:Int))),(sM "%" "_")])))))))
def EM:CE:=(cT [(sM "%" (20:Int))] (cT [(sM "*" "%"),(sM ")" (0:Int)),(sM "(" "*")] (cS (cB 0 (cL 1000000 Cj6)) (cT [(sM ";" o),(sM "5" ")"),(sM "=" o.l),(sM "9" o.r),(Bj 211 [";","5","=","9"] "<")] (cB 2 (cL 1000000 Cj8))))))
def pf:FE:=⟨EM,[],63⟩
def Cj9:CE:=(cS (cS (cN (Gk 17 (dL [(dP [] 0 "7" "$"),(dP [] 1 "8" o.l),(dX [0,1] ["7","8"] 2 "6" (Ar .gtr "7" "8")),(dP [2,0,1] 3 "0" "6"),(dG "0" true ":" (dP [3,2,0,1] 4 ":" ">")),(dG "0" true ";" (dP [3,2,0,1] 5 ";" o)),(dG "0" true "5" (dP [3,2,0,1] 6 "5" "$")),(dG "0"
 true "=" (dX [5,6,3,2,0,1] [";","5"] 7 "=" (Fg 2 ";" "5"))),(dG "0" true "9" (dY [7,3,5,6,2,0,1] ["="] 8 "9" (Cf (some 2) "="))),(dG "0" true "<" (dP [3,2,0,1] 9 "<" o)),(dG "0" true "?" (dP [3,2,0,1] 10 "?" "$")),(dG "0" true "@" (dX [10,3,2,0,1] ["?"] 11 "@" (Ar .sub
 "?" (1:Int)))),(dG "0" true "A" (dX [9,11,3,2,0,1,10] ["<","@"] 12 "A" (Fg 2 "<" "@"))),(dG "0" true "B" (dY [12,3,9,11,2,0,1,10] ["A"] 13 "B" (Cf (some 2) "A"))),(dG "0" true "C" (Bx [4,8,13,3,2,0,1,7,5,6,12,9,11,10] [":","9","B"] (Cx 14 [4,8,13,3,2,0,1,7,5,6,12,9,11,10]
 (jF none ":" ["9","B"] "C")))),(dG "0" true "D" (dX [14,3,4,8,13,2,0,1,7,5,6,12,9,11,10] ["C"] 15 "D" (Ar .lss "C" (0:Int)))),(dX [3,15,2,0,1,14,4,8,13,7,5,6,12,9,11,10] ["0","D"] 16 "F" (Co "0" "D" false))]))) (cC "F" (cE .normal) (cE (.exit 2)))) (cS
 (cB 3 (cN (Gk 18 (dL [(dP [] 0 "O" o),(dP [] 1 "N" "$"),(Bx [] [o] (Ch 2 [] true false "E" o [o])),(Bx [] ["$"] (Ch 3 [] true false "H" ("$":Pa) ["$"])),(Bx [3] ["H"] (Ch 4 [3] true false "J" (λ_ => (Ar .sub "H" (1:Int))) ["H"])),(dP [] 5 "K" o),(dP [] 6 "L" "$"),(dX [6]
 ["L"] 7 "P" (Ar .sub "L" (1:Int))),(dX [5,7,6] ["K","P"] 8 "Q" (Fg 2 "K" "P")),(dY [8,5,7,6] ["Q"] 9 "M" (Cf (some 2) "Q")),(dP [] 10 "R" o),(dP [] 11 "T" "$"),(dX [10,11] ["R","T"] 12 "S" (Fg 2 "R" "T")),(dY [12,10,11] ["S"]
 13 "V" (Cf (some 2) "S")),(dX [0,1,5,6,7,8,9,13,12,10,11] ["O","N"] 14 "U" (Fg 2 "O" "N")),(Bx [14,9,0,1,5,6,7,8,13,12,10,11] ["U","M"] (Cx 15 [14,9,0,1,5,6,7,8,13,12,10,11] (sU none (Is 2 "U" "M")))),(dX [2,4,0,1,3,5,6,7,8,9,10,11,12,13,14,15] ["E","J"] 16 "Y" (Fg 2 "E" "J")),(Bx
 [16,13,15,0,1,2,3,4,5,6,7,8,9,10,11,12,14] ["Y","V"] (Cx 17 [16,13,15,0,1,2,3,4,5,6,7,8,9,10,11,12,14] (sU none (Is 2 "Y" "V"))))])))) (cN (sL [(sM "G" "$"),(sX "I" (Ar .sub "G" (1:Int))),(sM "$" "I")]))))
def tz:CE:=(cS (cT [(sM "." "("),(sM "+" o.r),(sX "1" (Ar .lss "." "+"))] (cC "1" (cE .normal) (cE (.exit 0)))) (cS (cB 1 (cT [(sM "2" "("),(sM "$" "2")] (cB 2 (cL 1000000 Cj9)))) (cN (sL [(sM "3" "("),(sX "4" (Ar .add "3" (1:Int))),(sM "(" "4")]))))
def EJ:CE:=(cT [(sM "*" o.l),(sX "," (Ar .add "*" (1:Int))),(sM "(" ",")] (cB 0 (cL 1000000 tz)))
def ow:FE:=⟨EJ,[],53⟩
def Ck0:CE:=(cS (cT [(sM "B" "*"),(sM "C" ","),(sX "D" (Ar .lss "B" "C"))] (cC "D" (cE .normal) (cE (.exit 0)))) (cB 1 (cT [(sM "F" "*"),(sM "G" ","),(sX "I" (Ar .add "F" "G")),(sU "O" (Bi (.cvi .u64 (.tmp 36)))),(sX "N" (Ar .shr "O" (.c (.v (.int .u64 1))))),(sU
 "E" (Bi (.cvi .i64 (.tmp 38)))),(sM "." "E")] (cS (cN (Gk 11 (dL [(dP [] 0 "H" "!"),(dP [] 1 "J" o),(dP [] 2 "K" "."),(dX [1,2] ["J","K"] 3 "L" (Fg 2 "J" "K")),(dY [3,1,2] ["L"] 4 "P" (Cf (some 2) "L")),(dP [] 5 "Q" o),(dP [] 6 "M" o.l),(dX [5,6] ["Q","M"]
 7 "R" (Fg 2 "Q" "M")),(dY [7,5,6] ["R"] 8 "T" (Cf (some 2) "R")),(Bx [0,4,8,3,1,2,7,5,6] ["H","P","T"] (Cx 9 [0,4,8,3,1,2,7,5,6] (jF none "H" ["P","T"] "S"))),(dX [9,0,4,8,3,1,2,7,5,6] ["S"] 10 "V" (Ar .lss "S" (0:Int)))]))) (cC "V" (cN (sL
 [(sM "U" "."),(sX "Y" (Ar .add "U" (1:Int))),(sM "*" "Y")])) (cN (sL [(sM "c" "."),(sM "," "c")])))))))
def Ck1:CE:=(cS (cT [(sM "^" "+"),(sM "d" "*"),(sX "h" (Ar .sub "d" (1:Int))),(sX "Z" (Ar .lss "^" "h"))] (cC "Z" (cE .normal) (cE (.exit 2)))) (cS (cB 3 (cN (Gk 18 (dL [(dP [] 0 "a" o),(dP [] 1 "_" "+"),(Bx [] [o] (Ch 2 [] true false "f" o [o])),(Bx [] ["+"] (Ch
 3 [] true false "b" ("+":Pa) ["+"])),(Bx [3] ["b"] (Ch 4 [3] true false "i" (λ_ => (Ar .add "b" (1:Int))) ["b"])),(dP [] 5 "]" o),(dP [] 6 "g" "+"),(dX [6] ["g"] 7 "o" (Ar .add "g" (1:Int))),(dX [5,7,6] ["]","o"] 8 "j" (Fg
 2 "]" "o")),(dY [8,5,7,6] ["j"] 9 "l" (Cf (some 2) "j")),(dP [] 10 "q" o),(dP [] 11 "t" "+"),(dX [10,11] ["q","t"] 12 "k" (Fg 2 "q" "t")),(dY [12,10,11] ["k"] 13 "u" (Cf (some 2) "k")),(dX [0,1,5,6,7,8,9,13,12,10,11] ["a","_"] 14
 "z" (Fg 2 "a" "_")),(Bx [14,9,0,1,5,6,7,8,13,12,10,11] ["z","l"] (Cx 15 [14,9,0,1,5,6,7,8,13,12,10,11] (sU none (Is 2 "z" "l")))),(dX [2,4,0,1,3,5,6,7,8,9,10,11,12,13,14,15] ["f","i"] 16 "v" (Fg 2 "f" "i")),(Bx [16,13,15,0,1,2,3,4,5,6,7,8,9,10,11,12,14] ["v","u"]
 (Cx 17 [16,13,15,0,1,2,3,4,5,6,7,8,9,10,11,12,14] (sU none (Is 2 "v" "u"))))])))) (cN (sL [(sM "X" "+"),(sX "e" (Ar .add "X" (1:Int))),(sM "+" "e")]))))
def Ck2:CE:=(cS (cT [(sM "[" "1"),(sM "w" "3"),(sX "p" (Ar .lss "[" "w"))] (cC "p" (cE .normal) (cE (.exit 4)))) (cB 5 (cT [(sM "am" "1"),(sM "r" "3"),(sX "ab" (Ar .add "am" "r")),(sU "ac" (Bi (.cvi .u64 (.tmp 88)))),(sX "ad" (Ar .shr "ac"
 (.c (.v (.int .u64 1))))),(sU "ae" (Bi (.cvi .i64 (.tmp 90)))),(sM "4" "ae")] (cS (cN (Gk 12 (dL [(dP [] 0 "m" "!"),(dP [] 1 "x" o),(dP [] 2 "af" o.r),(dX [1,2] ["x","af"] 3 "ag" (Fg 2 "x" "af")),(dY [3,1,2] ["ag"] 4 "ah" (Cf (some 2) "ag")),(dP [] 5 "n" o),(dP
 [] 6 "as" "4"),(dX [5,6] ["n","as"] 7 "an" (Fg 2 "n" "as")),(dY [7,5,6] ["an"] 8 "ao" (Cf (some 2) "an")),(Bx [0,4,8,3,1,2,7,5,6] ["m","ah","ao"] (Cx 9 [0,4,8,3,1,2,7,5,6] (jF none "m" ["ah","ao"] "ap"))),(dX [9,0,4,8,3,1,2,7,5,6] ["ap"]
 10 "aq" (Ar .lss "ap" (0:Int))),(dX [10,9,0,4,8,3,1,2,7,5,6] ["aq"] 11 "at" (Nz .not "aq"))]))) (cC "at" (cN (sL [(sM "ai" "4"),(sX "aj" (Ar .add "ai" (1:Int))),(sM "1" "aj")])) (cN (sL [(sM "ar" "4"),(sM "3" "ar")])))))))
def Ck3:CE:=(cS (cT [(sM "au" "2"),(sM "av" "1"),(sX "ay" (Ar .gtr "au" "av"))] (cC "ay" (cE .normal) (cE (.exit 6)))) (cS (cB 7 (cN (Gk 18 (dL [(dP [] 0 "aE" o),(dP [] 1 "aw" "2"),(Bx [] [o] (Ch 2 [] true false "az" o [o])),(Bx [] ["2"] (Ch 3 [] true false "ax" ("2":Pa)
 ["2"])),(Bx [3] ["ax"] (Ch 4 [3] true false "aF" (λ_ => (Ar .sub "ax" (1:Int))) ["ax"])),(dP [] 5 "aG" o),(dP [] 6 "aH" "2"),(dX [6] ["aH"] 7 "aI" (Ar .sub "aH" (1:Int))),(dX [5,7,6] ["aG","aI"] 8 "aJ" (Fg 2 "aG" "aI")),(dY
 [8,5,7,6] ["aJ"] 9 "aA" (Cf (some 2) "aJ")),(dP [] 10 "aK" o),(dP [] 11 "aL" "2"),(dX [10,11] ["aK","aL"] 12 "aU" (Fg 2 "aK" "aL")),(dY [12,10,11] ["aU"] 13 "aV" (Cf (some 2) "aU")),(dX [0,1,5,6,7,8,9,13,12,10,11] ["aE","aw"] 14 "aN" (Fg 2 "aE"
 "aw")),(Bx [14,9,0,1,5,6,7,8,13,12,10,11] ["aN","aA"] (Cx 15 [14,9,0,1,5,6,7,8,13,12,10,11] (sU none (Is 2 "aN" "aA")))),(dX [2,4,0,1,3,5,6,7,8,9,10,11,12,13,14,15] ["az","aF"] 16 "aO" (Fg 2 "az" "aF")),(Bx [16,13,15,0,1,2,3,4,5,6,7,8,9,10,11,12,14] ["aO","aV"] (Cx 17 [16,13,15,0,1,2,3,4,5,6,7,8,9,10,11,12,14]
 (sU none (Is 2 "aO" "aV"))))])))) (cN (sL [(sM "aB" "2"),(sX "aP" (Ar .sub "aB" (1:Int))),(sM "2" "aP")]))))
def xh:CE:=(cS (cT [(sM o.l.l.r.l.r.r.l "6"),(sM o.l.l.r.l.r.r.r "0"),(sX o.l.l.r.r.l.l.l (Ar .lss o.l.l.r.l.r.r.l o.l.l.r.l.r.r.r))] (cC o.l.l.r.r.l.l.l (cE .normal) (cE (.exit 8)))) (cB 9 (cT [(sM o.l.l.r.r.l.l.r "6"),(sM o.l.l.r.r.l.r.l "0"),(sX o.l.l.r.r.l.r.r (Ar .add o.l.l.r.r.l.l.r o.l.l.r.r.l.r.l)),(sU o.l.l.r.r.r.l.l (Bi (.cvi .u64 (.tmp 154)))),(sX o.l.l.r.r.r.l.r
 (Ar .shr o.l.l.r.r.r.l.l (.c (.v (.int .u64 1))))),(sU o.l.l.r.r.r.r.l (Bi (.cvi .i64 (.tmp 156)))),(sM ";" o.l.l.r.r.r.r.l)] (cS (cN (Gk 14 (dL [(dP [] 0 "bs" "!"),(dP [] 1 "bt" o),(dP [] 2 "bu" ":"),(dP [] 3 "bv" ";"),(dX [2,3] ["bu","bv"] 4 "bw" (Ar .sub "bu" "bv")),(dX [1,4,2,3]
 ["bt","bw"] 5 "bx" (Fg 2 "bt" "bw")),(dY [5,1,4,2,3] ["bx"] 6 "by" (Cf (some 2) "bx")),(dP [] 7 "bz" o),(dP [] 8 "aQ" ";"),(dX [7,8] ["bz","aQ"] 9 "bd" (Fg 2 "bz" "aQ")),(dY [9,7,8] ["bd"] 10 "be" (Cf (some
 2) "bd")),(Bx [0,6,10,5,1,4,2,3,9,7,8] ["bs","by","be"] (Cx 11 [0,6,10,5,1,4,2,3,9,7,8] (jF none "bs" ["by","be"] "aC"))),(dX [11,0,6,10,5,1,4,2,3,9,7,8] ["aC"] 12 "bf" (Ar .lss "aC" (0:Int))),(dX [12,11,0,6,10,5,1,4,2,3,9,7,8] ["bf"] 13 "bA"
 (Nz .not "bf"))]))) (cC "bA" (cN (sL [(sM "bB" ";"),(sX "bC" (Ar .add "bB" (1:Int))),(sM "6" "bC")])) (cN (sL [(sM "bD" ";"),(sM "0" "bD")])))))))
def sQ:CE:=(cS (cT [(sM "=" o.r),(sM "9" o.l),(sX "<" (Ar .sub "=" "9")),(sX "?" (Ar .eql "<" (1:Int)))] (cC "?" (cT [(sM "@" o.r),(sM "*" "@")] (cT [(sM "A" ">"),(sM "," "A")] (cS (cB 0 (cL 1000000 Ck0)) (cS (cT [(sM "W" o.l),(sM "+" "W")] (cB 2 (cL 1000000 Ck1))) (cE .ret)))))
 (cE .normal))) (cS (cT [(sM "|" ">"),(sM "y" o.r),(sX "~" (Ar .sub "|" "y")),(sX "ak" (Ar .eql "~" (1:Int)))] (cC "ak" (cT [(sM "s" o.l),(sM "1" "s")] (cT [(sM "al" o.r),(sM "3" "al")] (cS (cB 4 (cL 1000000 Ck2)) (cS (cT [(sM "aD" o.r),(sM "2"
 "aD")] (cB 6 (cL 1000000 Ck3))) (cE .ret))))) (cE .normal))) (cT [(sM "aR" o.l),(sM "aW" ">"),(sX "a5" (Ar .add "aR" "aW")),(sU "aX" (Bi (.cvi .u64 (.tmp 131)))),(sX "bg" (Ar .shr "aX" (.c (.v (.int .u64 1))))),(sU "bh" (Bi (.cvi .i64 (.tmp 133)))),(sM "7" "bh")]
 (cT [(sM "bi" "7"),(sM "a6" o.r),(sX "aY" (Ar .add "bi" "a6")),(sM "8" "aY")] (cT [(sM "6" (0:Int)),(sM "0" (0:Int))] (cS (cT [(sM "a7" o.r),(sM "aZ" "7"),(sX "aS" (Ar .gtr "a7" "aZ"))] (cC "aS" (cT [(sM
 "a0" "8"),(sM "a1" ">"),(sX "a2" (Ar .sub "a0" "a1")),(sM "6" "a2")] (cN (sL [(sM "a3" "7"),(sM "0" "a3")]))) (cT [(sM "bj" o.l),(sM "6" "bj")] (cN (sL [(sM "bE" o.r),(sM "0" "bE")]))))) (cT [(sM "bk" "8"),(sX o.l.l.r.l.r.l.r
 (Ar .sub "bk" (1:Int))),(sM ":" o.l.l.r.l.r.l.r)] (cS (cB 8 (cL 1000000 xh)) (cT [(sM "bF" "8"),(sM o.l.r.r.l.l.l.r "6"),(sX o.l.r.r.l.l.r.l (Ar .sub "bF" o.l.r.r.l.l.l.r)),(sM "5" o.l.r.r.l.l.r.l)] (cS (cT [(sM o.l.r.r.l.l.r.r "6"),(sM "bG" o.r),(sX o.l.r.r.l.r.l.r (Ar .lss o.l.r.r.l.l.r.r "bG")),(sM
 "aa" o.l.r.r.l.r.l.r),(sG "aa" true "a8" (sM "a8" o.r)),(sG "aa" true "a9" (sM "a9" "5")),(sG "aa" true "ba" (sX "ba" (Ar .lss "a8" "a9"))),(sX "bl" (Co "aa" "ba" false))] (cC "bl" (cN (sL [(sM "bm"
 o),(sM "bn" "6"),(sM "bo" o.r),(sM o.l.r.r.r.r.r.l "5"),(sM o.l.r.r.r.r.r.r "!"),(Bj 226 ["bm","bn","bo",o.l.r.r.r.r.r.l,o.l.r.r.r.r.r.r] o.r.l.l.l.l.l.l)])) (cE .normal))) (cS (cT [(sM o.r.l.l.l.l.l.r o.l),(sM o.r.l.l.l.l.r.l "6"),(sX o.r.l.l.l.l.r.r (Ar .lss o.r.l.l.l.l.l.r o.r.l.l.l.l.r.l)),(sM "bb" o.r.l.l.l.l.r.r),(sG
 "bb" true "bH" (sM "bH" "6")),(sG "bb" true "bI" (sM "bI" "7")),(sG "bb" true "aM" (sX "aM" (Ar .lss "bH" "bI"))),(sX "bJ" (Co "bb" "aM" false))] (cC "bJ" (cN (sL [(sM "bK" o),(sM "bL"
 o.l),(sM "bM" "6"),(sM "bN" "7"),(sM o.r.l.l.r.r.l.r "!"),(Bj 212 ["bK","bL","bM","bN",o.r.l.l.r.r.l.r] "bc")])) (cE .normal))) (cT [(sM "bO" "7"),(sM "bP" "5"),(sX "aT" (Ar .lss "bO" "bP")),(sM "a4" "aT"),(sG "a4"
 true "bp" (sM "bp" "5")),(sG "a4" true "bq" (sM "bq" ">")),(sG "a4" true "br" (sX "br" (Ar .lss "bp" "bq"))),(sX "bQ" (Co "a4" "br" false))] (cC "bQ" (cN (sL [(sM o.r.l.r.l.r.r.r o),(sM "bR" "7"),(sM
 "bS" "5"),(sM o.r.l.r.r.l.r.l ">"),(sM o.r.l.r.r.l.r.r "!"),(Bj 212 [o.r.l.r.l.r.r.r,"bR","bS",o.r.l.r.r.l.r.l,o.r.l.r.r.l.r.r] o.r.l.r.r.r.l.l)])) (cE .normal))))))))))))))
def ov:FE:=⟨sQ,[],220⟩
end
end Go.DD
