/- A part. -/
import Derived.Test.YtnphfnhhpcelbaaGreatYf
namespace Go.DD
noncomputable section
open Pa
instance SZ : Coe Pa EO := ⟨EO.t⟩
instance SU : Coe Pa (Nat -> XP) := ⟨λp _ es => some (Ad es (.t p))⟩
open Go
set_option maxRecDepth 100000
def r27:CE:=(cT [(sU o.l (Nx 26 o)),(sM o.r (.c (.v (.pointer none)))),(sM ">" (0:Int))] (cS (cT [(sX "%" (Cf (some 3) o.l)),(Bj 57 ["%"] ")"),(sX "(" (Ar .neq ")" (0:Int)))] (cC "(" (cT [(sM o.r (.c (.v (.pointer none)))),(sM ">" (2:Int))] (cE .ret)) (cE .normal))) (cT [(sX "*" (Ea 0 o.l)),(sX "," (Cf none "*")),(sX
 "." (Ea 1 o.l)),(sX "+" (Cf none ".")),(Bj 59 [",","+",(.c (.v (.slice none 0 0)))] "1"),(sM "$" "1"),(sX "3" (Gd "$" 0)),(sX "4" (Gd "$" 1)),(sU "!" (Qe 26 [.v (.slice none 0 0),.v (.slice none 0 0),.v (.slice none 0 0)])),(sU none (Is 3 "!" "3")),(sM "&" "4")] (cS (cT [(sM "2" "&"),(sX "7" (Ar .neq "2"
 (0:Int)))] (cC "7" (cT [(sM "8" "&"),(sM o.r (.c (.v (.pointer none)))),(sM ">" "8")] (cE .ret)) (cE .normal))) (cS (cN (Gk 13 (dL [(Bx [] ["!"] (Ch 0 [] true true "6" (λ_ => (Cf (some 3) "!")) ["!"])),(dX [] [o.l] 1 "0" (Ea 2 o.l)),(dY [1] ["0"] 2 ":" (Cf none "0")),(Bx [2,1] [":"] (Cx 3 [2,1] (Bj 81
 [(.c (.v (.slice none 0 0))),":"] ";"))),(Bx [3,2,1] [";"] (Ch 4 [3,2,1] false false "5" (Fu (Bi (.bld [.slice none 0 0,.slice none 0 0,.bool false] [(0,1,.tmp 23)]))) [";"])),(Bx [4,3,2,1] ["5"] (Qa 5 [4,3,2,1] false false "=" (Bi (.bsl 136 1 3 [.slice none 0 0,.slice none 0 0,.bool false] [(0,3,.tmp 24)])) ["5"])),(Bx [] [] (Qa 6
 [] true false "9" (Bi (.mkm)) [])),(Bx [6] ["9"] (B5 7 [6] 6 none (Bi (.mup (.p .string) (.tmp 26) (.const (.string (bs [109,97,105,110]))) (.const (.int .i64 1)))) ["9"])),(Bx [6,7] ["9"] (Ch 8 [6,7] true false "<" ("9":Pa) ["9"])),(Bx [0,5,8,4,3,2,1,6,7] ["6","=","<"] (Ch 9 [0,5,8,4,3,2,1,6,7] false false "?" (Fu (Bi
 (.bld [.slice none 0 0,.slice none 0 0,.slice none 0 0,.slice none 0 0,.map none] [(0,3,.tmp 20),(3,1,.tmp 25),(4,1,.tmp 27)]))) ["6","=","<"])),(Bx [9,0,5,8,4,3,2,1,6,7] ["?"] (Qa 10 [9,0,5,8,4,3,2,1,6,7] false false "@" (Nx 140 "?") ["?"])),(dP [10,3,0,1,2,4,5,6,7,8,9] 11 o.r "@"),(Bx [11,0,1,2,3,4,5,6,7,8,9,10] [] (Ch 12 [11,0,1,2,3,4,5,6,7,8,9,10]
 false false ">" (λ_ es => some (Ad es (0:Int))) []))]))) (cE .ret))))))
def e27:FE:=⟨r27,[(2,none),(3,none)],30⟩
def r29:CE:=(cT [(sM "(" (0:Int)),(sM "$" (0:Int))] (cS (cT [(sM "3" o),(Bj 82 ["3"] "4"),(sX "2" (Nz .not "4"))] (cC "2" (cT [(sM "(" (0:Int)),(sM "$" (1:Int))] (cE .ret)) (cE .normal))) (cS (cT [(sM "8" o),(sU "6" (Bi (.nck (.tmp 19)))),(sX "0" (Ea 4 "6")),(sX
 ":" (Cf none "0")),(sM ";" o.l),(sU "5" (Bi (.lkp (.p .string) (.int .i64 0) (.tmp 22) (.tmp 23) true))),(sM "7" "5"),(sX "=" (Gd "7" 0)),(sX "9" (Gd "7" 1)),(sM "*" "="),(sM "," "9")] (cB 0 (cT [(sM "?" ","),(sX "@" (Nz .not "?")),(sM "<" "@")] (cC "<" (cT [(sM "(" (.c
 (.v (.int .i64 0)))),(sM "$" (11:Int))] (cE .ret)) (cT [(sM "B" "*"),(sM "C" o.r),(sX "D" (Ar .neq "B" "C")),(sM "A" "D")] (cC "A" (cT [(sM "(" (0:Int)),(sM "$" (23:Int))] (cE .ret)) (cE .normal))))))) (cT [(sM "G" o),(sM "I" o.r),(Bj 85 ["G","I"]
 "O"),(sM "F" "O"),(sX "N" (Gd "F" 0)),(sX "E" (Gd "F" 1)),(sU "." (Qe 26 [.v (.slice none 0 0),.v (.slice none 0 0),.v (.slice none 0 0)])),(sU none (Is 3 "." "N")),(sM "+" "E")] (cS (cT [(sM "H" "+"),(sX "J" (Ar .neq "H" (0:Int)))] (cC "J" (cT [(sM "K"
 "+"),(sM "(" (0:Int)),(sM "$" "K")] (cE .ret)) (cE .normal))) (cT [(sX "P" (Cf (some 3) ".")),(sM "Q" ">"),(Bj 17 ["P","Q"] "M"),(sM "L" "M"),(sX "R" (Gd "L" 0)),(sX "T" (Gd "L" 1)),(sU "1" (Qe 26 [.v (.slice none 0 0),.v (.slice none 0 0),.v (.slice none 0 0)])),(sU
 none (Is 3 "1" "R")),(sM "+" "T")] (cS (cB 1 (cT [(sM "V" "+"),(sX "U" (Ar .neq "V" (0:Int))),(sM "S" "U")] (cC "S" (cT [(sM "Y" "+"),(sM "(" (0:Int)),(sM "$" "Y")] (cE .ret)) (cT [(sX "W" (Cf (some 3) ".")),(sX "^" (Cf (some 3) "1")),(Bj
 25 ["W","^"] "d"),(sM "c" "d")] (cC "c" (cT [(sM "(" (0:Int)),(sM "$" (6:Int))] (cE .ret)) (cE .normal)))))) (cT [(sM "h" o),(sM "Z" o.l),(sX "X" (Cf (some 3) "1")),(sM "e" o.r),(sU "a" (Bi (.bsl 3 1 1 [.int .i64 0] [(0,1,.tmp 60)]))),(Bj 86 ["h","Z","X","a"]
 "_"),(sX "f" (Gd "_" 0)),(sX "b" (Gd "_" 1)),(sM "(" "f"),(sM "$" "b")] (cE .ret)))))))))
def e29:FE:=⟨r29,[(8,none),(9,none)],65⟩
def ZC:CE:=(cT [(sU "!" (Qe 26 [.v (.slice none 0 0),.v (.slice none 0 0),.v (.slice none 0 0)])),(sM "&" (0:Int))] (cS (cT [(sM ")" o),(Bj 82 [")"] "("),(sX "$" (Nz .not "("))] (cC "$" (cT [(sU "*" (Bi (.bld [.slice none 0 0,.slice none 0 0,.slice none 0 0] []))),(sU none (Is 3 "!" "*")),(sM "&" (1:Int))] (cE .ret)) (cE
 .normal))) (cS (cT [(sM "," o),(sM "." o.l),(Bj 84 [",","."] "+"),(sM "%" "+")] (cT [(sM "1" "%"),(sX "3" (Ar .neq "1" (0:Int)))] (cC "3" (cT [(sU "4" (Bi (.bld [.slice none 0 0,.slice none 0 0,.slice none 0 0] []))),(sM "2" "%"),(sU none (Is 3 "!" "4")),(sM "&" "2")] (cE .ret)) (cE .normal)))) (cT
 [(sM "7" o),(sM "8" o.l),(Bj 85 ["7","8"] "6"),(sX "0" (Gd "6" 0)),(sX ":" (Gd "6" 1)),(sU none (Is 3 "!" "0")),(sM "&" ":")] (cE .ret)))))
def e31:FE:=⟨ZC,[(4,some (some 3)),(5,none)],23⟩
def yK:CE:=(cT [(sX "3" (Ar .lss "1" "+"))] (cS (cC "3" (cE .normal) (cE (.exit 0))) (cS (cB 1 (cT [(sM "4" "1"),(sX "2" (Fg 3 "." "1")),(sX "7" (Cf (some 3) "2")),(sU "&" (Qe 136 [.v (.slice none 0 0),.v (.slice none 0 0),.v (.bool false)])),(sM "!" "4"),(sU none (Is 3 "&" "7"))] (cT [(sX "8" (Ea 2 "&")),(sX
 "6" (Cf none "8")),(sX "0" (Nz .not "6"))] (cC "0" (cN (sL [(sM ":" ">"),(sM ";" "!"),(sX "5" (Ar .add ";" (1:Int))),(sU "=" (Bi (.bsl 3 1 1 [.int .i64 0] [(0,1,.tmp 24)]))),(sU "9" (Bi (.app 3 1 8 (.tmp 22) (.tmp 25)))),(sM ">" "9")])) (cE .normal))))) (cN (sL [(sX "<" (Ar .add "1" (.c
 (.v (.int .i64 1))))),(sM "1" "<")])))))
def r37:CE:=(cT [(sM o.r (.c (.v (.slice none 0 0))))] (cS (cT [(sM "%" o),(Bj 82 ["%"] ")"),(sX "(" (Nz .not ")"))] (cC "(" (cT [(sM o.r (.c (.v (.slice none 0 0))))] (cE .ret)) (cE .normal))) (cT [(sM ">" (.c (.v (.slice none 0 0))))] (cS (cT [(sM "$" o),(sU "*" (Bi (.nck (.tmp 9)))),(sX "," (Ea 3 "*")),(sX "." (Cf none ",")),(sX "+" (Cu
 ".")),(sM "1" (0:Int))] (cB 0 (cL 1000000 yK))) (cT [(sM "?" ">"),(sM o.r "?")] (cE .ret))))))
def e37:FE:=⟨r37,[(2,none)],29⟩
def r82:CE:=(cT [(sM o.r false)] (cT [(sM ">" o),(sU "!" (Bi (.nilq 1 true (.tmp 3) (.const (.pointer none))))),(sM "&" "!"),(sG "&" true "%" (sM "%" o)),(sG "&" true ")" (sU ")" (Bi (.nck (.tmp 6))))),(sG "&" true "(" (sX "(" (Ea 4 ")"))),(sG "&" true "$" (sX "$" (Cf none "("))),(sG "&" true "*" (sU "*" (Bi (.nilq
 2 true (.tmp 9) (.const (.map none)))))),(sX "," (Co "&" "*" false)),(sM o.r ",")] (cE .ret)))
def e82:FE:=⟨r82,[(2,none)],12⟩
def r84:CE:=(cT [(sM "!" (0:Int))] (cS (cB 0 (cT [(sM "%" o.l),(sX ")" (Ar .lss "%" (1:Int))),(sM "(" ")"),(sG "(" false "$" (sM "$" o.l)),(sG "(" false "*" (sM "*" o)),(sG "(" false "," (sU "," (Bi (.nck (.tmp 10))))),(sG "(" false "." (sX "." (Ea 3 ","))),(sG "(" false "+" (sX "+"
 (Cf none "."))),(sG "(" false "1" (sX "1" (Cu "+"))),(sG "(" false "3" (sX "3" (Ar .gtr "$" "1"))),(sX "4" (Co "(" true "3")),(sM "&" "4")] (cC "&" (cT [(sM "!" (4:Int))] (cE .ret)) (cT [(sM "7" o),(sM "8" o.l),(Bj 99 ["7","8"] "6"),(sU "0" (Bi (.nck
 (.tmp 20)))),(sX ":" (Ea 2 "0")),(sX ";" (Cf none ":")),(sM "2" ";")] (cC "2" (cT [(sM "!" (23:Int))] (cE .ret)) (cE .normal)))))) (cT [(sM "!" (0:Int))] (cE .ret))))
def e84:FE:=⟨r84,[(4,none)],24⟩
def r85:CE:=(cT [(sU "!" (Qe 26 [.v (.slice none 0 0),.v (.slice none 0 0),.v (.slice none 0 0)])),(sM "&" (0:Int))] (cS (cN (Gk 18 (dL [(Bx [] [o] (Ch 0 [] true false "%" o [o])),(Bx [0] ["%"] (Ch 1 [0] true false ")" (Fu (Bi (.nck (.tmp 6)))) ["%"])),(Bx [1,0] [")"] (Ch 2 [1,0] true false "(" (λ_ => (Ea 0 ")")) [")"])),(Bx
 [2,1,0] ["("] (Ch 3 [2,1,0] true false "$" (λ_ => (Ea 0 "(")) ["("])),(Bx [3,2,1,0] ["$"] (Ch 4 [3,2,1,0] true true "*" (λ_ => (Cf none "$")) ["$"])),(Bx [] [o] (Ch 5 [] true false "," o [o])),(Bx [5] [","] (Ch 6 [5] true false "." (Fu (Bi (.nck (.tmp 11)))) [","])),(Bx [6,5] ["."] (Ch 7 [6,5] true false "+"
 (λ_ => (Ea 0 ".")) ["."])),(Bx [7,6,5] ["+"] (Ch 8 [7,6,5] true false "1" (λ_ => (Ea 1 "+")) ["+"])),(Bx [8,7,6,5] ["1"] (Ch 9 [8,7,6,5] true true "3" (λ_ => (Cf none "1")) ["1"])),(dP [] 10 "4" o),(dP [] 11 "2" o.l),(Bx [10,11] ["4","2"] (Cx 12 [10,11] (Bj 97 ["4","2"] "7"))),(Bx [4,9,12,3,2,1,0,8,7,6,5,10,11]
 ["*","3","7"] (Cx 13 [4,9,12,3,2,1,0,8,7,6,5,10,11] (Bj 59 ["*","3","7"] "8"))),(dX [13,4,9,12,3,2,1,0,8,7,6,5,10,11] ["8"] 14 "6" (Gd "8" 0)),(dX [13,4,9,12,3,2,1,0,8,7,6,5,10,11] ["8"] 15 "0" (Gd "8" 1)),(Bx [14,13,0,1,2,3,4,5,6,7,8,9,10,11,12,15] ["!","6"] (Cx 16 [14,13,0,1,2,3,4,5,6,7,8,9,10,11,12,15]
 (sU none (Is 3 "!" "6")))),(dP [15,16,0,1,2,3,4,5,6,7,8,9,10,11,12,13,14] 17 "&" "0")]))) (cE .ret)))
def e85:FE:=⟨r85,[(4,some (some 3)),(5,none)],22⟩
def r86:CE:=(cT [(sU "%" (Nx 26 o.r)),(sM "(" (0:Int)),(sM "$" (0:Int))] (cS (cT [(sM "*" o),(Bj 37 ["*"] ","),(sX "." (Cu ",")),(sX "+" (Ar .geq "." (100:Int)))] (cC "+" (cT [(sM "(" (0:Int)),(sM "$" (18:Int))] (cE .ret)) (cE .normal))) (cS (cN (Gk 21 (dL [(Bx
 [] [o] (Ch 0 [] true false "1" o [o])),(Bx [] [o] (Ch 1 [] true false "3" o [o])),(Bx [1] ["3"] (Ch 2 [1] true false "4" (Fu (Bi (.nck (.tmp 15)))) ["3"])),(Bx [2,1] ["4"] (Ch 3 [2,1] true false "2" (λ_ => (Ea 3 "4")) ["4"])),(Bx [3,2,1] ["2"] (Ch 4 [3,2,1] true true "7" (λ_ => (Cf none "2")) ["2"])),(dP
 [] 5 "8" o),(dP [] 6 "6" ">"),(dX [6] ["6"] 7 "0" (Fg 1 "6" (0:Int))),(dY [7,6] ["0"] 8 ":" (Cf none "0")),(Bx [5,8,7,6] ["8",":"] (Cx 9 [5,8,7,6] (Bj 97 ["8",":"] ";"))),(Bx [] ["%"] (Ch 10 [] true false "5" (λ_ => (Ea 2 "%")) ["%"])),(Bx [10] ["5"] (Ch 11 [10] true
 true "=" (λ_ => (Cf none "5")) ["5"])),(Bx [9,11,5,8,7,6,10] [";","="] (Cx 12 [9,11,5,8,7,6,10] (Bj 81 [";","="] "9"))),(Bx [] [">"] (Ch 13 [] true false "<" (">":Pa) [">"])),(Bx [13,12,9,11,5,8,7,6,10] ["<"] (Cx 14 [13,12,9,11,5,8,7,6,10] (Bj 70 ["<"] "?"))),(Bx [12,14,9,11,5,8,7,6,10,13] ["9","?"]
 (Ch 15 [12,14,9,11,5,8,7,6,10,13] false false "@" (Fu (Bi (.bld [.slice none 0 0,.slice none 0 0,.bool false] [(0,1,.tmp 26),(1,1,.tmp 28)]))) ["9","?"])),(Bx [15,12,14,9,11,5,8,7,6,10,13] ["@"] (Qa 16 [15,12,14,9,11,5,8,7,6,10,13] false false "A" (Bi (.bsl 136 1 3 [.slice none 0 0,.slice none 0 0,.bool false] [(0,3,.tmp 29)])) ["@"])),(Bx [4,16,14,3,2,1,15,12,9,11,5,8,7,6,10,13]
 ["7","A"] (Cx 17 [4,16,14,3,2,1,15,12,9,11,5,8,7,6,10,13] (sU "B" (Bi (.app 136 3 56 (.tmp 18) (.tmp 30)))))),(Bx [0,1,2,3,4,5,6,7,8,9,10,11,12,13,14,15,16,17] ["1"] (Ch 18 [0,1,2,3,4,5,6,7,8,9,10,11,12,13,14,15,16,17] false false "C" (Fu (Bi (.nck (.tmp 14)))) ["1"])),(dX [18,0,1,2,3,4,5,6,7,8,9,10,11,12,13,14,15,16,17] ["C"] 19 "D"
 (Ea 3 "C")),(Bx [19,17,0,1,2,3,4,5,6,7,8,9,10,11,12,13,14,15,16,18] ["D","B"] (Cx 20 [19,17,0,1,2,3,4,5,6,7,8,9,10,11,12,13,14,15,16,18] (sU none (Is 1 "D" "B"))))]))) (cS (cN (Gk 11 (dL [(dP [] 0 "F" o),(Bx [0] ["F"] (Ch 1 [0] false false "G" (Fu (Bi (.nck (.tmp 34)))) ["F"])),(dX [1,0] ["G"] 2 "I"
 (Ea 4 "G")),(dY [2,1,0] ["I"] 3 "O" (Cf none "I")),(dP [] 4 "N" o.l),(dP [] 5 "E" o),(Bx [5] ["E"] (Ch 6 [5] false false "H" (Fu (Bi (.nck (.tmp 39)))) ["E"])),(dX [6,5] ["H"] 7 "J" (Ea 3 "H")),(dY [7,6,5] ["J"] 8 "K" (Cf none "J")),(dX [8,7,6,5] ["K"] 9 "L"
 (Cu "K")),(Bx [3,4,9,0,1,2,5,6,7,8] ["O","N","L"] (Cx 10 [3,4,9,0,1,2,5,6,7,8] (sU none (Bi (.mup (.p .string) (.tmp 37) (.tmp 38) (.tmp 43))))))]))) (cT [(sM "P" o),(sU "Q" (Bi (.nck (.tmp 44)))),(sX "M" (Ea 3 "Q")),(sX "R" (Cf none "M")),(sX "T" (Cu "R")),(sM "(" "T"),(sM "$"
 (0:Int))] (cE .ret))))))
def e86:FE:=⟨r86,[(8,none),(9,none)],49⟩
def xU:CE:=(cS (cT [(sM "8" ")"),(sM "6" "$"),(sX "0" (Fg 1 "8" "6")),(sX ":" (Cf none "0")),(sX ";" (Nz .not ":")),(sM "5" ";"),(sG "5" false "=" (sM "=" "(")),(sG "5" false "9" (sM "9" "$")),(sG "5" false "<" (sX "<" (Fg 1 "=" "9"))),(sG "5"
 false "?" (sX "?" (Cf none "<"))),(sG "5" false "@" (sX "@" (Nz .not "?"))),(sX "A" (Co "5" true "@"))] (cC "A" (cE .normal) (cE (.exit 0)))) (cB 1 (cN (sL [(sM "B" "$"),(sX "C" (Ar .sub "B" (1:Int))),(sM "$" "C")]))))
def r87:CE:=(cT [(sM "%" (0:Int))] (cT [(sM "*" o),(sM "," o.l),(Bj 143 ["*",","] "."),(sM "+" o),(sM "1" o.r),(Bj 143 ["+","1"] "3"),(sM ")" "."),(sM "(" "3")] (cT [(sM "4" o.l),(sM "2" o.r),(sU "7" (Bi (.mm false (.tmp 16) (.tmp 17)))),(sM "$" "7")] (cS (cB 0 (cL 1000000 xU)) (cT [(sM
 "D" "$"),(sM "%" "D")] (cE .ret))))))
def e87:FE:=⟨r87,[(6,none)],34⟩
def QS:CE:=(cT [(sM "!" (.c (.v (.slice none 0 0))))] (cS (cT [(sM "&" o.l),(sX "%" (Ar .eql "&" (0:Int)))] (cC "%" (cT [(sM "!" (.c (.v (.slice none 0 0))))] (cE .ret)) (cE .normal))) (cS (cN (Gk 13 (dL [(dP [] 0 ")" o),(dP [] 1 "(" o.l),(Bx [0,1] [")","("] (Cx 2 [0,1] (Bj 99 [")","("] "$"))),(Bx [2,0,1] ["$"] (Ch 3 [2,0,1]
 true false "*" (Fu (Bi (.nck (.tmp 9)))) ["$"])),(Bx [3,2,0,1] ["*"] (Ch 4 [3,2,0,1] true false "," (λ_ => (Ea 0 "*")) ["*"])),(Bx [4,3,2,0,1] [","] (Ch 5 [4,3,2,0,1] true true "." (λ_ => (Cf none ",")) [","])),(Bx [] [o] (Ch 6 [] true false "+" o [o])),(Bx [] [o] (Ch 7 [] true false "1" o [o])),(Bx [] [o.l] (Ch 8
 [] true false "3" o.l [o.l])),(Bx [7,8,2,0,1] ["1","3"] (Cx 9 [7,8,2,0,1] (Bj 98 ["1","3"] "4"))),(Bx [6,9,7,8,2,0,1] ["+","4"] (Cx 10 [6,9,7,8,2,0,1] (Bj 97 ["+","4"] "2"))),(Bx [5,10,4,3,2,0,1,6,9,7,8] [".","2"] (Cx 11 [5,10,4,3,2,0,1,6,9,7,8] (Bj 60 [".","2"] "7"))),(dP [11,0,1,2,3,4,5,6,7,8,9,10]
 12 "!" "7")]))) (cE .ret))))
def e97:FE:=⟨QS,[(4,none)],19⟩
def xR:CE:=(cS (cT [(sM "." "&"),(sX "+" (Cu ".")),(sX "1" (Ar .gtr "+" (0:Int)))] (cC "1" (cE .normal) (cE (.exit 0)))) (cS (cB 1 (cT [(sM ";" o),(sM "5" "&"),(sX "=" (Fg 1 "5" (0:Int))),(sX "9" (Cf none "=")),(Bj 99 [";","9"] "<"),(sU "?" (Bi (.nck (.tmp 27)))),(sX
 "@" (Ea 2 "?")),(sX "A" (Cf none "@")),(sX "B" (Nz .not "A"))] (cC "B" (cT [(sM "C" "&"),(sX "D" (Fg 1 "C" (0:Int))),(sX "F" (Cf none "D")),(sM "!" "F")] (cE .ret)) (cE .normal)))) (cN (sL [(sM "3" o),(sM "4" "&"),(sX "2" (Fg 1 "4" (0:Int))),(sX
 "7" (Cf none "2")),(Bj 99 ["3","7"] "8"),(sU "6" (Bi (.nck (.tmp 19)))),(sX "0" (Ea 1 "6")),(sX ":" (Cf none "0")),(sM "&" ":")]))))
def r98:CE:=(cT [(sM "!" (0:Int))] (cS (cT [(sM "%" o),(sM ")" o.l),(Bj 99 ["%",")"] "("),(sU "$" (Bi (.nck (.tmp 8)))),(sX "*" (Ea 1 "$")),(sX "," (Cf none "*")),(sM "&" ",")] (cB 0 (cL 1000000 xR))) (cT [(sM "!" (0:Int))] (cE .ret))))
def e98:FE:=⟨r98,[(4,none)],35⟩
def r99:CE:=(cT [(sM "!" (.c (.v (.pointer none))))] (cT [(sM "&" o),(sU "%" (Bi (.nck (.tmp 5)))),(sX ")" (Ea 3 "%")),(sX "(" (Cf none ")")),(sM "$" o.l),(sX "*" (Ar .sub "$" (1:Int))),(sX "," (Fg 3 "(" "*")),(sM "!" ",")] (cE .ret)))
def e99:FE:=⟨r99,[(4,none)],12⟩
def Cl5:CE:=(cT [(sX "I" (Ar .lss "G" "F"))] (cS (cC "I" (cE .normal) (cE (.exit 2))) (cS (cB 3 (cT [(sX "O" (Fg 1 "D" "G")),(sX "N" (Cf none "O")),(sM "(" "N")] (cN (sL [(sM "E" "&"),(sM "H" "("),(sX "J" (Fg 1 "E" "H")),(sU none (Is 1 "J" (.c (.v (.bool
 true)))))])))) (cN (sL [(sX "K" (Ar .add "G" (1:Int))),(sM "G" "K")])))))
def Cl6:CE:=(cS (cT [(sM "6" "%"),(sX "0" (Ar .gtr "6" (0:Int)))] (cC "0" (cE .normal) (cE (.exit 0)))) (cS (cB 1 (cT [(sM "5" "&"),(sM "=" "%"),(sX "9" (Fg 1 "5" "=")),(sX "<" (Cf none "9"))] (cC "<" (cT [(sM "?" o),(sM "@" "%"),(Bj 99 ["?","@"] "A"),(sU "B"
 (Bi (.nck (.tmp 30)))),(sX "C" (Ea 1 "B")),(sX "D" (Cf none "C")),(sX "F" (Cu "D")),(sM "G" (0:Int))] (cB 2 (cL 1000000 Cl5))) (cE .normal)))) (cN (sL [(sM ":" "%"),(sX ";" (Ar .sub ":" (1:Int))),(sM "%" ";")]))))
def FJ:CE:=(cT [(sM "!" (.c (.v (.slice none 0 0))))] (cT [(sM "$" o),(sU "*" (Bi (.nck (.tmp 9)))),(sX "," (Ea 3 "*")),(sX "." (Cf none ",")),(sX "+" (Cu ".")),(sX "1" (Ar .add "+" (1:Int))),(sU "3" (Bi (.mks 4 1 1 [.bool false] (.tmp 14) (.tmp 14)))),(sM "&" "3")] (cT [(sM "4" "&"),(sM "2" o.l),(sX "7"
 (Fg 1 "4" "2")),(sU none (Is 1 "7" true))] (cS (cT [(sM "8" o.l),(sM "%" "8")] (cB 0 (cL 1000000 Cl6))) (cT [(sM "L" "&"),(sM "!" "L")] (cE .ret))))))
def qq:FE:=⟨FJ,[(4,none)],44⟩
end
end Go.DD
