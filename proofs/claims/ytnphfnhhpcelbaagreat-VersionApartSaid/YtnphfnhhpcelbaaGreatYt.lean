/- A part. -/
import Derived.Test.YtnphfnhhpcelbaaGreatYd
namespace Go.DD
noncomputable section
open Pa
instance WR : Coe Pa EO := ⟨EO.t⟩
instance WL : Coe Pa (Nat -> XP) := ⟨λp _ es => some (Ac es (.t p))⟩
open Go
set_option maxRecDepth 100000
def r6:CE:=(cT [(sU "7" (Mj 26 o)),(sM ")" false)] (cS (cT [(sX "8" (Bs (some 3) "7")),(Au 13 ["8",(30:Int)] "4"),(sX "=" (Lk .not "4")),(sM ":" "="),(sG ":" false ">" (sM ">" o.l)),(sG ":" false "?" (Au 14 [">",(12:Int)] "?")),(sG ":" false "@"
 (sX "@" (Lk .not "?"))),(sX "B" (Bz ":" true "@")),(sM "A" "B"),(sG "A" false "C" (sM "C" o.r)),(sG "A" false "D" (Au 14 ["C",(12:Int)] "D")),(sG "A" false "E" (sX "E" (Lk .not "D"))),(sX "F" (Bz "A" (.c (.v (.bool
 true))) "E"))] (cC "F" (cT [(Au 15 [] "I"),(sM ")" "I")] (cE .ret)) (cE .normal))) (cT [(sM "J" o.l),(sM "K" o.r),(Au 26 ["J","K"] "G"),(sM o.r "G")] (cT [(sX "M" (Bs (some 3) "7")),(Au 27 ["M"] "N"),(sM "H" "N"),(sX "L" (Ea "H" 0)),(sX "O" (Ea
 "H" 1)),(sM "+" "L"),(sM "$" "O")] (cS (cT [(sM "Q" "$"),(sX "P" (Aj .neq "Q" (0:Int)))] (cC "P" (cT [(sM "T" "+"),(sU "V" (Bc (.nilq 1 false (.tmp 47) (.const (.pointer none))))),(sM "U" "V"),(sG "U" true "W" (Au 15 [] "W")),(sX "X" (Bz "U"
 "W" false)),(sM ")" "X")] (cE .ret)) (cE .normal))) (cT [(sM "Z" "+"),(Au 28 ["Z",(.c (.v (.string (bs [98])))),(1:Int)] "R"),(sM "%" "R")] (cT [(sM "^" "+"),(sM "a" o.l),(Au 29 ["^",(.c (.v (.string (bs [109,97,105,110])))),(1:Int),"a"] "b"),(sM
 "S" "b"),(sX "[" (Ea "S" 0)),(sX "Y" (Ea "S" 1)),(sM "," "["),(sM "(" "Y")] (cT [(sM "]" "+"),(sM "_" o.r),(Au 29 ["]",(.c (.v (.string (bs [98])))),(1:Int),"_"] "e"),(sM "c" "e"),(sX "d" (Ea "c" 0)),(sX "f" (Ea
 "c" 1)),(sM "&" "d"),(sM "*" "f")] (cS (cT [(sM "g" "%"),(sX "j" (Aj .neq "g" (0:Int)))] (cC "j" (cT [(sM ")" false)] (cE .ret)) (cE .normal))) (cS (cT [(sM "m" "("),(sX "l" (Aj .neq "m" (0:Int))),(sM "n" "l"),(sG
 "n" false "r" (sM "r" "*")),(sG "n" false "k" (sX "k" (Aj .neq "r" (0:Int)))),(sX "i" (Bz "n" true "k"))] (cC "i" (cT [(Au 15 [] "o"),(sM ")" "o")] (cE .ret)) (cE .normal))) (cT [(sM "1" (.c (.v (.slice none 0 0))))] (cT
 [(sM "u" "1"),(sM "p" o.l),(sU "t" (Bc (.app 62 2 48 (.tmp 75) (.tmp 76)))),(sM "1" "t")] (cT [(sM "v" "1"),(sM "w" o.r),(sU "x" (Bc (.app 62 2 48 (.tmp 78) (.tmp 79)))),(sM "1" "x")] (cT [(sX "aa" (Bs (some 3) "7")),(sM "h" "1"),(Au 17 ["aa","h"] "|"),(sM
 "q" "|"),(sX "~" (Ea "q" 0)),(sX "ad" (Ea "q" 1)),(sU "5" (Me 26 [.v (.slice none 0 0),.v (.slice none 0 0),.v (.slice none 0 0)])),(sU none (Ej 3 "5" "~")),(sM "$" "ad")] (cT [(sM "ab" "+"),(Au 30 ["ab",(.c (.v (.string (bs [109,97,105,110])))),(.c (.v (.string (bs [98]))))]
 "ac"),(sM "s" "ac"),(sX "aj" (Ea "s" 0)),(sX "ag" (Ea "s" 1)),(sX "ae" (Ea "s" 2)),(sM "6" "aj"),(sM "2" "ag"),(sM "%" "ae")] (cS (cT [(sM "af" "$"),(sX "ai" (Aj .neq "af" (0:Int)))] (cC "ai" (cT [(sM "ak"
 "%"),(sM "al" "$"),(sX "ao" (Aj .eql "ak" "al")),(sM "ah" "ao"),(sG "ah" true "am" (sM "am" "6")),(sG "ah" true "an" (sX "an" (Aj .eql "am" (0:Int)))),(sX "ar" (Bz "ah" "an" false)),(sM "ap" "ar"),(sG
 "ap" true "aq" (Au 15 [] "aq")),(sX "as" (Bz "ap" "aq" false)),(sM ")" "as")] (cE .ret)) (cE .normal))) (cT [(sM "aC" "+"),(sM "aQ" "6"),(Au 31 ["aC","aQ"] "z"),(sM "at" "z"),(sX "av" (Ea "at" 0)),(sX "aD"
 (Ea "at" 1)),(sU ";" (Me 26 [.v (.slice none 0 0),.v (.slice none 0 0),.v (.slice none 0 0)])),(sU none (Ej 3 ";" "av")),(sM "(" "aD")] (cT [(sM "aP" "+"),(Au 30 ["aP",(.c (.v (.string (bs [98])))),(.c (.v (.string (bs [109,97,105,110]))))] "aE"),(sM "au" "aE"),(sX "aF" (Ea "au" 0)),(sX
 "aG" (Ea "au" 1)),(sX "aw" (Ea "au" 2)),(sM "9" "aF"),(sM "<" "aG"),(sM "*" "aw")] (cT [(sM "aH" "+"),(sM "aI" "9"),(Au 31 ["aH","aI"] "aV"),(sM "ax" "aV"),(sX "aW" (Ea "ax" 0)),(sX "aX" (Ea "ax" 1)),(sU
 "0" (Me 26 [.v (.slice none 0 0),.v (.slice none 0 0),.v (.slice none 0 0)])),(sU none (Ej 3 "0" "aW")),(sM "3" "aX")] (cT [(sM "aO" ","),(sX "aY" (Aj .eql "aO" (2:Int))),(sM "aJ" "aY"),(sG "aJ" true "y" (sM "y" "&")),(sG "aJ" true "ay" (sX "ay"
 (Aj .eql "y" (3:Int)))),(sX "az" (Bz "aJ" "ay" false)),(sM "aA" "az"),(sG "aA" true "aK" (sM "aK" "6")),(sG "aA" true "aR" (sX "aR" (Aj .eql "aK" (4:Int)))),(sX "aS" (Bz "aA"
 "aR" false)),(sM "aL" "aS"),(sG "aL" true "aT" (sM "aT" "9")),(sG "aL" true "aM" (sX "aM" (Aj .eql "aT" (5:Int)))),(sX "aU" (Bz "aL" "aM" false)),(sM "aB" "aU"),(sG "aB"
 true "aN" (sM "aN" "%")),(sG "aB" true "aZ" (sX "aZ" (Aj .eql "aN" (0:Int)))),(sX "a2" (Bz "aB" "aZ" false)),(sM "a3" "a2"),(sG "a3" true "bc" (sM "bc" "2")),(sG "a3" true "bd"
 (sX "bd" (Cy "bc"))),(sG "a3" true "be" (sX "be" (Aj .eql "bd" (0:Int)))),(sX "bf" (Bz "a3" "be" false)),(sM "a4" "bf"),(sG "a4" true "a5" (sM "a5" "(")),(sG "a4" true "bp" (sX "bp"
 (Aj .eql "a5" (0:Int)))),(sX "bq" (Bz "a4" "bp" false)),(sM "a6" "bq"),(sG "a6" true "bg" (sM "bg" "*")),(sG "a6" true "bh" (sX "bh" (Aj .eql "bg" (0:Int)))),(sX "br" (Bz "a6"
 "bh" false)),(sM "bi" "br"),(sG "bi" true "bj" (sM "bj" "3")),(sG "bi" true "bs" (sX "bs" (Aj .eql "bj" (0:Int)))),(sX "bt" (Bz "bi" "bs" false)),(sM "a0" "bt"),(sG "a0"
 true "bk" (sX "bk" (Bs (some 3) ";"))),(sG "a0" true "bl" (sX "bl" (Bs (some 3) "5"))),(sG "a0" true "bm" (Au 25 ["bk","bl"] "bm")),(sX "bu" (Bz "a0" "bm" false)),(sM "a1" "bu"),(sG "a1" true
 "a7" (sX "a7" (Bs (some 3) "0"))),(sG "a1" true "a8" (sX "a8" (Bs (some 3) "5"))),(sG "a1" true "a9" (Au 25 ["a7","a8"] "a9")),(sX "bn" (Bz "a1" "a9" false)),(sM "ba" "bn"),(sG "ba" true "bb"
 (Au 15 [] "bb")),(sX "bo" (Bz "ba" "bb" false)),(sM ")" "bo")] (cE .ret)))))))))))))))))))))
def e6:FE:=⟨r6,[(6,none)],171⟩
def pD:CE:=(cS (cT [(sM "5" "$"),(sM "6" o),(sX "2" (Cy "6")),(sX ";" (Aj .lss "5" "2"))] (cC ";" (cE .normal) (cE (.exit 2)))) (cS (cB 3 (cN (Dg 16 (dL [(dP [] 0 "0" "+"),(dP [0] 1 "3" "0"),(dG "3" false "8" (dP [1,0] 2 "8" o)),(dG "3" false "4" (dP [1,0] 3 "4" "$")),(dG "3"
 false "=" (dX [2,3,1,0] ["8","4"] 4 "=" (Cs 2 "8" "4"))),(dG "3" false ":" (dX [4,1,2,3,0] ["="] 5 ":" (Dl 0 "="))),(dG "3" false ">" (dY [5,1,4,2,3,0] [":"] 6 ">" (Bs none ":"))),(dG "3" false "?" (dP [1,0] 7 "?" o.l)),(dG "3" false "@" (dP [1,0] 8 "@" ")")),(dG "3"
 false "B" (dX [7,8,1,0] ["?","@"] 9 "B" (Cs 2 "?" "@"))),(dG "3" false "A" (dX [9,1,7,8,0] ["B"] 10 "A" (Dl 0 "B"))),(dG "3" false "C" (dY [10,1,9,7,8,0] ["A"] 11 "C" (Bs none "A"))),(dG "3" false "D" (Az [6,11,1,5,4,2,3,0,10,9,7,8] [">","C"] (Bt 12 [6,11,1,5,4,2,3,0,10,9,7,8]
 (Au 24 [">","C"] "D")))),(dG "3" false "E" (dX [12,1,6,11,5,4,2,3,0,10,9,7,8] ["D"] 13 "E" (Aj .eql "D" (0:Int)))),(dX [1,13,0,12,6,11,5,4,2,3,10,9,7,8] ["3","E"] 14 "F" (Bz "3" true "E")),(dP [14,12,0,1,2,3,4,5,6,7,8,9,10,11,13] 15 "+" "F")])))) (cN (sL
 [(sM "9" "$"),(sX "<" (Aj .add "9" (1:Int))),(sM "$" "<")]))))
def zP:CE:=(cS (cT [(sM "%" ")"),(sM "," o.l),(sX "(" (Cy ",")),(sX "&" (Aj .lss "%" "("))] (cC "&" (cE .normal) (cE (.exit 0)))) (cS (cB 1 (cT [(sM "+" false)] (cS (cT [(sM "$" (0:Int))] (cB 2 (cL 1000000 pD))) (cT [(sM "I" "+"),(sX "J" (Lk .not "I"))] (cC "J" (cN (sL [(sM "K"
 "."),(sM "G" o.l),(sM "H" ")"),(sX "M" (Cs 2 "G" "H")),(sX "N" (Bs (some 2) "M")),(sU "L" (Bc (.bsl 62 1 2 [.slice none 0 0,.slice none 0 0] [(0,2,.tmp 42)]))),(sU "O" (Bc (.app 62 2 48 (.tmp 38) (.tmp 43)))),(sM "." "O")])) (cE .normal)))))) (cN (sL [(sM "*" ")"),(sX "1" (Aj .add "*" (.c (.v
 (.int .i64 1))))),(sM ")" "1")]))))
def r26:CE:=(cT [(sM "!" (.c (.v (.slice none 0 0))))] (cT [(sM "." (.c (.v (.slice none 0 0))))] (cS (cT [(sM ")" (0:Int))] (cB 0 (cL 1000000 zP))) (cT [(sM "Q" "."),(sM "!" "Q")] (cE .ret)))))
def e26:FE:=⟨r26,[(4,none)],46⟩
def r27:CE:=(cT [(sU o.l (Mj 26 o)),(sM o.r (.c (.v (.pointer none)))),(sM "7" (0:Int))] (cS (cT [(sX ")" (Bs (some 3) o.l)),(Au 57 [")"] "+"),(sX "$" (Aj .neq "+" (0:Int)))] (cC "$" (cT [(sM o.r (.c (.v (.pointer none)))),(sM "7" (2:Int))] (cE .ret)) (cE .normal))) (cT [(sX "," (Dl 0 o.l)),(sX "(" (Bs none ",")),(sX
 "&" (Dl 1 o.l)),(sX "*" (Bs none "&")),(Au 59 ["(","*",(.c (.v (.slice none 0 0)))] "1"),(sM "%" "1"),(sX "5" (Ea "%" 0)),(sX "6" (Ea "%" 1)),(sU "!" (Me 26 [.v (.slice none 0 0),.v (.slice none 0 0),.v (.slice none 0 0)])),(sU none (Ej 3 "!" "5")),(sM "." "6")] (cS (cT [(sM "2" "."),(sX ";" (Aj .neq "2"
 (0:Int)))] (cC ";" (cT [(sM "9" "."),(sM o.r (.c (.v (.pointer none)))),(sM "7" "9")] (cE .ret)) (cE .normal))) (cS (cN (Dg 13 (dL [(Az [] ["!"] (Bi 0 [] true true "<" (λ_ => (Bs (some 3) "!")) ["!"])),(dX [] [o.l] 1 "0" (Dl 2 o.l)),(dY [1] ["0"] 2 "3" (Bs none "0")),(Az [2,1] ["3"] (Bt 3 [2,1] (Au 81
 [(.c (.v (.slice none 0 0))),"3"] "8"))),(Az [3,2,1] ["8"] (Bi 4 [3,2,1] false false "4" (Dz (Bc (.bld [.slice none 0 0,.slice none 0 0,.bool false] [(0,1,.tmp 23)]))) ["8"])),(Az [4,3,2,1] ["4"] (Ox 5 [4,3,2,1] false false "=" (Bc (.bsl 136 1 3 [.slice none 0 0,.slice none 0 0,.bool false] [(0,3,.tmp 24)])) ["4"])),(Az [] [] (Ox 6
 [] true false ":" (Bc (.mkm)) [])),(Az [6] [":"] (F9 7 [6] 6 none (Bc (.mup (.p .string) (.tmp 26) (.const (.string (bs [109,97,105,110]))) (.const (.int .i64 1)))) [":"])),(Az [6,7] [":"] (Bi 8 [6,7] true false ">" (":":Pa) [":"])),(Az [0,5,8,4,3,2,1,6,7] ["<","=",">"] (Bi 9 [0,5,8,4,3,2,1,6,7] false false "?" (Dz (Bc
 (.bld [.slice none 0 0,.slice none 0 0,.slice none 0 0,.slice none 0 0,.map none] [(0,3,.tmp 20),(3,1,.tmp 25),(4,1,.tmp 27)]))) ["<","=",">"])),(Az [9,0,5,8,4,3,2,1,6,7] ["?"] (Ox 10 [9,0,5,8,4,3,2,1,6,7] false false "@" (Mj 140 "?") ["?"])),(dP [10,3,0,1,2,4,5,6,7,8,9] 11 o.r "@"),(Az [11,0,1,2,3,4,5,6,7,8,9,10] [] (Bi 12 [11,0,1,2,3,4,5,6,7,8,9,10]
 false false "7" (λ_ es => some (Ac es (0:Int))) []))]))) (cE .ret))))))
def e27:FE:=⟨r27,[(2,none),(3,none)],30⟩
def r28:CE:=(cT [(sM ")" (0:Int))] (cS (cT [(sM "," o),(Au 82 [","] "("),(sX "&" (Lk .not "("))] (cC "&" (cT [(sM ")" (1:Int))] (cE .ret)) (cE .normal))) (cS (cT [(sM "*" o.l),(Au 83 ["*"] "1"),(sX "5" (Lk .not "1"))] (cC "5" (cT [(sM ")" (11:Int))] (cE .ret)) (cE .normal))) (cS (cT [(sM
 "2" o),(sU ";" (Bc (.nck (.tmp 17)))),(sX "9" (Dl 4 ";")),(sX "<" (Bs none "9")),(sM "0" o.l),(sU "3" (Bc (.lkp (.p .string) (.int .i64 0) (.tmp 20) (.tmp 21) true))),(sM "6" "3"),(sX "8" (Ea "6" 0)),(sX "4" (Ea "6" 1)),(sM "+" "8"),(sM "$" "4")] (cT [(sM "=" "$")] (cC "="
 (cT [(sM ")" (5:Int))] (cE .ret)) (cE .normal)))) (cS (cT [(sM ":" o),(sM ">" o.r),(Au 84 [":",">"] "?"),(sM "%" "?")] (cT [(sM "@" "%"),(sX "B" (Aj .neq "@" (0:Int)))] (cC "B" (cT [(sM "A" "%"),(sM ")" "A")] (cE .ret)) (cE .normal)))) (cS (cT [(sM "C" o),(sU "D"
 (Bc (.nck (.tmp 32)))),(sX "E" (Dl 4 "D")),(sX "F" (Bs none "E")),(sU "I" (Bc (.lnm (.tmp 35)))),(sX "J" (Aj .geq "I" (8:Int)))] (cC "J" (cT [(sM ")" (18:Int))] (cE .ret)) (cE .normal))) (cT [(sM "K" o),(sU "G" (Bc (.nck (.tmp 38)))),(sX "H" (Dl 4 "G")),(sX "M"
 (Bs none "H")),(sM "N" o.l),(sM "L" o.r),(sU none (Bc (.mup (.p .string) (.tmp 41) (.tmp 42) (.tmp 43))))] (cT [(sM ")" (0:Int))] (cE .ret)))))))))
def e28:FE:=⟨r28,[(6,none)],44⟩
def r29:CE:=(cT [(sM "$" (0:Int)),(sM "%" (0:Int))] (cS (cT [(sM "5" o),(Au 82 ["5"] "6"),(sX "2" (Lk .not "6"))] (cC "2" (cT [(sM "$" (0:Int)),(sM "%" (1:Int))] (cE .ret)) (cE .normal))) (cS (cT [(sM "9" o),(sU "<" (Bc (.nck (.tmp 19)))),(sX "0" (Dl 4 "<")),(sX
 "3" (Bs none "0")),(sM "8" o.l),(sU "4" (Bc (.lkp (.p .string) (.int .i64 0) (.tmp 22) (.tmp 23) true))),(sM ";" "4"),(sX "=" (Ea ";" 0)),(sX ":" (Ea ";" 1)),(sM "," "="),(sM "(" ":")] (cB 0 (cT [(sM "?" "("),(sX "@" (Lk .not "?")),(sM ">" "@")] (cC ">" (cT [(sM "$" (.c
 (.v (.int .i64 0)))),(sM "%" (11:Int))] (cE .ret)) (cT [(sM "A" ","),(sM "C" o.r),(sX "D" (Aj .neq "A" "C")),(sM "B" "D")] (cC "B" (cT [(sM "$" (0:Int)),(sM "%" (23:Int))] (cE .ret)) (cE .normal))))))) (cT [(sM "F" o),(sM "I" o.r),(Au 85 ["F","I"]
 "J"),(sM "E" "J"),(sX "K" (Ea "E" 0)),(sX "G" (Ea "E" 1)),(sU "&" (Me 26 [.v (.slice none 0 0),.v (.slice none 0 0),.v (.slice none 0 0)])),(sU none (Ej 3 "&" "K")),(sM "*" "G")] (cS (cT [(sM "H" "*"),(sX "M" (Aj .neq "H" (0:Int)))] (cC "M" (cT [(sM "N"
 "*"),(sM "$" (0:Int)),(sM "%" "N")] (cE .ret)) (cE .normal))) (cT [(sX "O" (Bs (some 3) "&")),(sM "Q" "7"),(Au 17 ["O","Q"] "P"),(sM "L" "P"),(sX "T" (Ea "L" 0)),(sX "V" (Ea "L" 1)),(sU "1" (Me 26 [.v (.slice none 0 0),.v (.slice none 0 0),.v (.slice none 0 0)])),(sU
 none (Ej 3 "1" "T")),(sM "*" "V")] (cS (cB 1 (cT [(sM "W" "*"),(sX "X" (Aj .neq "W" (0:Int))),(sM "U" "X")] (cC "U" (cT [(sM "Z" "*"),(sM "$" (0:Int)),(sM "%" "Z")] (cE .ret)) (cT [(sX "S" (Bs (some 3) "&")),(sX "^" (Bs (some 3) "1")),(Au
 25 ["S","^"] "a"),(sM "R" "a")] (cC "R" (cT [(sM "$" (0:Int)),(sM "%" (6:Int))] (cE .ret)) (cE .normal)))))) (cT [(sM "b" o),(sM "[" o.l),(sX "Y" (Bs (some 3) "1")),(sM "c" o.r),(sU "]" (Bc (.bsl 3 1 1 [.int .i64 0] [(0,1,.tmp 60)]))),(Au 86 ["b","[","Y","]"]
 "_"),(sX "e" (Ea "_" 0)),(sX "d" (Ea "_" 1)),(sM "$" "e"),(sM "%" "d")] (cE .ret)))))))))
def e29:FE:=⟨r29,[(8,none),(9,none)],65⟩
def bQ:CE:=(cT [(sX "^" (Aj .lss "S" "R"))] (cS (cC "^" (cE .normal) (cE (.exit 0))) (cS (cB 1 (cT [(sX "a" (Cs 1 "Z" "S")),(sX "b" (Bs none "a")),(sM "6" "b")] (cT [(sM "[" "6"),(eP none "[" [] "Y"),(sM "2" "Y")] (cT [(sM "c" "2"),(sX "]" (Aj
 .neq "c" (0:Int)))] (cC "]" (cS (cN (Dg 5 (dL [(Az [] ["+"] (Bi 0 [] true true "_" (λ_ => (Bs none "+")) ["+"])),(Az [] ["2"] (Bi 1 [] true false "e" ("2":Pa) ["2"])),(Az [] [")"] (Bt 2 [] (sU none (Ej 1 ")" (0:Int))))),(Az [0,2] ["+","_"] (Bt 3 [0,2] (sU none (Ej 1
 "+" "_")))),(dP [1,3,0,2] 4 "$" "e")]))) (cE .ret)) (cE .normal)))))) (cN (sL [(sX "d" (Aj .add "S" (1:Int))),(sM "S" "d")])))))
def r30:CE:=(cT [(sU "7" (Mj 49 o)),(sU "!" (Mj 9 o.l)),(sU ")" (Me 3 [.v (.int .i64 0)])),(sU "+" (Me 36 [.v (.slice none 0 0)])),(sM "$" (0:Int))] (cS (cT [(sX ";" (Bs none "7")),(Au 82 [";"] "9"),(sX "<" (Lk .not "9"))] (cC "<" (cT [(sU none (Ej 1 ")" (0:Int))),(sU none (Ej 1 "+" (.c (.v (.slice none
 0 0))))),(sM "$" (1:Int))] (cE .ret)) (cE .normal))) (cS (cN (Dg 16 (dL [(dY [] ["7"] 0 "0" (Bs none "7")),(Az [0] ["0"] (Bi 1 [0] false false "3" (Dz (Bc (.nck (.tmp 21)))) ["0"])),(dX [1,0] ["3"] 2 "8" (Dl 4 "3")),(dY [2,1,0] ["8"] 3 "4" (Bs none "8")),(dY [] ["!"] 4 "=" (Bs none "!")),(Az
 [3,4,2,1,0] ["4","="] (Bi 5 [3,4,2,1,0] false true ":" (Dz (Bc (.lkp (.p .string) (.int .i64 0) (.tmp 24) (.tmp 25) false))) ["4","="])),(Az [] ["7"] (Bi 6 [] true true ">" (λ_ => (Bs none "7")) ["7"])),(Az [6] [">"] (Bi 7 [6] true false "?" (Dz (Bc (.nck (.tmp 27)))) [">"])),(Az [7,6] ["?"] (Bi 8 [7,6]
 true false "@" (λ_ => (Dl 4 "?")) ["?"])),(Az [8,7,6] ["@"] (Bi 9 [8,7,6] true true "B" (λ_ => (Bs none "@")) ["@"])),(Az [] [o.r] (Bi 10 [] true false "A" o.r [o.r])),(Az [9,10,8,7,6] ["B","A"] (Bi 11 [9,10,8,7,6] true true "C" (Dz (Bc (.lkp (.p .string) (.int .i64 0) (.tmp 30) (.tmp 31) false))) ["B","A"])),(Az
 [] [] (Ox 12 [] false false "%" (Me 3 [.v (.int .i64 0)]) [])),(Az [] [] (Ox 13 [] false false "," (Me 3 [.v (.int .i64 0)]) [])),(Az [12,5,0,1,2,3,4,13] ["%",":"] (Bt 14 [12,5,0,1,2,3,4,13] (sU none (Ej 1 "%" ":")))),(Az [13,11,14,0,1,2,3,4,5,6,7,8,9,10,12] [",","C"] (Bt 15 [13,11,14,0,1,2,3,4,5,6,7,8,9,10,12] (sU none (Ej 1 "," "C"))))])))
 (cS (cT [(sX "D" (Bs none "%")),(sX "E" (Aj .eql "D" (0:Int))),(sM "F" "E"),(sG "F" false "I" (sX "I" (Bs none ","))),(sG "F" false "J" (sX "J" (Aj .eql "I" (0:Int)))),(sX "K" (Bz "F" true "J"))] (cC "K" (cT
 [(sU none (Ej 1 ")" (0:Int))),(sU none (Ej 1 "+" (.c (.v (.slice none 0 0))))),(sM "$" (11:Int))] (cE .ret)) (cE .normal))) (cT [(sX "G" (Bs none "7")),(sX "H" (Bs none "%")),(sX "M" (Bs none ",")),(Au 87 ["G","H","M"] "N"),(sU "(" (Me 3 [.v (.int .i64 0)])),(sU none (Ej 1 "("
 "N"))] (cS (cT [(sX "L" (Bs none "(")),(sX "O" (Bs none ",")),(sX "Q" (Aj .eql "L" "O"))] (cC "Q" (cT [(sU none (Ej 1 ")" (0:Int))),(sU none (Ej 1 "+" (.c (.v (.slice none 0 0))))),(sM "$" (6:Int))] (cE .ret)) (cE .normal))) (cT [(sU "&" (Me 146 [.v (.slice none 0 0),.v (.slice none 0
 0),.v (.slice none 0 0),.v (.slice none 0 0),.v (.slice none 0 0),.v (.slice none 0 0),.v (.slice none 0 0),.v (.slice none 0 0),.v (.slice none 0 0)]))] (cT [(sU "*" (Me 26 [.v (.slice none 0 0),.v (.slice none 0 0),.v (.slice none 0 0)]))] (cT [(sU "P" (Bc (.mkf (.func 88) [] [.tmp 3,.tmp 11,.tmp 12]))),(sU "T" (Bc (.mkf (.func 89) [] [.tmp 3,.tmp 9,.tmp 12]))),(sU "V"
 (Bc (.mkf (.func 90) [] [.tmp 3,.tmp 10,.tmp 12]))),(sU "U" (Bc (.mkf (.func 91) [] [.tmp 12,.tmp 13,.tmp 7]))),(sU "W" (Bc (.mkf (.func 92) [] [.tmp 3,.tmp 4,.tmp 13,.tmp 9,.tmp 10,.tmp 6]))),(sU "X" (Bc (.bsl 147 5 1 [.nilFunc] [(0,1,.tmp 46),(1,1,.tmp 47),(2,1,.tmp 48),(3,1,.tmp 49),(4,1,.tmp 50)]))),(sM "1" "X")] (cS (cT [(sM "Z" "1"),(sX "R"
 (Cy "Z")),(sM "S" (0:Int))] (cB 0 (cL 1000000 bQ))) (cT [(sX "f" (Bs none ")")),(sU none (Ej 1 ")" "f")),(sU none (Ej 1 "+" (.c (.v (.slice none 0 0))))),(sM "$" (0:Int))] (cE .ret))))))))))))
def e30:FE:=⟨r30,[(6,some none),(7,some none),(8,none)],66⟩
def r31:CE:=(cT [(sU "!" (Me 26 [.v (.slice none 0 0),.v (.slice none 0 0),.v (.slice none 0 0)])),(sM "." (0:Int))] (cS (cT [(sM "+" o),(Au 82 ["+"] "$"),(sX "%" (Lk .not "$"))] (cC "%" (cT [(sU "," (Bc (.bld [.slice none 0 0,.slice none 0 0,.slice none 0 0] []))),(sU none (Ej 3 "!" ",")),(sM "." (1:Int))] (cE .ret)) (cE
 .normal))) (cS (cT [(sM "(" o),(sM "&" o.l),(Au 84 ["(","&"] "*"),(sM ")" "*")] (cT [(sM "1" ")"),(sX "5" (Aj .neq "1" (0:Int)))] (cC "5" (cT [(sU "6" (Bc (.bld [.slice none 0 0,.slice none 0 0,.slice none 0 0] []))),(sM "2" ")"),(sU none (Ej 3 "!" "6")),(sM "." "2")] (cE .ret)) (cE .normal)))) (cT
 [(sM ";" o),(sM "9" o.l),(Au 85 [";","9"] "<"),(sX "0" (Ea "<" 0)),(sX "3" (Ea "<" 1)),(sU none (Ej 3 "!" "0")),(sM "." "3")] (cE .ret)))))
def e31:FE:=⟨r31,[(4,some (some 3)),(5,none)],23⟩
def zO:CE:=(cT [(sX "5" (Aj .lss "1" "*"))] (cS (cC "5" (cE .normal) (cE (.exit 0))) (cS (cB 1 (cT [(sM "6" "1"),(sX "2" (Cs 3 "&" "1")),(sX ";" (Bs (some 3) "2")),(sU "." (Me 136 [.v (.slice none 0 0),.v (.slice none 0 0),.v (.bool false)])),(sM "!" "6"),(sU none (Ej 3 "." ";"))] (cT [(sX "9" (Dl 2 ".")),(sX
 "<" (Bs none "9")),(sX "0" (Lk .not "<"))] (cC "0" (cN (sL [(sM "3" "7"),(sM "8" "!"),(sX "4" (Aj .add "8" (1:Int))),(sU "=" (Bc (.bsl 3 1 1 [.int .i64 0] [(0,1,.tmp 24)]))),(sU ":" (Bc (.app 3 1 8 (.tmp 22) (.tmp 25)))),(sM "7" ":")])) (cE .normal))))) (cN (sL [(sX ">" (Aj .add "1" (.c
 (.v (.int .i64 1))))),(sM "1" ">")])))))
def r37:CE:=(cT [(sM o.r (.c (.v (.slice none 0 0))))] (cS (cT [(sM ")" o),(Au 82 [")"] "+"),(sX "$" (Lk .not "+"))] (cC "$" (cT [(sM o.r (.c (.v (.slice none 0 0))))] (cE .ret)) (cE .normal))) (cT [(sM "7" (.c (.v (.slice none 0 0))))] (cS (cT [(sM "%" o),(sU "," (Bc (.nck (.tmp 9)))),(sX "(" (Dl 3 ",")),(sX "&" (Bs none "(")),(sX "*" (Cy
 "&")),(sM "1" (0:Int))] (cB 0 (cL 1000000 zO))) (cT [(sM "?" "7"),(sM o.r "?")] (cE .ret))))))
def e37:FE:=⟨r37,[(2,none)],29⟩
def r82:CE:=(cT [(sM o.r false)] (cT [(sM "7" o),(sU "!" (Bc (.nilq 1 true (.tmp 3) (.const (.pointer none))))),(sM "." "!"),(sG "." true ")" (sM ")" o)),(sG "." true "+" (sU "+" (Bc (.nck (.tmp 6))))),(sG "." true "$" (sX "$" (Dl 4 "+"))),(sG "." true "%" (sX "%" (Bs none "$"))),(sG "." true "," (sU "," (Bc (.nilq
 2 true (.tmp 9) (.const (.map none)))))),(sX "(" (Bz "." "," false)),(sM o.r "(")] (cE .ret)))
def e82:FE:=⟨r82,[(2,none)],12⟩
def r84:CE:=(cT [(sM "!" (0:Int))] (cS (cB 0 (cT [(sM ")" o.l),(sX "+" (Aj .lss ")" (1:Int))),(sM "$" "+"),(sG "$" false "%" (sM "%" o.l)),(sG "$" false "," (sM "," o)),(sG "$" false "(" (sU "(" (Bc (.nck (.tmp 10))))),(sG "$" false "&" (sX "&" (Dl 3 "("))),(sG "$" false "*" (sX "*"
 (Bs none "&"))),(sG "$" false "1" (sX "1" (Cy "*"))),(sG "$" false "5" (sX "5" (Aj .gtr "%" "1"))),(sX "6" (Bz "$" true "5")),(sM "." "6")] (cC "." (cT [(sM "!" (4:Int))] (cE .ret)) (cT [(sM ";" o),(sM "9" o.l),(Au 99 [";","9"] "<"),(sU "0" (Bc (.nck
 (.tmp 20)))),(sX "3" (Dl 2 "0")),(sX "8" (Bs none "3")),(sM "2" "8")] (cC "2" (cT [(sM "!" (23:Int))] (cE .ret)) (cE .normal)))))) (cT [(sM "!" (0:Int))] (cE .ret))))
def e84:FE:=⟨r84,[(4,none)],24⟩
def r85:CE:=(cT [(sU "!" (Me 26 [.v (.slice none 0 0),.v (.slice none 0 0),.v (.slice none 0 0)])),(sM "." (0:Int))] (cS (cN (Dg 18 (dL [(Az [] [o] (Bi 0 [] true false ")" o [o])),(Az [0] [")"] (Bi 1 [0] true false "+" (Dz (Bc (.nck (.tmp 6)))) [")"])),(Az [1,0] ["+"] (Bi 2 [1,0] true false "$" (λ_ => (Dl 0 "+")) ["+"])),(Az
 [2,1,0] ["$"] (Bi 3 [2,1,0] true false "%" (λ_ => (Dl 0 "$")) ["$"])),(Az [3,2,1,0] ["%"] (Bi 4 [3,2,1,0] true true "," (λ_ => (Bs none "%")) ["%"])),(Az [] [o] (Bi 5 [] true false "(" o [o])),(Az [5] ["("] (Bi 6 [5] true false "&" (Dz (Bc (.nck (.tmp 11)))) ["("])),(Az [6,5] ["&"] (Bi 7 [6,5] true false "*"
 (λ_ => (Dl 0 "&")) ["&"])),(Az [7,6,5] ["*"] (Bi 8 [7,6,5] true false "1" (λ_ => (Dl 1 "*")) ["*"])),(Az [8,7,6,5] ["1"] (Bi 9 [8,7,6,5] true true "5" (λ_ => (Bs none "1")) ["1"])),(dP [] 10 "6" o),(dP [] 11 "2" o.l),(Az [10,11] ["6","2"] (Bt 12 [10,11] (Au 97 ["6","2"] ";"))),(Az [4,9,12,3,2,1,0,8,7,6,5,10,11]
 [",","5",";"] (Bt 13 [4,9,12,3,2,1,0,8,7,6,5,10,11] (Au 59 [",","5",";"] "9"))),(dX [13,4,9,12,3,2,1,0,8,7,6,5,10,11] ["9"] 14 "<" (Ea "9" 0)),(dX [13,4,9,12,3,2,1,0,8,7,6,5,10,11] ["9"] 15 "0" (Ea "9" 1)),(Az [14,13,0,1,2,3,4,5,6,7,8,9,10,11,12,15] ["!","<"] (Bt 16 [14,13,0,1,2,3,4,5,6,7,8,9,10,11,12,15]
 (sU none (Ej 3 "!" "<")))),(dP [15,16,0,1,2,3,4,5,6,7,8,9,10,11,12,13,14] 17 "." "0")]))) (cE .ret)))
def e85:FE:=⟨r85,[(4,some (some 3)),(5,none)],22⟩
def r86:CE:=(cT [(sU ")" (Mj 26 o.r)),(sM "$" (0:Int)),(sM "%" (0:Int))] (cS (cT [(sM "," o),(Au 37 [","] "("),(sX "&" (Cy "(")),(sX "*" (Aj .geq "&" (100:Int)))] (cC "*" (cT [(sM "$" (0:Int)),(sM "%" (18:Int))] (cE .ret)) (cE .normal))) (cS (cN (Dg 21 (dL [(Az
 [] [o] (Bi 0 [] true false "1" o [o])),(Az [] [o] (Bi 1 [] true false "5" o [o])),(Az [1] ["5"] (Bi 2 [1] true false "6" (Dz (Bc (.nck (.tmp 15)))) ["5"])),(Az [2,1] ["6"] (Bi 3 [2,1] true false "2" (λ_ => (Dl 3 "6")) ["6"])),(Az [3,2,1] ["2"] (Bi 4 [3,2,1] true true ";" (λ_ => (Bs none "2")) ["2"])),(dP
 [] 5 "9" o),(dP [] 6 "<" "7"),(dX [6] ["<"] 7 "0" (Cs 1 "<" (0:Int))),(dY [7,6] ["0"] 8 "3" (Bs none "0")),(Az [5,8,7,6] ["9","3"] (Bt 9 [5,8,7,6] (Au 97 ["9","3"] "8"))),(Az [] [")"] (Bi 10 [] true false "4" (λ_ => (Dl 2 ")")) [")"])),(Az [10] ["4"] (Bi 11 [10] true
 true "=" (λ_ => (Bs none "4")) ["4"])),(Az [9,11,5,8,7,6,10] ["8","="] (Bt 12 [9,11,5,8,7,6,10] (Au 81 ["8","="] ":"))),(Az [] ["7"] (Bi 13 [] true false ">" ("7":Pa) ["7"])),(Az [13,12,9,11,5,8,7,6,10] [">"] (Bt 14 [13,12,9,11,5,8,7,6,10] (Au 70 [">"] "?"))),(Az [12,14,9,11,5,8,7,6,10,13] [":","?"]
 (Bi 15 [12,14,9,11,5,8,7,6,10,13] false false "@" (Dz (Bc (.bld [.slice none 0 0,.slice none 0 0,.bool false] [(0,1,.tmp 26),(1,1,.tmp 28)]))) [":","?"])),(Az [15,12,14,9,11,5,8,7,6,10,13] ["@"] (Ox 16 [15,12,14,9,11,5,8,7,6,10,13] false false "B" (Bc (.bsl 136 1 3 [.slice none 0 0,.slice none 0 0,.bool false] [(0,3,.tmp 29)])) ["@"])),(Az [4,16,14,3,2,1,15,12,9,11,5,8,7,6,10,13]
 [";","B"] (Bt 17 [4,16,14,3,2,1,15,12,9,11,5,8,7,6,10,13] (sU "A" (Bc (.app 136 3 56 (.tmp 18) (.tmp 30)))))),(Az [0,1,2,3,4,5,6,7,8,9,10,11,12,13,14,15,16,17] ["1"] (Bi 18 [0,1,2,3,4,5,6,7,8,9,10,11,12,13,14,15,16,17] false false "C" (Dz (Bc (.nck (.tmp 14)))) ["1"])),(dX [18,0,1,2,3,4,5,6,7,8,9,10,11,12,13,14,15,16,17] ["C"] 19 "D"
 (Dl 3 "C")),(Az [19,17,0,1,2,3,4,5,6,7,8,9,10,11,12,13,14,15,16,18] ["D","A"] (Bt 20 [19,17,0,1,2,3,4,5,6,7,8,9,10,11,12,13,14,15,16,18] (sU none (Ej 1 "D" "A"))))]))) (cS (cN (Dg 11 (dL [(dP [] 0 "E" o),(Az [0] ["E"] (Bi 1 [0] false false "F" (Dz (Bc (.nck (.tmp 34)))) ["E"])),(dX [1,0] ["F"] 2 "I"
 (Dl 4 "F")),(dY [2,1,0] ["I"] 3 "J" (Bs none "I")),(dP [] 4 "K" o.l),(dP [] 5 "G" o),(Az [5] ["G"] (Bi 6 [5] false false "H" (Dz (Bc (.nck (.tmp 39)))) ["G"])),(dX [6,5] ["H"] 7 "M" (Dl 3 "H")),(dY [7,6,5] ["M"] 8 "N" (Bs none "M")),(dX [8,7,6,5] ["N"] 9 "L"
 (Cy "N")),(Az [3,4,9,0,1,2,5,6,7,8] ["J","K","L"] (Bt 10 [3,4,9,0,1,2,5,6,7,8] (sU none (Bc (.mup (.p .string) (.tmp 37) (.tmp 38) (.tmp 43))))))]))) (cT [(sM "O" o),(sU "Q" (Bc (.nck (.tmp 44)))),(sX "P" (Dl 3 "Q")),(sX "T" (Bs none "P")),(sX "V" (Cy "T")),(sM "$" "V"),(sM "%"
 (0:Int))] (cE .ret))))))
def e86:FE:=⟨r86,[(8,none),(9,none)],49⟩
def yW:CE:=(cS (cT [(sM "9" "+"),(sM "<" "%"),(sX "0" (Cs 1 "9" "<")),(sX "3" (Bs none "0")),(sX "8" (Lk .not "3")),(sM "4" "8"),(sG "4" false "=" (sM "=" "$")),(sG "4" false ":" (sM ":" "%")),(sG "4" false ">" (sX ">" (Cs 1 "=" ":"))),(sG "4"
 false "?" (sX "?" (Bs none ">"))),(sG "4" false "@" (sX "@" (Lk .not "?"))),(sX "B" (Bz "4" true "@"))] (cC "B" (cE .normal) (cE (.exit 0)))) (cB 1 (cN (sL [(sM "A" "%"),(sX "C" (Aj .sub "A" (1:Int))),(sM "%" "C")]))))
def r87:CE:=(cT [(sM ")" (0:Int))] (cT [(sM "," o),(sM "(" o.l),(Au 143 [",","("] "&"),(sM "*" o),(sM "1" o.r),(Au 143 ["*","1"] "5"),(sM "+" "&"),(sM "$" "5")] (cT [(sM "6" o.l),(sM "2" o.r),(sU ";" (Bc (.mm false (.tmp 16) (.tmp 17)))),(sM "%" ";")] (cS (cB 0 (cL 1000000 yW)) (cT [(sM
 "D" "%"),(sM ")" "D")] (cE .ret))))))
def e87:FE:=⟨r87,[(6,none)],34⟩
def r88:CE:=(cT [(sM "7" (0:Int))] (cT [(sX "." (Bs none o)),(sX ")" (Bs none o.l)),(Au 85 [".",")"] "+"),(sM "!" "+"),(sX "$" (Ea "!" 0)),(sX "%" (Ea "!" 1)),(sX "," (tP 3 3 o.r (0:Int))),(sU none (Ej 3 "," "$")),(sM "7" "%")] (cT [(sM "(" "7"),(sM "7" "(")] (cE .ret))))
def e88:FE:=⟨r88,[(3,none)],12⟩
def r89:CE:=(cT [(sM "7" (0:Int))] (cT [(sX "." (Bs none o)),(sX ")" (Bs none o.l)),(Au 85 [".",")"] "+"),(sM "!" "+"),(sX "$" (Ea "!" 0)),(sX "%" (Ea "!" 1)),(sX "," (tP 3 3 o.r (1:Int))),(sU none (Ej 3 "," "$")),(sM "7" "%")] (cT [(sM "(" "7"),(sM "7" "(")] (cE .ret))))
def e89:FE:=⟨r89,[(3,none)],12⟩
def r90:CE:=(cT [(sM "7" (0:Int))] (cT [(sX "." (Bs none o)),(sX ")" (Bs none o.l)),(Au 85 [".",")"] "+"),(sM "!" "+"),(sX "$" (Ea "!" 0)),(sX "%" (Ea "!" 1)),(sX "," (tP 3 3 o.r (2:Int))),(sU none (Ej 3 "," "$")),(sM "7" "%")] (cT [(sM "(" "7"),(sM "7" "(")] (cE .ret))))
def e90:FE:=⟨r90,[(3,none)],12⟩
def r91:CE:=(cT [(sM "7" (0:Int))] (cT [(sX "." (tP 3 3 o (0:Int))),(sX ")" (Bs (some 3) ".")),(sX "+" (tP 3 3 o (1:Int))),(sX "$" (Bs (some 3) "+")),(sX "%" (tP 3 3 o (2:Int))),(sX "," (Bs (some 3) "%")),(Au 20 [")","$",","] "("),(sM "!" "("),(sX "&" (Ea "!" 0)),(sX "*"
 (Ea "!" 1)),(sX "1" (Ea "!" 2)),(sU none (Ej 3 o.l "&")),(sU none (Ej 1 o.r "*")),(sM "7" "1")] (cT [(sM "5" "7"),(sM "7" "5")] (cE .ret))))
def e91:FE:=⟨r91,[(3,none)],16⟩
def r92:CE:=(cT [(sM ")" (0:Int))] (cT [(sX "$" (Bs none o)),(sX "%" (Bs none o.l)),(sX "," (Bs (some 3) o.r)),(sX "(" (Bs none "7")),(sX "&" (Bs none "!")),(sU "*" (Bc (.bsl 3 2 1 [.int .i64 0] [(0,1,.tmp 11),(1,1,.tmp 12)]))),(Au 86 ["$","%",",","*"] "1"),(sM "+" "1"),(sX "5" (Ea "+" 0)),(sX "6" (Ea
 "+" 1)),(sU none (Ej 1 "." "5")),(sM ")" "6")] (cT [(sM "2" ")"),(sM ")" "2")] (cE .ret))))
def e92:FE:=⟨r92,[(6,none)],18⟩
def TY:CE:=(cT [(sM "!" (.c (.v (.slice none 0 0))))] (cS (cT [(sM "." o.l),(sX ")" (Aj .eql "." (0:Int)))] (cC ")" (cT [(sM "!" (.c (.v (.slice none 0 0))))] (cE .ret)) (cE .normal))) (cS (cN (Dg 13 (dL [(dP [] 0 "+" o),(dP [] 1 "$" o.l),(Az [0,1] ["+","$"] (Bt 2 [0,1] (Au 99 ["+","$"] "%"))),(Az [2,0,1] ["%"] (Bi 3 [2,0,1]
 true false "," (Dz (Bc (.nck (.tmp 9)))) ["%"])),(Az [3,2,0,1] [","] (Bi 4 [3,2,0,1] true false "(" (λ_ => (Dl 0 ",")) [","])),(Az [4,3,2,0,1] ["("] (Bi 5 [4,3,2,0,1] true true "&" (λ_ => (Bs none "(")) ["("])),(Az [] [o] (Bi 6 [] true false "*" o [o])),(Az [] [o] (Bi 7 [] true false "1" o [o])),(Az [] [o.l] (Bi 8
 [] true false "5" o.l [o.l])),(Az [7,8,2,0,1] ["1","5"] (Bt 9 [7,8,2,0,1] (Au 98 ["1","5"] "6"))),(Az [6,9,7,8,2,0,1] ["*","6"] (Bt 10 [6,9,7,8,2,0,1] (Au 97 ["*","6"] "2"))),(Az [5,10,4,3,2,0,1,6,9,7,8] ["&","2"] (Bt 11 [5,10,4,3,2,0,1,6,9,7,8] (Au 60 ["&","2"] ";"))),(dP [11,0,1,2,3,4,5,6,7,8,9,10]
 12 "!" ";")]))) (cE .ret))))
def e97:FE:=⟨TY,[(4,none)],19⟩
def yV:CE:=(cS (cT [(sM "&" "."),(sX "*" (Cy "&")),(sX "1" (Aj .gtr "*" (0:Int)))] (cC "1" (cE .normal) (cE (.exit 0)))) (cS (cB 1 (cT [(sM "8" o),(sM "4" "."),(sX "=" (Cs 1 "4" (0:Int))),(sX ":" (Bs none "=")),(Au 99 ["8",":"] ">"),(sU "?" (Bc (.nck (.tmp 27)))),(sX
 "@" (Dl 2 "?")),(sX "B" (Bs none "@")),(sX "A" (Lk .not "B"))] (cC "A" (cT [(sM "C" "."),(sX "D" (Cs 1 "C" (0:Int))),(sX "E" (Bs none "D")),(sM "!" "E")] (cE .ret)) (cE .normal)))) (cN (sL [(sM "5" o),(sM "6" "."),(sX "2" (Cs 1 "6" (0:Int))),(sX
 ";" (Bs none "2")),(Au 99 ["5",";"] "9"),(sU "<" (Bc (.nck (.tmp 19)))),(sX "0" (Dl 1 "<")),(sX "3" (Bs none "0")),(sM "." "3")]))))
def r98:CE:=(cT [(sM "!" (0:Int))] (cS (cT [(sM ")" o),(sM "+" o.l),(Au 99 [")","+"] "$"),(sU "%" (Bc (.nck (.tmp 8)))),(sX "," (Dl 1 "%")),(sX "(" (Bs none ",")),(sM "." "(")] (cB 0 (cL 1000000 yV))) (cT [(sM "!" (0:Int))] (cE .ret))))
def e98:FE:=⟨r98,[(4,none)],35⟩
def r99:CE:=(cT [(sM "!" (.c (.v (.pointer none))))] (cT [(sM "." o),(sU ")" (Bc (.nck (.tmp 5)))),(sX "+" (Dl 3 ")")),(sX "$" (Bs none "+")),(sM "%" o.l),(sX "," (Aj .sub "%" (1:Int))),(sX "(" (Cs 3 "$" ",")),(sM "!" "(")] (cE .ret)))
def e99:FE:=⟨r99,[(4,none)],12⟩
def Ci8:CE:=(cT [(sX "I" (Aj .lss "F" "E"))] (cS (cC "I" (cE .normal) (cE (.exit 2))) (cS (cB 3 (cT [(sX "J" (Cs 1 "D" "F")),(sX "K" (Bs none "J")),(sM "$" "K")] (cN (sL [(sM "G" "."),(sM "H" "$"),(sX "M" (Cs 1 "G" "H")),(sU none (Ej 1 "M" (.c (.v (.bool
 true)))))])))) (cN (sL [(sX "N" (Aj .add "F" (1:Int))),(sM "F" "N")])))))
def Ci9:CE:=(cS (cT [(sM "<" ")"),(sX "0" (Aj .gtr "<" (0:Int)))] (cC "0" (cE .normal) (cE (.exit 0)))) (cS (cB 1 (cT [(sM "4" "."),(sM "=" ")"),(sX ":" (Cs 1 "4" "=")),(sX ">" (Bs none ":"))] (cC ">" (cT [(sM "?" o),(sM "@" ")"),(Au 99 ["?","@"] "B"),(sU "A"
 (Bc (.nck (.tmp 30)))),(sX "C" (Dl 1 "A")),(sX "D" (Bs none "C")),(sX "E" (Cy "D")),(sM "F" (0:Int))] (cB 2 (cL 1000000 Ci8))) (cE .normal)))) (cN (sL [(sM "3" ")"),(sX "8" (Aj .sub "3" (1:Int))),(sM ")" "8")]))))
def HS:CE:=(cT [(sM "!" (.c (.v (.slice none 0 0))))] (cT [(sM "%" o),(sU "," (Bc (.nck (.tmp 9)))),(sX "(" (Dl 3 ",")),(sX "&" (Bs none "(")),(sX "*" (Cy "&")),(sX "1" (Aj .add "*" (1:Int))),(sU "5" (Bc (.mks 4 1 1 [.bool false] (.tmp 14) (.tmp 14)))),(sM "." "5")] (cT [(sM "6" "."),(sM "2" o.l),(sX ";"
 (Cs 1 "6" "2")),(sU none (Ej 1 ";" true))] (cS (cT [(sM "9" o.l),(sM ")" "9")] (cB 0 (cL 1000000 Ci9))) (cT [(sM "L" "."),(sM "!" "L")] (cE .ret))))))
def xa:FE:=⟨HS,[(4,none)],44⟩
end
end Go.DD
