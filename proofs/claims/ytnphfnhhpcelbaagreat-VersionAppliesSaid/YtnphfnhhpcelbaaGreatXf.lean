/- A part. -/
import Derived.Test.YtnphfnhhpcelbaaGreatXd
namespace Go.DD
noncomputable section
open Pa
instance coePERa : Coe Pa EO := ⟨EO.t⟩
instance coePXRa : Coe Pa (Nat → XP) := ⟨fun p _ es => some (rawE es (.t p))⟩
open Go
set_option maxRecDepth 100000
def r13:CE:=(cT [(sU o.r (xBx 26 o)),(sM "!" false)] (cT [(sX "$" (xFa 0 o.r)),(sX "*" (xLd none "$")),(sX "+" (xFa 1 o.r)),(sX "&" (xLd none "+")),(sCall 51 ["*","&"] ","),(sM "." ","),(sG "." true "(" (sX "(" (xFa 2 o.r))),(sG "." true "%" (sX "%" (xLd none "("))),(sG "." true ")" (sM ")" o.l)),(sG "."
 true "2" (sCall 52 ["%",")"] "2")),(sX "3" (xPick "." "2" false)),(sM "!" "3")] (cE .ret)))
def e13:FE:=⟨r13,[(4,none)],16⟩
def l22_1:CE:=(cS (cT [(sM "(" "$"),(sM "%" o),(sX ")" (xLen "%")),(sX "2" (xBin .lss "(" ")"))] (cC "2" (cE .normal) (cE (.exit 0)))) (cS (cB 1 (cS (cN (regE 9 (dL [(dP [] 0 "0" o),(dP [] 1 "8" "$"),(dX [0,1] ["0","8"] 2 ";" (xIa 1 "0" "8")),(dY [2,0,1] [";"] 3 ":" (xLd none ";")),(dP [] 4 "1" o.l),(dP
 [] 5 "5" "$"),(dX [4,5] ["1","5"] 6 "7" (xIa 1 "1" "5")),(dY [6,4,5] ["7"] 7 "9" (xLd none "7")),(dX [3,7,2,0,1,6,4,5] [":","9"] 8 ">" (xBin .neq ":" "9"))]))) (cC ">" (cT [(sM "!" false)] (cE .ret)) (cE .normal)))) (cN (sL [(sM "3" "$"),(sX "4" (xBin .add "3" (.c (.v (.int
 .i64 1))))),(sM "$" "4")]))))
def r22:CE:=(cT [(sM "!" false)] (cS (cT [(sM "*" o),(sX "+" (xLen "*")),(sM "&" o.l),(sX "," (xLen "&")),(sX "." (xBin .neq "+" ","))] (cC "." (cT [(sM "!" false)] (cE .ret)) (cE .normal))) (cS (cT [(sM "$" (0:Int))] (cB 0 (cL 1000000 l22_1))) (cT [(sM "!" true)] (cE .ret)))))
def e22:FE:=⟨r22,[(4,none)],26⟩
def r24:CE:=(cT [(sM "!" (0:Int))] (cT [(sM "$" o),(sM "*" o.l),(sCall 75 ["$","*"] "+"),(sM "!" "+")] (cE .ret)))
def e24:FE:=⟨r24,[(4,none)],8⟩
def l51_1:CE:=(cS (cT [(sM "3" "$"),(sM "4" o),(sX "0" (xLen "4")),(sX "8" (xBin .lss "3" "0"))] (cC "8" (cE .normal) (cE (.exit 0)))) (cS (cB 1 (cT [(sM "1" o),(sM "5" "$"),(sX "7" (xIa 3 "1" "5")),(sX "9" (xFa 0 "7")),(sX ">" (xLd none "9")),(sCall 120 [">"] "?"),(sX "<" (xUn
 .not "?"))] (cC "<" (cT [(sM "!" false)] (cE .ret)) (cE .normal)))) (cN (sL [(sM ";" "$"),(sX ":" (xBin .add ";" (1:Int))),(sM "$" ":")]))))
def l51_2:CE:=(cS (cT [(sM "@" "*"),(sM "=" o.l),(sX "E" (xLen "=")),(sX "B" (xBin .lss "@" "E"))] (cC "B" (cE .normal) (cE (.exit 2)))) (cS (cB 3 (cT [(sM "D" o.l),(sM "F" "*"),(sX "I" (xIa 2 "D" "F")),(sX "J" (xFa 0 "I")),(sX "H" (xLd none "J")),(sCall 120 ["H"] "G"),(sX
 "K" (xUn .not "G"))] (cC "K" (cT [(sM "!" false)] (cE .ret)) (cE .normal)))) (cN (sL [(sM "A" "*"),(sX "C" (xBin .add "A" (1:Int))),(sM "*" "C")]))))
def r51:CE:=(cT [(sM "!" false)] (cS (cT [(sM "+" o),(sX "&" (xLen "+")),(sX "," (xBin .gtr "&" (10:Int))),(sM "." ","),(sG "." false "(" (sM "(" o.l)),(sG "." false "%" (sX "%" (xLen "("))),(sG "." false ")" (sX ")" (xBin .gtr "%" (10:Int)))),(sX "2" (xPick "." (.c (.v
 (.bool true))) ")"))] (cC "2" (cT [(sM "!" false)] (cE .ret)) (cE .normal))) (cS (cT [(sM "$" (0:Int))] (cB 0 (cL 1000000 l51_1))) (cS (cT [(sM "*" (0:Int))] (cB 2 (cL 1000000 l51_2))) (cT [(sM "!" true)] (cE .ret))))))
def e51:FE:=⟨r51,[(4,none)],41⟩
def l52_1:CE:=(cS (cT [(sM "C" "*"),(sM "D" o),(sM "F" "$"),(sX "I" (xIa 2 "D" "F")),(sX "J" (xFa 1 "I")),(sX "H" (xLd none "J")),(sX "G" (xLen "H")),(sX "K" (xBin .lss "C" "G"))] (cC "K" (cE .normal) (cE (.exit 2)))) (cS (cB 3 (cT [(sM "N" o),(sM "O" "$"),(sX
 "P" (xIa 2 "N" "O")),(sX "R" (xFa 1 "P")),(sX "S" (xLd none "R")),(sM "W" "*"),(sX "U" (xIa 4 "S" "W")),(sX "T" (xFa 3 "U")),(sX "X" (xLd none "T")),(sCall 120 ["X"] "V"),(sX "Q" (xUn .not "V"))] (cC "Q" (cT [(sM "!" false)]
 (cE .ret)) (cE .normal)))) (cN (sL [(sM "M" "*"),(sX "L" (xBin .add "M" (1:Int))),(sM "*" "L")]))))
def l52_2:CE:=(cS (cT [(sM "(" "$"),(sM "%" o),(sX ")" (xLen "%")),(sX "2" (xBin .lss "(" ")"))] (cC "2" (cE .normal) (cE (.exit 0)))) (cS (cB 1 (cS (cT [(sM "0" o),(sM "8" "$"),(sX ";" (xIa 2 "0" "8")),(sX ":" (xFa 0 ";")),(sX "1" (xLd none ":")),(sX "5" (xLen "1")),(sX "7" (xBin .gtr "5"
 (10:Int))),(sM "9" "7"),(sG "9" false ">" (sM ">" o)),(sG "9" false "?" (sM "?" "$")),(sG "9" false "<" (sX "<" (xIa 2 ">" "?"))),(sG "9" false "@" (sX "@" (xFa 1 "<"))),(sG "9" false "=" (sX "=" (xLd none "@"))),(sG "9" false "E" (sX "E" (xLen
 "="))),(sG "9" false "B" (sX "B" (xBin .gtr "E" (10:Int)))),(sX "A" (xPick "9" true "B"))] (cC "A" (cT [(sM "!" false)] (cE .ret)) (cE .normal))) (cT [(sM "*" (0:Int))] (cB 2 (cL 1000000 l52_1))))) (cN (sL [(sM "3" "$"),(sX "4" (xBin .add "3" (.c
 (.v (.int .i64 1))))),(sM "$" "4")]))))
def r52:CE:=(cT [(sM "!" false)] (cS (cT [(sM "+" o),(sX "&" (xLen "+")),(sM "," o.l),(sX "." (xBin .gtr "&" ","))] (cC "." (cT [(sM "!" false)] (cE .ret)) (cE .normal))) (cS (cT [(sM "$" (0:Int))] (cB 0 (cL 1000000 l52_2))) (cT [(sM "!" true)] (cE .ret)))))
def e52:FE:=⟨r52,[(4,none)],54⟩
def l57_1:CE:=(cT [(sX "7" (xBin .lss "5" "1"))] (cS (cC "7" (cE .normal) (cE (.exit 0))) (cS (cB 1 (cT [(sM "9" "5"),(sX ">" (xIa 2 ":" "5")),(sX "?" (xLd (some 2) ">")),(sU "$" (xAl 39 [.v (.slice none 0 0),.v (.slice none 0 0)])),(sM "!" "9"),(sU none (xSt 2 "$" "?"))] (cS (cT [(sX "<" (xFa 0 o.l)),(sX "@"
 (xLd none "<")),(sX "=" (xFa 1 o.l)),(sX "E" (xLd none "=")),(sX "B" (xLd (some 2) "$")),(sCall 122 ["@","E","B"] "A"),(sM "*" "A")] (cT [(sM "C" "*"),(sX "D" (xBin .neq "C" (0:Int)))] (cC "D" (cT [(sM "F" "*"),(sM o.r "F")] (cE .ret)) (cE .normal)))) (cS (cT [(sM
 "I" "!"),(sX "J" (xBin .eql "I" (0:Int)))] (cC "J" (cE (.exit 1)) (cE .normal))) (cS (cN (regE 10 (dL [(dX [] [o.l] 0 "H" (xFa 2 o.l)),(dY [0] ["H"] 1 "G" (xLd none "H")),(dP [] 2 "K" "!"),(dX [2] ["K"] 3 "M" (xBin .sub "K" (1:Int))),(dX [1,3,0,2] ["G","M"]
 4 "L" (xIa 2 "G" "M")),(dX [4,1,3,0,2] ["L"] 5 "N" (xFa 0 "L")),(dY [5,4,1,3,0,2] ["N"] 6 "O" (xLd none "N")),(dX [] ["$"] 7 "P" (xFa 0 "$")),(dY [7] ["P"] 8 "R" (xLd none "P")),(dChk [6,8,5,4,1,3,0,2,7] ["O","R"] (dMain 9 [6,8,5,4,1,3,0,2,7] (sCall 24 ["O","R"]
 "S")))]))) (cB 2 (cT [(sX "U" (xBin .eql "S" (0:Int))),(sM "W" "U")] (cC "W" (cT [(sM o.r (5:Int))] (cE .ret)) (cT [(sX "X" (xBin .eql "S" (1:Int))),(sM "T" "X")] (cC "T" (cT [(sM o.r (2:Int))] (cE .ret)) (cE .normal))))))))))) (cN (sL [(sX "V"
 (xBin .add "5" (1:Int))),(sM "5" "V")])))))
def r57:CE:=(cT [(sU o.l (xBx 26 o)),(sM o.r (0:Int))] (cS (cT [(sX "+" (xFa 0 o.l)),(sX "&" (xLd none "+")),(sX "," (xFa 1 o.l)),(sX "." (xLd none ",")),(sCall 121 ["&","."] "("),(sM "6" "(")] (cT [(sM "%" "6"),(sX ")" (xBin .neq "%" (0:Int)))] (cC ")" (cT [(sM "2" "6"),(sM o.r "2")] (cE .ret)) (cE
 .normal)))) (cS (cT [(sX "3" (xFa 2 o.l)),(sX "4" (xLd none "3")),(sX "0" (xLen "4")),(sX "8" (xBin .gtr "0" (4096:Int)))] (cC "8" (cT [(sM o.r (9:Int))] (cE .ret)) (cE .normal))) (cS (cT [(sX ";" (xFa 2 o.l)),(sX ":" (xLd none ";")),(sX "1" (xLen ":")),(sM "5" (0:Int))]
 (cB 0 (cL 1000000 l57_1))) (cT [(sM o.r (0:Int))] (cE .ret))))))
def e57:FE:=⟨r57,[(2,none)],53⟩
def l61_1:CE:=(cS (cT [(sM ";" "!"),(sX ":" (xFa 2 o.l)),(sX "1" (xLd none ":")),(sX "5" (xLen "1")),(sX "7" (xBin .lss ";" "5"))] (cC "7" (cE .normal) (cE (.exit 0)))) (cS (cB 1 (cS (cN (regE 11 (dL [(dX [] [o.l] 0 "?" (xFa 0 o.l)),(dY [0] ["?"] 1 "<" (xLd none "?")),(dX [] [o.l] 2 "@" (xFa 1 o.l)),(dY [2] ["@"]
 3 "=" (xLd none "@")),(dX [] [o.l] 4 "E" (xFa 2 o.l)),(dY [4] ["E"] 5 "B" (xLd none "E")),(dP [] 6 "A" "!"),(dX [5,6,4] ["B","A"] 7 "C" (xIa 2 "B" "A")),(dY [7,5,6,4] ["C"] 8 "D" (xLd (some 2) "C")),(dChk [1,3,8,0,2,7,5,6,4] ["<","=","D"] (dMain 9 [1,3,8,0,2,7,5,6,4] (sCall
 133 ["<","=","D"] "F"))),(dP [9,0,1,2,3,4,5,6,7,8] 10 "$" "F")]))) (cS (cT [(sM "I" "$"),(sX "J" (xBin .neq "I" (0:Int)))] (cC "J" (cT [(sM "H" "$"),(sM o.r "H")] (cE .ret)) (cE .normal))) (cS (cT [(sM "G" "!"),(sX "K" (xBin .eql "G" (0:Int)))] (cC "K"
 (cE (.exit 1)) (cE .normal))) (cS (cN (regE 15 (dL [(dX [] [o.l] 0 "M" (xFa 2 o.l)),(dY [0] ["M"] 1 "L" (xLd none "M")),(dP [] 2 "N" "!"),(dX [2] ["N"] 3 "O" (xBin .sub "N" (1:Int))),(dX [1,3,0,2] ["L","O"] 4 "P" (xIa 2 "L" "O")),(dX [4,1,3,0,2] ["P"] 5 "R" (xFa 0
 "P")),(dY [5,4,1,3,0,2] ["R"] 6 "S" (xLd none "R")),(dX [] [o.l] 7 "W" (xFa 2 o.l)),(dY [7] ["W"] 8 "U" (xLd none "W")),(dP [] 9 "T" "!"),(dX [8,9,7] ["U","T"] 10 "X" (xIa 2 "U" "T")),(dX [10,8,9,7] ["X"] 11 "V" (xFa 0 "X")),(dY [11,10,8,9,7] ["V"] 12 "Q"
 (xLd none "V")),(dChk [6,12,5,4,1,3,0,2,11,10,8,9,7] ["S","Q"] (dMain 13 [6,12,5,4,1,3,0,2,11,10,8,9,7] (sCall 134 ["S","Q"] "Y"))),(dP [13,0,1,2,3,4,5,6,7,8,9,10,11,12] 14 "*" "Y")]))) (cS (cT [(sM "]" "*"),(sX "_" (xBin .eql "]" (0:Int)))] (cC "_" (cT [(sM o.r (5:Int))] (cE .ret))
 (cE .normal))) (cT [(sM "^" "*"),(sX "Z" (xBin .gtr "^" (0:Int)))] (cC "Z" (cT [(sM o.r (2:Int))] (cE .ret)) (cE .normal))))))))) (cN (sL [(sM "9" "!"),(sX ">" (xBin .add "9" (1:Int))),(sM "!" ">")]))))
def r61:CE:=(cT [(sU o.l (xBx 26 o)),(sM o.r (0:Int))] (cT [(sX "+" (xFa 0 o.l)),(sX "&" (xLd none "+")),(sX "," (xFa 1 o.l)),(sX "." (xLd none ",")),(sCall 132 ["&","."] "("),(sM "6" "(")] (cS (cT [(sM "%" "6"),(sX ")" (xBin .neq "%" (0:Int)))] (cC ")" (cT [(sM "2" "6"),(sM o.r "2")] (cE .ret)) (cE
 .normal))) (cS (cT [(sX "3" (xFa 2 o.l)),(sX "4" (xLd none "3")),(sX "0" (xLen "4")),(sX "8" (xBin .gtr "0" (4096:Int)))] (cC "8" (cT [(sM o.r (9:Int))] (cE .ret)) (cE .normal))) (cS (cT [(sM "!" (0:Int))] (cB 0 (cL 1000000 l61_1))) (cT [(sM o.r (0:Int))] (cE .ret)))))))
def e61:FE:=⟨r61,[(2,none)],59⟩
def l64_1:CE:=(cS (cT [(sM "(" "$"),(sM "%" o),(sX ")" (xLen "%")),(sX "2" (xBin .lss "(" ")"))] (cC "2" (cE .normal) (cE (.exit 0)))) (cS (cB 1 (cS (cN (regE 9 (dL [(dP [] 0 "0" o),(dP [] 1 "8" "$"),(dX [0,1] ["0","8"] 2 ";" (xIa 3 "0" "8")),(dY [2,0,1] [";"] 3 ":" (xLd (some 3) ";")),(dP [] 4 "1"
 o.l),(dP [] 5 "5" "$"),(dX [4,5] ["1","5"] 6 "7" (xIa 3 "1" "5")),(dY [6,4,5] ["7"] 7 "9" (xLd (some 3) "7")),(dChk [3,7,2,0,1,6,4,5] [":","9"] (dRead 8 [3,7,2,0,1,6,4,5] false false ">" (xKeep (xAny (.eqs true [2,0,0] (.tmp 20) (.tmp 24)))) [":","9"]))]))) (cC ">" (cT [(sM "!" false)] (cE
 .ret)) (cE .normal)))) (cN (sL [(sM "3" "$"),(sX "4" (xBin .add "3" (1:Int))),(sM "$" "4")]))))
def r64:CE:=(cT [(sM "!" false)] (cS (cT [(sM "*" o),(sX "+" (xLen "*")),(sM "&" o.l),(sX "," (xLen "&")),(sX "." (xBin .neq "+" ","))] (cC "." (cT [(sM "!" false)] (cE .ret)) (cE .normal))) (cS (cT [(sM "$" (0:Int))] (cB 0 (cL 1000000 l64_1))) (cT [(sM "!" true)] (cE .ret)))))
def e64:FE:=⟨r64,[(4,none)],26⟩
def l65_1:CE:=(cS (cT [(sM "(" "$"),(sM "%" o),(sX ")" (xLen "%")),(sX "2" (xBin .lss "(" ")"))] (cC "2" (cE .normal) (cE (.exit 0)))) (cS (cB 1 (cS (cN (regE 9 (dL [(dP [] 0 "0" o),(dP [] 1 "8" "$"),(dX [0,1] ["0","8"] 2 ";" (xIa 2 "0" "8")),(dY [2,0,1] [";"] 3 ":" (xLd (some 2) ";")),(dP [] 4 "1"
 o.l),(dP [] 5 "5" "$"),(dX [4,5] ["1","5"] 6 "7" (xIa 2 "1" "5")),(dY [6,4,5] ["7"] 7 "9" (xLd (some 2) "7")),(dChk [3,7,2,0,1,6,4,5] [":","9"] (dRead 8 [3,7,2,0,1,6,4,5] false false ">" (xKeep (xAny (.eqs true [2,0] (.tmp 20) (.tmp 24)))) [":","9"]))]))) (cC ">" (cT [(sM "!" false)] (cE .ret))
 (cE .normal)))) (cN (sL [(sM "3" "$"),(sX "4" (xBin .add "3" (1:Int))),(sM "$" "4")]))))
def r65:CE:=(cT [(sM "!" false)] (cS (cT [(sM "*" o),(sX "+" (xLen "*")),(sM "&" o.l),(sX "," (xLen "&")),(sX "." (xBin .neq "+" ","))] (cC "." (cT [(sM "!" false)] (cE .ret)) (cE .normal))) (cS (cT [(sM "$" (0:Int))] (cB 0 (cL 1000000 l65_1))) (cT [(sM "!" true)] (cE .ret)))))
def e65:FE:=⟨r65,[(4,none)],26⟩
def r70:CE:=(cT [(sM o.r (.c (.v (.slice none 0 0))))] (cS (cT [(sM "6" o),(sU "!" (xAny (.nilq 0 false (.tmp 3) (.const (.slice none 0 0)))))] (cC "!" (cT [(sM o.r (.c (.v (.slice none 0 0))))] (cE .ret)) (cE .normal))) (cT [(sU "$" (xAny (.bsl 3 0 1 [.int .i64 0] []))),(sM "*" o),(sU "+" (xAny (.app 3 1 8 (.tmp 5) (.tmp 6)))),(sM o.r "+")] (cE .ret))))
def e70:FE:=⟨r70,[(2,none)],8⟩
def l74_1:CE:=(cS (cT [(sM "(" "$"),(sM "%" o),(sX ")" (xLen "%")),(sX "2" (xBin .lss "(" ")"))] (cC "2" (cE .normal) (cE (.exit 0)))) (cS (cB 1 (cS (cN (regE 9 (dL [(dP [] 0 "0" o),(dP [] 1 "8" "$"),(dX [0,1] ["0","8"] 2 ";" (xIa 4 "0" "8")),(dY [2,0,1] [";"] 3 ":" (xLd (some 4) ";")),(dP [] 4 "1"
 o.l),(dP [] 5 "5" "$"),(dX [4,5] ["1","5"] 6 "7" (xIa 4 "1" "5")),(dY [6,4,5] ["7"] 7 "9" (xLd (some 4) "7")),(dChk [3,7,2,0,1,6,4,5] [":","9"] (dRead 8 [3,7,2,0,1,6,4,5] false false ">" (xKeep (xAny (.eqs true [0,0,0,2] (.tmp 20) (.tmp 24)))) [":","9"]))]))) (cC ">" (cT [(sM "!" false)] (cE
 .ret)) (cE .normal)))) (cN (sL [(sM "3" "$"),(sX "4" (xBin .add "3" (1:Int))),(sM "$" "4")]))))
def r74:CE:=(cT [(sM "!" false)] (cS (cT [(sM "*" o),(sX "+" (xLen "*")),(sM "&" o.l),(sX "," (xLen "&")),(sX "." (xBin .neq "+" ","))] (cC "." (cT [(sM "!" false)] (cE .ret)) (cE .normal))) (cS (cT [(sM "$" (0:Int))] (cB 0 (cL 1000000 l74_1))) (cT [(sM "!" true)] (cE .ret)))))
def e74:FE:=⟨r74,[(4,none)],26⟩
def l75_1:CE:=(cT [(sX "%" (xBin .lss "(" "."))] (cS (cC "%" (cE .normal) (cE (.exit 0))) (cS (cB 1 (cT [(sM ")" "("),(sX "2" (xIa 1 "," "(")),(sX "3" (xLd none "2")),(sM "$" ")"),(sM "*" "3")] (cS (cT [(sM "4" "$"),(sM "0" o.l),(sX "8" (xLen "0")),(sX ";" (xBin .geq "4" "8"))] (cC ";" (cT [(sM
 "!" (1:Int))] (cE .ret)) (cE .normal))) (cT [(sM ":" o.l),(sM "1" "$"),(sX "5" (xIa 1 ":" "1")),(sX "7" (xLd none "5")),(sM "+" "7")] (cT [(sM "9" "*"),(sM ">" "+"),(sCall 141 ["9",">"] "?"),(sM "&" "?")] (cT [(sM "<" "&"),(sX "@" (xBin .neq "<" (.c (.v (.int .i64
 0)))))] (cC "@" (cT [(sM "=" "&"),(sM "!" "=")] (cE .ret)) (cE .normal)))))))) (cN (sL [(sX "E" (xBin .add "(" (1:Int))),(sM "(" "E")])))))
def r75:CE:=(cT [(sM "!" (0:Int))] (cS (cT [(sM "," o),(sX "." (xLen ",")),(sM "(" (0:Int))] (cB 0 (cL 1000000 l75_1))) (cS (cT [(sM "B" o),(sX "A" (xLen "B")),(sM "C" o.l),(sX "D" (xLen "C")),(sX "F" (xBin .lss "A" "D"))] (cC "F" (cT [(sM "!" ((-1):Int))]
 (cE .ret)) (cE .normal))) (cT [(sM "!" (0:Int))] (cE .ret)))))
def e75:FE:=⟨r75,[(4,none)],36⟩
def l83_1:CE:=(cT [(sX "8" (xBin .lss "0" "4"))] (cS (cC "8" (cE .normal) (cE (.exit 0))) (cS (cB 1 (cT [(sM ";" "0"),(sX ":" (xIa 1 "3" "0")),(sX "1" (xLd none ":")),(sM "6" ";"),(sM "!" "1")] (cT [(sM "5" "!"),(sX "7" (xBin .geq "5" (.c (.v (.int .u8 97))))),(sM "9" "7"),(sG "9"
 true ">" (sM ">" "!")),(sG "9" true "?" (sX "?" (xBin .leq ">" (.c (.v (.int .u8 122)))))),(sX "<" (xPick "9" "?" false)),(sM "$" "<")] (cT [(sM "@" "$"),(sX "=" (xUn .not "@")),(sM "E" "="),(sG "E" true "B" (sM "B" "6")),(sG "E" true "A" (sX "A"
 (xBin .eql "B" (0:Int)))),(sG "E" true "C" (sM "C" "A")),(sG "C" false "D" (sM "D" "!")),(sG "C" false "F" (sX "F" (xBin .neq "D" (.c (.v (.int .u8 95)))))),(sG "C" false "I" (sM "I" "F")),(sG "I" true "J" (sM "J" "!")),(sG "I"
 true "H" (sX "H" (xBin .lss "J" (.c (.v (.int .u8 48)))))),(sG "I" true "G" (sM "G" "H")),(sG "G" false "K" (sM "K" "!")),(sG "G" false "M" (sX "M" (xBin .gtr "K" (.c (.v (.int .u8 57)))))),(sG "I" true "L" (sX "L" (xPick "G" true "M"))),(sG
 "C" false "N" (sX "N" (xPick "I" "L" false))),(sG "E" true "O" (sX "O" (xPick "C" true "N"))),(sX "P" (xPick "E" "O" false))] (cC "P" (cT [(sM o.r false)] (cE .ret)) (cE .normal)))))) (cN (sL [(sX "R" (xBin .add "0"
 (1:Int))),(sM "0" "R")])))))
def r83:CE:=(cT [(sM o.r false)] (cS (cT [(sM "*" o),(sU "+" (xAny (.lns (.tmp 6)))),(sX "&" (xBin .lss "+" (1:Int))),(sM "," "&"),(sG "," false "." (sM "." o)),(sG "," false "(" (sU "(" (xAny (.lns (.tmp 10))))),(sG "," false "%" (sX "%" (xBin .gtr "(" (12:Int)))),(sX ")" (xPick ","
 true "%"))] (cC ")" (cT [(sM o.r false)] (cE .ret)) (cE .normal))) (cS (cT [(sM "2" o),(sU "3" (xAny (.s2b (.tmp 14)))),(sX "4" (xLen "3")),(sM "0" (0:Int))] (cB 0 (cL 1000000 l83_1))) (cT [(sM o.r true)] (cE .ret)))))
def e83:FE:=⟨r83,[(2,none)],47⟩
def r120:CE:=(cT [(sM o.r false)] (cT [(sM "6" o),(sU "!" (xAny (.lns (.tmp 3)))),(sX "$" (xBin .leq "!" (40:Int))),(sM o.r "$")] (cE .ret)))
def e120:FE:=⟨r120,[(2,none)],6⟩
def B67:CE:=(cT [(sX "<" (xBin .lss "?" ">"))] (cS (cC "<" (cE .normal) (cE (.exit 0))) (cS (cB 1 (cT [(sX "@" (xIa 2 "9" "?")),(sX "=" (xLd (some 2) "@")),(sU "&" (xAl 131 [.v (.string (bs [])),.v (.int .i64 0)])),(sU none (xSt 2 "&" "="))] (cS (cT [(sX "E" (xFa 0 "&")),(sX "B" (xLd none "E")),(sCall 83 ["B"]
 "A"),(sX "C" (xUn .not "A")),(sM "D" "C"),(sG "D" false "F" (sM "F" "$")),(sG "D" false "I" (sX "I" (xFa 0 "&"))),(sG "D" false "J" (sX "J" (xLd none "I"))),(sG "D" false "H" (sU "H" (xAny (.lkp (.p .string) (.bool false) (.tmp 35) (.tmp 37) false)))),(sX
 "G" (xPick "D" true "H"))] (cC "G" (cT [(sM "!" (11:Int))] (cE .ret)) (cE .normal))) (cS (cT [(sX "K" (xFa 1 "&")),(sX "M" (xLd none "K")),(sX "L" (xBin .lss "M" (1:Int))),(sM "N" "L"),(sG "N" false "O" (sX "O" (xFa 1 "&"))),(sG "N"
 false "P" (sX "P" (xLd none "O"))),(sG "N" false "R" (sX "R" (xBin .gtr "P" (4:Int)))),(sX "S" (xPick "N" true "R"))] (cC "S" (cT [(sM "!" (12:Int))] (cE .ret)) (cE .normal))) (cN (sL [(sM "W" "$"),(sX "U" (xFa 0 "&")),(sX "T" (xLd
 none "U")),(sU none (xAny (.mup (.p .string) (.tmp 48) (.tmp 50) (.const (.bool true)))))])))))) (cN (sL [(sX "X" (xBin .add "?" (1:Int))),(sM "?" "X")])))))
def r121:CE:=(cT [(sM "!" (0:Int))] (cT [(sU "," (xAny (.mkm))),(sM "$" ",")] (cS (cT [(sM "." o),(sM "(" "$"),(sCall 156 [".","("] "%"),(sM "*" "%")] (cT [(sM ")" "*"),(sX "2" (xBin .neq ")" (0:Int)))] (cC "2" (cT [(sM "3" "*"),(sM "!" "3")] (cE .ret)) (cE .normal)))) (cS (cT [(sM "4" o.l),(sX
 "0" (xLen "4")),(sX "8" (xBin .lss "0" (1:Int))),(sM ";" "8"),(sG ";" false ":" (sM ":" o.l)),(sG ";" false "1" (sX "1" (xLen ":"))),(sG ";" false "5" (sX "5" (xBin .gtr "1" (6:Int)))),(sX "7" (xPick ";" true "5"))] (cC "7" (cT
 [(sM "!" (9:Int))] (cE .ret)) (cE .normal))) (cS (cT [(sM "9" o.l),(sX ">" (xLen "9")),(sM "?" (0:Int))] (cB 0 (cL 1000000 B67))) (cT [(sM "!" (0:Int))] (cE .ret)))))))
def e121:FE:=⟨r121,[(4,none)],52⟩
def B68:CE:=(cT [(sX "A" (xBin .lss "B" "E"))] (cS (cC "A" (cE .normal) (cE (.exit 0))) (cS (cB 1 (cT [(sM "C" "B"),(sX "D" (xIa 4 "=" "B")),(sX "F" (xLd (some 4) "D")),(sU "&" (xAl 41 [.v (.int .i64 0),.v (.int .i64 0),.v (.int .i64 0),.v (.string (bs []))])),(sM "+" "C"),(sU none (xSt 4 "&" "F"))]
 (cS (cN (regE 8 (dL [(dY [] ["&"] 0 "I" (xLd (some 4) "&")),(dP [] 1 "J" o.l),(dP [] 2 "H" "+"),(dX [1,2] ["J","H"] 3 "G" (xIa 2 "J" "H")),(dX [3,1,2] ["G"] 4 "K" (xFa 1 "G")),(dY [4,3,1,2] ["K"] 5 "M" (xLd none "K")),(dChk [0,5,4,3,1,2] ["I","M"] (dMain 6 [0,5,4,3,1,2]
 (sCall 123 ["I","M"] "L"))),(dX [6,0,5,4,3,1,2] ["L"] 7 "N" (xUn .not "L"))]))) (cC "N" (cT [(sM "*" (12:Int))] (cE .ret)) (cE .normal))))) (cN (sL [(sX "O" (xBin .add "B" (1:Int))),(sM "B" "O")])))))
def r122:CE:=(cT [(sU "$" (xBx 39 o.r)),(sM "*" (0:Int))] (cS (cT [(sX "," (xFa 0 "$")),(sX "." (xLd none ",")),(sX "(" (xLen ".")),(sM "%" o),(sX ")" (xLen "%")),(sX "2" (xBin .neq "(" ")")),(sM "3" "2"),(sG "3" false "4" (sX "4" (xFa 1 "$"))),(sG "3" false "0" (sX "0" (xLd none "4"))),(sG
 "3" false "8" (sX "8" (xLen "0"))),(sG "3" false ";" (sM ";" o.l)),(sG "3" false ":" (sX ":" (xLen ";"))),(sG "3" false "1" (sX "1" (xBin .neq "8" ":"))),(sX "5" (xPick "3" true "1"))] (cC "5" (cT [(sM "*" (13:Int))] (cE .ret)) (cE .normal))) (cS
 (cT [(sM "7" o),(sX "9" (xFa 0 "$")),(sX ">" (xLd none "9")),(sCall 157 ["7",">"] "?"),(sX "<" (xUn .not "?"))] (cC "<" (cT [(sM "*" (3:Int))] (cE .ret)) (cE .normal))) (cS (cT [(sX "@" (xFa 1 "$")),(sX "=" (xLd none "@")),(sX "E" (xLen "=")),(sM "B" (0:Int))] (cB 0
 (cL 1000000 B68))) (cT [(sM "*" (0:Int))] (cE .ret))))))
def e122:FE:=⟨r122,[(6,none)],45⟩
def r123:CE:=(cT [(sU o.r (xBx 41 o)),(sM "!" false)] (cS (cT [(sX "$" (xLd (some 4) o.r)),(sCall 158 ["$"] "*"),(sX "+" (xUn .not "*")),(sM "&" "+"),(sG "&" false "," (sM "," o.l)),(sG "&" false "." (sX "." (xBin .lss "," (1:Int)))),(sX "(" (xPick "&" true ".")),(sM "%" "("),(sG
 "%" false ")" (sM ")" o.l)),(sG "%" false "2" (sX "2" (xBin .gtr ")" (4:Int)))),(sX "3" (xPick "%" true "2"))] (cC "3" (cT [(sM "!" false)] (cE .ret)) (cE .normal))) (cS (cT [(sX "4" (xFa 0 o.r)),(sX "0" (xLd none "4"))] (cB 0 (cT [(sX ";" (xBin .eql "0" (.c (.v (.int .i64
 1))))),(sM "8" ";")] (cC "8" (cT [(sM ":" o.l),(sX "1" (xBin .eql ":" (1:Int))),(sM "!" "1")] (cE .ret)) (cT [(sX "7" (xBin .eql "0" (2:Int))),(sM "5" "7")] (cC "5" (cT [(sM "9" o.l),(sX ">" (xBin .eql "9" (3:Int))),(sM "?" ">"),(sG "?" false "<"
 (sM "<" o.l)),(sG "?" false "@" (sX "@" (xBin .eql "<" (2:Int)))),(sG "?" false "=" (sM "=" "@")),(sG "=" true "E" (sX "E" (xFa 2 o.r))),(sG "=" true "B" (sX "B" (xLd none "E"))),(sG "=" true "A" (sX "A" (xBin .eql "B" (1:Int)))),(sG "?"
 false "C" (sX "C" (xPick "=" "A" false))),(sX "D" (xPick "?" true "C")),(sM "!" "D")] (cE .ret)) (cT [(sX "I" (xBin .eql "0" (3:Int))),(sM "F" "I")] (cC "F" (cT [(sM "J" o.l),(sX "H" (xBin .eql "J" (4:Int))),(sM
 "!" "H")] (cE .ret)) (cE .normal))))))))) (cT [(sM "!" true)] (cE .ret)))))
def e123:FE:=⟨r123,[(4,none)],39⟩
def B69:CE:=(cS (cT [(sM ":" "*"),(sM "1" o.l),(sX "5" (xLen "1")),(sX "7" (xBin .lss ":" "5"))] (cC "7" (cE .normal) (cE (.exit 0)))) (cS (cB 1 (cS (cT [(sM "?" o.l),(sM "<" "*"),(sX "@" (xIa 2 "?" "<")),(sX "=" (xFa 0 "@")),(sX "E" (xLd none "=")),(sCall 151 ["E"] "B"),(sX "A"
 (xUn .not "B")),(sM "C" "A"),(sG "C" false "D" (sM "D" o)),(sG "C" false "F" (sM "F" o.l)),(sG "C" false "I" (sM "I" "*")),(sG "C" false "J" (sM "J" o.l)),(sG "C" false "H" (sM "H" "*")),(sG "C" false "G" (sX "G" (xIa 2 "J"
 "H"))),(sG "C" false "K" (sX "K" (xFa 0 "G"))),(sG "C" false "M" (sX "M" (xLd none "K"))),(sG "C" false "L" (sCall 168 ["D","F","I","M"] "L")),(sX "N" (xPick "C" true "L"))] (cC "N" (cT [(sM "!" (11:Int))]
 (cE .ret)) (cE .normal))) (cT [(sM "O" o.l),(sM "P" "*"),(sX "R" (xIa 2 "O" "P")),(sX "S" (xFa 1 "R")),(sX "W" (xLd none "S")),(sX "U" (xBin .lss "W" (1:Int))),(sM "T" "U"),(sG "T" false "X" (sM "X" o.l)),(sG "T" false "V" (sM "V" "*")),(sG
 "T" false "Q" (sX "Q" (xIa 2 "X" "V"))),(sG "T" false "Y" (sX "Y" (xFa 1 "Q"))),(sG "T" false "]" (sX "]" (xLd none "Y"))),(sG "T" false "_" (sX "_" (xBin .gtr "]" (4:Int)))),(sX "^" (xPick "T" true "_"))] (cC
 "^" (cT [(sM "!" (12:Int))] (cE .ret)) (cE .normal))))) (cN (sL [(sM "9" "*"),(sX ">" (xBin .add "9" (1:Int))),(sM "*" ">")]))))
def r132:CE:=(cT [(sM "!" (0:Int))] (cT [(sM "+" o),(sCall 167 ["+"] "&"),(sM "$" "&")] (cS (cT [(sM "," "$"),(sX "." (xBin .neq "," (0:Int)))] (cC "." (cT [(sM "(" "$"),(sM "!" "(")] (cE .ret)) (cE .normal))) (cS (cT [(sM "%" o.l),(sX ")" (xLen "%")),(sX "2" (xBin .lss ")" (1:Int))),(sM
 "3" "2"),(sG "3" false "4" (sM "4" o.l)),(sG "3" false "0" (sX "0" (xLen "4"))),(sG "3" false "8" (sX "8" (xBin .gtr "0" (6:Int)))),(sX ";" (xPick "3" true "8"))] (cC ";" (cT [(sM "!" (9:Int))] (cE .ret)) (cE .normal))) (cS (cT [(sM "*" (.c (.v (.int
 .i64 0))))] (cB 0 (cL 1000000 B69))) (cT [(sM "!" (0:Int))] (cE .ret)))))))
def e132:FE:=⟨r132,[(4,none)],58⟩
def B70:CE:=(cS (cT [(sM "<" "+"),(sM "@" o.l),(sX "=" (xLen "@")),(sX "E" (xBin .lss "<" "="))] (cC "E" (cE .normal) (cE (.exit 0)))) (cS (cB 1 (cS (cN (regE 12 (dL [(dX [] ["$"] 0 "C" (xFa 1 "$")),(dY [0] ["C"] 1 "D" (xLd none "C")),(dP [] 2 "F" "+"),(dX [1,2,0] ["D","F"] 3 "I"
 (xIa 4 "D" "F")),(dY [3,1,2,0] ["I"] 4 "J" (xLd (some 4) "I")),(dP [] 5 "H" o.l),(dP [] 6 "G" "+"),(dX [5,6] ["H","G"] 7 "K" (xIa 2 "H" "G")),(dX [7,5,6] ["K"] 8 "M" (xFa 1 "K")),(dY [8,7,5,6] ["M"] 9 "L" (xLd none "M")),(dChk [4,9,3,1,2,0,8,7,5,6] ["J","L"]
 (dMain 10 [4,9,3,1,2,0,8,7,5,6] (sCall 170 ["J","L"] "N"))),(dX [10,4,9,3,1,2,0,8,7,5,6] ["N"] 11 "O" (xUn .not "N"))]))) (cC "O" (cT [(sM "*" (12:Int))] (cE .ret)) (cE .normal)))) (cN (sL [(sM "B" "+"),(sX "A" (xBin .add "B" (1:Int))),(sM "+" "A")]))))
def r133:CE:=(cT [(sU "$" (xBx 39 o.r)),(sM "*" (0:Int))] (cS (cT [(sX "&" (xFa 0 "$")),(sX "," (xLd none "&")),(sX "." (xLen ",")),(sM "(" o),(sX "%" (xLen "(")),(sX ")" (xBin .neq "." "%")),(sM "2" ")"),(sG "2" false "3" (sX "3" (xFa 1 "$"))),(sG "2" false "4" (sX "4" (xLd none "3"))),(sG
 "2" false "0" (sX "0" (xLen "4"))),(sG "2" false "8" (sM "8" o.l)),(sG "2" false ";" (sX ";" (xLen "8"))),(sG "2" false ":" (sX ":" (xBin .neq "0" ";"))),(sX "1" (xPick "2" true ":"))] (cC "1" (cT [(sM "*" (13:Int))] (cE .ret)) (cE .normal))) (cS (cT [(sM
 "5" o),(sX "7" (xFa 0 "$")),(sX "9" (xLd none "7")),(sCall 169 ["5","9"] ">"),(sX "?" (xUn .not ">"))] (cC "?" (cT [(sM "*" (3:Int))] (cE .ret)) (cE .normal))) (cS (cT [(sM "+" (0:Int))] (cB 0 (cL 1000000 B70))) (cT [(sM "*" (0:Int))] (cE .ret))))))
def e133:FE:=⟨r133,[(6,none)],45⟩
def B71:CE:=(cS (cT [(sM "*" "$"),(sM "+" o),(sX "&" (xLen "+")),(sX "," (xBin .lss "*" "&")),(sM "." ","),(sG "." true "(" (sM "(" "$")),(sG "." true "%" (sM "%" o.l)),(sG "." true ")" (sX ")" (xLen "%"))),(sG "." true "2" (sX "2" (xBin .lss "(" ")"))),(sX "3" (xPick "." "2" (.c (.v (.bool
 false)))))] (cC "3" (cE .normal) (cE (.exit 0)))) (cS (cB 1 (cS (cS (cN (regE 9 (dL [(dP [] 0 "8" o),(dP [] 1 ";" "$"),(dX [0,1] ["8",";"] 2 ":" (xIa 1 "8" ";")),(dY [2,0,1] [":"] 3 "1" (xLd none ":")),(dP [] 4 "5" o.l),(dP [] 5 "7" "$"),(dX [4,5] ["5","7"] 6 "9" (xIa 1 "5" "7")),(dY [6,4,5]
 ["9"] 7 ">" (xLd none "9")),(dX [3,7,2,0,1,6,4,5] ["1",">"] 8 "?" (xBin .lss "1" ">"))]))) (cC "?" (cT [(sM "!" ((-1):Int))] (cE .ret)) (cE .normal))) (cS (cN (regE 9 (dL [(dP [] 0 "<" o),(dP [] 1 "@" "$"),(dX [0,1] ["<","@"] 2 "=" (xIa 1 "<" "@")),(dY [2,0,1] ["="] 3 "E" (xLd
 none "=")),(dP [] 4 "B" o.l),(dP [] 5 "A" "$"),(dX [4,5] ["B","A"] 6 "C" (xIa 1 "B" "A")),(dY [6,4,5] ["C"] 7 "D" (xLd none "C")),(dX [3,7,2,0,1,6,4,5] ["E","D"] 8 "F" (xBin .gtr "E" "D"))]))) (cC "F" (cT [(sM "!" (1:Int))] (cE .ret)) (cE .normal)))))
 (cN (sL [(sM "4" "$"),(sX "0" (xBin .add "4" (1:Int))),(sM "$" "0")]))))
def r134:CE:=(cT [(sM "!" (0:Int))] (cS (cT [(sM "$" (0:Int))] (cB 0 (cL 1000000 B71))) (cS (cT [(sM "I" o),(sX "J" (xLen "I")),(sM "H" o.l),(sX "G" (xLen "H")),(sX "K" (xBin .lss "J" "G"))] (cC "K" (cT [(sM "!" ((-1):Int))] (cE .ret)) (cE .normal))) (cS (cT [(sM "M"
 o),(sX "L" (xLen "M")),(sM "N" o.l),(sX "O" (xLen "N")),(sX "P" (xBin .gtr "L" "O"))] (cC "P" (cT [(sM "!" (1:Int))] (cE .ret)) (cE .normal))) (cT [(sM "!" (0:Int))] (cE .ret))))))
def e134:FE:=⟨r134,[(4,none)],46⟩
def r136:CE:=(cT [(sM "!" (0:Int))] (cT [(sM "*" o),(sM "+" o.l),(sCall 171 ["*","+"] "&"),(sM "$" "&")] (cS (cT [(sM "," "$"),(sM "." o),(sX "(" (xLen ".")),(sX "%" (xBin .lss "," "(")),(sM ")" "%"),(sG ")" true "2" (sM "2" o)),(sG ")" true "3" (sM "3" "$")),(sG ")" true "4" (sX "4"
 (xIa 2 "2" "3"))),(sG ")" true "0" (sX "0" (xFa 0 "4"))),(sG ")" true "8" (sX "8" (xLd none "0"))),(sG ")" true ";" (sM ";" o.l)),(sG ")" true ":" (sCall 134 ["8",";"] ":")),(sG ")" true "1" (sX "1" (xBin .eql ":" (0:Int)))),(sX "5" (xPick ")" "1" (.c
 (.v (.bool false)))))] (cC "5" (cT [(sM "7" "$"),(sM "!" "7")] (cE .ret)) (cE .normal))) (cT [(sM "!" ((-1):Int))] (cE .ret)))))
def e136:FE:=⟨r136,[(4,none)],24⟩
def r141:CE:=(cT [(sM "!" (0:Int))] (cT [(sM "+" o),(sCall 173 ["+"] "&"),(sM "$" "&")] (cT [(sM "," o.l),(sCall 173 [","] "."),(sM "*" ".")] (cS (cT [(sM "(" "$")] (cC "(" (cS (cT [(sM "%" "*")] (cC "%" (cT [(sM "!" (0:Int))] (cE .ret)) (cE .normal))) (cT [(sM "!" ((-1):Int))] (cE .ret))) (cE
 .normal))) (cS (cT [(sM ")" "*")] (cC ")" (cT [(sM "!" (1:Int))] (cE .ret)) (cE .normal))) (cS (cT [(sM "2" o),(sM "3" o.l),(sX "4" (xBin .lss "2" "3"))] (cC "4" (cT [(sM "!" ((-1):Int))] (cE .ret)) (cE .normal))) (cS (cT [(sM "0" o),(sM "8" o.l),(sX ";" (xBin .gtr "0" "8"))] (cC ";" (cT
 [(sM "!" (1:Int))] (cE .ret)) (cE .normal))) (cT [(sM "!" (0:Int))] (cE .ret)))))))))
def e141:FE:=⟨r141,[(4,none)],20⟩
def r142:CE:=(cT [(sM o.r (.c (.v (.slice none 0 0))))] (cS (cT [(sM "6" o),(sU "!" (xAny (.nilq 0 false (.tmp 3) (.const (.slice none 0 0)))))] (cC "!" (cT [(sM o.r (.c (.v (.slice none 0 0))))] (cE .ret)) (cE .normal))) (cT [(sU "$" (xAny (.bsl 41 0 4 [.int .i64 0,.int .i64 0,.int .i64 0,.string (bs [])] []))),(sM "*" o),(sU "+" (xAny (.app 41 4 40 (.tmp 5) (.tmp 6)))),(sM o.r "+")]
 (cE .ret))))
def e142:FE:=⟨r142,[(2,none)],8⟩
def B72:CE:=(cS (cT [(sM "8" "6"),(sM ";" o),(sU ":" (xAny (.lns (.tmp 19)))),(sX "1" (xBin .lss "8" ":"))] (cC "1" (cE .normal) (cE (.exit 0)))) (cS (cB 1 (cT [(sM "9" o),(sM ">" "6"),(sU "?" (xAny (.ixs (.tmp 24) (.tmp 25)))),(sCall 178 ["?"] "<"),(sX "@" (xUn .not "<"))] (cC "@" (cT [(sM o.r (.c (.v (.bool
 false))))] (cE .ret)) (cE .normal)))) (cN (sL [(sM "5" "6"),(sX "7" (xBin .add "5" (1:Int))),(sM "6" "7")]))))
def r151:CE:=(cT [(sM o.r false)] (cS (cT [(sM "!" o),(sU "$" (xAny (.lns (.tmp 4)))),(sX "*" (xBin .lss "$" (1:Int))),(sM "+" "*"),(sG "+" false "&" (sM "&" o)),(sG "+" false "," (sU "," (xAny (.lns (.tmp 8))))),(sG "+" false "." (sX "." (xBin .gtr "," (12:Int)))),(sX "(" (xPick "+" (.c (.v
 (.bool true))) ".")),(sM "%" "("),(sG "%" false ")" (sM ")" o)),(sG "%" false "2" (sU "2" (xAny (.ixs (.tmp 13) (.const (.int .i64 0)))))),(sG "%" false "3" (sCall 177 ["2"] "3")),(sG "%" false "4" (sX "4" (xUn .not "3"))),(sX "0" (xPick "%" true "4"))] (cC "0" (cT [(sM o.r (.c (.v (.bool
 false))))] (cE .ret)) (cE .normal))) (cS (cT [(sM "6" (0:Int))] (cB 0 (cL 1000000 B72))) (cT [(sM o.r true)] (cE .ret)))))
def e151:FE:=⟨r151,[(2,none)],29⟩
def B73:CE:=(cT [(sX "8" (xBin .lss "0" "4"))] (cS (cC "8" (cE .normal) (cE (.exit 0))) (cS (cB 1 (cT [(sX ";" (xIa 3 "3" "0")),(sX ":" (xLd (some 3) ";")),(sU "*" (xAl 129 [.v (.string (bs [])),.v (.int .i64 0),.v (.int .i64 0)])),(sU none (xSt 3 "*" ":"))] (cS (cT [(sX "1" (xFa 0 "*")),(sX "5" (xLd none "1")),(sCall
 83 ["5"] "7"),(sX "9" (xUn .not "7")),(sM ">" "9"),(sG ">" false "?" (sM "?" o.l)),(sG ">" false "<" (sX "<" (xFa 0 "*"))),(sG ">" false "@" (sX "@" (xLd none "<"))),(sG ">" false "=" (sU "=" (xAny (.lkp (.p .string) (.bool false) (.tmp 26) (.tmp 28) false)))),(sX "E" (xPick ">"
 true "="))] (cC "E" (cT [(sM "!" (11:Int))] (cE .ret)) (cE .normal))) (cS (cT [(sX "B" (xFa 1 "*")),(sX "A" (xLd none "B")),(sX "C" (xBin .lss "A" ((-1073741824):Int))),(sM "D" "C"),(sG "D" false "F" (sX "F" (xFa 1 "*"))),(sG "D" false "I"
 (sX "I" (xLd none "F"))),(sG "D" false "J" (sX "J" (xBin .gtr "I" (1073741824:Int)))),(sX "H" (xPick "D" true "J")),(sM "G" "H"),(sG "G" false "K" (sX "K" (xFa 2 "*"))),(sG "G" false "M" (sX "M" (xLd none "K"))),(sG "G"
 false "L" (sX "L" (xFa 1 "*"))),(sG "G" false "N" (sX "N" (xLd none "L"))),(sG "G" false "O" (sX "O" (xBin .lss "M" "N"))),(sX "P" (xPick "G" true "O")),(sM "R" "P"),(sG "R" false "S" (sX "S" (xFa 2 "*"))),(sG "R" false
 "W" (sX "W" (xLd none "S"))),(sG "R" false "U" (sX "U" (xBin .gtr "W" (1073741825:Int)))),(sX "T" (xPick "R" true "U"))] (cC "T" (cT [(sM "!" (3:Int))] (cE .ret)) (cE .normal))) (cN (sL [(sM "X" o.l),(sX "V" (xFa 0 "*")),(sX "Q" (xLd none
 "V")),(sU none (xAny (.mup (.p .string) (.tmp 51) (.tmp 53) (.const (.bool true)))))])))))) (cN (sL [(sX "Y" (xBin .add "0" (1:Int))),(sM "0" "Y")])))))
def r156:CE:=(cT [(sM "!" (0:Int))] (cS (cT [(sM "+" o),(sX "&" (xLen "+")),(sX "," (xBin .lss "&" (1:Int))),(sM "." ","),(sG "." false "(" (sM "(" o)),(sG "." false "%" (sX "%" (xLen "("))),(sG "." false ")" (sX ")" (xBin .gtr "%" (4:Int)))),(sX "2" (xPick "." (.c (.v (.bool
 true))) ")"))] (cC "2" (cT [(sM "!" (13:Int))] (cE .ret)) (cE .normal))) (cS (cT [(sM "3" o),(sX "4" (xLen "3")),(sM "0" (0:Int))] (cB 0 (cL 1000000 B73))) (cT [(sM "!" (0:Int))] (cE .ret)))))
def e156:FE:=⟨r156,[(4,none)],55⟩
def B74:CE:=(cT [(sX "3" (xBin .lss "2" ")"))] (cS (cC "3" (cE .normal) (cE (.exit 0))) (cS (cB 1 (cT [(sM "4" "2"),(sX "0" (xIa 1 "%" "2")),(sX "8" (xLd none "0")),(sM "$" "4"),(sM "*" "8")] (cT [(sM ";" "*"),(sM ":" o),(sM "1" "$"),(sX "5" (xIa 3 ":" "1")),(sX "7" (xFa 1 "5")),(sX
 "9" (xLd none "7")),(sX ">" (xBin .lss ";" "9")),(sM "?" ">"),(sG "?" false "<" (sM "<" "*")),(sG "?" false "@" (sM "@" o)),(sG "?" false "=" (sM "=" "$")),(sG "?" false "E" (sX "E" (xIa 3 "@" "="))),(sG "?" false "B" (sX "B" (xLd (some 3) "E"))),(sG
 "?" false "A" (sCall 180 ["B"] "A")),(sG "?" false "C" (sX "C" (xBin .gtr "<" "A"))),(sX "D" (xPick "?" true "C"))] (cC "D" (cT [(sM "!" false)] (cE .ret)) (cE .normal))))) (cN (sL [(sX "F" (xBin .add "2" (1:Int))),(sM "2" "F")])))))
def r157:CE:=(cT [(sM "!" false)] (cS (cT [(sM "+" o.l),(sX "&" (xLen "+")),(sM "," o),(sX "." (xLen ",")),(sX "(" (xBin .neq "&" "."))] (cC "(" (cT [(sM "!" false)] (cE .ret)) (cE .normal))) (cS (cT [(sM "%" o.l),(sX ")" (xLen "%")),(sM "2" (0:Int))] (cB 0 (cL 1000000 B74))) (cT [(sM "!"
 true)] (cE .ret)))))
def e157:FE:=⟨r157,[(4,none)],36⟩
def r158:CE:=(cT [(sU o.l (xBx 41 o)),(sM o.r false)] (cS (cT [(sX "!" (xFa 0 o.l)),(sX "$" (xLd none "!"))] (cB 0 (cT [(sX "+" (xBin .eql "$" (0:Int))),(sM "*" "+")] (cC "*" (cT [(sX "&" (xLd (some 4) o.l)),(sCall 181 ["&"] ","),(sM "." ","),(sG "." true "(" (sX "(" (xFa 1 o.l))),(sG "." true "%" (sX "%"
 (xLd none "("))),(sG "." true ")" (sX ")" (xBin .geq "%" (1:Int)))),(sX "2" (xPick "." ")" false)),(sM "3" "2"),(sG "3" true "4" (sX "4" (xFa 1 o.l))),(sG "3" true "0" (sX "0" (xLd none "4"))),(sG "3" true "8" (sX "8" (xBin .leq "0" (255:Int)))),(sX
 ";" (xPick "3" "8" false)),(sM o.r ";")] (cE .ret)) (cT [(sX "1" (xBin .eql "$" (1:Int))),(sM ":" "1")] (cC ":" (cT [(sX "5" (xLd (some 4) o.l)),(sCall 181 ["5"] "7"),(sM "9" "7"),(sG "9" true ">" (sX ">" (xFa 1 o.l))),(sG "9" true "?" (sX "?" (xLd none
 ">"))),(sG "9" true "<" (sX "<" (xBin .eql "?" (0:Int)))),(sG "9" true "@" (sM "@" "<")),(sG "@" false "=" (sX "=" (xFa 1 o.l))),(sG "@" false "E" (sX "E" (xLd none "="))),(sG "@" false "B" (sX "B" (xBin .eql "E" (1:Int)))),(sG "9" true "A"
 (sX "A" (xPick "@" true "B"))),(sX "C" (xPick "9" "A" false)),(sM o.r "C")] (cE .ret)) (cT [(sX "F" (xBin .eql "$" (2:Int))),(sM "D" "F")] (cC "D" (cT [(sX "I" (xFa 3 o.l)),(sX "J" (xLd none "I")),(sX "H" (xBin .eql "J" (.c
 (.v (.string (bs [])))))),(sM "G" "H"),(sG "G" true "K" (sX "K" (xFa 2 o.l))),(sG "G" true "M" (sX "M" (xLd none "K"))),(sG "G" true "L" (sX "L" (xBin .geq "M" (1:Int)))),(sX "N" (xPick "G" "L" false)),(sM "O" "N"),(sG "O"
 true "P" (sX "P" (xFa 2 o.l))),(sG "O" true "R" (sX "R" (xLd none "P"))),(sG "O" true "S" (sX "S" (xBin .leq "R" (1099511627776:Int)))),(sX "W" (xPick "O" "S" false)),(sM "U" "W"),(sG "U" true "T" (sX "T" (xFa 1 o.l))),(sG "U"
 true "X" (sX "X" (xLd none "T"))),(sG "U" true "V" (sX "V" (xBin .geq "X" ((-1099511627776):Int)))),(sX "Q" (xPick "U" "V" false)),(sM "Y" "Q"),(sG "Y" true "]" (sX "]" (xFa 1 o.l))),(sG "Y" true "_" (sX "_" (xLd none "]"))),(sG
 "Y" true "^" (sX "^" (xBin .leq "_" (1099511627776:Int)))),(sX "Z" (xPick "Y" "^" false)),(sM "[" "Z"),(sG "[" true "b" (sX "b" (xFa 1 o.l))),(sG "[" true "c" (sX "c" (xLd none "b"))),(sG "[" true "a" (sX "a" (xFa 1
 o.l))),(sG "[" true "e" (sX "e" (xLd none "a"))),(sG "[" true "d" (sX "d" (xUn .neg "e"))),(sG "[" true "g" (sU "g" (xAny (.mm true (.tmp 61) (.tmp 64))))),(sG "[" true "i" (sX "i" (xFa 2 o.l))),(sG "[" true "j" (sX "j" (xLd none "i"))),(sG
 "[" true "t" (sCall 182 ["g","j"] "t")),(sG "[" true "n" (sX "n" (xBin .eql "t" (1:Int)))),(sX "x" (xPick "[" "n" false)),(sM o.r "x")] (cE .ret)) (cT [(sX "f" (xBin .eql "$" (3:Int))),(sM "|" "f")]
 (cC "|" (cT [(sM "6" (.c (.fn (.func 183) [.tup []])))] (cT [(sX "k" (xFa 1 o.l)),(sX "o" (xLd none "k")),(sX "p" (xBin .eql "o" (0:Int))),(sM "l" "p"),(sG "l" true "v" (sX "v" (xFa 2 o.l))),(sG "l" true "r" (sX "r" (xLd none "v"))),(sG
 "l" true "s" (sX "s" (xBin .eql "r" (0:Int)))),(sX "w" (xPick "l" "s" false)),(sM "m" "w"),(sG "m" true "aa" (sX "aa" (xFa 3 o.l))),(sG "m" true "h" (sX "h" (xLd none "aa"))),(sG "m" true "z"
 (sU "z" (xAny (.lns (.tmp 83))))),(sG "m" true "~" (sX "~" (xBin .leq "z" (16:Int)))),(sX "ag" (xPick "m" "~" false)),(sM "y" "ag"),(sG "y" true "ad" (sX "ad" (xFa 3 o.l))),(sG "y" true "u" (sX "u" (xLd none "ad"))),(sG
 "y" true "ah" (sM "ah" "6")),(sG "y" true "ae" (sCall 184 ["u","ah"] "ae")),(sG "y" true "ab" (sX "ab" (xBin .lss "ae" (0:Int)))),(sX "ai" (xPick "y" "ab" false)),(sM o.r "ai")] (cE .ret))) (cE .normal))))))))))) (cT
 [(sM o.r false)] (cE .ret))))
def e158:FE:=⟨r158,[(2,none)],94⟩
def r162:CE:=(cT [(sM o.r (.c (.v (.slice none 0 0))))] (cS (cT [(sM "6" o),(sU "!" (xAny (.nilq 0 false (.tmp 3) (.const (.slice none 0 0)))))] (cC "!" (cT [(sM o.r (.c (.v (.slice none 0 0))))] (cE .ret)) (cE .normal))) (cT [(sU "$" (xAny (.bsl 129 0 3 [.string (bs []),.int .i64 0,.int .i64 0] []))),(sM "*" o),(sU "+" (xAny (.app 129 3 32 (.tmp 5) (.tmp 6)))),(sM o.r "+")] (cE .ret))))
def e162:FE:=⟨r162,[(2,none)],8⟩
def r163:CE:=(cT [(sM o.r (.c (.v (.slice none 0 0))))] (cS (cT [(sM "6" o),(sU "!" (xAny (.nilq 0 false (.tmp 3) (.const (.slice none 0 0)))))] (cC "!" (cT [(sM o.r (.c (.v (.slice none 0 0))))] (cE .ret)) (cE .normal))) (cT [(sU "$" (xAny (.bsl 131 0 2 [.string (bs []),.int .i64 0] []))),(sM "*" o),(sU "+" (xAny (.app 131 2 24 (.tmp 5) (.tmp 6)))),(sM o.r "+")] (cE .ret))))
def e163:FE:=⟨r163,[(2,none)],8⟩
def B75:CE:=(cS (cT [(sM "?" "!"),(sM "<" "6"),(sX "@" (xBin .lss "?" "<"))] (cC "@" (cE .normal) (cE (.exit 2)))) (cS (cB 3 (cS (cN (regE 11 (dL [(dP [] 0 "B" o),(dP [] 1 "A" "!"),(dX [0,1] ["B","A"] 2 "C" (xIa 3 "B" "A")),(dX [2,0,1] ["C"] 3 "D" (xFa 0 "C")),(dY [3,2,0,1] ["D"]
 4 "F" (xLd none "D")),(dP [] 5 "I" o),(dP [] 6 "J" "6"),(dX [5,6] ["I","J"] 7 "H" (xIa 3 "I" "J")),(dX [7,5,6] ["H"] 8 "G" (xFa 0 "H")),(dY [8,7,5,6] ["G"] 9 "K" (xLd none "G")),(dX [4,9,3,2,0,1,8,7,5,6] ["F","K"] 10 "M" (xBin .eql "F" "K"))])))
 (cC "M" (cT [(sM o.r (11:Int))] (cE .ret)) (cE .normal)))) (cN (sL [(sM "=" "!"),(sX "E" (xBin .add "=" (1:Int))),(sM "!" "E")]))))
def B76:CE:=(cS (cT [(sM ")" "6"),(sM "2" o),(sX "3" (xLen "2")),(sX "4" (xBin .lss ")" "3"))] (cC "4" (cE .normal) (cE (.exit 0)))) (cS (cB 1 (cS (cT [(sM ";" o),(sM ":" "6"),(sX "1" (xIa 3 ";" ":")),(sX "5" (xFa 0 "1")),(sX "7" (xLd none "5")),(sCall 151 ["7"] "9"),(sX ">" (xUn .not
 "9"))] (cC ">" (cT [(sM o.r (11:Int))] (cE .ret)) (cE .normal))) (cS (cT [(sM "!" (0:Int))] (cB 2 (cL 1000000 B75))) (cT [(sM "L" o),(sM "N" "6"),(sX "O" (xIa 3 "L" "N")),(sX "P" (xLd (some 3) "O")),(sCall 188 ["P"] "R"),(sX "S" (xUn .not "R"))] (cC "S" (cT
 [(sM o.r (3:Int))] (cE .ret)) (cE .normal)))))) (cN (sL [(sM "0" "6"),(sX "8" (xBin .add "0" (1:Int))),(sM "6" "8")]))))
def r167:CE:=(cT [(sM o.r (0:Int))] (cS (cT [(sM "$" o),(sX "*" (xLen "$")),(sX "+" (xBin .lss "*" (1:Int))),(sM "&" "+"),(sG "&" false "," (sM "," o)),(sG "&" false "." (sX "." (xLen ","))),(sG "&" false "(" (sX "(" (xBin .gtr "." (4:Int)))),(sX "%" (xPick "&" true
 "("))] (cC "%" (cT [(sM o.r (13:Int))] (cE .ret)) (cE .normal))) (cS (cT [(sM "6" (0:Int))] (cB 0 (cL 1000000 B76))) (cT [(sM o.r (0:Int))] (cE .ret)))))
def e167:FE:=⟨r167,[(2,none)],48⟩
def B77:CE:=(cS (cT [(sM "(" ","),(sM "%" o),(sX ")" (xLen "%")),(sX "2" (xBin .lss "(" ")"))] (cC "2" (cE .normal) (cE (.exit 0)))) (cS (cB 1 (cT [(sM "0" o),(sM "8" ","),(sX ";" (xIa 3 "0" "8")),(sX ":" (xFa 0 ";")),(sX "1" (xLd none ":")),(sM "5" "6"),(sX "7" (xBin .eql "1" "5"))]
 (cC "7" (cT [(sM "&" true)] (cE .ret)) (cE .normal)))) (cN (sL [(sM "3" ","),(sX "4" (xBin .add "3" (1:Int))),(sM "," "4")]))))
def B78:CE:=(cS (cT [(sM "9" "."),(sM ">" o.r),(sX "?" (xBin .lss "9" ">"))] (cC "?" (cE .normal) (cE (.exit 2)))) (cS (cB 3 (cT [(sM "=" o.l),(sM "E" "."),(sX "B" (xIa 2 "=" "E")),(sX "A" (xFa 0 "B")),(sX "C" (xLd none "A")),(sM "D" "6"),(sX "F" (xBin .eql "C" "D"))]
 (cC "F" (cT [(sM "&" true)] (cE .ret)) (cE .normal)))) (cN (sL [(sM "<" "."),(sX "@" (xBin .add "<" (1:Int))),(sM "." "@")]))))
def r168:CE:=(cT [(sM "&" false)] (cS (cT [(sM "," (0:Int))] (cB 0 (cL 1000000 B77))) (cS (cT [(sM "." (0:Int))] (cB 2 (cL 1000000 B78))) (cT [(sM "&" false)] (cE .ret)))))
def e168:FE:=⟨r168,[(8,none)],36⟩
def B79:CE:=(cS (cT [(sM "(" "$"),(sM "%" o),(sX ")" (xLen "%")),(sX "2" (xBin .lss "(" ")"))] (cC "2" (cE .normal) (cE (.exit 0)))) (cS (cB 1 (cS (cN (regE 22 (dL [(dP [] 0 "0" o.l),(dP [] 1 "8" "$"),(dX [0,1] ["0","8"] 2 ";" (xIa 1 "0" "8")),(dY [2,0,1] [";"] 3 ":" (xLd none ";")),(dP [] 4 "1"
 o),(dP [] 5 "5" "$"),(dX [4,5] ["1","5"] 6 "7" (xIa 3 "1" "5")),(dX [6,4,5] ["7"] 7 "9" (xFa 1 "7")),(dY [7,6,4,5] ["9"] 8 ">" (xLd none "9")),(dX [3,8,2,0,1,7,6,4,5] [":",">"] 9 "?" (xBin .lss ":" ">")),(dP [9,3,8,2,0,1,7,6,4,5] 10 "<" "?"),(dG "<" false "@" (dChk [10,9,3,8,2,0,1,7,6,4,5]
 [o.l] (dRead 11 [10,9,3,8,2,0,1,7,6,4,5] true false "@" o.l [o.l]))),(dG "<" false "=" (dChk [10,9,3,8,2,0,1,7,6,4,5] ["$"] (dRead 12 [10,9,3,8,2,0,1,7,6,4,5] true false "=" ("$":Pa) ["$"]))),(dG "<" false "E" (dChk [11,12,10,9,3,8,2,0,1,7,6,4,5] ["@","="] (dRead 13 [11,12,10,9,3,8,2,0,1,7,6,4,5] true false "E" (fun _ => (xIa 1 "@" "="))
 ["@","="]))),(dG "<" false "B" (dChk [13,10,11,12,9,3,8,2,0,1,7,6,4,5] ["E"] (dRead 14 [13,10,11,12,9,3,8,2,0,1,7,6,4,5] true true "B" (fun _ => (xLd none "E")) ["E"]))),(dG "<" false "A" (dP [10,9,3,8,2,0,1,7,6,4,5] 15 "A" o)),(dG "<" false "C" (dP [10,9,3,8,2,0,1,7,6,4,5] 16 "C" "$")),(dG "<" false
 "D" (dX [15,16,10,9,3,8,2,0,1,7,6,4,5] ["A","C"] 17 "D" (xIa 3 "A" "C"))),(dG "<" false "F" (dY [17,10,15,16,9,3,8,2,0,1,7,6,4,5] ["D"] 18 "F" (xLd (some 3) "D"))),(dG "<" false "I" (dChk [18,10,17,15,16,9,3,8,2,0,1,7,6,4,5] ["F"] (dMain 19 [18,10,17,15,16,9,3,8,2,0,1,7,6,4,5] (sCall 189 ["F"]
 "I")))),(dG "<" false "J" (dX [14,19,10,13,11,12,9,3,8,2,0,1,7,6,4,5,18,17,15,16] ["B","I"] 20 "J" (xBin .gtr "B" "I"))),(dX [10,20,9,3,8,2,0,1,7,6,4,5,14,19,13,11,12,18,17,15,16] ["<","J"] 21 "H" (xPick "<" true "J"))]))) (cC "H" (cT [(sM "!" false)] (cE .ret))
 (cE .normal)))) (cN (sL [(sM "3" "$"),(sX "4" (xBin .add "3" (1:Int))),(sM "$" "4")]))))
def r169:CE:=(cT [(sM "!" false)] (cS (cT [(sM "*" o.l),(sX "+" (xLen "*")),(sM "&" o),(sX "," (xLen "&")),(sX "." (xBin .neq "+" ","))] (cC "." (cT [(sM "!" false)] (cE .ret)) (cE .normal))) (cS (cT [(sM "$" (0:Int))] (cB 0 (cL 1000000 B79))) (cT [(sM "!" true)] (cE .ret)))))
def e169:FE:=⟨r169,[(4,none)],39⟩
def r170:CE:=(cT [(sU o.r (xBx 41 o)),(sM "!" false)] (cS (cT [(sX "$" (xLd (some 4) o.r)),(sCall 190 ["$"] "*"),(sX "+" (xBin .neq "*" (0:Int))),(sM "&" "+"),(sG "&" false "," (sM "," o.l)),(sG "&" false "." (sX "." (xBin .lss "," (1:Int)))),(sX "(" (xPick "&" true ".")),(sM
 "%" "("),(sG "%" false ")" (sM ")" o.l)),(sG "%" false "2" (sX "2" (xBin .gtr ")" (4:Int)))),(sX "3" (xPick "%" true "2"))] (cC "3" (cT [(sM "!" false)] (cE .ret)) (cE .normal))) (cS (cT [(sX "4" (xFa 0 o.r)),(sX "0" (xLd none "4"))] (cB 0 (cT [(sX ";" (xBin .eql "0"
 (0:Int))),(sM "8" ";")] (cC "8" (cT [(sM "!" true)] (cE .ret)) (cT [(sX "1" (xBin .eql "0" (1:Int))),(sM ":" "1")] (cC ":" (cT [(sM "5" o.l),(sX "7" (xBin .eql "5" (1:Int))),(sM "!" "7")] (cE .ret)) (cT [(sX ">" (xBin .eql "0" (2:Int))),(sM
 "9" ">")] (cC "9" (cT [(sM "?" o.l),(sX "<" (xBin .eql "?" (3:Int))),(sM "@" "<"),(sG "@" false "=" (sM "=" o.l)),(sG "@" false "E" (sX "E" (xBin .eql "=" (2:Int)))),(sG "@" false "B" (sM "B" "E")),(sG "B" true "A" (sX "A" (xFa
 2 o.r))),(sG "B" true "C" (sX "C" (xLd none "A"))),(sG "B" true "D" (sX "D" (xBin .eql "C" (1:Int)))),(sG "@" false "F" (sX "F" (xPick "B" "D" false))),(sX "I" (xPick "@" true "F")),(sM "!" "I")] (cE .ret)) (cE .normal)))))))))
 (cT [(sM "J" o.l),(sX "H" (xBin .eql "J" (4:Int))),(sM "!" "H")] (cE .ret)))))
def e170:FE:=⟨r170,[(4,none)],39⟩
def B80:CE:=(cS (cT [(sM "." "$"),(sM "(" "*"),(sX "%" (xBin .lss "." "("))] (cC "%" (cE .normal) (cE (.exit 0)))) (cB 1 (cT [(sM ")" "$"),(sM "2" "*"),(sX "3" (xBin .add ")" "2")),(sX "4" (xBin .quo "3" (2:Int))),(sM "+" "4")] (cT [(sM "0" o),(sM "8" "+"),(sX ";" (xIa 2 "0" "8")),(sX
 ":" (xFa 0 ";")),(sX "1" (xLd none ":")),(sM "5" o.l),(sCall 134 ["1","5"] "7"),(sX "9" (xBin .lss "7" (0:Int)))] (cC "9" (cN (sL [(sM ">" "+"),(sX "?" (xBin .add ">" (1:Int))),(sM "$" "?")])) (cN (sL [(sM "<" "+"),(sM "*" "<")])))))))
def r171:CE:=(cT [(sM "!" (0:Int))] (cT [(sM "&" o),(sX "," (xLen "&")),(sM "$" (0:Int)),(sM "*" ",")] (cS (cB 0 (cL 1000000 B80)) (cT [(sM "@" "$"),(sM "!" "@")] (cE .ret)))))
def e171:FE:=⟨r171,[(4,none)],29⟩
def r173:CE:=(cT [(sM o.r false)] (cT [(sM "6" o),(sM "!" o),(sX "$" (xBin .neq "6" "!")),(sM o.r "$")] (cE .ret)))
def e173:FE:=⟨r173,[(2,none)],6⟩
def r177:CE:=(cT [(sM o.r false)] (cT [(sM "6" o),(sX "!" (xBin .geq "6" (.c (.v (.int .u8 97))))),(sM "$" "!"),(sG "$" true "*" (sM "*" o)),(sG "$" true "+" (sX "+" (xBin .leq "*" (.c (.v (.int .u8 122)))))),(sX "&" (xPick "$" "+" false)),(sM o.r "&")] (cE .ret)))
def e177:FE:=⟨r177,[(2,none)],9⟩
def r178:CE:=(cT [(sM o.r false)] (cT [(sM "6" o),(sCall 177 ["6"] "!"),(sM "$" "!"),(sG "$" false "*" (sM "*" o)),(sG "$" false "+" (sX "+" (xBin .geq "*" (.c (.v (.int .u8 48)))))),(sG "$" false "&" (sM "&" "+")),(sG "&" true "," (sM "," o)),(sG "&" true "." (sX "." (xBin .leq "," (.c (.v (.int .u8 57)))))),(sG
 "$" false "(" (sX "(" (xPick "&" "." false))),(sX "%" (xPick "$" true "(")),(sM ")" "%"),(sG ")" false "2" (sM "2" o)),(sG ")" false "3" (sX "3" (xBin .eql "2" (.c (.v (.int .u8 95)))))),(sX "4" (xPick ")" true "3")),(sM o.r "4")] (cE .ret)))
def e178:FE:=⟨r178,[(2,none)],17⟩
def r180:CE:=(cT [(sU o.l (xBx 129 o)),(sM o.r (0:Int))] (cT [(sX "6" (xFa 2 o.l)),(sX "!" (xLd none "6")),(sU "$" (xAny (.mm false (.tmp 4) (.const (.int .i64 1073741824))))),(sM o.r "$")] (cE .ret)))
def e180:FE:=⟨r180,[(2,none)],6⟩
def r181:CE:=(cT [(sU o.l (xBx 41 o)),(sM o.r false)] (cT [(sX "6" (xFa 2 o.l)),(sX "!" (xLd none "6")),(sX "$" (xBin .eql "!" (0:Int))),(sM "*" "$"),(sG "*" true "+" (sX "+" (xFa 3 o.l))),(sG "*" true "&" (sX "&" (xLd none "+"))),(sG "*" true "," (sX "," (xBin .eql "&" (.c (.v (.string (bs []))))))),(sX "." (xPick
 "*" "," false)),(sM o.r ".")] (cE .ret)))
def e181:FE:=⟨r181,[(2,none)],11⟩
def B81:CE:=(cS (cT [(sM "$" o.l),(sX "*" (xBin .neq "$" (0:Int)))] (cC "*" (cE .normal) (cE (.exit 0)))) (cB 1 (cN (regE 6 (dL [(dP [] 0 "+" o.l),(dP [] 1 "&" o),(dP [] 2 "," o.l),(dX [1,2] ["&",","] 3 "." (xBin .rem "&" ",")),(dP [0,1] 4 o "+"),(dP [3,4,0,1,2] 5 o.l ".")])))))
def r182:CE:=(cT [(sM "!" (0:Int))] (cS (cB 0 (cL 1000000 B81)) (cT [(sM "(" o),(sM "!" "(")] (cE .ret))))
def e182:FE:=⟨r182,[(4,none)],12⟩
def r183:CE:=(cT [(sM o.r false)] (cT [(sM "6" o),(sX "!" (xBin .lss "6" (.c (.v (.int .i32 32))))),(sM "$" "!"),(sG "$" false "*" (sM "*" o)),(sG "$" false "+" (sX "+" (xBin .gtr "*" (.c (.v (.int .i32 126)))))),(sX "&" (xPick "$" true "+")),(sM o.r "&")] (cE .ret)))
def e183:FE:=⟨r183,[(2,none)],9⟩
def r184:CE:=(cT [(sM "!" (0:Int))] (cT [(sM "$" o),(sM "*" o.l),(sCall 202 ["$","*",true] "+"),(sM "!" "+")] (cE .ret)))
def e184:FE:=⟨r184,[(4,none)],8⟩
def r188:CE:=(cT [(sU o.l (xBx 129 o)),(sM o.r false)] (cT [(sX "6" (xFa 1 o.l)),(sX "!" (xLd none "6")),(sX "$" (xBin .geq "!" ((-1073741824):Int))),(sM "*" "$"),(sG "*" true "+" (sX "+" (xFa 1 o.l))),(sG "*" true "&" (sX "&" (xLd none "+"))),(sG "*" true "," (sX "," (xBin .leq "&" (1073741824:Int)))),(sX
 "." (xPick "*" "," false)),(sM "(" "."),(sG "(" true "%" (sX "%" (xFa 2 o.l))),(sG "(" true ")" (sX ")" (xLd none "%"))),(sG "(" true "2" (sX "2" (xFa 1 o.l))),(sG "(" true "3" (sX "3" (xLd none "2"))),(sG "(" true "4" (sX "4" (xBin .geq ")" "3"))),(sX "0" (xPick "(" "4"
 false)),(sM "8" "0"),(sG "8" true ";" (sX ";" (xFa 2 o.l))),(sG "8" true ":" (sX ":" (xLd none ";"))),(sG "8" true "1" (sX "1" (xBin .leq ":" (1073741825:Int)))),(sX "5" (xPick "8" "1" false)),(sM o.r "5")] (cE .ret)))
def e188:FE:=⟨r188,[(2,none)],23⟩
def r189:CE:=(cT [(sU o.l (xBx 129 o)),(sM o.r (0:Int))] (cT [(sX "6" (xFa 2 o.l)),(sX "!" (xLd none "6")),(sU "$" (xAny (.mm false (.tmp 4) (.const (.int .i64 1073741824))))),(sM o.r "$")] (cE .ret)))
def e189:FE:=⟨r189,[(2,none)],6⟩
def Bp4:CE:=(cS (cT [(sM "ap" "!"),(sX "av" (xFa 3 o.l)),(sX "aD" (xLd none "av")),(sU "aE" (xAny (.lns (.tmp 102)))),(sX "aF" (xBin .lss "ap" "aE"))] (cC "aF" (cE .normal) (cE (.exit 1)))) (cS (cB 2 (cN (sL [(sM "aI" "6"),(sM "q" "aI"),(sG "q" true "aq" (sX "aq"
 (xFa 3 o.l))),(sG "q" true "ax" (sX "ax" (xLd none "aq"))),(sG "q" true "aB" (sM "aB" "!")),(sG "q" true "aC" (sU "aC" (xAny (.ixs (.tmp 110) (.tmp 111))))),(sG "q" true "at" (sX "at" (xBin .geq "aC" (.c (.v (.int .u8 32)))))),(sX "ay" (xPick "q" "at"
 false)),(sM "al" "ay"),(sG "al" true "ar" (sX "ar" (xFa 3 o.l))),(sG "al" true "az" (sX "az" (xLd none "ar"))),(sG "al" true "aA" (sM "aA" "!")),(sG "al" true "au" (sU "au" (xAny (.ixs (.tmp 117) (.tmp 118))))),(sG "al" true "aG"
 (sX "aG" (xBin .leq "au" (.c (.v (.int .u8 126)))))),(sX "aJ" (xPick "al" "aG" false)),(sM "6" "aJ")]))) (cN (sL [(sM "as" "!"),(sX "aw" (xBin .add "as" (1:Int))),(sM "!" "aw")]))))
def r190:CE:=(cT [(sU o.l (xBx 41 o)),(sM o.r (0:Int))] (cT [(sM "6" false)] (cS (cT [(sX "$" (xFa 0 o.l)),(sX "*" (xLd none "$"))] (cB 0 (cT [(sX "&" (xBin .eql "*" (0:Int))),(sM "+" "&")] (cC "+" (cN (sL [(sX "," (xFa 1 o.l)),(sX "." (xLd none ",")),(sX "(" (xBin .geq "." (1:Int))),(sM "%"
 "("),(sG "%" true ")" (sX ")" (xFa 1 o.l))),(sG "%" true "2" (sX "2" (xLd none ")"))),(sG "%" true "3" (sX "3" (xBin .leq "2" (255:Int)))),(sX "4" (xPick "%" "3" false)),(sM "0" "4"),(sG "0" true "8" (sX "8" (xFa 2 o.l))),(sG "0" true ";" (sX ";" (xLd
 none "8"))),(sG "0" true ":" (sX ":" (xBin .eql ";" (0:Int)))),(sX "1" (xPick "0" ":" false)),(sM "5" "1"),(sG "5" true "7" (sX "7" (xFa 3 o.l))),(sG "5" true "9" (sX "9" (xLd none "7"))),(sG "5" true ">" (sX ">" (xBin .eql "9" (.c (.v (.string
 (bs []))))))),(sX "?" (xPick "5" ">" false)),(sM "6" "?")])) (cT [(sX "@" (xBin .eql "*" (1:Int))),(sM "<" "@")] (cC "<" (cN (sL [(sX "=" (xFa 1 o.l)),(sX "E" (xLd none "=")),(sX "B" (xBin .eql "E" (0:Int))),(sM "A" "B"),(sG "A" false "C"
 (sX "C" (xFa 1 o.l))),(sG "A" false "D" (sX "D" (xLd none "C"))),(sG "A" false "F" (sX "F" (xBin .eql "D" (1:Int)))),(sX "I" (xPick "A" true "F")),(sM "J" "I"),(sG "J" true "H" (sX "H" (xFa 2 o.l))),(sG "J" true "G"
 (sX "G" (xLd none "H"))),(sG "J" true "K" (sX "K" (xBin .eql "G" (0:Int)))),(sX "M" (xPick "J" "K" false)),(sM "L" "M"),(sG "L" true "N" (sX "N" (xFa 3 o.l))),(sG "L" true "O" (sX "O" (xLd none "N"))),(sG "L" true "P"
 (sX "P" (xBin .eql "O" (.c (.v (.string (bs []))))))),(sX "R" (xPick "L" "P" false)),(sM "6" "R")])) (cT [(sX "W" (xBin .eql "*" (2:Int))),(sM "S" "W")] (cC "S" (cN (regE 36 (dL [(dX [] [o.l] 0 "U" (xFa 2 o.l)),(dY [0] ["U"] 1 "T" (xLd none "U")),(dX [1,0]
 ["T"] 2 "X" (xBin .geq "T" (1:Int))),(dP [2,1,0] 3 "V" "X"),(dG "V" true "Q" (dX [3,2,1,0] [o.l] 4 "Q" (xFa 2 o.l))),(dG "V" true "Y" (dY [4,3,2,1,0] ["Q"] 5 "Y" (xLd none "Q"))),(dG "V" true "]" (dX [5,3,4,2,1,0] ["Y"] 6 "]" (xBin .leq "Y" (.c
 (.v (.int .i64 1099511627776)))))),(dX [3,6,2,1,0,5,4] ["V","]"] 7 "_" (xPick "V" "]" false)),(dP [7,3,6,2,1,0,5,4] 8 "^" "_"),(dG "^" true "Z" (dX [8,7,3,6,2,1,0,5,4] [o.l] 9 "Z" (xFa 1 o.l))),(dG "^" true "[" (dY [9,8,7,3,6,2,1,0,5,4] ["Z"] 10 "[" (xLd none "Z"))),(dG
 "^" true "b" (dX [10,8,9,7,3,6,2,1,0,5,4] ["["] 11 "b" (xBin .geq "[" ((-1099511627776):Int)))),(dX [8,11,7,3,6,2,1,0,5,4,10,9] ["^","b"] 12 "c" (xPick "^" "b" false)),(dP [12,8,11,7,3,6,2,1,0,5,4,10,9] 13 "a" "c"),(dG "a" true "e" (dX [13,12,8,11,7,3,6,2,1,0,5,4,10,9]
 [o.l] 14 "e" (xFa 1 o.l))),(dG "a" true "d" (dY [14,13,12,8,11,7,3,6,2,1,0,5,4,10,9] ["e"] 15 "d" (xLd none "e"))),(dG "a" true "g" (dX [15,13,14,12,8,11,7,3,6,2,1,0,5,4,10,9] ["d"] 16 "g" (xBin .leq "d" (1099511627776:Int)))),(dX [13,16,12,8,11,7,3,6,2,1,0,5,4,10,9,15,14] ["a","g"]
 17 "i" (xPick "a" "g" false)),(dP [17,13,16,12,8,11,7,3,6,2,1,0,5,4,10,9,15,14] 18 "j" "i"),(dG "j" true "t" (dX [18,17,13,16,12,8,11,7,3,6,2,1,0,5,4,10,9,15,14] [o.l] 19 "t" (xFa 3 o.l))),(dG "j" true "n" (dY [19,18,17,13,16,12,8,11,7,3,6,2,1,0,5,4,10,9,15,14] ["t"] 20 "n"
 (xLd none "t"))),(dG "j" true "x" (dX [20,18,19,17,13,16,12,8,11,7,3,6,2,1,0,5,4,10,9,15,14] ["n"] 21 "x" (xBin .eql "n" (.c (.v (.string (bs []))))))),(dX [18,21,17,13,16,12,8,11,7,3,6,2,1,0,5,4,10,9,15,14,20,19] ["j","x"] 22 "|" (xPick "j" "x" false)),(dP [22,18,21,17,13,16,12,8,11,7,3,6,2,1,0,5,4,10,9,15,14,20,19]
 23 "f" "|"),(dG "f" true "k" (dX [23,22,18,21,17,13,16,12,8,11,7,3,6,2,1,0,5,4,10,9,15,14,20,19] [o.l] 24 "k" (xFa 1 o.l))),(dG "f" true "o" (dY [24,23,22,18,21,17,13,16,12,8,11,7,3,6,2,1,0,5,4,10,9,15,14,20,19] ["k"] 25 "o" (xLd none "k"))),(dG "f" true "p" (dChk [25,23,24,22,18,21,17,13,16,12,8,11,7,3,6,2,1,0,5,4,10,9,15,14,20,19]
 ["o"] (dMain 26 [25,23,24,22,18,21,17,13,16,12,8,11,7,3,6,2,1,0,5,4,10,9,15,14,20,19] (sCall 215 ["o"] "p")))),(dG "f" true "l" (dChk [23,22,18,21,17,13,16,12,8,11,7,3,6,2,1,0,5,4,10,9,15,14,20,19] [o.l] (dRead 27 [23,22,18,21,17,13,16,12,8,11,7,3,6,2,1,0,5,4,10,9,15,14,20,19] true false "l" (fun _ => (xFa 2 o.l)) [o.l]))),(dG "f"
 true "v" (dChk [27,23,22,18,21,17,13,16,12,8,11,7,3,6,2,1,0,5,4,10,9,15,14,20,19] ["l"] (dRead 28 [27,23,22,18,21,17,13,16,12,8,11,7,3,6,2,1,0,5,4,10,9,15,14,20,19] true true "v" (fun _ => (xLd none "l")) ["l"]))),(dG "f" true "r" (dChk [28,26,23,27,22,18,21,17,13,16,12,8,11,7,3,6,2,1,0,5,4,10,9,15,14,20,19,25,24] ["v"]
 (dMain 29 [28,26,23,27,22,18,21,17,13,16,12,8,11,7,3,6,2,1,0,5,4,10,9,15,14,20,19,25,24] (sCall 215 ["v"] "r")))),(dG "f" true "s" (dChk [26,29,23,25,24,22,18,21,17,13,16,12,8,11,7,3,6,2,1,0,5,4,10,9,15,14,20,19,28,27] ["p","r"] (dMain 30 [26,29,23,25,24,22,18,21,17,13,16,12,8,11,7,3,6,2,1,0,5,4,10,9,15,14,20,19,28,27] (sCall 214 ["p","r"]
 "s")))),(dG "f" true "w" (dChk [30,23,26,29,25,24,22,18,21,17,13,16,12,8,11,7,3,6,2,1,0,5,4,10,9,15,14,20,19,28,27] [] (dMain 31 [30,23,26,29,25,24,22,18,21,17,13,16,12,8,11,7,3,6,2,1,0,5,4,10,9,15,14,20,19,28,27] (sCall 216 [(.c (.v (.int .u64 1)))] "w")))),(dG "f" true "m" (dChk [30,31,23,26,29,25,24,22,18,21,17,13,16,12,8,11,7,3,6,2,1,0,5,4,10,9,15,14,20,19,28,27]
 ["s","w"] (dMain 32 [30,31,23,26,29,25,24,22,18,21,17,13,16,12,8,11,7,3,6,2,1,0,5,4,10,9,15,14,20,19,28,27] (sCall 213 ["s","w"] "m")))),(dG "f" true "aa" (dX [32,23,30,31,26,29,25,24,22,18,21,17,13,16,12,8,11,7,3,6,2,1,0,5,4,10,9,15,14,20,19,28,27] ["m"] 33 "aa" (xBin .eql "m" (0:Int)))),(dX
 [23,33,22,18,21,17,13,16,12,8,11,7,3,6,2,1,0,5,4,10,9,15,14,20,19,32,30,31,26,29,25,24,28,27] ["f","aa"] 34 "h" (xPick "f" "aa" false)),(dP [34,32,0,1,2,3,4,5,6,7,8,9,10,11,12,13,14,15,16,17,18,19,20,21,22,23,24,25,26,27,28,29,30,31,33] 35 "6" "h")]))) (cT [(sX "~" (xBin .eql "*" (3:Int))),(sM "z"
 "~")] (cC "z" (cT [(sX "ag" (xFa 1 o.l)),(sX "y" (xLd none "ag")),(sX "ad" (xBin .eql "y" (0:Int))),(sM "u" "ad"),(sG "u" true "ah" (sX "ah" (xFa 2 o.l))),(sG "u" true "ae" (sX "ae" (xLd none "ah"))),(sG "u" true "ab"
 (sX "ab" (xBin .eql "ae" (0:Int)))),(sX "ai" (xPick "u" "ab" false)),(sM "ac" "ai"),(sG "ac" true "aj" (sX "aj" (xFa 3 o.l))),(sG "ac" true "ak" (sX "ak" (xLd none "aj"))),(sG "ac" true "an" (sU "an" (xAny (.lns (.tmp
 96))))),(sG "ac" true "am" (sX "am" (xBin .leq "an" (16:Int)))),(sX "ao" (xPick "ac" "am" false)),(sM "6" "ao")] (cT [(sM "!" (0:Int))] (cB 1 (cL 1000000 Bp4)))) (cE .normal))))))))))) (cS (cT [(sM "aK" "6")] (cC "aK" (cT [(sM o.r (0:Int))]
 (cE .ret)) (cE .normal))) (cT [(sM o.r (2:Int))] (cE .ret))))))
def e190:FE:=⟨r190,[(2,none)],123⟩
def B82:CE:=(cT [(sU "(" (xAny (.nxs (.tmp 10)))),(sX "%" (xExt "(" 0))] (cS (cC "%" (cE .normal) (cE (.exit 0))) (cB 1 (cT [(sX ")" (xExt "(" 1)),(sX "2" (xExt "(" 2)),(sM "+" ")"),(sM "&" "2")] (cT [(sM "3" o.l),(sM "4" "&"),(sCv none "3" ["4"] "0"),(sM "8" o.r),(sU ";" (xAny (.bb false (.tmp 17) (.tmp
 18))))] (cC ";" (cT [(sM ":" "+"),(sM "*" ":")] (cE .ret)) (cE .normal)))))))
def r202:CE:=(cT [(sM "*" (0:Int))] (cS (cT [(sM "," o),(sU "." (xAny (.rgs (.tmp 9))))] (cB 0 (cL 1000000 B82))) (cT [(sM "*" ((-1):Int))] (cE .ret))))
def e202:FE:=⟨r202,[(6,none)],21⟩
def B83:CE:=(cS (cT [(sM ";" "$"),(sX ":" (xBin .geq ";" (0:Int)))] (cC ":" (cE .normal) (cE (.exit 0)))) (cS (cB 1 (cS (cS (cN (regE 9 (dL [(dP [] 0 "7" o),(dP [] 1 "9" "$"),(dX [0,1] ["7","9"] 2 ">" (xIa 1 "7" "9")),(dY [2,0,1] [">"] 3 "?" (xLd none ">")),(dP [] 4 "<" o.l),(dP [] 5 "@"
 "$"),(dX [4,5] ["<","@"] 6 "=" (xIa 1 "<" "@")),(dY [6,4,5] ["="] 7 "E" (xLd none "=")),(dX [3,7,2,0,1,6,4,5] ["?","E"] 8 "B" (xBin .lss "?" "E"))]))) (cC "B" (cT [(sM "!" ((-1):Int))] (cE .ret)) (cE .normal))) (cS (cN (regE 9 (dL [(dP [] 0 "A" o),(dP [] 1 "C" "$"),(dX [0,1]
 ["A","C"] 2 "D" (xIa 1 "A" "C")),(dY [2,0,1] ["D"] 3 "F" (xLd none "D")),(dP [] 4 "I" o.l),(dP [] 5 "J" "$"),(dX [4,5] ["I","J"] 6 "H" (xIa 1 "I" "J")),(dY [6,4,5] ["H"] 7 "G" (xLd none "H")),(dX [3,7,2,0,1,6,4,5] ["F","G"] 8 "K" (xBin
 .gtr "F" "G"))]))) (cC "K" (cT [(sM "!" (1:Int))] (cE .ret)) (cE .normal))))) (cN (sL [(sM "1" "$"),(sX "5" (xBin .sub "1" (1:Int))),(sM "$" "5")]))))
def r213:CE:=(cT [(sM "!" (0:Int))] (cS (cT [(sM "*" o),(sX "+" (xLen "*")),(sM "&" o.l),(sX "," (xLen "&")),(sX "." (xBin .neq "+" ","))] (cC "." (cS (cT [(sM "(" o),(sX "%" (xLen "(")),(sM ")" o.l),(sX "2" (xLen ")")),(sX "3" (xBin .lss "%" "2"))] (cC "3" (cT [(sM "!" ((-1):Int))] (cE
 .ret)) (cE .normal))) (cT [(sM "!" (1:Int))] (cE .ret))) (cE .normal))) (cS (cT [(sM "4" o),(sX "0" (xLen "4")),(sX "8" (xBin .sub "0" (1:Int))),(sM "$" "8")] (cB 0 (cL 1000000 B83))) (cT [(sM "!" (0:Int))] (cE .ret)))))
def e213:FE:=⟨r213,[(4,none)],41⟩
def B84:CE:=(cS (cT [(sM "+" o.l),(sX "&" (xLen "+")),(sX "," (xBin .gtr "&" (0:Int)))] (cC "," (cE .normal) (cE (.exit 0)))) (cB 1 (cT [(sM "(" o),(sM "%" o.l),(sCall 227 ["(","%"] ")"),(sM "." ")"),(sX "2" (xExt "." 0)),(sX "3" (xExt "." 1)),(sM "$" "2"),(sM "*" "3")] (cN (sL [(sM "4" o.l),(sM
 "0" "*"),(sM o "4"),(sM o.l "0")])))))
def r214:CE:=(cT [(sM "!" (.c (.v (.slice none 0 0))))] (cS (cB 0 (cL 1000000 B84)) (cT [(sM "8" o),(sM "!" "8")] (cE .ret))))
def e214:FE:=⟨r214,[(4,none)],19⟩
def r215:CE:=(cT [(sM o.r (.c (.v (.slice none 0 0))))] (cS (cT [(sM "6" o),(sX "!" (xBin .lss "6" (0:Int)))] (cC "!" (cT [(sM "$" o),(sU "*" (xAny (.cvi .u64 (.tmp 5)))),(sX "+" (xBin .sub (.c (.v (.int .u64 0))) "*")),(sCall 216 ["+"] "&"),(sM o.r "&")] (cE .ret)) (cE .normal))) (cT [(sM "," o),(sU "." (xAny (.cvi .u64 (.tmp 9)))),(sCall 216 ["."]
 "("),(sM o.r "(")] (cE .ret))))
def e215:FE:=⟨r215,[(2,none)],12⟩
def B85:CE:=(cS (cT [(sM "!" o),(sX "$" (xBin .gtr "!" (.c (.v (.int .u64 0)))))] (cC "$" (cE .normal) (cE (.exit 0)))) (cB 1 (cT [(sM "*" "6"),(sM "+" o),(sX "&" (xBin .rem "+" (.c (.v (.int .u64 1000000000))))),(sU "," (xAny (.cvi .u32 (.tmp 8)))),(sU "." (xAny (.bsl 251 1 1 [.int .u32 0] [(0,1,.tmp 9)]))),(sU "(" (xAny (.app 251 1 4 (.tmp 6) (.tmp 10)))),(sM
 "6" "(")] (cN (sL [(sM "%" o),(sX ")" (xBin .quo "%" (.c (.v (.int .u64 1000000000))))),(sM o ")")])))))
def r216:CE:=(cT [(sM o.r (.c (.v (.slice none 0 0))))] (cT [(sM "6" (.c (.v (.slice none 0 0))))] (cS (cB 0 (cL 1000000 B85)) (cT [(sM "2" "6"),(sM o.r "2")] (cE .ret)))))
def e216:FE:=⟨r216,[(2,none)],15⟩
def Co1:CE:=(cS (cT [(sM "T" ","),(sM "X" "."),(sX "V" (xBin .lss "T" "X"))] (cC "V" (cE .normal) (cE (.exit 2)))) (cB 3 (cT [(sM "Q" ","),(sM "Y" "."),(sX "]" (xBin .add "Q" "Y")),(sX "_" (xBin .add "]" (.c (.v (.int .u64 1))))),(sX "^" (xBin .quo "_" (.c (.v (.int
 .u64 2))))),(sM "(" "^")] (cT [(sM "Z" o.l),(sM "[" "("),(sCall 216 ["["] "b"),(sCall 233 ["Z","b"] "c"),(sM "a" "+"),(sCall 213 ["c","a"] "e"),(sX "d" (xBin .leq "e" (0:Int)))] (cC "d" (cN (sL [(sM "g" "("),(sM "," "g")]))
 (cN (sL [(sM "i" "("),(sX "j" (xBin .sub "i" (.c (.v (.int .u64 1))))),(sM "." "j")])))))))
def Co2:CE:=(cS (cT [(sM "H" "&"),(sX "G" (xBin .geq "H" (0:Int)))] (cC "G" (cE .normal) (cE (.exit 0)))) (cS (cB 1 (cT [(sM "L" o),(sM "N" "&"),(sX "O" (xIa 1 "L" "N")),(sX "P" (xLd none "O")),(sU "R" (xAny (.bsl 251 1 1 [.int .u32 0] [(0,1,.tmp 45)]))),(sM "S" "+"),(sU
 "W" (xAny (.app 251 1 4 (.tmp 46) (.tmp 47)))),(sCall 232 ["W"] "U"),(sM "+" "U")] (cT [(sM "," (.c (.v (.int .u64 0)))),(sM "." (.c (.v (.int .u64 999999999))))] (cS (cB 2 (cL 1000000 Co1)) (cT [(sM "t" "*"),(sM "n" "&"),(sM "x" ","),(sU "|" (xAny (.cvi .u32 (.tmp 70)))),(sX "f" (xIa 1 "t"
 "n")),(sU none (xSt 1 "f" "|"))] (cN (sL [(sM "k" "+"),(sM "o" o.l),(sM "p" ","),(sCall 216 ["p"] "l"),(sCall 233 ["o","l"] "v"),(sCall 234 ["k","v"] "r"),(sM "+" "r")]))))))) (cN (sL [(sM "K" "&"),(sX "M" (xBin .sub "K"
 (1:Int))),(sM "&" "M")]))))
def r227:CE:=(cT [(sM "!" (.c (.v (.slice none 0 0)))),(sM "$" (.c (.v (.slice none 0 0))))] (cS (cT [(sM "%" o),(sX ")" (xLen "%")),(sX "2" (xBin .leq ")" (2:Int))),(sM "3" "2"),(sG "3" true "4" (sM "4" o.l)),(sG "3" true "0" (sX "0" (xLen "4"))),(sG "3" true "8" (sX "8" (xBin .leq "0"
 (2:Int)))),(sX ";" (xPick "3" "8" false))] (cC ";" (cT [(sM ":" o),(sCall 231 [":"] "1"),(sM "5" o.l),(sCall 231 ["5"] "7"),(sX "9" (xBin .quo "1" "7")),(sCall 216 ["9"] ">"),(sM "?" o),(sCall 231 ["?"] "<"),(sM "@" o.l),(sCall 231 ["@"] "="),(sX
 "E" (xBin .rem "<" "=")),(sCall 216 ["E"] "B"),(sM "!" ">"),(sM "$" "B")] (cE .ret)) (cE .normal))) (cT [(sM "A" o),(sX "C" (xLen "A")),(sU "D" (xAny (.mks 251 1 4 [.int .u32 0] (.tmp 33) (.tmp 33)))),(sM "*" "D")] (cT [(sM "+" (.c (.v (.slice none 0 0))))] (cS (cT [(sM "F" o),(sX "I" (xLen
 "F")),(sX "J" (xBin .sub "I" (1:Int))),(sM "&" "J")] (cB 0 (cL 1000000 Co2))) (cT [(sM "s" "*"),(sCall 232 ["s"] "w"),(sM "m" "+"),(sM "!" "w"),(sM "$" "m")] (cE .ret)))))))
def e227:FE:=⟨r227,[(4,none),(5,none)],82⟩
def r231:CE:=(cT [(sM o.r (.c (.v (.int .u64 0))))] (cT [(sM "6" o),(sCall 235 ["6",(0:Int)] "!"),(sM "$" o),(sCall 235 ["$",(1:Int)] "*"),(sX "+" (xBin .mul (.c (.v (.int .u64 1000000000))) "*")),(sX "&" (xBin .add "!" "+")),(sM o.r "&")] (cE .ret)))
def e231:FE:=⟨r231,[(2,none)],9⟩
def r235:CE:=(cT [(sM "!" (.c (.v (.int .u64 0))))] (cS (cT [(sM "$" o.l),(sM "*" o),(sX "+" (xLen "*")),(sX "&" (xBin .lss "$" "+"))] (cC "&" (cT [(sM "," o),(sM "." o.l),(sX "(" (xIa 1 "," ".")),(sX "%" (xLd none "(")),(sU ")" (xAny (.cvi .u64 (.tmp 12)))),(sM "!" ")")] (cE .ret)) (cE .normal))) (cT [(sM "!" (.c (.v (.int .u64 0))))]
 (cE .ret))))
def e235:FE:=⟨r235,[(4,none)],14⟩
end
end Go.DD
