/- A part. -/
import Derived.Test.YtnphfnhhpcelbaaGreatXd
namespace Go.DD
noncomputable section
open Pa
instance coePESb : Coe Pa EO := ⟨EO.t⟩
instance coePXSb : Coe Pa (Nat → XP) := ⟨fun p _ es => some (rawE es (.t p))⟩
open Go
set_option maxRecDepth 100000
def Cb2:CE:=(cB 1 (cT [(sM ")" "."),(sX "2" (xBin .mul (2:Int) ")")),(sX "3" (xBin .add "2" (1:Int))),(sM "(" "3")] (cS (cT [(sM "4" "("),(sM "0" o.r),(sX "8" (xBin .geq "4" "0"))] (cC "8" (cE (.exit 0)) (cE .normal))) (cS (cS (cN (regE 22 (dL [(dP [] 0 ";" "("),(dX [0] [";"]
 1 ":" (xBin .add ";" (1:Int))),(dP [] 2 "1" o.r),(dX [1,2,0] [":","1"] 3 "5" (xBin .lss ":" "1")),(dP [3,1,2,0] 4 "7" "5"),(dG "7" true "9" (dP [4,3,1,2,0] 5 "9" "!")),(dG "7" true ">" (dP [4,3,1,2,0] 6 ">" o)),(dG "7" true "?" (dP [4,3,1,2,0] 7 "?" "6")),(dG "7"
 true "<" (dP [4,3,1,2,0] 8 "<" "(")),(dG "7" true "@" (dX [7,8,4,3,1,2,0] ["?","<"] 9 "@" (xBin .add "?" "<"))),(dG "7" true "=" (dX [6,9,4,3,1,2,0,7,8] [">","@"] 10 "=" (xIa 2 ">" "@"))),(dG "7" true "E" (dY [10,4,6,9,3,1,2,0,7,8] ["="] 11 "E" (xLd (some 2) "="))),(dG "7"
 true "B" (dP [4,3,1,2,0] 12 "B" o)),(dG "7" true "A" (dP [4,3,1,2,0] 13 "A" "6")),(dG "7" true "C" (dP [4,3,1,2,0] 14 "C" "(")),(dG "7" true "D" (dX [13,14,4,3,1,2,0] ["A","C"] 15 "D" (xBin .add "A" "C"))),(dG "7" true "F" (dX [15,4,13,14,3,1,2,0] ["D"] 16 "F"
 (xBin .add "D" (1:Int)))),(dG "7" true "I" (dX [12,16,4,3,1,2,0,15,13,14] ["B","F"] 17 "I" (xIa 2 "B" "F"))),(dG "7" true "J" (dY [17,4,12,16,3,1,2,0,15,13,14] ["I"] 18 "J" (xLd (some 2) "I"))),(dG "7" true "H" (dChk [5,11,18,4,3,1,2,0,10,6,9,7,8,17,12,16,15,13,14] ["9","E","J"]
 (dMain 19 [5,11,18,4,3,1,2,0,10,6,9,7,8,17,12,16,15,13,14] (sCf none "9" ["E","J"] "H")))),(dG "7" true "G" (dX [19,4,5,11,18,3,1,2,0,10,6,9,7,8,17,12,16,15,13,14] ["H"] 20 "G" (xBin .lss "H" (0:Int)))),(dX [4,20,3,1,2,0,19,5,11,18,10,6,9,7,8,17,12,16,15,13,14] ["7","G"] 21 "K" (xPick "7" "G"
 false))]))) (cC "K" (cN (sL [(sM "M" "("),(sX "L" (xBin .add "M" (1:Int))),(sM "(" "L")])) (cE .normal))) (cS (cS (cN (regE 16 (dL [(dP [] 0 "N" "!"),(dP [] 1 "O" o),(dP [] 2 "P" "6"),(dP [] 3 "R" "."),(dX [2,3] ["P","R"] 4 "S" (xBin .add "P" "R")),(dX
 [1,4,2,3] ["O","S"] 5 "W" (xIa 2 "O" "S")),(dY [5,1,4,2,3] ["W"] 6 "U" (xLd (some 2) "W")),(dP [] 7 "T" o),(dP [] 8 "X" "6"),(dP [] 9 "V" "("),(dX [8,9] ["X","V"] 10 "Q" (xBin .add "X" "V")),(dX [7,10,8,9] ["T","Q"] 11 "Y" (xIa 2 "T" "Q")),(dY
 [11,7,10,8,9] ["Y"] 12 "]" (xLd (some 2) "Y")),(dChk [0,6,12,5,1,4,2,3,11,7,10,8,9] ["N","U","]"] (dMain 13 [0,6,12,5,1,4,2,3,11,7,10,8,9] (sCf none "N" ["U","]"] "_"))),(dX [13,0,6,12,5,1,4,2,3,11,7,10,8,9] ["_"] 14 "^" (xBin .lss "_" (0:Int))),(dX [14,13,0,6,12,5,1,4,2,3,11,7,10,8,9]
 ["^"] 15 "Z" (xUn .not "^"))]))) (cC "Z" (cE .ret) (cE .normal))) (cS (cN (regE 24 (dL [(dP [] 0 "[" o),(dP [] 1 "b" "6"),(dP [] 2 "c" "."),(dX [1,2] ["b","c"] 3 "a" (xBin .add "b" "c")),(dChk [] [o] (dRead 4 [] true false "e" o [o])),(dChk [] ["6"] (dRead 5 [] true false "d" ("6":Pa)
 ["6"])),(dChk [] ["("] (dRead 6 [] true false "g" ("(":Pa) ["("])),(dChk [5,6] ["d","g"] (dRead 7 [5,6] true false "i" (fun _ => (xBin .add "d" "g")) ["d","g"])),(dP [] 8 "j" o),(dP [] 9 "t" "6"),(dP [] 10 "n" "("),(dX [9,10] ["t","n"] 11 "x" (xBin
 .add "t" "n")),(dX [8,11,9,10] ["j","x"] 12 "|" (xIa 2 "j" "x")),(dY [12,8,11,9,10] ["|"] 13 "f" (xLd (some 2) "|")),(dP [] 14 "k" o),(dP [] 15 "o" "6"),(dP [] 16 "p" "."),(dX [15,16] ["o","p"] 17 "l" (xBin .add "o" "p")),(dX
 [14,17,15,16] ["k","l"] 18 "v" (xIa 2 "k" "l")),(dY [18,14,17,15,16] ["v"] 19 "r" (xLd (some 2) "v")),(dX [0,3,1,2,8,9,10,11,12,13,19,18,14,17,15,16] ["[","a"] 20 "s" (xIa 2 "[" "a")),(dChk [20,13,0,1,2,3,8,9,10,11,12,19,18,14,17,15,16] ["s","f"] (dMain 21 [20,13,0,1,2,3,8,9,10,11,12,19,18,14,17,15,16]
 (sU none (xSt 2 "s" "f")))),(dX [4,7,0,1,2,3,5,6,8,9,10,11,12,13,14,15,16,17,18,19,20,21] ["e","i"] 22 "w" (xIa 2 "e" "i")),(dChk [22,19,21,0,1,2,3,4,5,6,7,8,9,10,11,12,13,14,15,16,17,18,20] ["w","r"] (dMain 23 [22,19,21,0,1,2,3,4,5,6,7,8,9,10,11,12,13,14,15,16,17,18,20] (sU none (xSt 2 "w" "r"))))])))
 (cN (sL [(sM "m" "("),(sM "." "m")]))))))))
def r223:CE:=(cT [(sM "%" o.l),(sM "." "%")] (cB 0 (cL 1000000 Cb2)))
def e223:FE:=⟨r223,[],82⟩
def r224:CE:=(cT [(sM "&" (0:Int))] (cT [(sM "," o),(sM "." o.l),(sX "(" (xBin .sub "." (1:Int))),(sM "%" o.l),(sM ")" o.l),(sX "2" (xBin .add ")" (1:Int))),(sM "3" o.r),(sM "4" "6"),(sCall 225 [",","(","%","2","3","4"] "0"),(sM "&" "0")] (cE .ret)))
def e224:FE:=⟨r224,[(8,none)],18⟩
def r225:CE:=(cT [(sM "%" (0:Int))] (cT [(sM "2" o),(sM "3" o.l),(sM "4" o.r),(sM "0" "!"),(sM "8" "$"),(sCall 229 ["2","3","4","0","8"] ";"),(sM ")" ";"),(sX ":" (xExt ")" 0)),(sX "1" (xExt ")" 1)),(sM o.l ":"),(sM o.r "1")] (cT [(sM "7" o),(sM "9" o.r),(sM ">"
 "6"),(sM "?" "!"),(sM "<" "$"),(sCall 229 ["7","9",">","?","<"] "@"),(sM "5" "@"),(sX "=" (xExt "5" 0)),(sX "E" (xExt "5" 1)),(sM o.r "="),(sM "6" "E")] (cT [(sM "A" o),(sM "C" o.l),(sM "D" o.r),(sM "F" "!"),(sM "I" "$"),(sCall 229 ["A","C","D","F","I"]
 "J"),(sM "B" "J"),(sX "H" (xExt "B" 0)),(sX "G" (xExt "B" 1)),(sM o.l "H"),(sM o.r "G")] (cT [(sM "K" o.r),(sM "%" "K")] (cE .ret))))))
def e225:FE:=⟨r225,[(12,none)],41⟩
def r229:CE:=(cT [(sM "." (0:Int)),(sM "(" (0:Int))] (cS (cS (cN (regE 11 (dL [(dP [] 0 "%" "!"),(dP [] 1 ")" o),(dP [] 2 "2" o.r),(dX [1,2] [")","2"] 3 "3" (xIa 2 ")" "2")),(dY [3,1,2] ["3"] 4 "4" (xLd (some 2) "3")),(dP [] 5 "0" o),(dP [] 6 "8" o.l),(dX [5,6] ["0","8"] 7 ";"
 (xIa 2 "0" "8")),(dY [7,5,6] [";"] 8 ":" (xLd (some 2) ";")),(dChk [0,4,8,3,1,2,7,5,6] ["%","4",":"] (dMain 9 [0,4,8,3,1,2,7,5,6] (sCf none "%" ["4",":"] "1"))),(dX [9,0,4,8,3,1,2,7,5,6] ["1"] 10 "5" (xBin .lss "1" (0:Int)))]))) (cC "5" (cT [(sM "7" "6"),(sU "9" (xAny (.nck (.tmp
 23)))),(sX ">" (xLd none "9")),(sX "?" (xBin .add ">" (1:Int))),(sU "<" (xAny (.nck (.tmp 23)))),(sU none (xSt 1 "<" "?"))] (cT [(sM "@" o.r),(sM "=" o.l),(sM "." "@"),(sM "(" "=")] (cE .ret))) (cE .normal))) (cT [(sM "E" o.l),(sM "B" o.r),(sM "." "E"),(sM "(" "B")] (cE .ret))))
def e229:FE:=⟨r229,[(10,none),(11,none)],32⟩
end
end Go.DD
