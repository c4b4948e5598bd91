/- A part. -/
import Derived.Test.YtnphfnhhpcelbaaGreatZe
namespace Go.DD
noncomputable section
open Pa
instance coePESb : Coe Pa EO := ⟨EO.t⟩
instance coePXSb : Coe Pa (Nat → XP) := ⟨fun p _ es => some (rawE es (.t p))⟩
open Go
set_option maxRecDepth 100000
def r219:CE:=(cS (cN (sq (sM o.r (.c (.v (.int .u64 0)))) sEnd)) (cS (cN (regE 10 (dq (dP [] 0 "5" o) (dq (dChk [0] ["5"] (dRead 1 [0] false false "!" (xKeep (xAny (.nck (.tmp 3)))) ["5"])) (dq (dY [1,0] ["!"] 2 "*" (xLd none "!")) (dq (dP [] 3 "," o) (dq (dChk [3] [","] (dRead 4 [3] false false "+" (xKeep (xAny (.nck (.tmp 6)))) [","])) (dq (dY [4,3] ["+"] 5 "&" (xLd
 none "+")) (dq (dX [5,4,3] ["&"] 6 "(" (xBin .shl "&" (.c (.v (.int .u64 13))))) (dq (dX [2,6,1,0,5,4,3] ["*","("] 7 ")" (xBin .xor "*" "(")) (dq (dChk [0,1,2,3,4,5,6,7] ["5"] (dRead 8 [0,1,2,3,4,5,6,7] false false "%" (xKeep (xAny (.nck (.tmp 3)))) ["5"])) (dq (dChk [8,7,0,1,2,3,4,5,6] ["%",")"] (dMain 9 [8,7,0,1,2,3,4,5,6] (sU none (xSt 1 "%" ")"))))
 dEnd)))))))))))) (cS (cN (regE 10 (dq (dP [] 0 "wx" o) (dq (dChk [0] ["wx"] (dRead 1 [0] false false "$" (xKeep (xAny (.nck (.tmp 12)))) ["wx"])) (dq (dY [1,0] ["$"] 2 "1" (xLd none "$")) (dq (dP [] 3 "0" o) (dq (dChk [3] ["0"] (dRead 4 [3] false false "3" (xKeep (xAny (.nck (.tmp 15)))) ["0"])) (dq (dY [4,3] ["3"] 5 "." (xLd none "3"))
 (dq (dX [5,4,3] ["."] 6 "8" (xBin .shr "." (.c (.v (.int .u64 7))))) (dq (dX [2,6,1,0,5,4,3] ["1","8"] 7 "6" (xBin .xor "1" "8")) (dq (dChk [0,1,2,3,4,5,6,7] ["wx"] (dRead 8 [0,1,2,3,4,5,6,7] false false "7" (xKeep (xAny (.nck (.tmp 12)))) ["wx"])) (dq (dChk [8,7,0,1,2,3,4,5,6] ["7","6"] (dMain 9 [8,7,0,1,2,3,4,5,6] (sU none (xSt 1
 "7" "6")))) dEnd)))))))))))) (cS (cN (regE 10 (dq (dP [] 0 "wy" o) (dq (dChk [0] ["wy"] (dRead 1 [0] false false "4" (xKeep (xAny (.nck (.tmp 21)))) ["wy"])) (dq (dY [1,0] ["4"] 2 "2" (xLd none "4")) (dq (dP [] 3 "ww" o) (dq (dChk [3] ["ww"] (dRead 4 [3] false false ":" (xKeep (xAny (.nck (.tmp 24)))) ["ww"])) (dq (dY [4,3] [":"]
 5 "9" (xLd none ":")) (dq (dX [5,4,3] ["9"] 6 ";" (xBin .shl "9" (.c (.v (.int .u64 17))))) (dq (dX [2,6,1,0,5,4,3] ["2",";"] 7 "=" (xBin .xor "2" ";")) (dq (dChk [0,1,2,3,4,5,6,7] ["wy"] (dRead 8 [0,1,2,3,4,5,6,7] false false "<" (xKeep (xAny (.nck (.tmp 21)))) ["wy"])) (dq (dChk [8,7,0,1,2,3,4,5,6] ["<","="] (dMain
 9 [8,7,0,1,2,3,4,5,6] (sU none (xSt 1 "<" "=")))) dEnd)))))))))))) (cS (cN (sq (sM "?" o) (sq (sU ">" (xAny (.nck (.tmp 30)))) (sq (sX "@" (xLd none ">")) (sq (sM o.r "@") sEnd))))) (cE .ret))))))
def e219:FE:=⟨r219,[(2,none)],33⟩
def Cd6:CE:=(cB 1 (cS (cN (sq (sM "$" ")") (sq (sX "1" (xBin .mul (2:Int) "$")) (sq (sX "0" (xBin .add "1" (1:Int))) (sq (sM "%" "0") sEnd))))) (cS (cS (cN (sq (sM "3" "%") (sq (sM "." o.r) (sq (sX "8" (xBin .geq "3" ".")) sEnd)))) (cC "8" (cE (.exit 0)) (cE .normal))) (cS (cS (cN (regE 22
 (dq (dP [] 0 "6" "%") (dq (dX [0] ["6"] 1 "7" (xBin .add "6" (1:Int))) (dq (dP [] 2 "wy" o.r) (dq (dX [1,2,0] ["7","wy"] 3 "4" (xBin .lss "7" "wy")) (dq (dP [3,1,2,0] 4 "2" "4") (dq (dG "2" true "ww" (dP [4,3,1,2,0] 5 "ww" "!")) (dq (dG "2" true ":" (dP [4,3,1,2,0] 6 ":" o)) (dq
 (dG "2" true "9" (dP [4,3,1,2,0] 7 "9" "5")) (dq (dG "2" true ";" (dP [4,3,1,2,0] 8 ";" "%")) (dq (dG "2" true "=" (dX [7,8,4,3,1,2,0] ["9",";"] 9 "=" (xBin .add "9" ";"))) (dq (dG "2" true "<" (dX [6,9,4,3,1,2,0,7,8] [":","="] 10 "<" (xIa 2 ":" "="))) (dq (dG "2" true
 "?" (dY [10,4,6,9,3,1,2,0,7,8] ["<"] 11 "?" (xLd (some 2) "<"))) (dq (dG "2" true ">" (dP [4,3,1,2,0] 12 ">" o)) (dq (dG "2" true "@" (dP [4,3,1,2,0] 13 "@" "5")) (dq (dG "2" true "D" (dP [4,3,1,2,0] 14 "D" "%")) (dq (dG "2" true "A" (dX [13,14,4,3,1,2,0] ["@","D"] 15 "A"
 (xBin .add "@" "D"))) (dq (dG "2" true "C" (dX [15,4,13,14,3,1,2,0] ["A"] 16 "C" (xBin .add "A" (1:Int)))) (dq (dG "2" true "F" (dX [12,16,4,3,1,2,0,15,13,14] [">","C"] 17 "F" (xIa 2 ">" "C"))) (dq (dG "2" true "G" (dY [17,4,12,16,3,1,2,0,15,13,14] ["F"] 18
 "G" (xLd (some 2) "F"))) (dq (dG "2" true "H" (dChk [5,11,18,4,3,1,2,0,10,6,9,7,8,17,12,16,15,13,14] ["ww","?","G"] (dMain 19 [5,11,18,4,3,1,2,0,10,6,9,7,8,17,12,16,15,13,14] (sCf none "ww" ["?","G"] "H")))) (dq (dG "2" true "B" (dX [19,4,5,11,18,3,1,2,0,10,6,9,7,8,17,12,16,15,13,14] ["H"] 20 "B"
 (xBin .lss "H" (0:Int)))) (dq (dX [4,20,3,1,2,0,19,5,11,18,10,6,9,7,8,17,12,16,15,13,14] ["2","B"] 21 "E" (xPick "2" "B" (.c (.v (.bool false))))) dEnd)))))))))))))))))))))))) (cC "E" (cN (sq (sM "O" "%") (sq (sX "K" (xBin .add "O" (1:Int))) (sq (sM "%" "K") sEnd)))) (cE .normal)))
 (cS (cS (cN (regE 16 (dq (dP [] 0 "L" "!") (dq (dP [] 1 "J" o) (dq (dP [] 2 "M" "5") (dq (dP [] 3 "I" ")") (dq (dX [2,3] ["M","I"] 4 "P" (xBin .add "M" "I")) (dq (dX [1,4,2,3] ["J","P"] 5 "R" (xIa 2 "J" "P")) (dq (dY [5,1,4,2,3] ["R"] 6 "Q" (xLd (some 2) "R"))
 (dq (dP [] 7 "S" o) (dq (dP [] 8 "T" "5") (dq (dP [] 9 "W" "%") (dq (dX [8,9] ["T","W"] 10 "N" (xBin .add "T" "W")) (dq (dX [7,10,8,9] ["S","N"] 11 "U" (xIa 2 "S" "N")) (dq (dY [11,7,10,8,9] ["U"] 12 "Y" (xLd (some 2) "U")) (dq (dChk [0,6,12,5,1,4,2,3,11,7,10,8,9] ["L","Q","Y"]
 (dMain 13 [0,6,12,5,1,4,2,3,11,7,10,8,9] (sCf none "L" ["Q","Y"] "Z"))) (dq (dX [13,0,6,12,5,1,4,2,3,11,7,10,8,9] ["Z"] 14 "[" (xBin .lss "Z" (0:Int))) (dq (dX [14,13,0,6,12,5,1,4,2,3,11,7,10,8,9] ["["] 15 "X" (xUn .not "[")) dEnd)))))))))))))))))) (cC "X" (cE .ret) (cE .normal))) (cS (cN (regE 24
 (dq (dP [] 0 "V" o) (dq (dP [] 1 "^" "5") (dq (dP [] 2 "]" ")") (dq (dX [1,2] ["^","]"] 3 "_" (xBin .add "^" "]")) (dq (dChk [] [o] (dRead 4 [] true false "a" o [o])) (dq (dChk [] ["5"] (dRead 5 [] true false "wv" ("5":Pa) ["5"])) (dq (dChk [] ["%"] (dRead 6 [] true false "b" ("%":Pa) ["%"])) (dq
 (dChk [5,6] ["wv","b"] (dRead 7 [5,6] true false "e" (fun _ => (xBin .add "wv" "b")) ["wv","b"])) (dq (dP [] 8 "g" o) (dq (dP [] 9 "q" "5") (dq (dP [] 10 "h" "%") (dq (dX [9,10] ["q","h"] 11 "m" (xBin .add "q" "h")) (dq (dX [8,11,9,10] ["g","m"]
 12 "r" (xIa 2 "g" "m")) (dq (dY [12,8,11,9,10] ["r"] 13 "j" (xLd (some 2) "r")) (dq (dP [] 14 "c" o) (dq (dP [] 15 "k" "5") (dq (dP [] 16 "s" ")") (dq (dX [15,16] ["k","s"] 17 "i" (xBin .add "k" "s")) (dq (dX [14,17,15,16] ["c","i"] 18
 "v" (xIa 2 "c" "i")) (dq (dY [18,14,17,15,16] ["v"] 19 "w" (xLd (some 2) "v")) (dq (dX [0,3,1,2,8,9,10,11,12,13,19,18,14,17,15,16] ["V","_"] 20 "f" (xIa 2 "V" "_")) (dq (dChk [20,13,0,1,2,3,8,9,10,11,12,19,18,14,17,15,16] ["f","j"] (dMain 21 [20,13,0,1,2,3,8,9,10,11,12,19,18,14,17,15,16]
 (sU none (xSt 2 "f" "j")))) (dq (dX [4,7,0,1,2,3,5,6,8,9,10,11,12,13,14,15,16,17,18,19,20,21] ["a","e"] 22 "x" (xIa 2 "a" "e")) (dq (dChk [22,19,21,0,1,2,3,4,5,6,7,8,9,10,11,12,13,14,15,16,17,18,20] ["x","w"] (dMain 23 [22,19,21,0,1,2,3,4,5,6,7,8,9,10,11,12,13,14,15,16,17,18,20] (sU none (xSt 2 "x" "w"))))
 dEnd)))))))))))))))))))))))))) (cN (sq (sM "l" "%") (sq (sM ")" "l") sEnd)))))))))
def r223:CE:=(cS (cN (sq (sM "wx" o.l) (sq (sM ")" "wx") sEnd))) (cB 0 (cL 1000000 Cd6)))
def e223:FE:=⟨r223,[],82⟩
def r224:CE:=(cS (cN (sq (sM "&" (0:Int)) sEnd)) (cS (cN (sq (sM "(" o) (sq (sM ")" o.l) (sq (sX "%" (xBin .sub ")" (1:Int))) (sq (sM "wx" o.l) (sq (sM "$" o.l) (sq (sX "1" (xBin .add "$" (1:Int))) (sq (sM "0" o.r) (sq (sM "3" "5") (sq (sCall 225 ["(","%","wx","1","0","3"] ".")
 (sq (sM "&" ".") sEnd))))))))))) (cE .ret)))
def e224:FE:=⟨r224,[(8,none)],18⟩
def r225:CE:=(cS (cN (sq (sM "wx" (0:Int)) sEnd)) (cS (cN (sq (sM "1" o) (sq (sM "0" o.l) (sq (sM "3" o.r) (sq (sM "." "!") (sq (sM "8" "*") (sq (sCall 229 ["1","0","3",".","8"] "6") (sq (sM "$" "6") (sq (sX "7" (xExt "$" 0)) (sq (sX "wy" (xExt "$" 1)) (sq (sM o.l "7") (sq (sM o.r
 "wy") sEnd)))))))))))) (cS (cN (sq (sM "2" o) (sq (sM "ww" o.r) (sq (sM ":" "5") (sq (sM "9" "!") (sq (sM ";" "*") (sq (sCall 229 ["2","ww",":","9",";"] "=") (sq (sM "4" "=") (sq (sX "<" (xExt "4" 0)) (sq (sX "?" (xExt "4" 1)) (sq (sM o.r "<") (sq (sM "5" "?") sEnd))))))))))))
 (cS (cN (sq (sM "@" o) (sq (sM "D" o.l) (sq (sM "A" o.r) (sq (sM "C" "!") (sq (sM "F" "*") (sq (sCall 229 ["@","D","A","C","F"] "G") (sq (sM ">" "G") (sq (sX "H" (xExt ">" 0)) (sq (sX "B" (xExt ">" 1)) (sq (sM o.l "H") (sq (sM o.r "B") sEnd))))))))))))
 (cS (cN (sq (sM "E" o.r) (sq (sM "wx" "E") sEnd))) (cE .ret))))))
def e225:FE:=⟨r225,[(12,none)],41⟩
def r229:CE:=(cS (cN (sq (sM ")" (0:Int)) (sq (sM "%" (0:Int)) sEnd))) (cS (cS (cN (regE 11 (dq (dP [] 0 "wx" "!") (dq (dP [] 1 "$" o) (dq (dP [] 2 "1" o.r) (dq (dX [1,2] ["$","1"] 3 "0" (xIa 2 "$" "1")) (dq (dY [3,1,2] ["0"] 4 "3" (xLd (some 2) "0")) (dq (dP [] 5 "." o) (dq (dP [] 6 "8" o.l) (dq
 (dX [5,6] [".","8"] 7 "6" (xIa 2 "." "8")) (dq (dY [7,5,6] ["6"] 8 "7" (xLd (some 2) "6")) (dq (dChk [0,4,8,3,1,2,7,5,6] ["wx","3","7"] (dMain 9 [0,4,8,3,1,2,7,5,6] (sCf none "wx" ["3","7"] "wy"))) (dq (dX [9,0,4,8,3,1,2,7,5,6] ["wy"] 10 "4" (xBin .lss "wy" (0:Int))) dEnd))))))))))))) (cC
 "4" (cS (cN (sq (sM "2" "5") (sq (sU "ww" (xAny (.nck (.tmp 23)))) (sq (sX ":" (xLd none "ww")) (sq (sX "9" (xBin .add ":" (1:Int))) (sq (sU ";" (xAny (.nck (.tmp 23)))) (sq (sU none (xSt 1 ";" "9")) sEnd))))))) (cS (cN (sq (sM "=" o.r) (sq (sM "<" o.l) (sq (sM ")" "=") (sq (sM "%" "<") sEnd)))))
 (cE .ret))) (cE .normal))) (cS (cN (sq (sM "?" o.l) (sq (sM ">" o.r) (sq (sM ")" "?") (sq (sM "%" ">") sEnd))))) (cE .ret))))
def e229:FE:=⟨r229,[(10,none),(11,none)],32⟩
end
end Go.DD
