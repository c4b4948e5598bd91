/- VersionFold, the statement: for every input the call returns true and each argument reads afterwards as before. Conditions: none. -/
import Derived.Test.YtnphfnhhpcelbaaGreatYv
import Derived.Test.YtnphfnhhpcelbaaGreatProg
import Derived.KernelRfl
import Derived.Test.YtnphfnhhpcelbaaGreatYw
import Derived.Test.YtnphfnhhpcelbaaGreatYg
import Derived.WalkKit
import Derived.ProofKit
import Derived.OpenShut
import Derived.Test.YtnphfnhhpcelbaaGreatYf
import Derived.ChangeSame
import Derived.Below
import Derived.Test.YtnphfnhhpcelbaaGreatYs
import Derived.Test.YtnphfnhhpcelbaaGreatRows
import Derived.ChangeSlices
import Derived.Carry
set_option linter.unusedSectionVars false
set_option linter.unusedVariables false
namespace Go.DD
noncomputable section
open Pa
instance NJ : Coe Pa EO := ⟨EO.t⟩
open Go
set_option maxRecDepth 100000
def nF:CE:=(cS (cT [(sM "R" "*"),(sM "T" o.l),(sX "S" (Cu "T")),(sX "V" (Ar .lss "R" "S"))] (cC "V" (cE .normal) (cE (.exit 0)))) (cS (cB 1 (cS (cT [(sM "c" o.l),(sM "W" "*"),(sX "^" (Fg 1 "c" "W")),(sX "d" (Cf none "^")),(Bj 14 ["d",(8:Int)]
 "h"),(sX "Z" (Nz .not "h"))] (cC "Z" (cT [(Bj 15 [] "X"),(sM "%" "X")] (cE .ret)) (cE .normal))) (cT [(sM "e" "$"),(sM "a" "$"),(sX "_" (Cu "a")),(sX "f" (Ar .sub "_" (1:Int))),(sX "b" (Fg 3 "e" "f")),(sX "i" (Cf (some 3) "b")),(sU
 "," (Qe 26 [.v (.slice none 0 0),.v (.slice none 0 0),.v (.slice none 0 0)])),(sU none (Is 3 "," "i"))] (cS (cN (Gk 12 (dL [(dY [] [","] 0 "g" (Cf (some 3) ",")),(dP [] 1 "o" o.l),(dP [] 2 "j" "*"),(dX [1,2] ["o","j"] 3 "l" (Fg 1 "o" "j")),(dY [3,1,2] ["l"] 4 "q" (Cf
 none "l")),(Bx [0,4,3,1,2] ["g","q"] (Cx 5 [0,4,3,1,2] (Bj 17 ["g","q"] "t"))),(dP [5,0,4,3,1,2] 6 "]" "t"),(dX [6,5,0,4,3,1,2] ["]"] 7 "k" (Gd "]" 0)),(Bx [6,5,0,4,3,1,2] ["]"] (Ch 8 [6,5,0,4,3,1,2] true false "u" (λ_ => (Gd "]" 1)) ["]"])),(Bx
 [] [] (Qa 9 [] true false "." (Qe 26 [.v (.slice none 0 0),.v (.slice none 0 0),.v (.slice none 0 0)]) [])),(Bx [9,7,5,0,1,2,3,4,6] [".","k"] (Cx 10 [9,7,5,0,1,2,3,4,6] (sU none (Is 3 "." "k")))),(dP [8,10,0,1,2,3,4,5,6,7,9] 11 "+" "u")]))) (cT [(sM "v" ")"),(sM "|" "$"),(sX "y" (Cu "|")),(sM "~"
 o.l),(sM "ak" "*"),(sX "s" (Fg 1 "~" "ak")),(sX "al" (Cf none "s")),(Bj 29 ["v",(.c (.v (.string (bs [109,97,105,110])))),"y","al"] "["),(sM "z" "["),(sX "w" (Gd "z" 0)),(sX "p" (Gd "z" 1)),(sM "1" "w"),(sM "3" "p")]
 (cB 2 (cT [(sM "an" "+"),(sX "ao" (Ar .neq "an" (0:Int))),(sM "as" "ao")] (cC "as" (cT [(sM "ap" "3"),(sM "aq" "+"),(sX "at" (Ar .neq "ap" "aq")),(sM "ai" "at"),(sG "ai" false "aj" (sM "aj" "1")),(sG "ai" false
 "ar" (sX "ar" (Ar .neq "aj" (0:Int)))),(sX "aD" (Co "ai" true "ar"))] (cC "aD" (cT [(sM "%" false)] (cE .ret)) (cE .normal))) (cT [(sX "av" (Cf (some 3) ",")),(sX "ay" (Cf (some 3) ".")),(Bj 25 ["av","ay"] "aB"),(sM "au"
 "aB")] (cC "au" (cT [(sM "aP" "3"),(sX "aE" (Ar .neq "aP" (6:Int))),(sM "aw" "aE"),(sG "aw" false "az" (sM "az" "1")),(sG "aw" false "ax" (sX "ax" (Ar .neq "az" (0:Int)))),(sX "aF" (Co "aw" true
 "ax"))] (cC "aF" (cT [(sM "%" false)] (cE .ret)) (cE .normal))) (cT [(sM "am" "$"),(sX "r" (Cf (some 3) ".")),(sU "ab" (Bi (.bsl 26 1 3 [.slice none 0 0,.slice none 0 0,.slice none 0 0] [(0,3,.tmp 87)]))),(sU "ac" (Bi (.app 26 3 72 (.tmp 86) (.tmp 88)))),(sM "$" "ac")] (cT [(sM "ad" "3"),(sX
 "ae" (Ar .neq "ad" (0:Int))),(sM "m" "ae"),(sG "m" false "x" (sM "x" "1")),(sG "m" false "af" (sM "af" "$")),(sG "m" false "ag" (sX "ag" (Cu "af"))),(sG "m" false "ah" (sX "ah" (Ar .neq "x" "ag"))),(sX
 "n" (Co "m" true "ah"))] (cC "n" (cT [(sM "%" false)] (cE .ret)) (cE .normal)))))))))))))) (cN (sL [(sM "U" "*"),(sX "Y" (Ar .add "U" (1:Int))),(sM "*" "Y")]))))
def nE:CE:=(cS (cT [(sM "aG" "2"),(sM "aH" "$"),(sX "aI" (Cu "aH")),(sX "aJ" (Ar .lss "aG" "aI")),(sM "aA" "aJ"),(sG "aA" true "aK" (sM "aK" "2")),(sG "aA" true "aL" (sX "aL" (Ar .lss "aK" (16:Int)))),(sX "aU"
 (Co "aA" "aL" false))] (cC "aU" (cE .normal) (cE (.exit 3)))) (cS (cB 4 (cT [(sM "aO" o.r),(sM "aR" "2"),(sX "aW" (Ar .shr "aO" "aR")),(sX "a5" (Ar .rem "aW" (.c (.v (.int .u16 2))))),(sX "aX" (Ar .eql "a5" (.c (.v (.int .u16 1)))))] (cC "aX"
 (cN (sL [(sM "bg" "4"),(sM "bh" "2"),(sX "bi" (Ar .add "bh" (1:Int))),(sU "a6" (Bi (.bsl 3 1 1 [.int .i64 0] [(0,1,.tmp 135)]))),(sU "aY" (Bi (.app 3 1 8 (.tmp 133) (.tmp 136)))),(sM "4" "aY")])) (cE .normal)))) (cN (sL [(sM "aV" "2"),(sX "aN" (Ar .add "aV"
 (1:Int))),(sM "2" "aN")]))))
def nD:CE:=(cS (cT [(sM o.l.l.r.l.r.l.r "0"),(sM o.l.l.r.l.r.r.l "$"),(sX o.l.l.r.l.r.r.r (Cu o.l.l.r.l.r.r.l)),(sX o.l.l.r.r.l.l.l (Ar .lss o.l.l.r.l.r.l.r o.l.l.r.l.r.r.r))] (cC o.l.l.r.r.l.l.l (cE .normal) (cE (.exit 5)))) (cS (cB 6 (cT [(sM o.l.l.r.r.r.l.l ")"),(sM o.l.l.r.r.r.l.r "0"),(sX o.l.l.r.r.r.r.l (Ar .add o.l.l.r.r.r.l.r (1:Int))),(Bj 31 [o.l.l.r.r.r.l.l,o.l.l.r.r.r.r.l]
 "bs"),(sM o.l.l.r.r.l.r.r "bs"),(sX "bt" (Gd o.l.l.r.r.l.r.r 0)),(sX "bu" (Gd o.l.l.r.r.l.r.r 1)),(sU ":" (Qe 26 [.v (.slice none 0 0),.v (.slice none 0 0),.v (.slice none 0 0)])),(sU none (Is 3 ":" "bt")),(sM ";" "bu")] (cT [(sM "bv" "0"),(sM "bw" "$"),(sX "bx" (Cu
 "bw")),(sX "by" (Ar .sub "bx" (1:Int))),(sX "bz" (Ar .eql "bv" "by")),(sM "aQ" "bz"),(sG "aQ" false "bd" (sM "bd" "0")),(sG "aQ" false "be" (sX "be" (Ar .lss "bd" (16:Int)))),(sG "aQ"
 false "aC" (sM "aC" "be")),(sG "aC" true "bf" (sM "bf" o.r)),(sG "aC" true "bA" (sM "bA" "0")),(sG "aC" true "bB" (sX "bB" (Ar .shr "bf" "bA"))),(sG "aC" true "bC" (sX "bC" (Ar .rem "bB" (.c (.v
 (.int .u16 2)))))),(sG "aC" true "bD" (sX "bD" (Ar .eql "bC" (.c (.v (.int .u16 1)))))),(sG "aQ" false "bF" (sX "bF" (Co "aC" "bD" false))),(sX o.l.r.r.l.l.l.r (Co "aQ" true "bF"))] (cC o.l.r.r.l.l.l.r (cT [(sM o.l.r.r.l.l.r.l "6"),(sX
 o.l.r.r.l.l.r.r (Ar .add o.l.r.r.l.l.r.l (1:Int))),(sM "6" o.l.r.r.l.l.r.r)] (cS (cN (Gk 11 (dL [(dP [] 0 "bG" ";"),(dX [0] ["bG"] 1 o.l.r.r.l.r.l.r (Ar .neq "bG" (0:Int))),(dP [1,0] 2 "aa" o.l.r.r.l.r.l.r),(dG "aa" false "a8" (dY [2,1,0] [":"] 3 "a8" (Cf (some 3) ":"))),(dG
 "aa" false "a9" (dP [2,1,0] 4 "a9" "$")),(dG "aa" false "ba" (dP [2,1,0] 5 "ba" "0")),(dG "aa" false "bl" (dX [4,5,2,1,0] ["a9","ba"] 6 "bl" (Fg 3 "a9" "ba"))),(dG "aa" false "bm" (dY [6,2,4,5,1,0] ["bl"] 7 "bm"
 (Cf (some 3) "bl"))),(dG "aa" false "bn" (Bx [3,7,2,1,0,6,4,5] ["a8","bm"] (Cx 8 [3,7,2,1,0,6,4,5] (Bj 25 ["a8","bm"] "bn")))),(dG "aa" false "bo" (dX [8,2,3,7,1,0,6,4,5] ["bn"] 9 "bo" (Nz .not "bn"))),(dX [2,9,1,0,8,3,7,6,4,5] ["aa","bo"]
 10 o.l.r.r.r.r.r.l (Co "aa" true "bo"))]))) (cC o.l.r.r.r.r.r.l (cT [(sM "%" false)] (cE .ret)) (cE .normal)))) (cT [(sM o.l.r.r.r.r.r.r ";"),(sX o.r.l.l.l.l.l.l (Ar .neq o.l.r.r.r.r.r.r (23:Int)))] (cC o.r.l.l.l.l.l.l (cT [(sM "%" false)] (cE .ret)) (cE .normal))))))) (cN (sL [(sM o.l.l.r.r.l.l.r
 "0"),(sX o.l.l.r.r.l.r.l (Ar .add o.l.l.r.r.l.l.r (1:Int))),(sM "0" o.l.l.r.r.l.r.l)]))))
def w9:WE:=(wS (wD (cN (sL [(sU ">" (Nx 26 o)),(sM "%" false)]))) (wS (wD (cT [(sX "5" (Cf (some 3) ">")),(Bj 13 ["5",(20:Int)] "="),(sX "9" (Nz .not "=")),(sM "<" "9"),(sG "<" false "?" (sM "?" o.l)),(sG "<" false "@" (sX "@" (Cu "?"))),(sG "<" false "A" (sX
 "A" (Ar .gtr "@" (12:Int)))),(sX "B" (Co "<" true "A"))] (cC "B" (cT [(Bj 15 [] "C"),(sM "%" "C")] (cE .ret)) (cE .normal)))) (wS (wD (cN (sL [(sX "F" (Cf (some 3) ">")),(Bj 27 ["F"] "G"),(sM "D" "G"),(sX "I" (Gd "D" 0)),(sX "O" (Gd
 "D" 1)),(sM ")" "I"),(sM "(" "O")]))) (wS (wD (cT [(sM "N" "("),(sX "E" (Ar .neq "N" (0:Int)))] (cC "E" (cT [(sM "H" ")"),(sU "J" (Bi (.nilq 1 false (.tmp 40) (.const (.pointer none))))),(sM "K" "J"),(sG "K" true "L" (Bj 15 [] "L")),(sX "P" (Co
 "K" "L" false)),(sM "%" "P")] (cE .ret)) (cE .normal)))) (wS (wD (cN (sL [(sX "Q" (Cf (some 3) ">")),(sU "M" (Bi (.bsl 26 1 3 [.slice none 0 0,.slice none 0 0,.slice none 0 0] [(0,3,.tmp 45)]))),(sM "$" "M")]))) (wS (wD (cT [(sM "*" (0:Int))] (cB 0 (cL 1000000 nF)))) (wS (wD (cN (sL [(sM "4" (.c
 (.v (.slice none 0 0))))]))) (wS (wD (cT [(sM "2" (0:Int))] (cB 3 (cL 1000000 nE)))) (wS (wD (cN (sL [(sM "a7" ")"),(Bj 35 ["a7"] "aZ"),(sM "7" "aZ")]))) (wS (wN (rS (sM "a0" ")") (rS (sM "a1" "4") (rW 36 ["a0","a1"] "a2" (rS (sM "aS" "a2")
 (rS (sX "a3" (Gd "aS" 0)) (rS (sX "bj" (Gd "aS" 1)) (rS (sM "8" "a3") (rS (sM "(" "bj") rE))))))))) (wD (cS (cT [(sM "bE" "("),(sX "bk" (Ar .neq "bE" (0:Int)))] (cC "bk" (cT [(sM "%" false)] (cE .ret)) (cE .normal))) (cT [(sM "6"
 (0:Int))] (cS (cT [(sM "0" (0:Int))] (cB 5 (cL 1000000 nD))) (cT [(sM o.r.l.l.l.l.l.r "8"),(sM o.r.l.l.l.l.r.l "$"),(sX o.r.l.l.l.l.r.r (Cu o.r.l.l.l.l.r.l)),(sM "bb" "6"),(sX "bH" (Ar .sub o.r.l.l.l.l.r.r "bb")),(sX "bI" (Ar .eql o.r.l.l.l.l.l.r "bH")),(sM "aM" "bI"),(sG
 "aM" true "bJ" (sM "bJ" ")")),(sG "aM" true "bK" (Bj 37 ["bJ"] "bK")),(sG "aM" true "bL" (sX "bL" (Cu "bK"))),(sG "aM" true "bM" (sM "bM" "6")),(sG "aM" true "bN" (sX "bN" (Ar .eql "bL" "bM"))),(sX
 o.r.l.l.r.r.l.r (Co "aM" "bN" false)),(sM "bc" o.r.l.l.r.r.l.r),(sG "bc" true "bO" (sM "bO" "8")),(sG "bc" true "bP" (sX "bP" (Ar .gtr "bO" (0:Int)))),(sG "bc" true "aT" (sM "aT" "bP")),(sG "aT"
 false "a4" (sM "a4" ")")),(sG "aT" false "bp" (Bj 35 ["a4"] "bp")),(sG "aT" false "bq" (sM "bq" "7")),(sG "aT" false "br" (sX "br" (Ar .eql "bp" "bq"))),(sG "bc" true "bQ" (sX "bQ" (Co "aT"
 true "br"))),(sX o.r.l.r.l.r.r.r (Co "bc" "bQ" false)),(sM "bR" o.r.l.r.l.r.r.r),(sG "bR" true "bS" (Bj 15 [] "bS")),(sX o.r.l.r.r.l.r.l (Co "bR" "bS" false)),(sM "%" o.r.l.r.r.l.r.l)] (cE .ret))))))))))))))))
end
end Go.DD

/- The printed code is the program's. -/
namespace Go.DD
open Go Go.Proofs
set_option maxRecDepth 100000
theorem ua9:Tryz.prog.funcs[9]?=some Tryz.f9:=by kernel_rfl
theorem ub9:Uc Tryz.prog 9=true:=by kernel_rfl
noncomputable def d9:DF:=(Yp Tryz.prog Tryz.f9).getD default
theorem uc9:Yp Tryz.prog Tryz.f9=some d9:=by kernel_rfl
theorem ur9:d9.res=[(6,none)]:=by kernel_rfl
theorem un9:d9.nt=218:=by kernel_rfl
theorem BT:(λwc call=>Ir wc (λf=>Nat.beq f 36) call false 1000000 d9.nt d9.code)=w9:=by kernel_rfl
end Go.DD

/- Chapter 08, VersionFold: the commits. Conditions: those that each theorem states. -/
namespace Go.DD
open Go Go.Proofs Go.Sort
def Av{α:Type}(R:Rep α)(T0:Nat):Prop:=∀ {hp:Tr DObj} {p:Nat->Prop} {ds:List DV} {x:α} {id:Nat} {fl:List DV},hp.get id=some (.row T0 fl)->R.rd hp p ds x->R.rd hp (λj=>p j/\j≠id) ds x
section
variable {α:Type} {R:Rep α} {T0 id:Nat} {hp:Tr DObj} {p:Nat->Prop} {oh:List DV}
theorem Av.rows(h:Av R T0)(hg:hp.get id=some (.row T0 oh)):∀ {l:List α} {ds:List DV},Rows R hp p ds l->Rows R hp (λj=>p j/\j≠id) ds l
 | [],_,r=>r
 | _::_,_,⟨a,b,e,h1,h2⟩=>⟨a,b,e,h hg h1,Av.rows h hg h2⟩
theorem Av.rl{d:DV}{l:List α}(h:Av R T0)(hT:R.T≠T0)(hg:hp.get id=some (.row T0 oh))(r:RL R hp p d l):RL R hp (λj=>p j/\j≠id) d l:=by
 cases r with
 | nil=>exact .nil
 | sl=>exact .sl _
 | ms Vy off fl l h1 hid hl hr hs=>
  refine .ms Vy off fl l h1 ⟨hid,λe=>?_⟩ hl (h.rows hg hr) hs
  rw [e,hg] at h1
  injection h1 with h1
  injection h1 with h1
  exact hT h1.symm
theorem Av.ol{d:DV}{l:List α}(h:Av R T0)(hg:hp.get id=some (.row T0 oh))(r:OL R hp p d l):OL R hp (λj=>p j/\j≠id) d l:=by
 cases r with
 | nil=>exact .nil
 | ms Vy fl l h1 hr=>exact .ms Vy fl l h1 (h.rows hg hr)
theorem E2{e T:Nat}{f:α->List DV}{e0:0<e}{hl:∀ x,(f x).length=e}{hf:∀ x,∀ c∈f x,c.refs=[]/\(c.okC=true/\c.cells=[c])/\∀ n,1<=n->Nk n c c=true} : Av (Yw e T f e0 hl hf) T0:=λ_ h=>h
theorem Y2{T:Nat}{hd:R.dep+1<=6}(h:Av R T0)(hT:R.T≠T0):Av (Nf R T hd) T0:=λhg ⟨d,e,r⟩=>⟨d,e,h.rl hT hg r⟩
theorem VE{β γ:Type}{B:Rep β}{T:Nat}{f:γ->α}{g:γ->β}(h1:Av R T0)(h2:Av B T0):Av (Wz R B T f g) T0:=λhg ⟨a,b,e,r1,r2⟩=>⟨a,b,e,h1 hg r1,h2 hg r2⟩
end
theorem av_cell:Av rCell 26:=VE (Y2 E2 (by decide)) (Y2 E2 (by decide))
theorem av_node:Av rNode 26:=VE (VE (Y2 (VE (Y2 E2 (by decide)) (Y2 E2 (by decide))) (by decide)) (Y2 E2 (by decide))) E2
theorem TreeC.av{hp:Tr DObj}{B:Nat->Prop}{T H id:Nat}{nd:DV}{S:GTree}{ch:Nat->List PCell}{fl:List DV}(h:TreeC hp B T H nd S ch)(hg:hp.get id=some (.row 26 fl)):TreeC hp (λj=>B j/\j≠id) T H nd S ch:=by
 obtain ⟨d,a,z,h1,h2,h3,h4⟩:=h.r
 obtain ⟨ck,es,g1,g2⟩:=h.m
 have nT:T≠id:=λe=>by
  rw [e,hg] at h1
  injection h1 with h1
  injection h1 with h1
  exact absurd h1 (by decide)
 have nH:H≠id:=λe=>by
  rw [e,hg] at g1
  injection g1 with g1
  cases g1
 have up:∀ j,((B j/\j≠T/\j≠H/\j∉nd.refs)/\j≠id)->((B j/\j≠id)/\j≠T/\j≠H/\j∉nd.refs):=λj hj=>⟨⟨hj.1.1,hj.2⟩,hj.1.2⟩
 refine ⟨⟨h.th.1,⟨h.th.2.1,nT⟩,⟨h.th.2.2,nH⟩⟩,⟨d,a,z,h1,(Av.rl (R:=rDim) E2 (by decide) hg h2).mono up,(Av.rl (R:=rAttr) E2 (by decide) hg h3).mono up,(av_cell.rl (by decide) hg h4).mono up⟩,⟨ck,es,g1,g2⟩,(av_node.ol hg h.n).mono up,λj hj=>?_,h.ok⟩
 have:=h.nr j hj
 refine ⟨⟨this.1,λe=>?_⟩,this.2⟩
 have hn:=h.n
 generalize hl:(List.range S.vers.length).map (λi=>(⟨ch i,S.parG (i+1),S.isG (i+1)⟩:PNode))=l at hn
 cases hn with
 | nil=>cases hj
 | ms Vy fl' l q1 hr=>
  have:j=Vy:=by simpa [DV.refs] using hj
  rw [<- this,e,hg] at q1
  injection q1 with q1
  injection q1 with q1
  exact absurd q1 (by decide)
theorem Cv3{n0 m i:Nat}{an refs lo:List Nat}{ws:List Look}{ps:List Past}(h:∀ j∈refs,n0+m<=j/\∀ p∈ps,an.contains p.q=true\/p.b.get j=p.a.get j)(h2:Pl n0 m ws ps=true):Pl n0 m (Gg i an true false refs n0 lo ws) ps=true:=by
 have e:Gg i an true false refs n0 lo ws=(refs.map λid=>⟨i,an,id,lo.contains (id-n0),false⟩)++ws:=by
  show Kw (bT _ refs) ws=_
  rw [dT,qL]
 rw [e]
 clear e
 induction refs with
 | nil=>exact h2
 | cons id refs ih=>
  rw [Am,Iz,okl_cons]
  refine ⟨λp hp=>?_,ih λid hid=>h id (Bh _ hid)⟩
  obtain ⟨h3,h4⟩:=h id (Ct ..)
  simp only
  have hb:(Nat.blt id n0||Nat.ble (n0+m) id)=true:=by
   rw [Ii];exact .inr (by simpa [Oz] using h3)
  rw [Af hb]
  rcases h4 p hp with h | h
  .rw [h];simp
  .simp [rL,h]
structure ArrO (x:PArr) (cs:List (List PCell)) (hp:Tr DObj) (nx T H:Nat) (nd za:DV):Prop where
 o:OL rArr hp (λj=>j<nx/\j≠T/\j≠H/\j∉nd.refs/\j∉za.refs) za (cs.map λc=>⟨x.dims,x.attrs,c⟩)
 zr:∀ j∈za.refs,j<nx/\j≠T/\j≠H/\j∉nd.refs
structure FoldI (x:PArr) (cs:List (List PCell)) (hp:Tr DObj) (nx T H:Nat) (nd za:DV):Prop where
 t:TreeG hp nx T H nd (Eh x cs)
 a:ArrO x cs hp nx T H nd za
 n:cs≠[]
 l:∀ c∈cs,c.length<=12+8*cs.length
section
variable {x:PArr} {cs:List (List PCell)} {hp An:Tr DObj} {nx Bm T H:Nat} {nd za:DV}
theorem ArrO.keep(h:ArrO x cs hp nx T H nd za)(hk:∀ j,j<nx->j∉nd.refs->An.get j=hp.get j)(hle:nx<=Bm):ArrO x cs An Bm T H nd za:=by
 refine ⟨(h.o.keep λj hj=>?_).mono λj hj=>⟨by omega,hj.2⟩,λj hj=>⟨by have:=(h.zr j hj).1;omega,(h.zr j hj).2⟩⟩
 rcases hj with hj | hj
 .exact hk j hj.1 hj.2.2.2.1
 .exact hk j (h.zr j hj).1 (h.zr j hj).2.2.2
theorem ArrO.arr(h:ArrO x cs hp nx T H nd za){i:Nat}(hi:i<cs.length):∃ a b c,Fy hp (some 3) (Bz 3 za i)=some (.agg [a,b,c])/\Qu hp 3 za (.v (.int .i64 (i:Int)))=some (Bz 3 za i)/\AR hp (λj=>j<nx/\j≠T/\j≠H/\j∉nd.refs) (.agg [a,b,c]) ⟨x.dims,x.attrs,cs[i]⟩:=by
 have r:=h.o.rl
 have Et:i<(cs.map λc=>(⟨x.dims,x.attrs,c⟩:PArr)).length:=by rw [Bp];exact hi
 obtain ⟨a,b,c,h1,h2,h3,h4,_⟩:=Cr5 r Et
 rw [Ey] at h1 h2 h3
 have up:∀ j,((j<nx/\j≠T/\j≠H/\j∉nd.refs/\j∉za.refs)\/j∈za.refs)->(j<nx/\j≠T/\j≠H/\j∉nd.refs):=λj hj=>hj.elim (λh=>⟨h.1,h.2.1,h.2.2.1,h.2.2.2.1⟩) (h.zr j)
 exact ⟨a,b,c,h4,r.ia Et,⟨a,b,c,rfl,h1.mono up,h2.mono up,h3.mono up⟩⟩
theorem ArrO.len(h:ArrO x cs hp nx T H nd za):Oc hp za=some (.v (.int .i64 (cs.length:Int))):=by
 rw [h.o.rl.len,Bp]
theorem FoldI.keep(h:FoldI x cs hp nx T H nd za)(a:Al hp nx An Bm):FoldI x cs An Bm T H nd za:=⟨h.t.keep a,h.a.keep (λj hj _=>a.same j hj) a.le,h.n,h.l⟩
theorem FoldI.chk(h:FoldI x cs hp nx T H nd za){i:Nat}(hi:i<cs.length):Mf ⟨x.dims,x.attrs,cs[i]⟩=0/\AOK ⟨x.dims,x.attrs,cs[i]⟩/\cs[i].length<=255:=by
 have:=h.t.ok.chk (i+1)
 rw [(Z3 hi).1] at this
 exact this
theorem Cm7{x r:PArr}{l:List PCell}{e:Int}(h:uO x l e r)(hx:AOK x)(hl:x.cells.length+l.length<=255)(hb:∀ c∈l,c.pos.length<900000/\c.vals.length<900000/\∀ v∈c.vals,Ww v):AOK r:=by
 rcases h with ⟨_,_,h⟩ | ⟨_,_,_,h⟩ | ⟨_,_,_,_,h⟩ | ⟨hc,h0,_,_,m,hm,hs,h⟩
 iterate 3 (subst h;exact ⟨by decide,by decide,by decide,λc hc=>by cases hc⟩)
 subst h
 exact mX hx hm (by omega) hb
theorem Br0{k:Nat}{es:ES}{Q:Exit->ES->Prop}{ls:List (List PCell)}{dl:DV}(tW:∀ hp,RL rChs hp (Bl 0) dl ls)(hl:ls.length<=12)(h:FoldI x [x.cells] es.hp es.nx T H nd za)
  (a1:Ad es (.t (.l .o))=dl) (a7:Ad es (.t (.l (.l (.l .o))))=.pt T 0) (a9:Ad es (.t (.l (.r (.l .o))))=za) (uJ:Ad es (.t (.r (.r (.l .o))))=iv 0)
  (hR:∀ Ai,Ad Ai (.t (.r (.r .o)))=bv true->Q .ret Ai)
  (hK:∀ Ai cs Vb eP,FoldI x cs Ai.hp Ai.nx T H Vb eP->cs.length<=13->Ad Ai (.t (.l (.l (.l .o))))=.pt T 0->Ad Ai (.t (.l (.r (.l .o))))=eP->Ad Ai (.t (.r .o))=Ad es (.t (.r .o))->Q .normal Ai) :
  EW (cL 1000000 nF) (kN (k+60)) es (Ms 0 Q):=by
 refine EW.up ls.length (λi Ai=>∃ cs Vb eP,FoldI x cs Ai.hp Ai.nx T H Vb eP/\cs.length<=i+1/\Ad Ai (.t (.l .o))=dl/\Ad Ai (.t (.l (.l (.l .o))))=.pt T 0/\Ad Ai (.t (.l (.r (.l .o))))=eP/\Ad Ai (.t (.r (.r (.l .o))))=iv (i:Nat)/\Ad Ai (.t (.r .o))=Ad es (.t (.r .o))) ?_ ⟨[x.cells],nd,za,h,Ag _,a1,a7,a9,uJ,rfl⟩ (by omega)
 rintro i Ai hi ⟨cs,Vb,eP,g,hci,b1,b7,b9,b10,b2⟩
 unfold nF
 by_cases Ic:i<ls.length
 .obtain ⟨dli,rl,ldl,ial⟩:=vg (tW Ai.hp) Ic
  simp only [As,↓Au,b1,b10,(tW Ai.hp).len,Ic,ial,ldl]
  refine Fh (Ct5 (k+56) 0 _ _ _ dli ls[i] 8 (by omega) rl (by omega) λCw Dt Rj=>?_)
  have Gu:=Rj.le
  cases c1:pO ls[i] 8 with
  | false=>
   simp only [As,↓Au]
   refine Fh (Z6 (k+59) _ _ _ ?_)
   simp only [As,↓Au]
   exact hR _ (by simp only [bR])
  | true=>
   obtain ⟨hl8,hb⟩:=Ct4 c1
   have N0:0<cs.length:=Lu.2 g.n
   have iC:cs.length-1<cs.length:=by omega
   have g2:=g.keep Rj
   obtain ⟨d,a,c,lA,iA,rA⟩:=g2.a.arr iC
   obtain ⟨lc,lo,aS1⟩:=g2.chk iC
   have ll:=g2.l _ (Be iC)
   simp only [As,↓Au,b9,g2.a.len,D8 cs.length (by omega) (by omega),iA,lA]
   refine Rz λGn Kv Hy=>?_
   simp only [bR] at Kv Hy
   obtain ⟨d',a',c',he,q1,q2,q3⟩:=rA
   cases he
   have r1:RL rDim Cw (Bl Dt) d x.dims:=q1.mono λj hj=>hj.1
   have r2:RL rAttr Cw (Bl Dt) a x.attrs:=q2.mono λj hj=>hj.1
   have r3:RL rCell Cw (Bl Dt) c cs[cs.length-1]:=q3.mono λj hj=>hj.1
   have kA:∀ j,Bl Dt j->Gn.get j=Cw.get j:=λj (hj:j<Dt)=>Hy j (by omega)
   simp only [As,↓Au]
   refine Qx (n:=3) (id:=Dt) (ds:=[d,a,c]) (by simp only [bR]) Kv (by simp only [Ha,bR];exact AR.live (x:=⟨x.dims,x.attrs,cs[cs.length-1]⟩) (r1.keep kA) (r2.keep kA) (r3.keep kA)) rfl rfl λFq Kf Fl=>?_
   simp only [bR] at Kf Fl
   have Xu:Al Cw Dt Fq (Dt+1):=⟨by omega,λj hj=>(Fl j (by omega)).trans (Hy j (by omega))⟩
   have g4:=g2.keep Xu
   obtain ⟨sg,rl4,bt,ct⟩:=vg (tW Fq) Ic
   have lA4:Fy Fq (some 3) (.pt Dt 0)=some (.agg [d,a,c]):=(Qd Kf).2.2.2.2
   have bz:∀ j,Bl 0 j->j<Dt+1:=λj hj=>absurd hj (Gh j)
   have I4:∀ {an:List Nat},Hh (Bz 1 dl i) (λid=>Cp (Dt+1) 12 an Fq id)↔True:=Bf ((tW Fq).roa bz)
   have V0:∀ j,Bl Dt j->Fq.get j=Cw.get j:=λj hj=>Xu.same j hj
   have roG:∀ {an:List Nat},Hh (.agg [d,a,c]) (λid=>Cp (Dt+1) 12 an Fq id)↔True:=Bf (AR.rox (x:=⟨x.dims,x.attrs,cs[cs.length-1]⟩) (r1.keep V0) (r2.keep V0) (r3.keep V0) (Nat.le_succ _))
   simp only [As,↓Au,b1,b10,lA4,ct,bt,Lp (n0:=Dt+1) (m:=12) Kf (Ex _),jA (tW Fq) bz,jA rl4 bz,I4,roG]
   refine Ly rfl (Uy ?_)
   simp only [bR,Am,Az]
   have OD:=Al.ini Fq (by omega:Dt+1<=Dt+1+12)
   refine Bm5 (k+41) (Dt+1) _ _ _ (.agg [d,a,c]) sg ⟨x.dims,x.attrs,cs[cs.length-1]⟩ ls[i] (by omega) ⟨d,a,c,rfl,(r1.keep V0).mono λj (hj:j<Dt)=>by show j<Dt+1;omega,(r2.keep V0).mono λj (hj:j<Dt)=>by show j<Dt+1;omega,(r3.keep V0).mono λj (hj:j<Dt)=>by show j<Dt+1;omega⟩ (rl4.mono λj hj=>absurd hj (Gh j)) lo ⟨by show cs[cs.length-1].length+ls[i].length<=255;omega,by (have:=B17);omega⟩ hb λGr Ia d5 r5 e5 bI ar5 W8 _=>?_
   have Oi:=bI.le
   obtain ⟨dx,ax,cx,rfl,x1,x2,x3⟩:=ar5
   have y0:Fb Gr (.tup [.agg [dx,ax,cx],iv e5]) 0=some (.agg [dx,ax,cx]):=Xp x1 x2 x3
   have y1:Fb Gr (.tup [.agg [dx,ax,cx],iv e5]) 1=some (iv e5):=Ru
   have DX:∀ {An:Tr DObj} {an:List Nat},(∀ j,Bw (Dt+1+12) Ia j->An.get j=Gr.get j)->(Hh (.agg [dx,ax,cx]) (λid=>Cp (Dt+1) 12 an An id)↔True):=λ{An an} kk=>Bf λid hid=>by
    have:id∈dx.refs\/id∈ax.refs\/id∈cx.refs:=by simpa [DV.refs,DV.refsL] using hid
    have w1:=(x1.keep kk).ro' (n:=Dt+1) (m:=12) (an:=an) λj hj=>.inr hj.1
    have w2:=(x2.keep kk).ro' (n:=Dt+1) (m:=12) (an:=an) λj hj=>.inr hj.1
    have w3:=(x3.keep kk).ro' (n:=Dt+1) (m:=12) (an:=an) λj hj=>.inr hj.1
    exact this.elim (w1 id) λh=>h.elim (w2 id) (w3 id)
   have wO:∀ {an:List Nat},Hh (.tup [.agg [dx,ax,cx],iv e5]) (λid=>Cp (Dt+1) 12 an Gr id)↔True:=Bf λid hid=>(DX λ_ _=>rfl).2 trivial id (by simpa [DV.refs,DV.refsL,iv] using hid)
   simp only [As,↓Au,Oi,y0,y1,wO]
   refine mF (o:=.row 26 [Cb,Cb,Cb]) (d:=.pt (Dt+1+9) 0) rfl λIv cQ Ve=>?_
   simp only [bR] at cQ Ve
   have k6:∀ j,Bw (Dt+1+12) Ia j->Iv.get j=Gr.get j:=λj hj=>Ve j (by have:=hj.1;omega)
   simp only [As,↓Au,DX k6]
   refine ⟨kY cQ rfl,Ly rfl (Qx (n:=3) (id:=Dt+1+9) (ds:=[dx,ax,cx]) (by simp only [bR]) cQ (by simp only [Ha,bR];exact AR.live (x:=r5) (x1.keep k6) (x2.keep k6) (x3.keep k6)) rfl rfl λKl Pt Lr=>?_)⟩
   simp only [bR] at Pt Lr
   have k7:∀ j,Bw (Dt+1+12) Ia j->Kl.get j=Gr.get j:=λj hj=>(Lr j (by have:=hj.1;omega)).trans (k6 j hj)
   have h5l:Dt+1+12<=Ia:=Oi
   have S4:Al Fq (Dt+1) Kl Ia:=⟨by omega,λj hj=>by rw [Lr j (by omega),Ve j (by omega),bI.same j (by omega)]⟩
   have g7:=g4.keep S4
   obtain ⟨sf,rl7,br,cr⟩:=vg (tW Kl) Ic
   have Ta:Pl (Dt+1) 12 (Gg 8 [6,5,0,4,3,1,2] true false (DV.tup [.agg [dx,ax,cx],iv e5]).refs (Dt+1) [] []) [⟨10,[9,7,5,0,1,2,3,4,6],Iv,Kl⟩,⟨5,[0,4,3,1,2],Fq,Gr⟩]=true:=by
    refine Cv3 (λj hj=>?_) rfl
    have KP:j∈dx.refs\/j∈ax.refs\/j∈cx.refs:=by simpa [DV.refs,DV.refsL,iv] using hj
    have Pj:Bw (Dt+1+12) Ia j:=KP.elim (λh=>(x1.refs j h).1) λh=>h.elim (λh=>(x2.refs j h).1) λh=>(x3.refs j h).1
    refine ⟨Pj.1,λp hp=>?_⟩
    rcases Ap.1 hp with rfl | hp
    .exact .inr (Lr j (by have:=Pj.1;omega))
    .rw [Aj.1 hp]
     exact .inl rfl
   have uE:(Eh x cs).at' cs.length=cs[cs.length-1]:=by
    have:=(Z3 (x:=x) iC).1
    rwa [show cs.length-1+1=cs.length by omega] at this
   have yV:(Eh x cs).vers.length=cs.length:=mB
   simp only [As,↓Au,b1,b7,b9,b10,Ta,g7.a.len,cr,br]
   refine Fh (B29 (k+26) _ 13 Tn cs.length sf ls[i] g7.t (by show (if Tn=Tn then some ((cs.length:Nat):Int) else none)=_;rw [Af rfl]) ⟨by omega,by omega⟩ (rl7.mono λj hj=>absurd hj (Gh j)) ⟨by rw [uE];omega,by (have:=B17);omega⟩ hb (by omega) (PB (by omega) (by omega)) (by omega) (λKi Pg e r hA Gt bH=>?_) (λKi Pg r hA hs bH=>?_) (λKi Pg r hA hs Vg bH=>?_) λKi Pg xB c8 hA hs hc8 hco X5 JW RK=>?_)
   .obtain ⟨rfl,rfl⟩:=yr W8 (by rw [<- uE];exact hA)
    have z0:Fb Ki (.tup [iv 0,iv e5]) 0=some (iv 0):=rfl
    have z1:Fb Ki (.tup [iv 0,iv e5]) 1=some (iv e5):=rfl
    simp only [As,↓Au,b1,b7,b9,b10,b2,z0,z1,show decide (¬ e5=0)=true from Ak Gt,show decide (¬ e5=e5)=false by simp,show decide (¬ (0:Int)=0)=false from rfl,Hz (show i<_ by omega)]
    exact ⟨Ic,cs,Vb,eP,g7.keep bH,by omega,rfl⟩
   .obtain ⟨rfl,rfl⟩:=yr W8 (by rw [<- uE];exact hA)
    have z0:Fb Ki (.tup [iv 0,iv 6]) 0=some (iv 0):=rfl
    have z1:Fb Ki (.tup [iv 0,iv 6]) 1=some (iv 6):=rfl
    have aL:=bH.le
    have nv:Ki.get Dt=some (.row 26 [d,a,c]):=by rw [bH.same Dt (by omega),S4.same Dt (by omega),Kf]
    have SM:Ki.get (Dt+1+9)=some (.row 26 [dx,ax,cx]):=by rw [bH.same _ (by omega),Pt]
    have kq:∀ j,Bl Dt j->Ki.get j=Cw.get j:=λj (hj:j<Dt)=>by rw [bH.same j (by omega),S4.same j (by omega),Xu.same j hj]
    have yN:∀ j,Bw (Dt+1+12) Ia j->Ki.get j=Gr.get j:=λj hj=>by rw [bH.same j hj.2,k7 j hj]
    simp only [As,↓Au,z0,z1,show decide (¬ (0:Int)=0)=false from rfl,(Qd nv).2.2.2.2,(Qd SM).2.2.2.2]
    refine Fh (UP (k+52) Pg _ _ _ (.agg [d,a,c]) (.agg [dx,ax,cx]) ⟨x.dims,x.attrs,cs[cs.length-1]⟩ r5 (Ag _) ⟨d,a,c,rfl,(r1.keep kq).mono λj (hj:j<Dt)=>by show j<Pg;omega,(r2.keep kq).mono λj (hj:j<Dt)=>by show j<Pg;omega,(r3.keep kq).mono λj (hj:j<Dt)=>by show j<Pg;omega⟩ ⟨dx,ax,cx,rfl,(x1.keep yN).mono λj hj=>by (have:=hj.2;show j<Pg);omega,(x2.keep yN).mono λj hj=>by (have:=hj.2;show j<Pg);omega,(x3.keep yN).mono λj hj=>by (have:=hj.2;show j<Pg);omega⟩ lo (Cm7 W8 lo (by show cs[cs.length-1].length+ls[i].length<=255;omega) hb) λLi Xw eI=>?_)
    have fG:Rn ⟨x.dims,x.attrs,cs[cs.length-1]⟩ r5=true:=by rw [<- uE];exact hs
    rw [fG]
    simp only [As,↓Au,b1,b7,b9,b10,b2,show decide (¬ (0:Int)=0)=false from rfl,show decide (¬ (6:Int)=6)=false from rfl,Hz (show i<_ by omega)]
    exact ⟨Ic,cs,Vb,eP,(g7.keep bH).keep eI,by omega,rfl⟩
   .have:=Bc5 (S:=Eh x cs) (i:=(Eh x cs).vers.length)
    omega
   .obtain ⟨rfl,rfl⟩:=yr W8 (by rw [<- uE];exact hA)
    have aL:=X5.le
    have gT:=g2.t.th
    have gN:=g2.t.nr
    have kf:∀ j,Dt<=j->j<Ia->Ki.get j=Kl.get j:=λj h1 h2=>X5.k j h2 (by omega) (by omega) λhh=>by have:=(gN j hh).1;omega
    have nv:Ki.get Dt=some (.row 26 [d,a,c]):=by rw [kf Dt (Ag _) (by omega),S4.same Dt (by omega),Kf]
    have SM:Ki.get (Dt+1+9)=some (.row 26 [dx,ax,cx]):=by rw [kf _ (by omega) (by omega),Pt]
    have z0:∀ {u v:Int},Fb Ki (.tup [iv u,iv v]) 0=some (iv u):=rfl
    have z1:∀ {u v:Int},Fb Ki (.tup [iv u,iv v]) 1=some (iv v):=rfl
    have kq:∀ j,(j<Dt/\j≠T/\j≠H/\j∉Vb.refs)->Ki.get j=Cw.get j:=λj hj=>by rw [X5.k j (by omega) hj.2.1 hj.2.2.1 hj.2.2.2,S4.same j (by omega),Xu.same j hj.1]
    have yN:∀ j,Bw (Dt+1+12) Ia j->Ki.get j=Gr.get j:=λj hj=>by rw [kf j (by have:=hj.1;omega) hj.2,k7 j hj]
    simp only [As,↓Au,z0,z1,show decide (¬ (0:Int)=0)=false from rfl,(Qd nv).2.2.2.2,(Qd SM).2.2.2.2]
    refine Fh (UP (k+52) Pg _ _ _ (.agg [d,a,c]) (.agg [dx,ax,cx]) ⟨x.dims,x.attrs,cs[cs.length-1]⟩ ⟨x.dims,x.attrs,c8⟩ (Ag _) ⟨d,a,c,rfl,(q1.keep kq).mono λj hj=>by (have:=hj.1;show j<Pg);omega,(q2.keep kq).mono λj hj=>by (have:=hj.1;show j<Pg);omega,(q3.keep kq).mono λj hj=>by (have:=hj.1;show j<Pg);omega⟩ ⟨dx,ax,cx,rfl,(x1.keep yN).mono λj hj=>by (have:=hj.2;show j<Pg);omega,(x2.keep yN).mono λj hj=>by (have:=hj.2;show j<Pg);omega,(x3.keep yN).mono λj hj=>by (have:=hj.2;show j<Pg);omega⟩ lo (Cm7 W8 lo (by show cs[cs.length-1].length+ls[i].length<=255;omega) hb) λLi Xw eI=>?_)
    have fG:Rn ⟨x.dims,x.attrs,cs[cs.length-1]⟩ ⟨x.dims,x.attrs,c8⟩=false:=by rw [<- uE];exact hs
    have jd:=eI.le
    rw [fG]
    have nq:Li.get (Dt+1+9)=some (.row 26 [dx,ax,cx]):=(eI.same _ (by omega)).trans SM
    simp only [As,↓Au,b9,(Qd nq).2.2.2.2]
    have QY:∀ j,Bw (Dt+1+12) Ia j->Li.get j=Gr.get j:=λj hj=>(eI.same j (by have:=hj.2;omega)).trans (yN j hj)
    have bk:Cg Li (.agg [dx,ax,cx])=.agg [dx,ax,cx]:=AR.live (x:=⟨x.dims,x.attrs,c8⟩) (x1.keep QY) (x2.keep QY) (x3.keep QY)
    refine eK (fl:=[dx,ax,cx]) rfl (by simp only [Am,Az,Dc,bR,bP,bk];rfl) λKd Xk Lx=>?_
    simp only [bR] at Xk Lx
    have kf7:∀ j,(j<Ia/\j≠T/\j≠H/\j∉Vb.refs)->Kd.get j=Kl.get j:=λj hj=>by rw [Lx j (by omega),eI.same j (by omega),X5.k j hj.1 hj.2.1 hj.2.2.1 hj.2.2.2]
    have J3:OL rArr Kd _ eP _:=g7.a.o.keep (An:=Kd) λj hj=>hj.elim (λh=>kf7 j ⟨h.1,h.2.1,h.2.2.1,h.2.2.2.1⟩) λh=>kf7 j (g7.a.zr j h)
    have YS:rArr.rd Kd (Bw (Dt+1+12) Ia) [dx,ax,cx] ⟨x.dims,x.attrs,c8⟩:=by
     have kk:∀ j,Bw (Dt+1+12) Ia j->Kd.get j=Gr.get j:=λj hj=>(Lx j (by have:=hj.2;omega)).trans (QY j hj)
     exact rArr_rd.2 ⟨dx,ax,cx,rfl,x1.keep kk,x2.keep kk,x3.keep kk⟩
    have Tz:(cs.map λc=>(⟨x.dims,x.attrs,c⟩:PArr)).length=cs.length:=Bp ..
    simp only [As,↓Au]
    refine eL (R:=rArr) (p:=λj=>j<Ia/\j≠T/\j≠H/\j∉Vb.refs/\j∉eP.refs) (p2:=Bw (Dt+1+12) Ia) (d:=eP) (d2:=.ms Xw 0 1 3) (l:=cs.map λc=>⟨x.dims,x.attrs,c⟩) (m:=[⟨x.dims,x.attrs,c8⟩]) (by simp only [bR,bP]) J3 (by simp only [Dc,bR,bP];exact Yb Xk) (T6 (R:=rArr) (x:=⟨x.dims,x.attrs,c8⟩) Xk YS) rfl rfl (by rw [Tz,Bk];omega) (by decide) λNq Tc h11=>?_
    simp only [bR] at Tc h11
    have k11:∀ j,j<Xw->j∉eP.refs->Nq.get j=Li.get j:=λj h1 h2=>by rw [Tc j (by omega) h2,Lx j (by omega)]
    have gz:=g2.a.zr
    have gz7:=g7.a.zr
    obtain ⟨zi,zx,hzi,hzg⟩:∃ zi zx,(∀ j,j∈eP.refs↔j=zi)/\Ki.get zi=some (.row 26 zx):=by
     have o8:OL rArr Ki _ eP _:=g7.a.o.keep (An:=Ki) λj hj=>hj.elim (λh=>X5.k j h.1 h.2.1 h.2.2.1 h.2.2.2.1) λh=>by have:=gz7 j h;exact X5.k j this.1 this.2.1 this.2.2.1 this.2.2.2
     generalize hL:(cs.map λc=>(⟨x.dims,x.attrs,c⟩:PArr))=L at o8
     cases o8 with
     | nil=>rw [List.map_eq_nil_iff] at hL;exact absurd hL g.n
     | ms id fl l h1 hr=>exact ⟨id,fl,λj=>by simp [DV.refs],h1⟩
    have t11:TreeG Nq (Xw+1+1) T H xB (Eh x (cs ++ [c8])):=by
     have t8:=RK.toC.av hzg
     have t9:TreeC Nq (Bl (Xw+1+1)) T H xB _ _:=t8.keep (λj hj=>by
      have h1:j<Pg:=hj.1
      rw [k11 j (by omega) λhh=>hj.2 ((hzi j).1 hh),eI.same j h1]) λj hj=>by
      have h1:j<Pg:=hj.1
      show j<_
      omega
     have e1:((Eh x cs).add Tn c8 [((cs.length:Nat):Int)])=Eh x (cs ++ [c8]):=B44 c8 g.n
     have t10:=t9.toG λ_ _=>rfl
     rw [e1] at t10
     exact t10
    have Jt:∀ j,j∈(DV.ms (Xw+1) 0 ((cs.map λc=>(⟨x.dims,x.attrs,c⟩:PArr)) ++ [(⟨x.dims,x.attrs,c8⟩:PArr)]).length rArr.e).refs->j=Xw+1:=λj hj=>by simpa [DV.refs] using hj
    have bg:=h11 (λj=>j<Xw+1+1/\j≠T/\j≠H/\j∉xB.refs/\j∉(DV.ms (Xw+1) 0 ((cs.map λc=>(⟨x.dims,x.attrs,c⟩:PArr)) ++ [(⟨x.dims,x.attrs,c8⟩:PArr)]).length rArr.e).refs) λj hj=>by
     rcases hj with hj | hj
     .exact ⟨⟨by omega,hj.2.1,hj.2.2.1,λhh=>by have:=JW j hh;omega,λhh=>by have:=Jt j hh;omega⟩,by omega,hj.2.2.2.2⟩
     .have h1:=hj.1
      have h2:=hj.2
      exact ⟨⟨by omega,by omega,by omega,λhh=>by have:=JW j hh;omega,λhh=>by have:=Jt j hh;omega⟩,by omega,λhh=>by have:=(gz j hh).1;omega⟩
    have ll2:∀ c∈cs ++ [c8],c.length<=12+8*(cs ++ [c8]).length:=λc hc=>by
     rw [Ao,Bk]
     rcases Ax.1 hc with hc | hc
     .have:=g.l c hc
      omega
     .rw [Aj.1 hc]
      rcases W8 with ⟨_,q,_⟩ | ⟨_,q1,q2,_⟩ | ⟨_,_,_,q,_⟩ | ⟨_,_,_,_,m,hm,_,q⟩
      .cases q
      .exact absurd q2.symm q1
      .cases q
      .have e1:c8=Pw m cs[cs.length-1]:=by injection q
       have:=Y4 m cs[cs.length-1]
       have:=hm.length_eq
       rw [e1]
       omega
    have gN2:FoldI x (cs ++ [c8]) Nq (Xw+1+1) T H xB (.ms (Xw+1) 0 ((cs.map λc=>(⟨x.dims,x.attrs,c⟩:PArr)) ++ [(⟨x.dims,x.attrs,c8⟩:PArr)]).length rArr.e):=by
     refine ⟨t11,⟨by rw [Cn];exact bg,λj hj=>?_⟩,by simp,ll2⟩
     have:=Jt j hj
     exact ⟨by omega,by omega,by omega,λhh=>by have:=(RK.nr j hh).1;omega⟩
    have gl:=gN2.a.len
    have lO:(cs ++ [c8]).length=cs.length+1:=by simp
    rw [lO] at gl
    rw [yV]
    simp only [As,↓Au,b1,b7,b10,b2,gl,show decide (¬ (0:Int)=0)=false from rfl,show decide (¬ ((cs.length+1:Nat):Int)=((cs.length+1:Nat):Int))=false by simp,Hz (show i<_ by omega)]
    exact ⟨Ic,cs ++ [c8],xB,_,gN2,by rw [lO];omega,rfl⟩
 .simp only [As,↓Au,b1,b10,(tW Ai.hp).len,Ic]
  exact hK _ cs Vb eP g (by omega) (by simp only [bR,b7]) (by simp only [bR,b9]) (by simp only [bR,b2])
end
end Go.DD

/- Chapter 08, VersionFold: which versions are kept; what is there afterwards. Conditions: those that each theorem states. -/
namespace Go.DD
open Go Go.Proofs Go.Sort
def Tl(kp j:Nat):Bool:=decide (kp / 2 ^ j % 2=1)
def Ml(kp i:Nat):List Int:=((List.range i).filter λj=>Tl kp j).map λj=>((j+1:Nat):Int)
theorem Br1{kp i:Nat} : Ml kp (i+1)=Ml kp i++if Tl kp i=true then [((i+1:Nat):Int)] else []:=by
 unfold Ml
 rw [Ih,Jn,Cn]
 cases h:Tl kp i with
 | true=>simp [List.filter,h]
 | false=>simp [List.filter,h]
theorem Bc7{kp i:Nat} : (Ml kp i).length<=i:=by
 unfold Ml
 rw [Bp]
 exact Dz (Ot _ _) (by rw [Ep];exact Ag _)
theorem B50{kp i v:Nat} : ((v:Nat):Int)∈Ml kp i↔1<=v/\v<=i/\Tl kp (v-1)=true:=by
 unfold Ml
 rw [Bn]
 constructor
 .rintro ⟨j,hj,e⟩
  obtain ⟨h1,h2⟩:=Dp.1 hj
  have:=Sb.1 h1
  obtain rfl:v=j+1:=by omega
  exact ⟨by omega,by omega,by rw [Jl];exact h2⟩
 .rintro ⟨h1,h2,h3⟩
  exact ⟨v-1,Dp.2 ⟨Sb.2 (by omega),h3⟩,by omega⟩
section
variable {x:PArr} {cs:List (List PCell)} {T H:Nat} {nd za:DV}
theorem Br2{k:Nat}{es:ES}{Q:Exit->ES->Prop}{kp n:Nat}(hn:n<=13)(hza:∀ An Bm,Al es.hp es.nx An Bm->Oc An za=some (.v (.int .i64 (n:Int))))
  (a2:Ad es (.t (.r .o))=.v (.int .u16 (kp:Int))) (a9:Ad es (.t (.l (.r (.l .o))))=za) (a16:Ad es (.t (.r (.l (.l (.l .o)))))=Cb) (a17:Ad es (.t (.l (.r (.l (.l .o)))))=iv 0)
  (hK:∀ Ai z,Al es.hp es.nx Ai.hp Ai.nx->RL rInt Ai.hp (Bl Ai.nx) z (Ml kp n)->Ad Ai (.t (.r (.l (.l (.l .o)))))=z->Ad Ai (.t (.l (.l (.l .o))))=Ad es (.t (.l (.l (.l .o))))->Ad Ai (.t (.l (.r (.l .o))))=za->Ad Ai (.t (.r .o))=Ad es (.t (.r .o))->Q .normal Ai) :
  EW (cL 1000000 nE) (kN k) es (Ms 3 Q):=by
 refine EW.up n (λi Ai=>∃ z,Al es.hp es.nx Ai.hp Ai.nx/\OL rInt Ai.hp (λ_=>False) z (Ml kp i)/\(∀ j∈z.refs,es.nx<=j/\j<Ai.nx)/\Ad Ai (.t (.r (.l (.l (.l .o)))))=z/\Ad Ai (.t (.l (.r (.l (.l .o)))))=iv (i:Nat)/\Ad Ai (.t (.l (.l (.l .o))))=Ad es (.t (.l (.l (.l .o))))/\Ad Ai (.t (.l (.r (.l .o))))=za/\Ad Ai (.t (.r .o))=Ad es (.t (.r .o))) ?_ ⟨Cb,Al.refl _ _,.nil,λj hj=>(by cases hj),a16,a17,rfl,a9,rfl⟩ (by omega)
 rintro i Ai hi ⟨z,g,ho,hz,b16,Vi,b7,b9,b2⟩
 unfold nE
 have hle:=g.le
 have Zf:=hza _ _ g
 by_cases Ic:i<n
 .have W3:=Bc7 (kp:=kp) (i:=i)
  have zL:=Br1 (kp:=kp) (i:=i)
  have nW:Dm .rem (.v (.int .u16 ((kp / 2 ^ i:Nat):Int))) (.v (.int .u16 2))=some (.v (.int .u16 ((kp / 2 ^ i % 2:Nat):Int))):=ud (b:=2) (by decide)
  have MG:decide ((i:Int)<16)=true:=Ak (by omega)
  have nR:=B49 (k':=.i64) (a:=kp) (c:=i) (by omega)
  cases hb:Tl kp i with
  | false=>
   have Gz:decide (((kp / 2 ^ i % 2:Nat):Int)=1)=false:=by
    unfold Tl at hb
    have:=Jk hb
    exact Ah (by omega)
   rw [hb,Ae (by simp),Da] at zL
   simp only [As,↓Au,b16,Vi,b9,b2,a2,Zf,Ic,MG,nR,nW,Gz,Hz (show i<_ by omega)]
   exact ⟨z,g,by rw [zL];exact ho,hz,rfl,b7⟩
  | true=>
   have Gz:decide (((kp / 2 ^ i % 2:Nat):Int)=1)=true:=by
    unfold Tl at hb
    have:=En hb
    exact Ak (by omega)
   rw [hb,Af rfl] at zL
   have sR:Cq 133=(.l (.r (.r (.l (.l (.l (.l .o))))))):=rfl
   have ZH:Cq 135=(.l (.l (.l (.r (.l (.l (.l .o))))))):=rfl
   have ZG:Cq 136=(.r (.l (.l (.r (.l (.l (.l .o))))))):=rfl
   simp only [As,↓Au,b16,Vi,b9,b2,a2,Zf,Ic,MG,nR,nW,Gz,Hz (show i<_ by omega)]
   refine eK (fl:=[iv ((i+1:Nat))]) rfl (by simp only [Am,Az,Dc,bR,ZH,Sa];rfl) λFq Kf Fl=>?_
   simp only [bR] at Kf Fl
   have qV:=ho.keep (An:=Fq) λj hj=>Fl j (hj.elim False.elim λh=>by have:=(hz j h).2;omega)
   simp only [As,↓Au]
   refine eL (R:=rInt) (p:=λ_=>False) (p2:=λ_=>False) (d:=z) (d2:=.ms Ai.nx 0 1 1) (l:=Ml kp i) (m:=[((i+1:Nat):Int)]) (by simp only [bR,sR]) qV (by simp only [Dc,bR,ZG];exact Yb Kf) (T6 (R:=rInt) (x:=((i+1:Nat):Int)) Kf rfl) rfl rfl (by rw [Bk];omega) (by decide) λGr Jd h5=>?_
   simp only [bR] at Jd h5
   have o5:=h5 (λ_=>False) λj hj=>(hj.elim False.elim False.elim:False).elim
   simp only [As,↓Au,Vi,b9,b2,a2,Hz (show i<_ by omega)]
   refine ⟨Ic,_,g.new (by omega) λj hj=>?_,by rw [zL];exact o5,λj hj=>?_,rfl,b7⟩
   .rw [Jd j (by omega) (λji=>by have:=(hz j ji).1;omega),Fl j (by omega)]
   .obtain rfl:j=Ai.nx+1:=by simpa [DV.refs] using hj
    omega
 .have oN:i=n:=by omega
  subst oN
  simp only [As,↓Au,Vi,b9,Zf,Ic]
  refine hK _ z g (ho.rl.mono λj hj=>hj.elim False.elim λh=>(hz j h).2) ?_ ?_ ?_ ?_
  all_goals simp only [bR,b16,b7,b9,b2]
end
end Go.DD

/- Chapter 08, VersionFold: the arrays of all versions afterwards. Conditions: those that each theorem states. -/
namespace Go.DD
open Go Go.Proofs Go.Sort
theorem Bo0{q:Hold (ES->Prop)}{E:ES}(P:ES->Prop)(hP:P E)(h:∀ es,P es->q.val es):q.val E:=h E hP
section
variable {x:PArr} {cs:List (List PCell)} {T H:Nat} {nd za:DV}
theorem Cc2{P:Nat->Bool}{i:Nat} : Lg P i<=i:=by
 unfold Lg
 exact Dz (Ot _ _) (by rw [Ep];exact Ag _)
theorem Br3{k:Nat}{es:ES}{Q:Exit->ES->Prop}{kp:Nat}{P:Nat->Bool}(h:TreeG es.hp es.nx T H nd ((Eh x cs).mark P))(ha:ArrO x cs es.hp es.nx T H nd za)(hn:cs.length<=13)(hP:∀ i,i<cs.length->(P (i+1)=false↔(i+1=cs.length\/Tl kp i=true)))
  (a2:Ad es (.t (.r .o))=.v (.int .u16 (kp:Int))) (a7:Ad es (.t (.l (.l (.l .o))))=.pt T 0) (a9:Ad es (.t (.l (.r (.l .o))))=za) (tv:Ad es (.t (.r (.l (.r (.l .o)))))=iv 0) (tu:Ad es (.t (.l (.r (.r (.l .o)))))=iv 0)
  (hK:∀ Ai,Al es.hp es.nx Ai.hp Ai.nx->Ad Ai (.t (.r (.l (.r (.l .o)))))=iv (Lg P cs.length:Nat)->Ad Ai (.t (.l (.l (.l .o))))=.pt T 0->Ad Ai (.t (.l (.r (.l .o))))=za->Ad Ai (.t (.r (.r (.l (.l .o)))))=Ad es (.t (.r (.r (.l (.l .o)))))->Ad Ai (.t (.l (.l (.r (.l .o)))))=Ad es (.t (.l (.l (.r (.l .o)))))->Q .normal Ai) :
  EW (cL 1000000 nD) (kN (k+60)) es (Ms 5 Q):=by
 refine EW.up cs.length (λi Ai=>Al es.hp es.nx Ai.hp Ai.nx/\Ad Ai (.t (.r .o))=.v (.int .u16 (kp:Int))/\Ad Ai (.t (.l (.l (.l .o))))=.pt T 0/\Ad Ai (.t (.l (.r (.l .o))))=za/\Ad Ai (.t (.r (.l (.r (.l .o)))))=iv (Lg P i:Nat)/\Ad Ai (.t (.l (.r (.r (.l .o)))))=iv (i:Nat)/\Ad Ai (.t (.r (.r (.l (.l .o)))))=Ad es (.t (.r (.r (.l (.l .o)))))/\Ad Ai (.t (.l (.l (.r (.l .o)))))=Ad es (.t (.l (.l (.r (.l .o)))))) ?_ ⟨Al.refl _ _,a2,a7,a9,tv,tu,rfl,rfl⟩ (by omega)
 rintro i Ai hi ⟨g,b2,b7,b9,rI,iR,OA,NZ⟩
 unfold nD
 have hle:=g.le
 have h1:=h.keep g
 have Ym:ArrO x cs Ai.hp Ai.nx T H nd za:=ha.keep (λj hj _=>g.same j hj) hle
 by_cases Ic:i<cs.length
 .have Yj:((Eh x cs).mark P).vers.length=cs.length:=GTree.mark_len.trans mB
  have hg:((Eh x cs).mark P).isG (i+1)=P (i+1):=by
   rw [GTree.mark_is (by omega) (by rw [mB];omega),PB (by omega) (by omega),Gs]
  have uE:((Eh x cs).mark P).at' (i+1)=cs[i]:=by rw [GTree.mark_at.1,(Z3 Ic).1]
  have lH:=A30 (P:=P) (i:=i)
  have tH:=Cc2 (P:=P) (i:=i)
  have nW:Dm .rem (.v (.int .u16 ((kp / 2 ^ i:Nat):Int))) (.v (.int .u16 2))=some (.v (.int .u16 ((kp / 2 ^ i % 2:Nat):Int))):=ud (b:=2) (by decide)
  have MG:decide ((i:Int)<16)=true:=Ak (by omega)
  have nR:=B49 (k':=.i64) (a:=kp) (c:=i) (by omega)
  have fN:Dm .sub (.v (.int .i64 (cs.length:Int))) (.v (.int .i64 1))=some (.v (.int .i64 ((cs.length-1:Nat):Int))):=D8 cs.length (by omega) (by omega)
  cases hp:P (i+1) with
  | false=>
   rw [hp] at hg lH
   rw [Ae (by simp)] at lH
   simp only [As,↓Au,b7,b9,iR,Ym.len,Ic,Hz (show i<_ by omega)]
   refine Fh (C46 (k+27) _ 13 (i+1) h1 ⟨by omega,by omega⟩ hg (by omega) λCw Dt d2 Rj ar2 _=>?_)
   have Gu:=Rj.le
   obtain ⟨dx,ax,cx,rfl,x1,x2,x3⟩:=ar2
   have y0:Fb Cw (.tup [.agg [dx,ax,cx],iv 0]) 0=some (.agg [dx,ax,cx]):=Xp x1 x2 x3
   have y1:Fb Cw (.tup [.agg [dx,ax,cx],iv 0]) 1=some (iv 0):=Ru
   rw [uE] at x3
   simp only [As,↓Au,y0,y1]
   refine Rz λGn Kv Hy=>?_
   simp only [bR] at Kv Hy
   have k3:∀ j,Bw Ai.nx Dt j->Gn.get j=Cw.get j:=λj hj=>Hy j (by have:=hj.2;omega)
   simp only [As,↓Au]
   refine Qx (n:=3) (id:=Dt) (ds:=[dx,ax,cx]) (by simp only [bR]) Kv (by simp only [Ha,bR];exact AR.live (x:=⟨x.dims,x.attrs,cs[i]⟩) (x1.keep k3) (x2.keep k3) (x3.keep k3)) rfl rfl λFq Kf Fl=>?_
   simp only [bR] at Kf Fl
   have Xu:Al Ai.hp Ai.nx Fq (Dt+1):=⟨by omega,λj hj=>by rw [Fl j (by omega),Hy j (by omega),Rj.same j hj]⟩
   have Vh:ArrO x cs Fq (Dt+1) T H nd za:=Ym.keep (λj hj _=>Xu.same j hj) Xu.le
   have lA:Fy Fq (some 3) (.pt Dt 0)=some (.agg [dx,ax,cx]):=(Qd Kf).2.2.2.2
   refine Bo0 (λe5=>e5.hp=Fq/\e5.nx=Dt+1/\Ad e5 (.t (.r .o))=.v (.int .u16 (kp:Int))/\Ad e5 (.t (.l (.l (.l .o))))=.pt T 0/\Ad e5 (.t (.l (.r (.l .o))))=za/\Ad e5 (.t (.r (.l (.r (.l .o)))))=iv (Lg P i:Nat)/\Ad e5 (.t (.l (.r (.r (.l .o)))))=iv (i:Nat)/\Ad e5 (.t (.r (.r (.r (.l .o)))))=.pt Dt 0/\Ad e5 (.t (.r (.l (.l (.l (.l (.r (.l .o))))))))=iv 0/\Ad e5 (.t (.r (.r (.l (.l .o)))))=Ad es (.t (.r (.r (.l (.l .o)))))/\Ad e5 (.t (.l (.l (.r (.l .o)))))=Ad es (.t (.l (.l (.r (.l .o)))))) ⟨rfl,rfl,by simp only [bR,b2],by simp only [bR,b7],by simp only [bR,b9],by simp only [bR,rI],by simp only [bR,iR],by simp only [bR],by simp only [bR],by simp only [bR,OA],by simp only [bR,NZ]⟩ ?_
   rintro e5 ⟨rfl,n5,c2,c7,c9,TI,NP,c22,uI,tk,tj⟩
   have tQ:e5.hp.get Dt=some (.row 26 [dx,ax,cx]):=Kf
   obtain ⟨qa,qb,qc,xQ,iA2,⟨_,_,_,he,q1,q2,q3⟩⟩:=Vh.arr Ic
   cases he
   have bz:∀ j,((j<Dt+1/\j≠T/\j≠H/\j∉nd.refs/\j∉za.refs)\/j∈za.refs)->j<e5.nx:=λj hj=>by
    rw [n5]
    exact hj.elim (λh=>h.1) λh=>(Vh.zr j h).1
   have I3:∀ {an:List Nat},Hh (Bz 3 za i) (λid=>Cp e5.nx 11 an e5.hp id)↔True:=Bf (Vh.o.rl.roa bz)
   have kx:∀ j,Bw Ai.nx Dt j->e5.hp.get j=Cw.get j:=λj hj=>by rw [Fl j (by have:=hj.2;omega),k3 j hj]
   have up:∀ j,Bw Ai.nx Dt j->Bl e5.nx j:=λj hj=>by (have:=hj.2;show j<e5.nx);omega
   have u1:RL rDim e5.hp (Bl e5.nx) dx x.dims:=(x1.keep kx).mono up
   have u2:RL rAttr e5.hp (Bl e5.nx) ax x.attrs:=(x2.keep kx).mono up
   have u3:RL rCell e5.hp (Bl e5.nx) cx cs[i]:=(x3.keep kx).mono up
   have uq:∀ j,(j<Dt+1/\j≠T/\j≠H/\j∉nd.refs)->Bl e5.nx j:=λj hj=>by (have:=hj.1;show j<e5.nx);omega
   have v1:=q1.mono uq
   have v2:=q2.mono uq
   have v3:=q3.mono uq
   have DX:∀ {an:List Nat},Hh (.agg [dx,ax,cx]) (λid=>Cp e5.nx 11 an e5.hp id)↔True:=Bf (AR.rox (x:=⟨x.dims,x.attrs,cs[i]⟩) u1 u2 u3 (Ag _))
   have roQ:∀ {an:List Nat},Hh (.agg [qa,qb,qc]) (λid=>Cp e5.nx 11 an e5.hp id)↔True:=Bf (AR.rox (x:=⟨x.dims,x.attrs,cs[i]⟩) v1 v2 v3 (Ag _))
   obtain ⟨chk,aok,_⟩:Mf ⟨x.dims,x.attrs,cs[i]⟩=0/\AOK ⟨x.dims,x.attrs,cs[i]⟩/\cs[i].length<=255:=by
    have:=h1.ok.chk (i+1)
    rw [uE] at this
    exact this
   have Gz:decide (((kp / 2 ^ i % 2:Nat):Int)=1)=Tl kp i:=by
    unfold Tl
    exact decide_eq_decide.2 ⟨λh=>by omega,λh=>by omega⟩
   have Q2:decide (i=cs.length-1)=false->Tl kp i=true:=λhd=>by
    have:=Jk hd
    exact ((hP i Ic).1 hp).resolve_left λh=>by omega
   have IZ:Rn ⟨x.dims,x.attrs,cs[i]⟩ ⟨x.dims,x.attrs,cs[i]⟩=true:=Ak ⟨chk,chk,rfl⟩
   cases hq:decide (i=cs.length-1)
   simp only [As,↓Au,c2,c9,TI,NP,c22,uI,Vh.len,fN,hq,Hz (show Lg P i<_ by omega),Lp (n0:=e5.nx) (m:=11) tQ (show Dt<e5.nx by omega),lA,jA Vh.o.rl bz,I3,iA2,xQ,DX,roQ,nR,nW,MG,Gz,Q2 hq]
   rotate_left
   simp only [As,↓Au,c9,TI,NP,c22,uI,Vh.len,fN,hq,Hz (show Lg P i<_ by omega),Lp (n0:=e5.nx) (m:=11) tQ (show Dt<e5.nx by omega),lA,jA Vh.o.rl bz,I3,iA2,xQ,DX,roQ]
   all_goals
    refine Ly rfl (Uy ?_)
    simp only [bR,Am,Az]
    refine UP (k+52) e5.nx _ _ _ (.agg [dx,ax,cx]) (.agg [qa,qb,qc]) ⟨x.dims,x.attrs,cs[i]⟩ ⟨x.dims,x.attrs,cs[i]⟩ (by omega) ⟨dx,ax,cx,rfl,u1,u2,u3⟩ ⟨qa,qb,qc,rfl,v1,v2,v3⟩ aok aok λIv It Zr=>?_
    have Rf:=Zr.le
    rw [IZ]
    simp only [As,↓Au,Rf,c2,c7,c9,NP,tk,tj,Hz (show i<_ by omega)]
    exact ⟨Ic,⟨by omega,λj hj=>by rw [Zr.same j (by omega),Xu.same j (by omega),g.same j hj]⟩,by rw [lH]⟩
  | true=>
   rw [hp] at hg lH
   rw [Af rfl] at lH
   simp only [As,↓Au,b7,b9,iR,Ym.len,Ic,Hz (show i<_ by omega)]
   refine Fh (Cv2 (k+57) _ (i+1) h1 ⟨by omega,by omega⟩ hg λCw Dt Rj=>?_)
   have Gu:=Rj.le
   have y0:Fb Cw (.tup [.agg [Cb,Cb,Cb],iv 23]) 0=some (.agg [Cb,Cb,Cb]):=rfl
   have y1:Fb Cw (.tup [.agg [Cb,Cb,Cb],iv 23]) 1=some (iv 23):=rfl
   simp only [As,↓Au,y0,y1]
   refine Rz λGn Kv Hy=>?_
   simp only [bR] at Kv Hy
   simp only [As,↓Au]
   refine Qx (n:=3) (id:=Dt) (ds:=[Cb,Cb,Cb]) (by simp only [bR]) Kv (by simp only [Ha,bR];rfl) rfl rfl λFq Kf Fl=>?_
   simp only [bR] at Kf Fl
   have Xu:Al Ai.hp Ai.nx Fq (Dt+1):=⟨by omega,λj hj=>by rw [Fl j (by omega),Hy j (by omega),Rj.same j hj]⟩
   have Vh:ArrO x cs Fq (Dt+1) T H nd za:=Ym.keep (λj hj _=>Xu.same j hj) Xu.le
   refine Bo0 (λe5=>e5.hp=Fq/\e5.nx=Dt+1/\Ad e5 (.t (.r .o))=.v (.int .u16 (kp:Int))/\Ad e5 (.t (.l (.l (.l .o))))=.pt T 0/\Ad e5 (.t (.l (.r (.l .o))))=za/\Ad e5 (.t (.r (.l (.r (.l .o)))))=iv (Lg P i:Nat)/\Ad e5 (.t (.l (.r (.r (.l .o)))))=iv (i:Nat)/\Ad e5 (.t (.r (.l (.l (.l (.l (.r (.l .o))))))))=iv 23/\Ad e5 (.t (.r (.r (.l (.l .o)))))=Ad es (.t (.r (.r (.l (.l .o)))))/\Ad e5 (.t (.l (.l (.r (.l .o)))))=Ad es (.t (.l (.l (.r (.l .o)))))) ⟨rfl,rfl,by simp only [bR,b2],by simp only [bR,b7],by simp only [bR,b9],by simp only [bR,rI],by simp only [bR,iR],by simp only [bR],by simp only [bR,OA],by simp only [bR,NZ]⟩ ?_
   rintro e5 ⟨rfl,n5,c2,c7,c9,TI,NP,uI,tk,tj⟩
   have qX:¬ (i+1=cs.length\/Tl kp i=true):=λhh=>by
    rw [(hP i Ic).2 hh] at hp
    cases hp
   have hq:decide (i=cs.length-1)=false:=Ah λh=>qX (.inl (by omega))
   have Gz:decide (((kp / 2 ^ i % 2:Nat):Int)=1)=false:=Ah λh=>qX (.inr (by unfold Tl;exact Ak (by omega)))
   simp only [As,↓Au,c2,c7,c9,TI,NP,uI,tk,tj,Vh.len,fN,hq,nR,nW,MG,Gz,n5,show decide (¬ (23:Int)=23)=false from rfl,Hz (show i<_ by omega)]
   exact ⟨Ic,⟨by omega,λj hj=>by rw [Xu.same j (by omega),g.same j hj]⟩,by rw [lH,Lb]⟩
 .have oN:i=cs.length:=by omega
  subst oN
  simp only [As,↓Au,b9,iR,Ym.len,Ic]
  refine hK _ g ?_ ?_ ?_ ?_ ?_
  all_goals simp only [bR,b7,b9,rI,OA,NZ]
end
end Go.DD

/- Chapter 08: VersionFold returns true: as a contract. Conditions: none. -/
namespace Go.DD
open Go Go.Proofs Go.Sort
theorem B51{kp i:Nat}{y:Int}(h:y∈Ml kp i):1<=y/\y<=(i:Nat):=by
 unfold Ml at h
 obtain ⟨j,hj,rfl⟩:=Bn.1 h
 have:=Sb.1 (Dp.1 hj).1
 omega
def Zn(l:List (List PCell)):DV:=.sl (l.flatMap rChs.cells) l.length
theorem Cc3(x:PArr)(ls:List (List PCell))(kp:Nat):Known Tryz.prog 9 [kK x,Zn ls,.v (.int .u16 (kp:Int))] (.v (.bool true)):=by
 refine Known.ofW (Z7 (n:=1000000) mixed Wt OR 208) (C57 (k:=208)) mixed (isW:=λf=>Nat.beq f 36) (rg:=false) (n:=1000000) (λx hx=>?_) ?_
 .simp only [Ap,Pb,or_false] at hx
  rcases hx with rfl | rfl | rfl <;> rfl
 refine vk ua9 ub9 uc9 ur9 BT (bU un9 rfl) λes e1 e2 he=>?_
 have a0:Ad es (.t .o)=kK x:=he 0 _ rfl
 have a1:Ad es (.t (.l .o))=Zn ls:=he 1 _ rfl
 have a2:Ad es (.t (.r .o))=.v (.int .u16 (kp:Int)):=he 2 _ rfl
 clear e1 e2
 have ar:∀ (z:PArr) (hp:Tr DObj),∃ a b c,kK z=.agg [a,b,c]/\RL rDim hp (Bl 0) a z.dims/\RL rAttr hp (Bl 0) b z.attrs/\RL rCell hp (Bl 0) c z.cells:=λz hp=>⟨_,_,_,rfl,.sl _,.sl _,.sl _⟩
 obtain ⟨d,a,c,e1,w1,w2,w3⟩:=ar x es.hp
 have hL:∀ hp:Tr DObj,RL rChs hp (Bl 0) (Zn ls) ls:=λhp=>.sl _
 generalize Zn ls=dl at a1 hL
 rw [e1] at a0
 have hn:0<=es.nx:=Fo _
 have hQ:∀ {es':ES},Ad es' (.t (.r (.r .o)))=bv true->rz es'.hp.get 6 (Cg es'.hp (Ad es' (.t (.r (.r .o)))))=some (.v (.bool true)):=λh=>by
  rw [h];rfl
 unfold w9
 rw [Qs,Rk]
 simp only [↓Au]
 refine Xv (cs:=[d,a,c]) (by rw [Ha,a0];exact AR.live w1 w2 w3) λEi Dn Dd=>?_
 simp only [bR] at Dn Dd
 have k0:∀ {An:Tr DObj},∀ j,Bl 0 j->An.get j=es.hp.get j:=λj hj=>absurd hj (Gh j)
 have hr:∀ {An:Tr DObj},AR An (Bl 0) (.agg [d,a,c]) x:=⟨d,a,c,rfl,w1.keep k0,w2.keep k0,w3.keep k0⟩
 have LA:∀ {An:Tr DObj},(∀ j,j<es.nx+1->An.get j=Ei.get j)->Fy An (some 3) (.pt es.nx 0)=some (.agg [d,a,c]):=λh=>(Qd ((h es.nx (by omega)).trans Dn)).2.2.2.2
 simp only [As,↓Au,LA λ_ _=>rfl,↓Qs,↓Rk]
 refine Fh (Cj0 205 _ _ _ _ x 20 0 (by omega) hr (by omega) λCw Dt Dh=>?_)
 have Gu:=Dh.le
 cases c1:Xo x 20 with
 | false=>
  simp only [As,↓Au]
  refine Fh (Z6 207 _ _ _ ?_)
  simp only [As,↓Au,bP]
  rfl
 | true=>
 have hx:=By7 c1 (by omega)
 have lO:=B25 c1
 by_cases je:ls.length<=12
 rotate_left
 .simp only [As,↓Au,a1,(hL Cw).len,show decide ((12:Int)<(ls.length:Int))=true from Ak (by omega)]
  refine Fh (Z6 207 _ _ _ ?_)
  simp only [As,↓Au,bP]
  rfl
 simp only [As,↓Au,a1,(hL Cw).len,show decide ((12:Int)<(ls.length:Int))=false from Ah (by omega),LA (An:=Cw) λj hj=>Dh.same j hj,↓Qs,↓Rk]
 refine Fh (C48 196 _ _ _ 0 _ x (by omega) hr hx (by omega) (λIv It hE Rh=>?_) λIv It T H nd c4 Rh hT hH hN IS=>?_)
 .have z0:Fb Iv (.tup [.v (.pointer none),iv 2]) 0=some (.v (.pointer none)):=rfl
  have z1:Fb Iv (.tup [.v (.pointer none),iv 2]) 1=some (iv 2):=rfl
  simp only [As,↓Au,z0,z1,show decide (¬ (2:Int)=0)=true from rfl,↓Qs,↓Rk]
  refine eM true (by simp only [Dc,bR,bP,Sa];rfl) Bm7 ?_
  simp only [As,↓Au]
  refine Fh (Z6 207 _ _ _ ?_)
  simp only [As,↓Au,bP]
  rfl
 .have RM:TreeG Iv It T H nd (Eh x [x.cells]):=IS
  clear IS
  have Rf:=Rh.le
  have jt:=RM.ld
  obtain ⟨_,_,_,hT6,_⟩:=jt
  have z0:Fb Iv (.tup [.pt T 0,iv 0]) 0=some (.pt T 0):=E4 λid hid=>by
   have:id=T:=by simpa [DV.refs,DV.refsL,iv] using hid
   rw [this,hT6];rfl
  have z1:Fb Iv (.tup [.pt T 0,iv 0]) 1=some (iv 0):=rfl
  have l6:=LA (An:=Iv) λj hj=>(Rh.same j (by omega)).trans (Dh.same j hj)
  simp only [As,↓Au,z0,z1,show decide (¬ (0:Int)=0)=false from rfl,l6,↓Qs,↓Rk]
  have bk:∀ hp:Tr DObj,Cg hp (.agg [d,a,c])=.agg [d,a,c]:=λhp=>AR.live (x:=x) (p:=Bl 0) (w1.keep k0) (w2.keep k0) (w3.keep k0)
  refine eK (fl:=[d,a,c]) rfl (by simp only [Am,Az,Dc,bR,bP,bk];rfl) λKl Pt Lr=>?_
  simp only [bR] at Pt Lr
  have S4:Al Iv It Kl (It+1):=⟨by omega,λj hj=>Lr j (by omega)⟩
  have gF:FoldI x [x.cells] Kl (It+1) T H nd (.ms It 0 1 3):=by
   refine ⟨RM.keep S4,⟨?_,λj hj=>?_⟩,by simp,λc hc=>by rw [Aj.1 hc];show x.cells.length<=20;exact lO⟩
   .have:=OL.ms (R:=rArr) (hp:=Kl) (p:=λj=>j<It+1/\j≠T/\j≠H/\j∉nd.refs/\j∉(DV.ms It 0 1 3).refs) It [d,a,c] [x] Pt (Rows.one (rArr_rd.2 ⟨d,a,c,rfl,(w1.keep k0).mono λj hj=>absurd hj (Gh j),(w2.keep k0).mono λj hj=>absurd hj (Gh j),(w3.keep k0).mono λj hj=>absurd hj (Gh j)⟩))
    exact this
   .have:j=It:=by simpa [DV.refs] using hj
    have:=RM.th
    exact ⟨by omega,by omega,by omega,λhh=>by have:=(RM.nr j hh).1;omega⟩
  simp only [As,↓Au,↓Qs,↓Rk]
  refine Br0 (k:=148) hL je gF (by simp only [bR,a1]) (by simp only [bR]) (by simp only [bR]) (by simp only [bR]) (λfW h6=>?_) λfW cs xB za g8 LO c7 c9 c2=>?_
  .simp only [As,↓Au,bP,h6]
   rfl
  simp only [bR,a2] at c2
  simp only [As,↓Au,↓Qs,↓Rk]
  refine Br2 (k:=208) (kp:=kp) (za:=za) (n:=cs.length) LO (λAn Bm al=>(g8.keep al).a.len) (by simp only [bR,c2]) (by simp only [bR,c9]) (by simp only [bR];rfl) (by simp only [bR]) λR6 z eI rz9 d16 d7 d9 d2=>?_
  have tt:Al fW.hp fW.nx R6.hp R6.nx:=eI
  have g9:=g8.keep tt
  simp only [bR,c7,c2] at d7 d2
  simp only [As,↓Au,d7,↓Qs,↓Rk]
  refine Fh (B37 206 _ _ _ g9.t λKd J4 Yo=>?_)
  have KJ:=Yo.le
  have X4:=g9.keep Yo
  simp only [As,↓Au,bP,d16,d7,↓Qs,↓Rk,↓sC,↓Pf]
  refine G2 ?_
  simp only [Am,Az,bR]
  have yV:(Eh x cs).vers.length=cs.length:=mB
  have Ph:=X4.t.ok
  have jf:∀ y∈Ml kp cs.length,1<=y/\y<=((cs.length:Nat):Int):=λy hy=>B51 hy
  have H7:RL rInt Kd (Bl J4) z (Ml kp cs.length):=(rz9.keep λj hj=>Yo.same j hj).mono λj (hj:j<R6.nx)=>by show j<J4;omega
  refine Bq9 (k:=0) X4.t (B47 Ph) H7 (by have:=Bc7 (kp:=kp) (i:=cs.length);omega) (by show 1<=100;decide) (λy hy=>by rw [yV];exact jf y hy) (λNq mZ OE Ib=>?_) λNq mZ ms KI LG fH IW=>?_
  .obtain ⟨y,hy,hyg⟩:=Ib
   have:=jf y hy
   rw [PB (by omega) (by omega)] at hyg
   cases hyg
  have Lw:∀ v,v∈ms↔((v:Int)∈Ml kp cs.length\/v=cs.length):=B48 Ph fH jf
  have hP:∀ i,i<cs.length->(Qi ms (i+1)=false↔(i+1=cs.length\/Tl kp i=true)):=λi hi=>by
   unfold Qi
   rw [Bool.not_eq_false',Ov,Lw,B50,Jl]
   constructor
   .rintro (⟨_,_,h⟩ | h)
    .exact .inr h
    .exact .inl h
   .rintro (h | h)
    .exact .inr h
    .exact .inl ⟨by omega,by omega,h⟩
  have MN:ArrO x cs Nq mZ T H xB za:=X4.a.keep LG KI
  obtain ⟨ew,zC⟩:=Bn8 (S:=Eh x cs) (P:=Qi ms) (i:=(Eh x cs).vers.length) (Ag _) λv h1 h2=>PB h1 (by omega)
  rw [yV] at ew zC
  have z0:∀ {u v:Int} {An:Tr DObj},Fb An (.tup [iv u,iv v]) 0=some (iv u):=rfl
  have z1:∀ {u v:Int} {An:Tr DObj},Fb An (.tup [iv u,iv v]) 1=some (iv v):=rfl
  simp only [As,↓Au,z0,z1,show decide (¬ (0:Int)=0)=false from rfl,↓Pf,↓Uf]
  refine Br3 (k:=148) (kp:=kp) (P:=Qi ms) (x:=x) (cs:=cs) (T:=T) (H:=H) (nd:=xB) (za:=za) IW MN LO hP (by simp only [bR,d2]) (by simp only [bR,d7]) (by simp only [bR,d9]) (by simp only [bR]) (by simp only [bR]) λR7 OD f20 f7 f9 f18 f19=>?_
  have qE:Al Nq mZ R7.hp R7.nx:=OD
  have KH:=qE.le
  simp only [bR] at f18 f19
  rw [yV] at f18 f19
  have IV:=IW.keep qE
  have lb:((Eh x cs).mark (Qi ms)).vers.length=cs.length:=GTree.mark_len.trans yV
  have nj:Oc R7.hp za=some (.v (.int .i64 (cs.length:Int))):=(MN.keep (λj hj _=>qE.same j hj) KH).len
  have Oe:=C13 (a:=cs.length) (b:=Lg (Qi ms) cs.length) (by omega) (by omega)
  have RP:decide ((Eh x cs).newG (Qi ms) cs.length=cs.length-Lg (Qi ms) cs.length)=true:=Ak (by omega)
  have hq2:decide (Lg (Qi ms) cs.length=Lg (Qi ms) cs.length)=true:=Ak rfl
  simp only [As,↓Au,f7,f9,f19,f20,nj,Oe,RP]
  refine Fh (A01 206 _ IV λaTd aR9 zv OC rv=>?_)
  have aCu:=OC.le
  rw [lb] at rv
  have lv:=rv.len
  rw [zC] at lv
  have en:=IV.keep OC
  cases hz:decide (0<(Eh x cs).newG (Qi ms) cs.length) with
  | true=>
   simp only [As,↓Au,f19,f20,lv,show decide ((0:Int)<((Eh x cs).newG (Qi ms) cs.length:Int))=true from Ak (by have:=En hz;omega)]
   refine Fh (Z6 207 _ _ _ ?_)
   simp only [As,↓Au,bP]
   rfl
  | false=>
   have h0:(Eh x cs).newG (Qi ms) cs.length=0:=by have:=Jk hz;omega
   have hme:(Eh x cs).mark (Qi ms)=Eh x cs:=GTree.mark_none λv h1 h2 hg=>Bn9 (i:=cs.length) h0 v h1 (by rw [yV] at h2;exact h2) hg
   simp only [As,↓Au,f7,f19,f20,lv,show decide ((0:Int)<((Eh x cs).newG (Qi ms) cs.length:Int))=false from Ah (by omega)]
   refine Fh (B37 206 _ _ _ en λaTc aR8 aXr=>?_)
   rw [hme,yV]
   simp only [As,↓Au,f18]
   refine Fh (Z6 207 _ _ _ ?_)
   simp only [As,↓Au,bP]
   rfl
end Go.DD

/- What the model's memory reads as: structs, slices of structs, nested. Conditions: those that each theorem states. -/
namespace Go.DD
open Go Go.ChangeShapes Go.WideShapes Go.ChangeAt Go.RowKit
theorem eZ{W:World}{a:Addr}{v:Value}(h:W.cell? a=some v):a.block<W.heap.size:=by
 rcases Cr a.block W.heap.size with h' | h'
 .exact h'
 .simp [World.cell?,Ws h'] at h
structure RC (W:World) (us:List Value) (ds:List DV):Prop where
 len:us.length=ds.length
 one:∀ u∈us,u.oneCell'=true
 rel:∀ (j:Nat) (u:Value) (d:DV),us[j]?=some u->ds[j]?=some d->RelI W (λb=>b<W.heap.size) u d
theorem RC.nil(W:World):RC W [] []:=⟨rfl,λu h=>by (cases h),λj u d h=>by simp at h⟩
theorem RC.app{W:World}{us vs:List Value}{ds es:List DV}(h1:RC W us ds)(h2:RC W vs es):RC W (us++vs) (ds++es):=by
 refine ⟨by rw [Ao,Ao,h1.len,h2.len],λu hu=>?_,λj u d hu hd=>?_⟩
 .rcases Ax.1 hu with h | h
  .exact h1.one u h
  .exact h2.one u h
 .rcases Cr j us.length with h | h
  .rw [Ci h] at hu
   rw [Ci (by rw [<- h1.len];exact h)] at hd
   exact h1.rel j u d hu hd
  .rw [Hu h] at hu
   rw [Hu (by rw [<- h1.len];exact h),<- h1.len] at hd
   exact h2.rel _ u d hu hd
theorem RC.one1{W:World}{u:Value}{d:DV}(h1:u.oneCell'=true)(h:RelI W (λb=>b<W.heap.size) u d):RC W [u] [d]:=by
 refine ⟨rfl,λv hv=>by rw [Aj.1 hv];exact h1,λj v e hv he=>?_⟩
 cases j with
 | zero=>cases hv;cases he;exact h
 | succ j=>simp at hv
section
variable {H:Type} (enc:TypeId×Value->H) (P:Program) (W:World)
def Rd{α:Type}(t:TypeId)(F:α->List DV):Prop:=∀ (n:Nat) (cs:List Value) (x:DataW H×List MemPlace),DataW.trod enc P W 0 (λ_=>true) true n t cs=some x->∃ a:α,RC W cs (F a)
variable {enc P W}
theorem D5{t:TypeId}(ht:P.underlying t=some (.int .i64)):Rd enc P W t (λn:Int=>[iv n]):=λn cs x h=>by
 obtain ⟨z,rfl,_,_⟩:=DataW.trod_int ht h
 exact ⟨z,.one1 rfl (.v _)⟩
theorem wo{t:TypeId}(ht:P.underlying t=some .string):Rd enc P W t (λs:ByteArray=>[sv s]):=λn cs x h=>by
 obtain ⟨s,rfl,_,_⟩:=DataW.trod_string ht h
 exact ⟨s,.one1 rfl (.v _)⟩
theorem uS{t:TypeId}{fs:Array Field}(ht:P.underlying t=some (.struct fs)){n:Nat}{cs:List Value}{x:DataW H×List MemPlace}(h:DataW.trod enc P W 0 (λ_=>true) true n t cs=some x)(i:Nat){ti oi:Nat}(hi:(fs.toList.map λf=>(f.type,f.offset))[i]?=some (ti,oi)) :
  cs.length=P.cellsOf t/\∃ m y,DataW.trod enc P W 0 (λ_=>true) true m ti ((cs.drop oi).take (P.cellsOf ti))=some y:=by
 obtain ⟨xs,m,_,_,hl,hlen,hf⟩:=DataW.trod_struct ht h
 rw [Dr] at hi
 obtain ⟨f,rD,lL⟩:=Ac.1 hi
 cases lL
 have P1:fs[i]?=some f:=by rw [<- rD];exact (Dk).symm
 have Et:i<fs.size:=by
  rcases Cr i fs.size with h | h
  .exact h
  .rw [Ws h] at P1;cases P1
 have h2:=hf i f P1
 rw [Aa (by omega)] at h2
 exact ⟨hl,m,_,h2⟩
theorem yg{α β:Type}{t t0 t1 k0 k1:Nat}{fs:Array Field}{F0:α->List DV}{F1:β->List DV}(ht:P.underlying t=some (.struct fs))(iF:fs.toList.map (λf=>(f.type,f.offset))=[(t0,0),(t1,k0)])(h0:P.cellsOf t0=k0)(h1:P.cellsOf t1=k1)(hC:P.cellsOf t=k0+k1)(r0:Rd enc P W t0 F0)(r1:Rd enc P W t1 F1):Rd enc P W t (λp:α×β=>F0 p.1++F1 p.2):=λn cs x h=>by
 obtain ⟨hl,_,_,g0⟩:=uS ht h 0 (by rw [iF];rfl)
 obtain ⟨_,_,_,g1⟩:=uS ht h 1 (by rw [iF];rfl)
 obtain ⟨a,ha⟩:=r0 _ _ _ g0
 obtain ⟨b,hb⟩:=r1 _ _ _ g1
 rw [h0] at ha
 rw [h1,Bq (by rw [Ck];omega)] at hb
 refine ⟨(a,b),?_⟩
 have:=ha.app hb
 rw [Gb,Fe] at this
 exact this
theorem A31{α β γ:Type}{t t0 t1 t2 k0 k1 k2:Nat}{fs:Array Field}{F0:α->List DV}{F1:β->List DV}{F2:γ->List DV}(ht:P.underlying t=some (.struct fs))(iF:fs.toList.map (λf=>(f.type,f.offset))=[(t0,0),(t1,k0),(t2,k0+k1)])(h0:P.cellsOf t0=k0)(h1:P.cellsOf t1=k1)(h2:P.cellsOf t2=k2)(hC:P.cellsOf t=k0+k1+k2)(r0:Rd enc P W t0 F0)(r1:Rd enc P W t1 F1)(r2:Rd enc P W t2 F2):Rd enc P W t (λp:α×β×γ=>F0 p.1++(F1 p.2.1++F2 p.2.2)):=λn cs x h=>by
 obtain ⟨hl,_,_,g0⟩:=uS ht h 0 (by rw [iF];rfl)
 obtain ⟨_,_,_,g1⟩:=uS ht h 1 (by rw [iF];rfl)
 obtain ⟨_,_,_,g2⟩:=uS ht h 2 (by rw [iF];rfl)
 obtain ⟨a,ha⟩:=r0 _ _ _ g0
 obtain ⟨b,hb⟩:=r1 _ _ _ g1
 obtain ⟨c,hc⟩:=r2 _ _ _ g2
 rw [h0] at ha
 rw [h1] at hb
 rw [h2,Bq (by rw [Ck];omega)] at hc
 refine ⟨(a,b,c),?_⟩
 have MH:=hb.app hc
 rw [<- No,Fe] at MH
 have:=ha.app MH
 rw [Gb,Fe] at this
 exact this
theorem Br4{α β γ δ:Type}{t t0 t1 t2 t3 k0 k1 k2 k3:Nat}{fs:Array Field}{F0:α->List DV}{F1:β->List DV}{F2:γ->List DV}{F3:δ->List DV}(ht:P.underlying t=some (.struct fs))(iF:fs.toList.map (λf=>(f.type,f.offset))=[(t0,0),(t1,k0),(t2,k0+k1),(t3,k0+k1+k2)])(h0:P.cellsOf t0=k0)(h1:P.cellsOf t1=k1)(h2:P.cellsOf t2=k2)(h3:P.cellsOf t3=k3)(hC:P.cellsOf t=k0+k1+k2+k3)(r0:Rd enc P W t0 F0)(r1:Rd enc P W t1 F1)(r2:Rd enc P W t2 F2)(r3:Rd enc P W t3 F3):Rd enc P W t (λp:α×β×γ×δ=>F0 p.1++(F1 p.2.1++(F2 p.2.2.1++F3 p.2.2.2))):=λn cs x h=>by
 obtain ⟨hl,_,_,g0⟩:=uS ht h 0 (by rw [iF];rfl)
 obtain ⟨_,_,_,g1⟩:=uS ht h 1 (by rw [iF];rfl)
 obtain ⟨_,_,_,g2⟩:=uS ht h 2 (by rw [iF];rfl)
 obtain ⟨_,_,_,g3⟩:=uS ht h 3 (by rw [iF];rfl)
 obtain ⟨a,ha⟩:=r0 _ _ _ g0
 obtain ⟨b,hb⟩:=r1 _ _ _ g1
 obtain ⟨c,hc⟩:=r2 _ _ _ g2
 obtain ⟨e,he⟩:=r3 _ _ _ g3
 rw [h0] at ha
 rw [h1] at hb
 rw [h2] at hc
 rw [h3,Bq (by rw [Ck];omega)] at he
 refine ⟨(a,b,c,e),?_⟩
 have x1:cs.drop (k0+k1)=(cs.drop k0).drop k1:=by rw [No]
 have x2:cs.drop (k0+k1+k2)=(cs.drop (k0+k1)).drop k2:=by rw [No]
 have h23:=hc.app he
 rw [x2,Fe] at h23
 have MH:=hb.app h23
 rw [x1,Fe] at MH
 have:=ha.app MH
 rw [Gb,Fe] at this
 exact this
theorem AL{α β:Type}{t:TypeId}{F:α->List DV}{G:β->List DV}(h:Rd enc P W t F)(f:α->β)(hf:∀ a,F a=G (f a)):Rd enc P W t G:=λn cs x hx=>by
 obtain ⟨a,ha⟩:=h n cs x hx
 exact ⟨f a,by rw [<- hf];exact ha⟩
theorem uR{α:Type}{t e ce:Nat}{F:α->List DV}(ht:P.underlying t=some (.slice e))(oX:P.cellsOf e=ce)(Js:0<ce)(r:Rd enc P W e F):Rd enc P W t (λl:List α=>[.sl (l.flatMap F) l.length]):=λn cs x h=>by
 rcases DataW.trod_slice ht h with ⟨rfl,_⟩ | ⟨a,len,cap,elems,rest,m,_,rfl,_,_,hle,_,lb,Wc,_,_⟩
 .exact ⟨[],.one1 rfl (.sl0 _ _)⟩
 .rw [oX] at Wc
  have key:∀ k,k<=len->∃ (l:List α) (us:List Value),l.length=k/\RC W us (l.flatMap F)/\us.length=k*ce/\∀ (j:Nat) (u:Value),us[j]?=some u->W.cell? (a.add j)=some u:=by
   intro k
   induction k with
   | zero=>intro _;exact ⟨[],[],rfl,RC.nil W,by simp,λj u h=>by simp at h⟩
   | succ k ih=>
    intro hk
    obtain ⟨l,us,h1,h2,h3,h4⟩:=ih (by omega)
    have hg:=Wc k (by omega)
    rw [Aa (by omega)] at hg
    obtain ⟨cs,kC,htr⟩:=Ay.1 hg
    obtain ⟨b,hb⟩:=r _ _ _ htr
    obtain ⟨_,Tz,Qg⟩:=World.cells?_some kC
    refine ⟨l ++ [b],us++cs,by simp [h1],?_,by rw [Ao,h3,Tz,Dq,Mt],λj u hu=>?_⟩
    .rw [List.flatMap_append]
     have:[b].flatMap F=F b:=by simp
     rw [this]
     exact h2.app hb
    .rcases Cr j us.length with hj | hj
     .rw [Ci hj] at hu
      exact h4 j u hu
     .rw [Hu hj] at hu
      have Et:j-us.length<cs.length:=(Aq.1 hu).1
      have:=Qg (j-us.length) (by omega)
      rw [add_add,hu] at this
      rw [<- this]
      congr 2
      omega
  obtain ⟨l,us,h1,h2,h3,h4⟩:=key len (Ag _)
  refine ⟨l,.one1 rfl ?_⟩
  by_cases h0:len=0
  .subst h0
   obtain rfl:l=[]:=List.length_eq_zero_iff.1 h1
   exact .sl0 _ _
  .rw [h1]
   refine .sl a len cap us _ h2.len hle ?_ h2.one h4 h2.rel
   have Et:0<us.length:=by rw [h3];exact Nat.mul_pos (by omega) Js
   have:=eZ (h4 0 _ (Aa Et))
   rwa [Go.DD.block_add] at this
end
end Go.DD

/- From a contract to a law's statement: a law that answers true and of what was there turns nothing. Conditions: none beyond those that each theorem states. -/
namespace Go.DD
open Go Go.RowKit Go.ChangeShapes
theorem A80{H:Type}{enc:TypeId×Value->H}{P:Program}{f:Func}{s:ChangeSpec}{apart fresh handsOn again:Bool}{W W':World}{args:Array Value}{v:Value}{ds gs:List (DataW H)}{before pa pv:List MemPlace}
  (hW:DataW.Whole enc P f.params.toList s.vars apart W args.toList ds gs before)
  (cF:∀ (b:Nat) (sp:Nat->Bool) (hd:Bool),DataW.TrodAll enc P W' b sp hd f.resultTypes.toList (v.resultList f.resultTypes.size) (s.fn H (ds++gs)).results [])
  (Du:∀ sp:Nat->Bool,(∀ p∈before,sp p.block=true)->DataW.TrodAll enc P W' 0 sp true f.params.toList args.toList (s.fn H (ds++gs)).args pa)
  (yW:∀ sp:Nat->Bool,(∀ p∈before,sp p.block=true)->DataW.TrodVars enc P W' sp s.vars (s.fn H (ds++gs)).vars pv)
  (Gy:before=pa++pv) (hk:Below W.heap.size W W')
  (Ph:∀ (j:Nat) (t:TypeId) (r:Value),f.resultTypes[j]?=some t->(v.resultList f.resultTypes.size)[j]?=some r->Value.okWide P W' .any 0 t r) :
  s.post enc P f apart fresh handsOn again W args v W':=by
 have hold:∀ p∈before,(λb=>decide (b<W.heap.size)) p.block=true:=λp hp=>by simpa using hW.lt p hp
 have Et:=hW.lt
 refine ⟨ds,gs,before,[],pa,pv,hW,cF _ _ _,Du _ hold,yW _ hold,hk.frame _,λ_=>?_⟩
 obtain ⟨_,_,_,_,_,hz,hn⟩:=hW
 refine ⟨Ph,_,_,([]++pa)++pv,⟨[]++pa,pv,trodAll_append (Du _ (λ_ _=>rfl)) (cF _ _ _),yW _ (λ_ _=>rfl),rfl,?_,?_⟩,?_⟩
 .intro b off hp
  have An:MemPlace.cell b off∈before:=by rw [Gy];simpa using hp
  rw [hk.frozen (Et _ An)]
  exact hz b off An
 .intro ha
  have:=hn ha
  rw [Gy] at this
  simpa using this
 .intro p hp _
  rw [Gy]
  simpa using hp
theorem DCall.law{P:Program}{f:FuncId}{args:List DV}(h:DCall P f args λd=>d=.v (.bool true))(w:World){vs:List Value}(hl:vs.length=args.length)
  (hr:∀ (j:Nat) (v:Value) (d:DV),vs[j]?=some v->args[j]?=some d->RelI w (λb=>b<w.heap.size) v d) (hg:∀ x d,OH x d->RelI w (λb=>b<w.heap.size) x d) :
  Calls P f vs.toArray w λe w'=>e=.returned (.bool true)/\Below w.heap.size w w':=
 (h w (λb=>b<w.heap.size) vs (λ_ h=>h) hl hr hg).mono λ_ _ ⟨v,r,he,hr,hb,hv⟩=>by
  subst hr
  cases hv
  exact ⟨he,hb⟩
end Go.DD

/- What the arguments of chapter 08's statements read as. Conditions: those that each theorem states. -/
namespace Go.DD
open Go Go.Proofs Go.ChangeShapes Go.WideShapes Go.ChangeAt Go.RowKit
theorem ba:ownKnob Tryz.prog.godebug=none:=by kernel_rfl
theorem u2:Tryz.prog.underlying 2=some (.int .i64):=by kernel_rfl
theorem u3:Tryz.prog.underlying 3=some (.int .i64):=by kernel_rfl
theorem u4:Tryz.prog.underlying 4=some .bool:=by kernel_rfl
theorem u9:Tryz.prog.underlying 9=some .string:=by kernel_rfl
theorem u22:Tryz.prog.underlying 22=some (.slice 129):=by kernel_rfl
theorem u23:Tryz.prog.underlying 23=some (.slice 131):=by kernel_rfl
theorem u24:Tryz.prog.underlying 24=some (.slice 39):=by kernel_rfl
theorem u36:Tryz.prog.underlying 36=some (.slice 3):=by kernel_rfl
theorem u37:Tryz.prog.underlying 37=some (.slice 41):=by kernel_rfl
noncomputable def kH(t:Nat):Array Field:=match Tryz.prog.underlying t with
 | some (.struct fs)=>fs
 | _=>#[]
theorem CQ:Tryz.prog.underlying 26=some (.struct (kH 26)):=by kernel_rfl
theorem CO:Tryz.prog.underlying 39=some (.struct (kH 39)):=by kernel_rfl
theorem WS:Tryz.prog.underlying 41=some (.struct (kH 41)):=by kernel_rfl
theorem WT:Tryz.prog.underlying 129=some (.struct (kH 129)):=by kernel_rfl
theorem CP:Tryz.prog.underlying 131=some (.struct (kH 131)):=by kernel_rfl
section
variable {H:Type} {enc:TypeId×Value->H} {W:World}
set_option maxRecDepth 100000 in
theorem wP:Rd enc Tryz.prog W 41 (λv:PVal=>rVal.cells v):=
 AL (Br4 (t0:=3) (t1:=2) (t2:=2) (t3:=9) (k0:=1) (k1:=1) (k2:=1) (k3:=1) WS (by kernel_rfl) (by kernel_rfl) (by kernel_rfl) (by kernel_rfl) (by kernel_rfl) (by kernel_rfl) (D5 u3) (D5 u2) (D5 u2) (wo u9)) (λp=>⟨p.1,p.2.1,p.2.2.1,p.2.2.2⟩) λ_=>rfl
set_option maxRecDepth 100000 in
theorem ED:Rd enc Tryz.prog W 129 (λv:PDim=>rDim.cells v):=
 AL (A31 (t0:=9) (t1:=3) (t2:=3) (k0:=1) (k1:=1) (k2:=1) WT (by kernel_rfl) (by kernel_rfl) (by kernel_rfl) (by kernel_rfl) (by kernel_rfl) (wo u9) (D5 u3) (D5 u3)) (λp=>⟨p.1,p.2.1,p.2.2⟩) λ_=>rfl
set_option maxRecDepth 100000 in
theorem C58:Rd enc Tryz.prog W 131 (λv:PAttr=>rAttr.cells v):=
 AL (yg (t0:=9) (t1:=3) (k0:=1) (k1:=1) CP (by kernel_rfl) (by kernel_rfl) (by kernel_rfl) (by kernel_rfl) (wo u9) (D5 u3)) (λp=>⟨p.1,p.2⟩) λ_=>rfl
set_option maxRecDepth 100000 in
theorem C59:Rd enc Tryz.prog W 39 (λv:PCell=>rCell.cells v):=
 AL (yg (t0:=36) (t1:=37) (k0:=1) (k1:=1) CO (by kernel_rfl) (by kernel_rfl) (by kernel_rfl) (by kernel_rfl) (uR (ce:=1) u36 (by kernel_rfl) (by decide) (D5 u3)) (uR (ce:=4) u37 (by kernel_rfl) (by decide) wP)) (λp=>⟨p.1,p.2⟩) λ_=>rfl
def OB(x:PArr):List DV:=[.sl (x.dims.flatMap rDim.cells) x.dims.length,.sl (x.attrs.flatMap rAttr.cells) x.attrs.length,.sl (x.cells.flatMap rCell.cells) x.cells.length]
set_option maxRecDepth 100000 in
theorem EF:Rd enc Tryz.prog W 26 OB:=
 AL (A31 (t0:=22) (t1:=23) (t2:=24) (k0:=1) (k1:=1) (k2:=1) CQ (by kernel_rfl) (by kernel_rfl) (by kernel_rfl) (by kernel_rfl) (by kernel_rfl) (uR (ce:=3) u22 (by kernel_rfl) (by decide) ED) (uR (ce:=2) u23 (by kernel_rfl) (by decide) C58) (uR (ce:=2) u24 (by kernel_rfl) (by decide) C59)) (λp=>⟨p.1,p.2.1,p.2.2⟩) λ_=>rfl
set_option maxRecDepth 100000 in
theorem Cv4{base:Nat}{v:Value}{d:DataW H}{p:List MemPlace}(Sg:Value.okWide Tryz.prog W .any base 26 v)(h:DataW.Trod enc Tryz.prog W 0 (λ_=>true) true 26 v d p):∃ x:PArr,RelI W (λb=>b<W.heap.size) v (kK x):=by
 obtain ⟨cs,e,_⟩:=okWide_struct CQ Sg
 subst e
 obtain ⟨fuel,hf⟩:=h
 obtain ⟨x,hx⟩:=EF _ _ _ hf
 refine ⟨x,?_⟩
 have this:RelI W (λb=>b<W.heap.size) (.agg cs.toList.toArray) (kK x):=RelI.agg (w:=W) (al:=λb=>b<W.heap.size) cs.toList (OB x) hx.len hx.one hx.rel
 rw [Array.toArray_toList] at this
 exact this
end
end Go.DD

/- VersionFold, the statement: for every input the call returns true and each argument reads afterwards as before. Conditions: none. -/
namespace Go.Proofs.YtnphfnhhpcelbaaGreat.versionFold
open Go.ChangeShapes Go.WideShapes Go.ChangeAt Go.RowKit Go.DD

theorem WU : Tryz.prog.underlying 27 = some (.slice 62) := by kernel_rfl
theorem WW : Tryz.prog.underlying 62 = some (.struct (kH 62)) := by kernel_rfl
section
variable {H : Type} {enc : TypeId × Value -> H} {W : World}
set_option maxRecDepth 100000 in
theorem EE : Rd enc Tryz.prog W 62 (λv : PCell => rChange.cells v) :=
  AL (yg (t0 := 36) (t1 := 37) (k0 := 1) (k1 := 1) WW (by kernel_rfl) (by kernel_rfl) (by kernel_rfl) (by kernel_rfl) (uR (ce := 1) u36 (by kernel_rfl) (by decide) (D5 u3)) (uR (ce := 4) u37 (by kernel_rfl) (by decide) wP)) (λp => ⟨p.1, p.2⟩) λ_ => rfl
theorem vN : Tryz.prog.underlying 63 = some (.slice 27) := by kernel_rfl
theorem u16 : Tryz.prog.underlying 64 = some (.int .u16) := by kernel_rfl
set_option maxRecDepth 100000 in
/-- An argument that is a list of lists of changes. -/
theorem Cc4{base : Nat}{v : Value}{d : DataW H}{p : List MemPlace}(Sg : Value.okWide Tryz.prog W .any base 63 v)(h : DataW.Trod enc Tryz.prog W 0 (λ_ => true) true 63 v d p) : ∃ l : List (List PCell), RelI W (λb => b<W.heap.size) v (Zn l) := by
  obtain ⟨a, n, m, rfl⟩ := okWide_slice vN Sg
  obtain ⟨fuel, hf⟩ := h
  obtain ⟨l, hl⟩ := uR (ce := 1) vN (by kernel_rfl) (by decide) (uR (ce := 2) WU (by kernel_rfl) (by decide) EE) _ _ _ hf
  exact ⟨l, hl.rel 0 _ _ rfl rfl⟩
set_option maxRecDepth 100000 in
/-- An argument that is a number. -/
theorem Cv5{base : Nat}{v : Value}(Sg : Value.okWide Tryz.prog W .any base 64 v) : ∃ n : Nat, v = .int .u16 (n : Int) := by
  obtain ⟨z, rfl⟩ := okWide_int u16 Sg
  simp only [Value.okWide, u16, Cell.okWide, Cell.ok, IntKind.has] at Sg
  have h0 : (0 : Int) <= z := Sg.2.1
  exact ⟨z.toNat, by rw [Int.toNat_of_nonneg h0]⟩
end
theorem walk(x : PArr)(l : List (List PCell))(m : Nat){W : World}{v u s : Value}(hx : RelI W (λb => b<W.heap.size) v (kK x))(hy : RelI W (λb => b<W.heap.size) u (Zn l))(hz : RelI W (λb => b<W.heap.size) s (.v (.int .u16 (m : Int)))) :
    Calls Tryz.prog 9 #[v, u, s] W λe w' => e = .returned (.bool true) /\ Below W.heap.size W w' := by
  refine DCall.law (vs := [v, u, s]) (Cc3 x l m).2.2 W rfl (λj w d hw hd => ?_) (λx d h => ?_)
  . match j with
    | 0 => cases hw;cases hd;exact hx
    | 1 => cases hw;cases hd;exact hy
    | 2 => cases hw;cases hd;exact hz
    | j + 3 => cases hw
  . obtain ⟨g, cs, h, _⟩ := h
    cases h

set_option maxRecDepth 100000 in
theorem lifted(os : Os)(started : os.Started)(H : Type)(enc : TypeId × Value -> H) :
    ReturnsInHanded {} Tryz.checked os 9 .any (Rows.versionFoldSpec.pre6 enc Tryz.prog Tryz.f9 Rows.versionFoldRow.domain false) (Rows.versionFoldSpec.post enc Tryz.prog Tryz.f9 false true false false) := by
  refine returnsInHanded_of_change (C := Tryz.checked) ba started (by kernel_rfl) Tryz.func9
    (ChangeSpec.witness6 (enc := enc) (C := Tryz.checked) false ⟨#[], #[.agg #[.slice none 0 0, .slice none 0 0, .slice none 0 0], .slice none 0 0, .int .u16 0], []⟩ 3 (by kernel_rfl) (by kernel_rfl) (by kernel_rfl) (by kernel_rfl)) ?_
  intro W base args ds gs before yX hW aUn _
  have Sg : ∀ (j : Nat) t v, Tryz.f9.params[j]? = some t -> args[j]? = some v -> Value.okWide Tryz.prog W .any base t v := yX
  have hW' := hW
  have Et := hW.lt
  obtain ⟨p, q, hA0, hV, rfl, hfz, Um⟩ := hW
  have hA : DataW.TrodAll enc Tryz.prog W 0 (λ_ => true) true Tryz.f9.params.toList args.toList ds p := hA0
  rw [Tryz.params9] at hA Sg
  obtain ⟨v0, v1, v2, d0, d1, d2, p0, p1, p2, rfl, rfl, rfl, h0, h1, h2⟩ := trodAll_three hA
  obtain ⟨rfl, rfl⟩ := trodVars_none hV
  obtain ⟨x, L6⟩ := Cv4 (Sg 0 _ v0 rfl rfl) h0
  obtain ⟨l, hx1⟩ := Cc4 (Sg 1 _ v1 rfl rfl) h1
  obtain ⟨m, hm⟩ := Cv5 (Sg 2 _ v2 rfl rfl)
  have II : RelI W (λb => b<W.heap.size) v2 (.v (.int .u16 (m : Int))) := by rw [hm];exact .v _
  clear hA0 yX
  simp only [Da, Bv] at hW' Et
  refine (walk x l m L6 hx1 II).mono λe W' ⟨he, hg⟩ => ?_
  subst he
  exact ⟨_, rfl, A80 (pa := p0++(p1++p2)) (pv := []) hW' (λ_ _ _ => trodAll_mk1 (shut_bool u4 _))
    (λsp fg => trodAll_mk3 (WideElems.Trod_stays (by kernel_rfl) (by kernel_rfl) (by decide +kernel) h0 (λx hx => hg.same (Et x (Cj _ hx))) (λx hx => fg x (Cj _ hx))) (WideElems.Trod_stays (by kernel_rfl) (by kernel_rfl) (by decide +kernel) h1 (λx hx => hg.same (Et x (Ce _ (Cj _ hx)))) (λx hx => fg x (Ce _ (Cj _ hx)))) (WideElems.Trod_stays (by kernel_rfl) (by kernel_rfl) (by decide +kernel) h2 (λx hx => hg.same (Et x (Ce _ (Ce _ hx)))) (λx hx => fg x (Ce _ (Ce _ hx)))))
    (λ_ _ => rfl) (by simp) hg (ok_one (by kernel_rfl) rfl (okWide_bool_mk u4 _))⟩

theorem o1 : (Rows.versionFoldRow.inPlace == Tryz.pinned.checked.prog.inPlace 9) = true := by kernel_rfl
theorem o2 : (Rows.versionFoldRow.unfollowed == Tryz.pinned.checked.prog.unfollowed 9) = true := by kernel_rfl
theorem o3 : (Rows.versionFoldRow.recurses == Tryz.pinned.checked.prog.recurses 9) = true := by kernel_rfl
theorem o4 : (Rows.versionFoldRow.named == Tryz.pinned.checked.prog.varsNamed 9) = true := by kernel_rfl
theorem o5 : joinedFacts Tryz.pinned.checked.prog 9 Tryz.f9 Rows.versionFoldSpec Rows.versionFoldRow = true := by
  unfold joinedFacts
  rw [o1, o2, o3, o4]
  kernel_rfl
theorem over : Rows.versionFoldRow.holds Tryz.pinned (OpenSpec.ofChange Rows.versionFoldSpec) :=
  OpenClaim.holds_of_wide 9 Tryz.f9 rfl rfl rfl rfl rfl rfl rfl ⟨rfl, rfl, rfl, rfl, rfl⟩ rfl rfl rfl rfl rfl (by kernel_rfl) Tryz.func9 o5
    (En (by kernel_rfl)) (by unfold Func.isWrapper;first | (rw [Af (by decide +kernel)];kernel_rfl) | (rw [Ae (by decide +kernel)];exact ⟨rfl, rfl⟩))
    (λos started H enc _ => lifted os started H enc)

/-- The statement. -/
theorem proved : Rows.VersionFoldSaid :=
  over
#print axioms proved
end Go.Proofs.YtnphfnhhpcelbaaGreat.versionFold
