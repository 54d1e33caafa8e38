/-
  The closed facts of the row of StoreFirst, one by one, by the program's tables.
-/
import Derived.Test.YtfcmggoiphphnaaGreatDoorHd2
import Derived.Test.YtfcmggoiphphnaaGreatDoorB0
import Derived.Test.YtfcmggoiphphnaaGreatDoorRows
import Derived.JoinedOf
import Derived.Test.YtfcmggoiphphnaaGreatDoorLo
namespace Go.Proofs.YtfcmggoiphphnaaGreatDoor
open Go Go.AM
set_option maxRecDepth 1000000
theorem eS:Tryz.pinned.checked.prog.closure 3=[3,4,12,40,64,106,65,107,148,194,195,196,197,198,109,70,117,149,150,199,242,29,243,151,200,244,201,152,153,154,111,157,158,209,259,202,203,245,284,246,204,247,285,288,286,287,307,248,289,320,249,250,290,251,291,321,322,370,326,374,414,413,415,323,371,412,459,499,325,324,372,373,327,328,205,253,296,335,336,379,421,422,297,337,380,298,338,252,292,329,330,375,376,293,294,331,377,416,417,460,418,461,500,501,502,538,332,378,419,462,420,463,333,295,334,254,206,255,256,299,257,207,258,208,156,155,108,66,67,110,68,113,112,159,114,161,160,69,115,116,71,118,162,210,163,41,61,97,98,101,145,146,147,99,100,72,60,96,95,13,42,74,121,49,77,75,127,120,165,212,126,122,123,94,166,124,169,170,125,171,172,167,168,73,119,164,211,43,44,54,85,87,135,186,88,89,134,139,133,185,137,136,91,86,59,5,14,8,28,7,27,26,15,45,53,76,46,47,16,48,17,50,78,128,79,6,23,55,90,138,93,140,187,241,141,191,190,142,193,192,188,189,24,56,92,143,144,52,83,84,131,132,51,39,80,82,129,173,213,214,215,216,218,223,217,260,261,300,339,219,174,220,262,263,221,227,175,222,264,301,265,176,177,224,266,229,272,302,304,303,267,268,306,341,381,423,382,383,424,464,465,503,504,425,466,426,467,443,487,533,342,343,384,344,385,428,429,468,427,430,386,318,345,346,387,431,432,433,469,434,319,357,406,348,347,340,388,435,389,436,470,473,472,505,539,506,471,453,403,437,474,507,508,540,559,541,542,509,510,511,512,513,543,514,515,516,517,544,545,560,546,354,390,395,396,547,548,549,550,551,518,475,438,476,477,478,519,479,520,527,552,521,522,553,554,523,555,562,572,561,563,569,578,564,573,565,574,575,566,576,577,579,567,568,570,571,556,557,524,526,525,528,529,439,480,481,482,483,530,484,531,485,532,305,441,440,486,364,408,457,490,493,492,494,491,535,495,496,497,498,536,537,558,458,409,225,226,178,228,269,270,271,179,230,273,274,231,275,308,180,232,276,277,233,234,279,309,349,350,351,391,392,394,393,442,310,352,311,312,314,353,313,280,278,181,235,281,182,236,237,183,238,239,184,240,283,282,315,355,397,444,445,446,398,407,399,447,448,488,451,534,489,449,400,401,450,402,452,356,404,454,405,455,456,358,316,359,365,360,361,362,363,317,366,368,410,367,369,411,81,130,57,58,25,19,18,11,20,21,22,9,10,33,34,35,62,63,105,102,103,104,36,37,38,31,30,32]:=yN (P:=Tryz.pinned.checked.prog) ldAll 3 (fuel:=2227) (by as_aux_lemma=>kernel_rfl) (by as_aux_lemma=>kernel_rfl)
theorem aGs(f:FuncId):Tryz.pinned.checked.prog.inPlace f=(Tryz.pinned.checked.prog.closure f).filterMap fun g=>(Tryz.pinned.checked.prog.funcs[g]?).bind fun fn=>if fn.ours||fn.body.isNone then some fn.name else none:=by
 unfold Program.inPlace;congr 1;funext g;cases h:Tryz.pinned.checked.prog.funcs[g]? with
 |none=>rfl
 |some fn=>
  have hn:(fn.name== "runtime.NumGoroutine")=false:=names g fn h;simp only[Option.bind_some,hn,Bool.or_false]
theorem pT:(Rows.storeFirstRow.inPlace==Tryz.pinned.checked.prog.inPlace 3)=true:=by
 rw[aGs,eS]
 as_aux_lemma=>kernel_rfl
theorem mJ:Tryz.pinned.checked.prog.unfollowed 3=true:=by
 rw[Program.unfollowed,eS]
 as_aux_lemma=>kernel_rfl
theorem lN:(Rows.storeFirstRow.unfollowed==Tryz.pinned.checked.prog.unfollowed 3)=true:=by
 rw[mJ];rfl
theorem oD:(Rows.storeFirstRow.recurses==Tryz.pinned.checked.prog.recurses 3)=true:=by
 rw[Program.recurses,mJ,Bool.true_or];rfl
theorem sX:(Rows.storeFirstRow.named==Tryz.pinned.checked.prog.varsNamed 3)=true:=by
 rw[Program.varsNamed,eS]
 as_aux_lemma=>kernel_rfl
set_option maxHeartbeats 40000000 in
theorem tK:joinedFacts Tryz.pinned.checked.prog 3 Tryz.f3 Rows.storeFirstSpec Rows.storeFirstRow=true:=by
 unfold joinedFacts;simp only[QB]
 repeat' apply And.intro
 all_goals (first|with_reducible exact laidOut|with_reducible exact bBp|with_reducible exact pT|with_reducible exact lN|with_reducible exact oD|with_reducible exact sX|(as_aux_lemma=>kernel_rfl))
end Go.Proofs.YtfcmggoiphphnaaGreatDoor
