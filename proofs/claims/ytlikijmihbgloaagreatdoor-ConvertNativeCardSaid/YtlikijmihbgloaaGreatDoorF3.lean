/-
  The closed facts of the row of ConvertNative, one by one, by the program's tables.
-/
import Derived.Test.YtlikijmihbgloaaGreatDoorHd3
import Derived.Test.YtlikijmihbgloaaGreatDoorB0
import Derived.Test.YtlikijmihbgloaaGreatDoorLo
import Derived.Test.YtlikijmihbgloaaGreatDoorRows
import Derived.JoinedOf
namespace Go.Proofs.YtlikijmihbgloaaGreatDoor
open Go Go.AM
set_option maxRecDepth 1000000
theorem dL:Tryz.pinned.checked.prog.closure 3=[3,4,9,33,84,34,85,165,69,240,241,242,243,87,39,94,70,166,244,297,124,298,167,125,203,245,72,168,169,46,111,112,191,126,246,247,299,355,300,248,301,356,359,357,358,407,302,360,408,303,304,361,305,362,409,410,465,414,469,385,386,524,411,466,523,567,579,413,412,467,468,415,416,249,307,367,423,424,474,530,531,368,396,461,369,425,306,363,417,418,470,471,364,365,419,472,525,526,568,527,342,397,398,399,462,420,473,528,569,529,570,421,366,422,308,250,309,310,370,311,251,312,252,171,170,86,35,36,88,37,90,89,172,91,174,173,38,92,93,40,95,175,253,176,10,42,99,179,256,177,254,98,178,255,104,100,101,96,180,102,183,184,103,185,186,181,182,41,97,121,201,11,43,105,106,44,108,107,187,257,313,371,314,315,258,260,259,316,317,372,373,354,319,382,447,505,553,506,507,441,477,502,551,552,554,574,555,575,388,454,330,448,449,444,450,508,557,558,576,556,559,509,381,451,452,510,560,561,562,577,563,321,378,318,374,426,430,429,475,532,476,428,446,427,375,431,478,479,533,571,534,535,480,481,482,483,484,536,485,486,487,488,537,538,572,539,266,322,327,328,540,541,542,543,544,489,432,376,433,434,435,490,436,491,498,545,492,493,546,547,494,548,291,351,573,580,586,592,581,589,582,401,402,583,590,591,593,584,585,587,588,549,550,495,497,496,499,500,377,437,438,439,440,501,442,503,443,504,380,379,445,320,383,453,511,514,513,515,512,564,516,517,518,519,565,566,578,295,384,45,109,188,261,262,263,323,324,326,325,387,189,264,190,192,194,265,193,110,12,47,113,195,267,268,329,331,269,270,332,333,389,390,48,60,13,49,51,117,118,198,200,199,277,119,50,114,115,116,196,271,334,272,273,335,274,336,275,337,338,276,197,52,120,14,53,54,122,56,123,202,55,5,7,23,25,26,81,24,80,15,19,66,136,214,224,288,279,61,127,339,340,226,289,280,281,228,290,343,344,400,345,346,403,404,463,347,348,349,350,282,230,292,215,283,284,137,67,138,216,139,140,217,286,285,141,218,219,142,143,220,287,341,391,392,393,455,520,394,456,457,521,522,395,458,459,460,221,222,59,223,144,225,227,229,68,145,150,231,232,146,147,233,148,149,151,234,293,294,352,405,353,406,464,152,235,153,18,62,63,128,132,206,204,130,129,64,131,205,133,207,278,134,211,210,135,213,212,208,209,65,16,6,20,21,71,22,73,74,75,76,157,154,57,236,237,238,155,156,78,160,77,158,159,239,296,79,17,58,8,27,28,29,82,83,164,161,162,163,30,31,32]:=tJ (P:=Tryz.pinned.checked.prog) ldAll 3 (fuel:=2084) (by as_aux_lemma=>kernel_rfl) (by as_aux_lemma=>kernel_rfl)
theorem aHl(f:FuncId):Tryz.pinned.checked.prog.inPlace f=(Tryz.pinned.checked.prog.closure f).filterMap fun g=>(Tryz.pinned.checked.prog.funcs[g]?).bind fun fn=>if fn.ours||fn.body.isNone then some fn.name else none:=by
 unfold Program.inPlace;congr 1;funext g;cases h:Tryz.pinned.checked.prog.funcs[g]? with
 |none=>rfl
 |some fn=>
  have hn:(fn.name== "runtime.NumGoroutine")=false:=names g fn h;simp only[Option.bind_some,hn,Bool.or_false]
theorem mR:(Rows.convertNativeRow.inPlace==Tryz.pinned.checked.prog.inPlace 3)=true:=by
 rw[aHl,dL,pD (P:=Tryz.pinned.checked.prog) ipAll]
 as_aux_lemma=>kernel_rfl
theorem kF:Tryz.pinned.checked.prog.unfollowed 3=true:=by
 rw[Program.unfollowed,dL]
 as_aux_lemma=>kernel_rfl
theorem kR:(Rows.convertNativeRow.unfollowed==Tryz.pinned.checked.prog.unfollowed 3)=true:=by
 rw[kF];rfl
theorem mD:(Rows.convertNativeRow.recurses==Tryz.pinned.checked.prog.recurses 3)=true:=by
 rw[Program.recurses,kF,Bool.true_or];rfl
theorem pK:(Rows.convertNativeRow.named==Tryz.pinned.checked.prog.varsNamed 3)=true:=by
 rw[Program.varsNamed,dL,aOc (P:=Tryz.pinned.checked.prog) glAll,pD (P:=Tryz.pinned.checked.prog) rdAll]
 as_aux_lemma=>kernel_rfl
set_option maxHeartbeats 40000000 in
theorem pL:joinedFacts Tryz.pinned.checked.prog 3 Tryz.f3 Rows.convertNativeSpec Rows.convertNativeRow=true:=by
 unfold joinedFacts;simp only[QB]
 repeat' apply And.intro
 all_goals (first|with_reducible exact mR|with_reducible exact kR|with_reducible exact mD|with_reducible exact pK|with_reducible exact laidOut|with_reducible exact aXp|(as_aux_lemma=>kernel_rfl))
end Go.Proofs.YtlikijmihbgloaaGreatDoor
