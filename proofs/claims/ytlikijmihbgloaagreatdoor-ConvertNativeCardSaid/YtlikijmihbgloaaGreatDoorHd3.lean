/-
  What each function leads to, and the variables that it names, by tables. Laid by program.
-/
import Derived.Test.YtlikijmihbgloaaGreatDoorHd1
import GoSem.ClaimGoes
set_option linter.unusedVariables false
set_option linter.unusedSimpArgs false
set_option linter.unusedSectionVars false
set_option maxRecDepth 1000000
namespace Go.Proofs.YtlikijmihbgloaaGreatDoor
open Go Go.AM Tryz
noncomputable def aQf:List (List Nat):=[[],[],[1],[4,5,5,6,7,8],[9,10,11,12,13,14],[7,7,7,7,7,15,16,6,16,17,16,4,4,4,15,16],[7,18,19,20,21,22],[23],[27,28,29,30,31,32],[33,34,35,36,37,38,39,40],[9,42,41],[43,43,44,45],[46,40,47,47,48],[46,40,49,49,51,50,52],[46,53,54,55,55,55,55,55,55,55,55,55,55,55,56,56],[7,19,18,11],[],[46,57,58,60],[61,62,63,64,65,9],[7,66,67,68],[33],[69,70,71,72],[9,73,74,75,76,78,77,79],[25,24],[80],[26],[81],[],[29,82],[],[],[],[83],[84],[85,86],[87],[88,46],[90,89,91,87],[92],[94],[95],[96,97],[99,98,100,98,101,98,102,98,100,98,96,98,96,98,100,98,99,98,96,98,99,98,103,98,104],[105,106,105,105,105],[108,107],[109,110],[111,112],[113],[60,60],[],[114,115,116],[117,118,119],[120,49,121,49],[40,98,104],[122,123],[56,56,56,56],[],[],[60,59],[124],[126,125],[127],[63,128,129,130,130,97],[],[131,132,133,134,132,128,128,132,131,128,131,135],[129,130],[136,137],[138,139,140,141,142,143,144],[145,146,147,148,149,150,151,152,146,153],[],[],[],[],[91],[],[76,154,155,156,57],[157],[158,159],[74,91,91,160],[9],[],[],[83,29,161,162,163],[164],[],[165,70,166,167,72,168,169,171,170],[],[],[],[172],[],[174,173],[93],[91],[],[175,176],[177],[121],[178],[179,98,104]]
theorem ld_k0:((prog.funcs.toList.drop 0).take 100).map prog.leadsTo=aQf:=by kernel_rfl
noncomputable def aWo:List (List Nat):=[[177],[99,98,96,98,180,98,99,98,102,98,99,98,103,98,99,98,181,98,99,98,182,98,99,98,96,98,99,98,100,98,99,98,104],[39,183,184],[46,185,186],[],[],[],[187],[],[188,189,190,191,192],[112],[],[191],[195],[],[],[196,197],[60,60],[198,200,200,199],[],[],[201],[56,60,60],[202,202],[],[203],[124],[81],[132,204,130],[],[204],[205],[206,204],[131,128,207,131,134,131,135,131,208,131,209,131,128,131,132,131,129],[211,210],[213,212],[26,214,26,215,26,215],[125],[26,216,120,216,121],[216,216],[217,217],[218,219,218,219],[217,218],[219,220,219,219,221,222,223],[224,225,225,227,226,228,229],[150,231,231,231,232],[],[233,233,233,146,233,233,233],[233,233,233,146,146],[233,233,233,233,233,233,233,233],[],[146,146,234],[231,59,235],[224,224,95],[],[],[],[154,57,154,236,237,238],[],[239],[],[],[],[],[],[69,240,241,241,242,243,87,39],[244],[166,125,125,125,125,166,245,245,166],[],[46,246,247,248,249,250,251,252],[],[70,72],[],[],[],[253],[253],[254],[255],[256,177],[100,98,104],[254,256,254],[100,98,99,98,100,98,99,98,99,98,104],[100,98,100,98,100,98,100,98,104],[],[100,98,100,98,100,98,100,98,104],[],[9,91,257,258,260,259],[261,262,263],[188,263,264],[],[126,126,126,126],[194,193],[124,265,124,266],[191,266,266,266,265],[267,268,269,270],[114,271,271,272,273,274,275,276,274],[114],[],[277,277,277]]
theorem ld_k1:((prog.funcs.toList.drop 100).take 100).map prog.leadsTo=aWo:=by kernel_rfl
noncomputable def aTl:List (List Nat):=[[],[],[],[],[],[206],[204],[206,278],[132,205,204],[132,131,132,131,131],[132,132,278,129,132,278,129,129],[132],[132,132,278,129,132,278,129,129],[132],[224,26,279,224,280,281,228,282],[283,281,284],[],[286,285],[],[98,104],[287,115],[198,200,200,199],[216,59],[222,59],[288],[],[289],[],[291,290],[230],[292,292],[],[231,231,231,231,231],[146],[293,293,294,98,104],[191,295,295,295],[],[],[],[296,296,296],[],[],[],[],[297,297,297,297,298,298],[203,203,125],[112],[299,300],[301,302,303,304,305,246],[307,306,308,305,246],[309,310,311],[312],[],[],[],[],[],[313,314,108,315],[],[316,317,87,318,259,319,321,320],[],[],[322],[323,324,326,325,323],[322,262],[323,124,125],[322,327,328],[],[330,329,331],[],[332,333],[334],[],[335],[336,336,336,336],[337,274,271,338,336,271],[335],[],[204],[61,224,339,339,340,226],[],[],[230],[284,224],[],[],[],[341],[342],[],[343,344,345,346,347,348,349,350,290,290],[351,330],[],[],[352,26,26,26,26,26,353,98,293,293,293,104,98,104],[354,354,125],[],[124],[124],[355]]
theorem ld_k2:((prog.funcs.toList.drop 200).take 100).map prog.leadsTo=aTl:=by kernel_rfl
noncomputable def aVw:List (List Nat):=[[112],[356,166,357,358,359],[356,360],[356],[361,305,362],[],[363,364,365,366,302,125,125],[367,368,368,369],[166,359,358,359],[],[370,112],[],[],[371,371],[313],[314,314],[],[372,319,372,321,373],[108,374,259,375,376,377,378,380,379,378,381],[382,378],[191,191,125,383,384],[191,373],[327,327],[],[326],[385,385,386,387,388,387],[],[124],[125],[],[],[],[],[389,390],[],[],[334],[],[],[],[],[391,391,392,393,394,395,394],[396,397,396,398,397,399],[],[400,400],[401,402],[403,403,403,404],[],[],[],[],[],[405,386],[178,406],[124],[],[359,357],[],[407,125,125],[],[408,125,125,125,125],[],[409,410,411,413,413,414,414,412,415,415,416],[417,418,418],[],[419,420,421],[422],[423,424],[396],[425],[],[],[373],[354,354,125],[426,87,429,428,430,427],[250,46,431,432],[46,433,434,435,436],[46,437,438,439,440,441,441,442,443],[316],[46,313,314,444,445],[314,446],[191,191,126,125,125,125,125],[447,448,172,447,449,450,451,307,306,308,452,260,259,91,108,319,447],[191,191,453],[125],[],[],[],[454],[],[],[],[],[455,455],[456,457],[391,391,458,455,459,458,460,455,455],[461],[],[],[462]]
theorem ld_k3:((prog.funcs.toList.drop 300).take 100).map prog.leadsTo=aVw:=by kernel_rfl
noncomputable def aUl:List (List Nat):=[[],[291],[],[404],[463,463,463],[],[464],[244,298,298,245,298,245,298],[],[],[465,465],[466,412,125,413,413,413,413,412],[467,468],[],[],[466,412,413,413,412,414,414,412,125,125,469,414,414,414,412,413,413,413,412],[466,412,466,412,414,413,413,414,414,412,413,413,413,414,414,412],[418,418,418,470,471,418],[],[472],[473],[366,125],[],[],[474],[],[9,91,313,314,430,315],[314,314,446],[314,446],[475,476,477],[],[478,480,483,485,486,488,489],[],[251,313,313,314,315,475,428,427],[],[490],[491,492,493,494,495,497,497,498,496,499,500],[252,168,313,313,314,315,476,477,428,427],[],[124,124],[252,501,501,125,125],[168,124,477,203,203,502,125],[503,503,503],[125,124,504,504,504],[],[],[],[46,313,168,167,314,505,506,407,507],[],[111,112,444],[247,313,314,508,509],[301,302,303,304,452],[305,112,510,321],[511,516,517,518,519],[330],[520],[391],[521,391,456,522,391],[],[456,391],[458],[],[],[],[],[414,469,125,125,125,125],[523,125,125,413],[],[],[385,385,386,385,385,386,524,524,386],[418,356,418,418],[],[525],[528,529,527],[530,531],[251,532,532],[252],[],[479],[533,373,373,125,534,535],[481,482,482],[191,125],[],[484],[536],[125,482],[481,487],[125,381],[537,539,540,541,542,544],[],[],[498,545],[125,125,125,125],[498,491,546],[498,548,549,550],[497,497,497,497,497,497,497,497,497,497,497,497,469,498,496],[547],[498,481],[],[532,532,498,545,125,125,498,545,492]]
theorem ld_k4:((prog.funcs.toList.drop 400).take 100).map prog.leadsTo=aUl:=by kernel_rfl
noncomputable def aRc:List (List Nat):=[[498,545,492],[124],[551,552],[386,524,524],[388],[553],[],[203,203,441,441,554,555],[125,469,125,557,556,558,558,125,559],[125,381],[305,560,314,561,562,563,125],[514,513,515,512],[515,125,125,564],[125],[],[125],[514,513,515,512],[515,512],[515,512],[565],[],[],[],[567,567],[],[526,527],[568],[342],[569,526],[569,570,527],[],[],[],[191,125,125,125,571],[124],[534,571,534,534,125,125,125,125,534,534,534],[125,534],[538],[125,534,125,572],[266],[125,534],[125,125],[543],[203,125,125,534],[],[],[125,125,547],[124],[291,573],[],[],[125,125],[125,125],[],[574,574,574],[125,124,575,575,575],[],[558,558,125,576,125,576,556],[],[556,556,124],[313],[],[577],[],[124],[566],[564,564,373,373,373,578,578,125,564,125,564,564],[579,579,579,579],[],[],[],[],[124,124,354,125],[580,581,582,583,584,585,586,587,588,573,573],[386,524,524],[388],[125],[203],[295],[125],[586],[589,589],[401,402],[590,590,590,591],[],[586,586,586],[592,592],[586,586],[586,586,586,586],[586,586],[591],[593,593,593],[],[586]]++List.replicate 6 []
theorem ld_k5:((prog.funcs.toList.drop 500).take 100).map prog.leadsTo=aRc:=by kernel_rfl
noncomputable def aTw:List (List Nat):=List.replicate 27 []
theorem ld_k6:((prog.funcs.toList.drop 600).take 100).map prog.leadsTo=aTw:=by kernel_rfl
noncomputable def ldL:List (List Nat):=[aQf,aWo,aTl,aVw,aUl,aRc,aTw].flatten
theorem bAh:[aQf,aWo,aTl,aVw,aUl,aRc,aTw].flatten=ldL:=rfl
theorem ldAll:prog.funcs.toList.map prog.leadsTo=ldL:=
 Eq.trans (aU (fun l=>l.map prog.leadsTo) rfl (fun a b=>List.map_append ..) prog.funcs.toList 100 [aQf,aWo,aTl,aVw,aUl,aRc,aTw] 0 (fun i L h=>match i,h with
  |0,h=>(Option.some.inj h:aQf=L)▸ld_k0
  |1,h=>(Option.some.inj h:aWo=L)▸ld_k1
  |2,h=>(Option.some.inj h:aTl=L)▸ld_k2
  |3,h=>(Option.some.inj h:aVw=L)▸ld_k3
  |4,h=>(Option.some.inj h:aUl=L)▸ld_k4
  |5,h=>(Option.some.inj h:aRc=L)▸ld_k5
  |6,h=>(Option.some.inj h:aTw=L)▸ld_k6
  |k+7,h=>by simp at h) (by rw[Array.length_toList,qS];exact QL rfl)) bAh
noncomputable def aPr:List (List Nat):=List.replicate 100 []
theorem gl_k0:((prog.funcs.toList.drop 0).take 100).map (fun F:Func=>F.body.elim [] Code.globalsNamed)=aPr:=by kernel_rfl
noncomputable def aTj:List (List Nat):=List.replicate 100 []
theorem gl_k1:((prog.funcs.toList.drop 100).take 100).map (fun F:Func=>F.body.elim [] Code.globalsNamed)=aTj:=by kernel_rfl
noncomputable def aQi:List (List Nat):=List.replicate 68 []++[[0]]++List.replicate 31 []
theorem gl_k2:((prog.funcs.toList.drop 200).take 100).map (fun F:Func=>F.body.elim [] Code.globalsNamed)=aQi:=by kernel_rfl
noncomputable def aUo:List (List Nat):=List.replicate 42 []++[[1,1,1]]++List.replicate 24 []++[[2,2,2,2]]++List.replicate 20 []++[[3,4],[5],[6]]++List.replicate 9 []
theorem gl_k3:((prog.funcs.toList.drop 300).take 100).map (fun F:Func=>F.body.elim [] Code.globalsNamed)=aUo:=by kernel_rfl
noncomputable def aRu:List (List Nat):=List.replicate 24 []++[[7]]++List.replicate 75 []
theorem gl_k4:((prog.funcs.toList.drop 400).take 100).map (fun F:Func=>F.body.elim [] Code.globalsNamed)=aRu:=by kernel_rfl
noncomputable def aWa:List (List Nat):=List.replicate 43 []++[[8]]++List.replicate 24 []++[[9,10]]++List.replicate 10 []++[[11,11,11,11]]++List.replicate 20 []
theorem gl_k5:((prog.funcs.toList.drop 500).take 100).map (fun F:Func=>F.body.elim [] Code.globalsNamed)=aWa:=by kernel_rfl
noncomputable def aPn:List (List Nat):=List.replicate 26 []++[[5,6,0,10,11,8,12,12,7,2]]
theorem gl_k6:((prog.funcs.toList.drop 600).take 100).map (fun F:Func=>F.body.elim [] Code.globalsNamed)=aPn:=by kernel_rfl
noncomputable def glL:List (List Nat):=[aPr,aTj,aQi,aUo,aRu,aWa,aPn].flatten
theorem bAg:[aPr,aTj,aQi,aUo,aRu,aWa,aPn].flatten=glL:=rfl
theorem glAll:prog.funcs.toList.map (fun F:Func=>F.body.elim [] Code.globalsNamed)=glL:=
 Eq.trans (aU (fun l=>l.map (fun F:Func=>F.body.elim [] Code.globalsNamed)) rfl (fun a b=>List.map_append ..) prog.funcs.toList 100 [aPr,aTj,aQi,aUo,aRu,aWa,aPn] 0 (fun i L h=>match i,h with
  |0,h=>(Option.some.inj h:aPr=L)▸gl_k0
  |1,h=>(Option.some.inj h:aTj=L)▸gl_k1
  |2,h=>(Option.some.inj h:aQi=L)▸gl_k2
  |3,h=>(Option.some.inj h:aUo=L)▸gl_k3
  |4,h=>(Option.some.inj h:aRu=L)▸gl_k4
  |5,h=>(Option.some.inj h:aWa=L)▸gl_k5
  |6,h=>(Option.some.inj h:aPn=L)▸gl_k6
  |k+7,h=>by simp at h) (by rw[Array.length_toList,qS];exact QL rfl)) bAg
end Go.Proofs.YtlikijmihbgloaaGreatDoor
namespace Go.Proofs.YtlikijmihbgloaaGreatDoor
open Go Go.AM Tryz
noncomputable def aWl:List (Option String):=[some "main.main",some "gosem.cut"]++List.replicate 98 none
theorem ip_k0:((prog.funcs.toList.drop 0).take 100).map (fun F:Func=>if F.ours||F.body.isNone then some F.name else none)=aWl:=by kernel_rfl
noncomputable def aVu:List (Option String):=List.replicate 58 none++[some "slices.overlaps[imageeditor/api.Node]"]++List.replicate 41 none
theorem ip_k1:((prog.funcs.toList.drop 100).take 100).map (fun F:Func=>if F.ours||F.body.isNone then some F.name else none)=aVu:=by kernel_rfl
noncomputable def aSq:List (Option String):=List.replicate 55 none++[some "internal/abi.NoEscape"]++List.replicate 44 none
theorem ip_k2:((prog.funcs.toList.drop 200).take 100).map (fun F:Func=>if F.ours||F.body.isNone then some F.name else none)=aSq:=by kernel_rfl
noncomputable def aUp:List (Option String):=List.replicate 97 none++[some "internal/bytealg.IndexString",none,none]
theorem ip_k3:((prog.funcs.toList.drop 300).take 100).map (fun F:Func=>if F.ours||F.body.isNone then some F.name else none)=aUp:=by kernel_rfl
noncomputable def aPa:List (Option String):=List.replicate 61 none++[some "internal/bytealg.IndexByteString",none,none,some "internal/bytealg.MakeNoZero"]++List.replicate 35 none
theorem ip_k4:((prog.funcs.toList.drop 400).take 100).map (fun F:Func=>if F.ours||F.body.isNone then some F.name else none)=aPa:=by kernel_rfl
noncomputable def aQx:List (Option String):=List.replicate 24 none++[some "math/bits.Add64"]++List.replicate 45 none++[some "internal/bytealg.CountString"]++List.replicate 23 none++[some "(runtime.boundsError).Error",some "(runtime.boundsError).RuntimeError",some "(runtime.errorString).Error",some "(runtime.errorString).RuntimeError",some "(runtime.plainError).Error",some "(runtime.plainError).RuntimeError"]
theorem ip_k5:((prog.funcs.toList.drop 500).take 100).map (fun F:Func=>if F.ours||F.body.isNone then some F.name else none)=aQx:=by kernel_rfl
noncomputable def aWs:List (Option String):=[some "(runtime.errorAddressString).Error",some "(runtime.errorAddressString).RuntimeError",some "(*runtime.TypeAssertionError).Error",some "(*runtime.TypeAssertionError).RuntimeError",some "(*runtime.PanicNilError).Error",some "(*runtime.PanicNilError).RuntimeError",some "(*internal/abi.Type).Align",some "(internal/runtime/maps.unhashableTypeError).Error",some "(internal/runtime/maps.unhashableTypeError).RuntimeError",some "(*strings.Builder).Reset",some "(*errors.errorString).Error",some "(internal/abi.Kind).String",some "var's door: unicode.White_Space holds what its initialiser lays, and nothing in the loaded text writes it or what it leads to (look 11-elder)",some "var's door: unicode._White_Space holds what its initialiser lays, and nothing in the loaded text writes it or what it leads to (look 11-elder)",some "var's door: gosem.cut.vars holds initialisers alone; see the manifest's row cutvarsword (look 11, test files too)",some "var's door: imageeditor/adjust.factors is laid by its own initialiser, plain data (look 11)",some "var's door: imageeditor/num.sines is laid by its own initialiser, plain data (look 11)",some "var's door: internal/strconv.uint64pow10 is laid by its own initialiser, plain data (look 11)",some "var's door: math/bits.deBruijn32tab is laid by its own initialiser, plain data (look 11)",some "var's door: math/bits.deBruijn64tab is laid by its own initialiser, plain data (look 11)",some "var's door: strings.asciiSpace is laid by its own initialiser, plain data (look 11)",some "var's door: the look of gosem.cut.vars went over the folder that the caller named as the repository's root (look 11)",some "var's door: unicode.White_Space is laid by its own initialiser, on the list of Go's own tables (list 10)",some "var's door: unicode._White_Space is laid by its own initialiser, on the list of Go's own tables (list 10)",some "var's door: unicode/utf8.acceptRanges is laid by its own initialiser, plain data (look 11)",some "var's door: unicode/utf8.first is laid by its text alone (pinned 1)",none]
theorem ip_k6:((prog.funcs.toList.drop 600).take 100).map (fun F:Func=>if F.ours||F.body.isNone then some F.name else none)=aWs:=by kernel_rfl
noncomputable def ipL:List (Option String):=[aWl,aVu,aSq,aUp,aPa,aQx,aWs].flatten
theorem bAb:[aWl,aVu,aSq,aUp,aPa,aQx,aWs].flatten=ipL:=rfl
theorem ipAll:prog.funcs.toList.map (fun F:Func=>if F.ours||F.body.isNone then some F.name else none)=ipL:=
 Eq.trans (aU (fun l=>l.map (fun F:Func=>if F.ours||F.body.isNone then some F.name else none)) rfl (fun a b=>List.map_append ..) prog.funcs.toList 100 [aWl,aVu,aSq,aUp,aPa,aQx,aWs] 0 (fun i L h=>match i,h with
  |0,h=>(Option.some.inj h:aWl=L)▸ip_k0
  |1,h=>(Option.some.inj h:aVu=L)▸ip_k1
  |2,h=>(Option.some.inj h:aSq=L)▸ip_k2
  |3,h=>(Option.some.inj h:aUp=L)▸ip_k3
  |4,h=>(Option.some.inj h:aPa=L)▸ip_k4
  |5,h=>(Option.some.inj h:aQx=L)▸ip_k5
  |6,h=>(Option.some.inj h:aWs=L)▸ip_k6
  |k+7,h=>by simp at h) (by rw[Array.length_toList,qS];exact QL rfl)) bAb
noncomputable def aUt:List (Option String):=List.replicate 100 none
theorem rd_k0:((prog.funcs.toList.drop 0).take 100).map (fun F:Func=>if F.body.isNone then entryReads.lookup F.name else none)=aUt:=by kernel_rfl
noncomputable def aWq:List (Option String):=List.replicate 100 none
theorem rd_k1:((prog.funcs.toList.drop 100).take 100).map (fun F:Func=>if F.body.isNone then entryReads.lookup F.name else none)=aWq:=by kernel_rfl
noncomputable def aVn:List (Option String):=List.replicate 100 none
theorem rd_k2:((prog.funcs.toList.drop 200).take 100).map (fun F:Func=>if F.body.isNone then entryReads.lookup F.name else none)=aVn:=by kernel_rfl
noncomputable def aTu:List (Option String):=List.replicate 97 none++[some "internal/bytealg.MaxLen",none,none]
theorem rd_k3:((prog.funcs.toList.drop 300).take 100).map (fun F:Func=>if F.body.isNone then entryReads.lookup F.name else none)=aTu:=by kernel_rfl
noncomputable def aQl:List (Option String):=List.replicate 100 none
theorem rd_k4:((prog.funcs.toList.drop 400).take 100).map (fun F:Func=>if F.body.isNone then entryReads.lookup F.name else none)=aQl:=by kernel_rfl
noncomputable def aRs:List (Option String):=List.replicate 100 none
theorem rd_k5:((prog.funcs.toList.drop 500).take 100).map (fun F:Func=>if F.body.isNone then entryReads.lookup F.name else none)=aRs:=by kernel_rfl
noncomputable def aTg:List (Option String):=List.replicate 27 none
theorem rd_k6:((prog.funcs.toList.drop 600).take 100).map (fun F:Func=>if F.body.isNone then entryReads.lookup F.name else none)=aTg:=by kernel_rfl
noncomputable def rdL:List (Option String):=[aUt,aWq,aVn,aTu,aQl,aRs,aTg].flatten
theorem aYx:[aUt,aWq,aVn,aTu,aQl,aRs,aTg].flatten=rdL:=rfl
theorem rdAll:prog.funcs.toList.map (fun F:Func=>if F.body.isNone then entryReads.lookup F.name else none)=rdL:=
 Eq.trans (aU (fun l=>l.map (fun F:Func=>if F.body.isNone then entryReads.lookup F.name else none)) rfl (fun a b=>List.map_append ..) prog.funcs.toList 100 [aUt,aWq,aVn,aTu,aQl,aRs,aTg] 0 (fun i L h=>match i,h with
  |0,h=>(Option.some.inj h:aUt=L)▸rd_k0
  |1,h=>(Option.some.inj h:aWq=L)▸rd_k1
  |2,h=>(Option.some.inj h:aVn=L)▸rd_k2
  |3,h=>(Option.some.inj h:aTu=L)▸rd_k3
  |4,h=>(Option.some.inj h:aQl=L)▸rd_k4
  |5,h=>(Option.some.inj h:aRs=L)▸rd_k5
  |6,h=>(Option.some.inj h:aTg=L)▸rd_k6
  |k+7,h=>by simp at h) (by rw[Array.length_toList,qS];exact QL rfl)) aYx
end Go.Proofs.YtlikijmihbgloaaGreatDoor
