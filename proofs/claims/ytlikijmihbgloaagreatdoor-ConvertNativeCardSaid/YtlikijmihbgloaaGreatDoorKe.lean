/-
  awake.
-/
import Derived.Test.YtlikijmihbgloaaGreatDoorKd
import Derived.Test.YtlikijmihbgloaaGreatDoorAb7
set_option linter.unusedVariables false
set_option linter.unusedSimpArgs false
set_option maxRecDepth 100000
namespace Go.Proofs.YtlikijmihbgloaaGreatDoor
open Go Go.AM Tryz
def wM:Option (Value×AH)->Bool
 |some (.bool true,_)=>true
 |_=>false
theorem aEt{o:Option (Value×AH)}(h:wM o=true):∃H',o=some (.bool true,H'):=by
 unfold wM at h;split at h
 ·exact⟨_,rfl⟩
 ·cases h
/-- the matrix of the profile of files,and its inverse -/
def aXt:List Value:=[.int .i64 27031,.int .i64 23434,.int .i64 11825,.int .i64 13938,.int .i64 46868,.int .i64 4730,.int .i64 1267,.int .i64 7811,.int .i64 62279]
def aZj:List Value:=[.int .i64 212365,.int .i64 (-100738),.int .i64 (-32671),.int .i64 (-63523),.int .i64 122947,.int .i64 2724,.int .i64 3647,.int .i64 (-13371),.int .i64 69286]
def aCb:Option (Value×AH)->Bool
 |some (.tuple ⟨[.agg ⟨l⟩,.int .i64 z]⟩,_)=>zI l aZj&&decide (z=0)
 |_=>false
theorem aIx{o:Option (Value×AH)}(h:aCb o=true):∃H',o=some (.tuple ⟨[.agg ⟨aZj⟩,.int .i64 0]⟩,H'):=by
 unfold aCb at h;split at h
 ·rename_i l z K;simp only[QB] at h;obtain⟨h1,h2⟩:=h;have h2:z=0:=by simpa using h2
  rw[rV h1,h2];exact⟨_,rfl⟩
 ·cases h
theorem aYn(w:World):aCb (qT E (fun _ _=>none) 60 263 [.agg ⟨aXt⟩] (Go.AM.start w))=true:=by kernel_rfl
theorem aQz(w:World):Flat prog 263 [.agg ⟨aXt⟩] w (.tuple ⟨[.agg ⟨aZj⟩,.int .i64 0]⟩):=
 Flat.closedT E bAy mixed (by kernel_rfl) 60 (fun w=>aIx (aYn w)) w
/-- the calls whose outcomes are known -/
def tb(g:FuncId)(args:List Value):Option Value:=
 bif Nat.beq g 7 then(match args with
  |[.string q]=>some (.int .i64 (oA q.data.toList))
  |_=>none)
 else bif Nat.beq g 263 then(match args with
  |[.agg ⟨l⟩]=>bif zI l aXt then some (.tuple ⟨[.agg ⟨aZj⟩,.int .i64 0]⟩) else none
  |_=>none)
 else none
theorem tb_ok:aLx prog tb:=by
 intro g args r h;unfold tb at h;cases h7:Nat.beq g 7 with
 |true=>
  rw[h7,QT] at h;have:=QN h7;subst this;split at h
  ·rename_i q;cases h;exact⟨rfl,rfl,fun w=>(aBb (S:=Go.AM.start w) q).calls.mono fun v H' hv=>hv.1⟩
  ·cases h
 |false=>
  rw[h7,QF] at h;cases h2:Nat.beq g 263 with
  |true=>
   rw[h2,QT] at h;have:=QN h2;subst this;split at h
   ·rename_i l;cases hl:zI l aXt with
    |true=>
     rw[hl,QT] at h;cases h;rw[rV hl];exact⟨rfl,rfl,aQz⟩
    |false=>rw[hl] at h;cases h
   ·cases h
  |false=>rw[h2] at h;cases h
end Go.Proofs.YtlikijmihbgloaaGreatDoor
