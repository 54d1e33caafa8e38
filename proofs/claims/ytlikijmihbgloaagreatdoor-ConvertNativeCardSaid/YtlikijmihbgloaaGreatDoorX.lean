/-
  What is exported in the native format is opened as the same document: for every document.
-/
import Derived.Test.YtlikijmihbgloaaGreatDoorWw
set_option linter.unusedVariables false
set_option linter.unusedSimpArgs false
noncomputable section
namespace Go.Proofs.YtlikijmihbgloaaGreatDoor
open Go Go.AM Tryz
theorem tL{W:World}(ht:aMz W TB){xs:List Value}{c:List CT}(h:CellsA (fun _=>False) (Go.AM.start W) kD xs c):XCall prog 3 [.agg ⟨xs⟩] (Go.AM.start W) fun v H'=>v=.bool true/\Kept (Go.AM.start W).nx (Go.AM.start W) H':=by
 refine(c3 W (Go.AM.start W) (Go.AM.start W) (fun _=>False) (fun _=>False) [] [.agg (bI kD c 0)] [.agg ⟨xs⟩] ⟨⟨rfl,trivial⟩,ht.2⟩ (.cons ⟨c,rfl⟩ .nil) ?_ ⟨fun hd=>aZc ⟨_,_,_,h⟩ hd⟩ (Go.AM.start W) (HS.start fun _ h=>h.elim)).mono ?_
 ·simp only[Reps,Rep];exact⟨⟨xs,rfl,h.reps rfl⟩,trivial⟩
 ·rintro u H' _ ⟨H1,A1,_,hH,rs,us,ha,hr,rfl,hp⟩;cases ha with
  |cons hq ht=>
   cases ht;obtain⟨b,rfl⟩:=hq
   match us,hr with
   |[u],hr=>
    simp only[Reps,Rep] at hr;obtain⟨rfl,_⟩:=hr;cases b with
    |true=>exact⟨rfl,hH.kept⟩
    |false=>exact(Pr.h hp).elim
   |[],hr=>simp only[Reps] at hr
   |_::_::_,hr=>simp only[Reps] at hr;exact hr.2.elim
end Go.Proofs.YtlikijmihbgloaaGreatDoor
