/-
  A crash in New: what is opened then is the store itself, or nothing: for every document and every number of bytes.
-/
import Derived.Test.YtfcmggoiphphnaaGreatDoorWw
set_option linter.unusedVariables false
set_option linter.unusedSimpArgs false
noncomputable section
namespace Go.Proofs.YtfcmggoiphphnaaGreatDoor
open Go Go.AM Tryz
theorem yQ{W:World}(ht:zZ W TB){xs:List Value}{c:List CT}(h:CellsA (fun _=>False) (Go.AM.start W) kD xs c){n:Int}(hn:(Lit.int .u16 n).wf=true):XCall prog 3 [.agg ⟨xs⟩,.int .u16 n] (Go.AM.start W) fun v H'=>v=.bool true/\Kept (Go.AM.start W).nx (Go.AM.start W) H':=by
 refine(c3 W (Go.AM.start W) (Go.AM.start W) (fun _=>False) (fun _=>False) [] [.agg (aN kD c 0),.int .u16 n] [.agg ⟨xs⟩,.int .u16 n] ⟨fun _=>rfl,⟨rfl,trivial⟩,ht.2⟩ (.cons ⟨c,rfl⟩ (.cons ⟨n,rfl⟩ .nil)) ?_ ⟨fun hd=>aZz ⟨_,_,_,h⟩ hd⟩ (Go.AM.start W) (HS.start fun _ h=>h.elim)).mono ?_
 ·simp only[Reps,Rep];exact⟨⟨xs,rfl,h.reps rfl⟩,⟨trivial,hn⟩,trivial⟩
 ·rintro u H' _ ⟨H1,A1,_,hH,rs,us,ha,hr,rfl,hp⟩;cases ha with
  |cons hq ht=>
   cases ht;obtain⟨b,rfl⟩:=hq
   match us,hr with
   |[u],hr=>
    simp only[Reps,Rep] at hr;obtain⟨rfl,_⟩:=hr;cases b with
    |true=>exact⟨rfl,hH.kept⟩
    |false=>exact(Pr.h hp).elim
   |[],hr=>simp only[Reps] at hr
   |_::_::_,hr=>simp only[Reps] at hr;exact hr.2.elim
end Go.Proofs.YtfcmggoiphphnaaGreatDoor
