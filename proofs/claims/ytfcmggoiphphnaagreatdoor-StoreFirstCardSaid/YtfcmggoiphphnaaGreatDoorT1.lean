/-
  The variables that the rows list, tied to the program's text: the tie that the walk of the variables' door gives, in the rows' order.
-/
import Derived.Test.YtfcmggoiphphnaaGreatDoorGreat
import Derived.Test.YtfcmggoiphphnaaGreatDoorRows
import Derived.LaidByTextLater
import Derived.SevenTiedAt
namespace Go.Proofs.YtfcmggoiphphnaaGreatDoor
open Go
theorem yX{P:Program}{w:World}{l l':List (String×DataW Unit)}(h:l.Perm l'):∀ps,DataW.LaidVars P w l ps->∃ps',DataW.LaidVars P w l' ps'/\ps.Perm ps':=by
 induction h with
 |nil=>exact fun ps h=>⟨ps,h,List.Perm.refl _⟩
 |cons x hp ih=>
  rintro ps ⟨g,t,cs,fuel,p,q,h1,h2,h3,h4,h5,rfl⟩;obtain⟨q',k1,k2⟩:=ih q h5;exact⟨_,⟨g,t,cs,fuel,p,q',h1,h2,h3,h4,k1,rfl⟩,List.Perm.append_left _ k2⟩
 |swap x y r=>
  rintro ps ⟨g,t,cs,fuel,p,q,h1,h2,h3,h4,⟨g',t',cs',fuel',p',q',k1,k2,k3,k4,k5,rfl⟩,rfl⟩;refine⟨_,⟨g',t',cs',fuel',p',_,k1,k2,k3,k4,⟨g,t,cs,fuel,p,q',h1,h2,h3,h4,k5,rfl⟩,rfl⟩,?_⟩;have hq:=List.Perm.append_right q' (List.perm_append_comm (l₁:=MemPlace.row ⟨g,0,none⟩ cs.size++p) (l₂:=MemPlace.row ⟨g',0,none⟩ cs'.size++p'));simpa only[List.append_assoc] using hq
 |trans _ _ ih1 ih2=>
  intro ps h;obtain⟨ps1,h1,p1⟩:=ih1 ps h;obtain⟨ps2,h2,p2⟩:=ih2 ps1 h1;exact⟨ps2,h2,p1.trans p2⟩
theorem aCz{P:Program}{w:World}{l l':List (String×DataW Unit)}(h:l.Perm l')(hm:laidMet P l w):laidMet P l' w:=by
 obtain⟨ps,h1,h2,h3⟩:=hm;obtain⟨ps',k1,k2⟩:=yX h ps h1;exact⟨ps',k1,k2.nodup_iff.1 h2,fun b off hb=>h3 b off (k2.mem_iff.2 hb)⟩
theorem uF{P:Program}{l l':List (String×DataW Unit)}{k k':List LaidKind}{tests:Bool}(h:P.laidByTextLater l k tests)(hp:l.Perm l')(hk:l'.map (fun x=>P.kindOfLater x.1)=k'.map some)
 (hn:(l.all fun x=>x.2.handleName?.isNone)=true)(rc:(l'.all fun x=>x.2.handleName?.isNone)=true):P.laidByTextLater l' k' tests:=by
 obtain⟨⟨h1,h2,h3,_⟩,g,code,stored,h4,h5,h6,h7,h8⟩:=h;refine⟨⟨h1,h2,h3,hk⟩,g,code,stored,h4,h5,h6,?_,fun os tape st=>?_⟩
 ·rw[List.all_eq_true] at h7 ⊢;exact fun x hx=>h7 x (hp.mem_iff.2 hx)
 ·obtain⟨n,v,w',r,m⟩:=h8 os tape st;rw[MakeChecks.laidMetH_plain _ _ _ hn] at m;exact⟨n,v,w',r,by rw[MakeChecks.laidMetH_plain _ _ _ rc];exact aCz hp m⟩
def zD:String×DataW Unit:=("",.nil)
def laidR:List (String×DataW Unit):=[("imageeditor/num.sines",Rows.laid_imageeditor_num_sines),("strings.asciiSpace",Rows.laid_strings_asciiSpace),("unicode.White_Space",Rows.laid_unicode_White_Space),("unicode/utf8.acceptRanges",Rows.laid_unicode_utf8_acceptRanges),("imageeditor/adjust.factors",Rows.laid_imageeditor_adjust_factors)]
/-- where each variable of the rows stands in the walk's list -/
def placesR:List Nat:=laidR.map fun x=>Great.laidAll.findIdx fun y=>x.1==y.1
theorem aSg:placesR.map (fun i=>Great.laidAll.getD i zD)=laidR:=by kernel_rfl
theorem placesPerm:placesR.Perm (List.range Great.laidAll.length):=by decide+kernel
theorem permR:Great.laidAll.Perm laidR:=by
 have h:=placesPerm.map (fun i=>Great.laidAll.getD i zD);rw[aSg] at h;have e:(List.range Great.laidAll.length).map (fun i=>Great.laidAll.getD i zD)=Great.laidAll:=by
  apply List.ext_getElem
  ·simp
  ·intro i h1 h2;simp[List.getD_eq_getElem?_getD,List.getElem?_eq_getElem h2]
 rw[e] at h;exact h.symm
theorem tie:Tryz.prog.laidByTextLater [("imageeditor/num.sines",Rows.laid_imageeditor_num_sines),("strings.asciiSpace",Rows.laid_strings_asciiSpace),("unicode.White_Space",Rows.laid_unicode_White_Space),("unicode/utf8.acceptRanges",Rows.laid_unicode_utf8_acceptRanges),("imageeditor/adjust.factors",Rows.laid_imageeditor_adjust_factors)] [.data,.data,.listed,.data,.data] true:=
 uF Great.tie permR (by as_aux_lemma=>kernel_rfl) (by as_aux_lemma=>kernel_rfl) (by as_aux_lemma=>kernel_rfl)
theorem iH:Tryz.pinned.checked.prog.pinnedFits "unicode/utf8.first"=true:=by kernel_rfl
theorem aEj:Tryz.pinned.checked.prog.headLifts.contains "ownunsafe"=false:=by kernel_rfl
theorem fits1:Tryz.pinned.checked.prog.listedFits [("imageeditor/num.sines",Rows.laid_imageeditor_num_sines),("strings.asciiSpace",Rows.laid_strings_asciiSpace),("unicode.White_Space",Rows.laid_unicode_White_Space),("unicode/utf8.first",Rows.laid_unicode_utf8_first),("unicode/utf8.acceptRanges",Rows.laid_unicode_utf8_acceptRanges),("imageeditor/adjust.factors",Rows.laid_imageeditor_adjust_factors)]=true:=by
 unfold Program.listedFits;rw[aEj]
 kernel_rfl
theorem pV:Rows.storeFirstRow.laidByTextAt .later Tryz.pinned [.data,.data,.listed,.pinned,.data,.data] true:=
 OpenClaim.laidByTextAt_pinned rfl rfl tie rfl rfl rfl rfl (fun y hy _e=>by
  simp only[Rows.storeFirstRow,List.zip_cons_cons,List.zip_nil_right,List.mem_cons,List.mem_nil_iff,or_false] at hy;rcases hy with rfl|rfl|rfl|rfl|rfl|rfl
  ·cases _e
  ·cases _e
  ·cases _e
  ·exact⟨iH,by kernel_rfl⟩
  ·cases _e
  ·cases _e) fits1
end Go.Proofs.YtfcmggoiphphnaaGreatDoor
