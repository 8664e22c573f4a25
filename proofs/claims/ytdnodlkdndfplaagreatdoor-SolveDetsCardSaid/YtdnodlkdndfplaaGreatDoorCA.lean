/-
 For all inputs the law 'SolveDets' returns true, and its argument reads afterwards as before. Conditions: none beyond the given statement's.
-/
import Derived.Test.YtdnodlkdndfplaaGreatDoorVD
import Derived.Test.YtdnodlkdndfplaaGreatDoorTop
import Derived.Test.YtdnodlkdndfplaaGreatDoorCards
import Derived.Test.YtdnodlkdndfplaaGreatDoorTie
set_option linter.constructorNameAsVariable false
set_option linter.unusedSimpArgs false
set_option linter.unusedVariables false
namespace Go.Proofs.YtdnodlkdndfplaaGreatDoor
open Go.Am Go.Tx
set_option maxRecDepth 100000
theorem Zxk:ZaP (Zme Tryz.prog 20) Tryz.f5.params.toList=some [.slice (.slice .str 16) 24]:=by kernel_rfl
theorem Zuz (qs:List PV) (h:Zfi [.slice (.slice .str 16) 24] qs): ∃n H',(Zd8 Tryz.prog Zaw n).rn 5 qs []=some (.bool true,H'):=by
 simp only[Zfi]at h
 obtain⟨p,_,rfl,h1,rfl⟩:=h
 obtain⟨a,ha,hla⟩:=ZwL h1
 exact Zuv rfl (Znb a hla) (by simp only[RL];exact⟨p,[],rfl,ha,rfl⟩)
open Go.ChangeShapes Go.WideShapes Go.ChangeAt Go.RowKit
theorem Zql (os:Os) (started:os.Started) (H:Type) (enc:TypeId×Value→H):
 ReturnsInHanded {} Tryz.checked os 5 .any (fun w args=>(Rows.solveDetsSpec.pre enc Tryz.prog Tryz.f5 [] false w args∧laidMetH Tryz.prog ZeH w)∧sizedMet enc Tryz.prog Tryz.f5 (OpenSpec.ofChange Rows.solveDetsSpec) false w args) (Rows.solveDetsSpec.post enc Tryz.prog Tryz.f5 false true false false):=by
 refine returnsInHanded_of_change_and (C:=Tryz.checked) (X:=fun w _=>laidMetH Tryz.prog ZeH w) (fun _ _ _ hh h=>h.of_heap hh) ZAL started (by kernel_rfl) Tryz.func5
  (ChangeSpec.witness_shaped (enc:=enc) (C:=Tryz.checked) (os:=os) (X:=fun w _=>laidMetH Tryz.prog ZeH w) false (World.laidAll Tryz.prog os ZeH) #[.slice none 0 0] 8 (World.laidAll_os _ _ _)
   (World.shaped_of_ZipB (by kernel_rfl) (by kernel_rfl)) (by kernel_rfl) (by kernel_rfl) (by kernel_rfl)
   (by rw[MakeChecks.laidMetH_plain _ _ _ (by kernel_rfl)];exact laidMet_laidAll _ (by kernel_rfl) (by kernel_rfl))) ?_
 intro W base args ds gs before hval hW _ hsz hL _
 exact Zmw (fn:=Tryz.f5) (s:=Rows.solveDetsSpec) (tb:=4) ZxR Zyz Zui rfl (by kernel_rfl) Tryz.underlying4 (of_decide_eq_true (by kernel_rfl)) Zxk Zuz (by
  intro ds hds
  have h3:Tryz.f5.params.size=1:=by kernel_rfl
  rw[h3]at hds
  match ds,hds with
  | [_],_=>rfl) (ZyZ hL) hval hW hsz
theorem Zka:Rows.SolveDetsSaid:=
 OpenClaim.holds_of_wide 5 Tryz.f5 rfl rfl rfl rfl rfl rfl rfl ⟨rfl,rfl,rfl,rfl,rfl⟩ rfl rfl rfl rfl rfl (by kernel_rfl) Tryz.func5 (by kernel_rfl)
  (of_decide_eq_true (by kernel_rfl)) (by unfold Func.isWrapper;first|(rw[if_pos (by decide+kernel)];kernel_rfl)|(rw[if_neg (by decide+kernel)];exact⟨rfl,rfl⟩))
  (fun os started H enc _=>Zql os started H enc)
theorem solveDets_holds:Rows.SolveDetsCardSaid:=
 Claim7.holds_tied_plain_at .later [] [.data, .data, .data, .sentinel, .sentinel] true (true,"c3402b151cbddd5634f7dc3957bff81483da8b557c1e57d7400b16dcdaba6b5c") true
  Zka (fun _ h=>by cases h) (by kernel_rfl) (fun _ h=>by cases h) solveDets_row_tie rfl ⟨rfl,rfl⟩ (by kernel_rfl) rfl
  (fun f fn hf hfn=>by
   obtain rfl:f=5:=Option.some.inj ((show Tryz.prog.funcNamed "gridhall/gridhalllaw1.SolveDets" =some 5 by kernel_rfl).symm.trans hf)|>.symm
   obtain rfl:fn=Tryz.f5:=(Option.some.inj (Tryz.func5.symm.trans hfn)).symm
   exact⟨by kernel_rfl,fun j t ht=>by
    have hm:t∈Tryz.f5.params.toList:=by
     have:=Array.mem_of_getElem? ht
     simpa using this
    have hall:(Tryz.f5.params.toList.all fun u=> !Tryz.prog.wantsStandIn u)=true:=by kernel_rfl
    exact(show Tryz.prog.wantsStandIn t=false by simpa using List.all_eq_true.1 hall t hm)⟩)
  (by kernel_rfl)
end Go.Proofs.YtdnodlkdndfplaaGreatDoor
