/-
 For all inputs the law 'SolveRanks' returns true, and its argument reads afterwards as before. Conditions: none beyond the given statement's.
-/
import Derived.Test.YtdnodlkdndfplaaGreatDoorP6
import Derived.Test.YtdnodlkdndfplaaGreatDoorCards
import Derived.Test.YtdnodlkdndfplaaGreatDoorTie
set_option linter.constructorNameAsVariable false
set_option linter.unusedSimpArgs false
set_option linter.unusedVariables false
namespace Go.Proofs.YtdnodlkdndfplaaGreatDoor
open Go.Am Go.Tx
set_option maxRecDepth 100000
theorem Zxn:ZaM (ZmZ Tryz.prog 20) Tryz.f4.params.toList=some [.slice (.slice .str 16) 24]:=by kernel_rfl
theorem Zvm (qs:List PV) (h:Zfb [.slice (.slice .str 16) 24] qs): ∃n H',(Zey Tryz.prog Zam n).rn 4 qs []=some (.bool true,H'):=by
 simp only[Zfb]at h
 obtain⟨p,_,rfl,h1,rfl⟩:=h
 obtain⟨a,ha,hla⟩:=Zx7 h1
 exact ZuE rfl (ZlC a hla) (by simp only[RL];exact⟨p,[],rfl,ha,rfl⟩)
open Go.ChangeShapes Go.WideShapes Go.ChangeAt Go.RowKit
theorem Zqr (os:Os) (started:os.Started) (H:Type) (enc:TypeId×Value→H):
 ReturnsInHanded {} Tryz.checked os 4 .any (fun w args=>(Rows.solveRanksSpec.pre enc Tryz.prog Tryz.f4 [] false w args∧laidMetH Tryz.prog ZeS w)∧sizedMet enc Tryz.prog Tryz.f4 (OpenSpec.ofChange Rows.solveRanksSpec) false w args) (Rows.solveRanksSpec.post enc Tryz.prog Tryz.f4 false true false false):=by
 refine returnsInHanded_of_change_and (C:=Tryz.checked) (X:=fun w _=>laidMetH Tryz.prog ZeS w) (fun _ _ _ hh h=>h.of_heap hh) ZBx started (by kernel_rfl) Tryz.func4
  (ChangeSpec.witness_shaped (enc:=enc) (C:=Tryz.checked) (os:=os) (X:=fun w _=>laidMetH Tryz.prog ZeS w) false (World.laidAll Tryz.prog os ZeS) #[.slice none 0 0] 8 (World.laidAll_os _ _ _)
   (World.shaped_of_ZipB (by kernel_rfl) (by kernel_rfl)) (by kernel_rfl) (by kernel_rfl) (by kernel_rfl)
   (by rw[MakeChecks.laidMetH_plain _ _ _ (by kernel_rfl)];exact laidMet_laidAll _ (by kernel_rfl) (by kernel_rfl))) ?_
 intro W base args ds gs before hval hW _ hsz hL _
 exact ZmX (fn:=Tryz.f4) (s:=Rows.solveRanksSpec) (tb:=4) Zw6 Zy9 Zuq rfl (by kernel_rfl) Tryz.underlying4 (of_decide_eq_true (by kernel_rfl)) Zxn Zvm (by
  intro ds hds
  have h3:Tryz.f4.params.size=1:=by kernel_rfl
  rw[h3]at hds
  match ds,hds with
  | [_],_=>rfl) (Zzf hL) hval hW hsz
theorem Zi6:Rows.SolveRanksSaid:=
 OpenClaim.holds_of_wide 4 Tryz.f4 rfl rfl rfl rfl rfl rfl rfl ⟨rfl,rfl,rfl,rfl,rfl⟩ rfl rfl rfl rfl rfl (by kernel_rfl) Tryz.func4 (by kernel_rfl)
  (of_decide_eq_true (by kernel_rfl)) (by unfold Func.isWrapper;first|(rw[if_pos (by decide+kernel)];kernel_rfl)|(rw[if_neg (by decide+kernel)];exact⟨rfl,rfl⟩))
  (fun os started H enc _=>Zqr os started H enc)
theorem solveRanks_holds:Rows.SolveRanksCardSaid:=
 Claim7.holds_tied_plain_at .later [] [.data, .data, .data, .sentinel, .sentinel] true (true,"c3402b151cbddd5634f7dc3957bff81483da8b557c1e57d7400b16dcdaba6b5c") true
  Zi6 (fun _ h=>by cases h) (by kernel_rfl) (fun _ h=>by cases h) solveRanks_row_tie rfl ⟨rfl,rfl⟩ (by kernel_rfl) rfl
  (fun f fn hf hfn=>by
   obtain rfl:f=4:=Option.some.inj ((show Tryz.prog.funcNamed "gridhall/gridhalllaw1.SolveRanks" =some 4 by kernel_rfl).symm.trans hf)|>.symm
   obtain rfl:fn=Tryz.f4:=(Option.some.inj (Tryz.func4.symm.trans hfn)).symm
   exact⟨by kernel_rfl,fun j t ht=>by
    have hm:t∈Tryz.f4.params.toList:=by
     have:=Array.mem_of_getElem? ht
     simpa using this
    have hall:(Tryz.f4.params.toList.all fun u=> !Tryz.prog.wantsStandIn u)=true:=by kernel_rfl
    exact(show Tryz.prog.wantsStandIn t=false by simpa using List.all_eq_true.1 hall t hm)⟩)
  (by kernel_rfl)
end Go.Proofs.YtdnodlkdndfplaaGreatDoor
