/-
 For all inputs the law 'SolveSystems' returns true, and its arguments read afterwards as before. Conditions: none beyond the given statement's.
-/
import Derived.Test.YtdnodlkdndfplaaGreatDoorVM
import Derived.Test.YtdnodlkdndfplaaGreatDoorTop
import Derived.Test.YtdnodlkdndfplaaGreatDoorCards
import Derived.Test.YtdnodlkdndfplaaGreatDoorTie
set_option linter.constructorNameAsVariable false
set_option linter.unusedSimpArgs false
set_option linter.unusedVariables false
namespace Go.Proofs.YtdnodlkdndfplaaGreatDoor
open Go.Am Go.Tx
set_option maxRecDepth 100000
theorem ZyA:ZaR (ZmI Tryz.prog 20) Tryz.f6.params.toList=some [.slice (.slice .str 16) 24, .slice .str 16]:=by kernel_rfl
theorem Zv3 (qs:List PV) (h:Zfy [.slice (.slice .str 16) 24, .slice .str 16] qs): ∃n H',(Zex Tryz.prog Zan n).rn 6 qs []=some (.bool true,H'):=by
 simp only[Zfy]at h
 obtain⟨p,_,rfl,h1,q,_,rfl,h2,rfl⟩:=h
 obtain⟨a,ha,hla⟩:=ZxI h1
 obtain⟨b,hb,hlb,_⟩:=Zwb h2
 exact Zu8 rfl (ZjE a b hla hlb) (by simp only[RL];exact⟨p,[q],rfl,ha,q,[],rfl,hb,rfl⟩)
open Go.ChangeShapes Go.WideShapes Go.ChangeAt Go.RowKit
theorem Zq2 (os:Os) (started:os.Started) (H:Type) (enc:TypeId×Value→H):
 ReturnsInHanded {} Tryz.checked os 6 .any (fun w args=>(Rows.solveSystemsSpec.pre enc Tryz.prog Tryz.f6 [] false w args∧laidMetH Tryz.prog Ze6 w)∧sizedMet enc Tryz.prog Tryz.f6 (OpenSpec.ofChange Rows.solveSystemsSpec) false w args) (Rows.solveSystemsSpec.post enc Tryz.prog Tryz.f6 false true false false):=by
 refine returnsInHanded_of_change_and (C:=Tryz.checked) (X:=fun w _=>laidMetH Tryz.prog Ze6 w) (fun _ _ _ hh h=>h.of_heap hh) ZCr started (by kernel_rfl) Tryz.func6
  (ChangeSpec.witness_shaped (enc:=enc) (C:=Tryz.checked) (os:=os) (X:=fun w _=>laidMetH Tryz.prog Ze6 w) false (World.laidAll Tryz.prog os Ze6) #[.slice none 0 0, .slice none 0 0] 8 (World.laidAll_os _ _ _)
   (World.shaped_of_ZipB (by kernel_rfl) (by kernel_rfl)) (by kernel_rfl) (by kernel_rfl) (by kernel_rfl)
   (by rw[MakeChecks.laidMetH_plain _ _ _ (by kernel_rfl)];exact laidMet_laidAll _ (by kernel_rfl) (by kernel_rfl))) ?_
 intro W base args ds gs before hval hW _ hsz hL _
 exact Zma (fn:=Tryz.f6) (s:=Rows.solveSystemsSpec) (tb:=4) ZxN ZzU Zvt rfl (by kernel_rfl) Tryz.underlying4 (of_decide_eq_true (by kernel_rfl)) ZyA Zv3 (by
  intro ds hds
  have h3:Tryz.f6.params.size=2:=by kernel_rfl
  rw[h3]at hds
  match ds,hds with
  | [_,_],_=>rfl) (ZAc hL) hval hW hsz
theorem ZhT:Rows.SolveSystemsSaid:=
 OpenClaim.holds_of_wide 6 Tryz.f6 rfl rfl rfl rfl rfl rfl rfl ⟨rfl,rfl,rfl,rfl,rfl⟩ rfl rfl rfl rfl rfl (by kernel_rfl) Tryz.func6 (by kernel_rfl)
  (of_decide_eq_true (by kernel_rfl)) (by unfold Func.isWrapper;first|(rw[if_pos (by decide+kernel)];kernel_rfl)|(rw[if_neg (by decide+kernel)];exact⟨rfl,rfl⟩))
  (fun os started H enc _=>Zq2 os started H enc)
theorem solveSystems_holds:Rows.SolveSystemsCardSaid:=
 Claim7.holds_tied_plain_at .later [] [.data, .data, .data, .sentinel, .sentinel] true (true,"c3402b151cbddd5634f7dc3957bff81483da8b557c1e57d7400b16dcdaba6b5c") true
  ZhT (fun _ h=>by cases h) (by kernel_rfl) (fun _ h=>by cases h) solveSystems_row_tie rfl ⟨rfl,rfl⟩ (by kernel_rfl) rfl
  (fun f fn hf hfn=>by
   obtain rfl:f=6:=Option.some.inj ((show Tryz.prog.funcNamed "gridhall/gridhalllaw1.SolveSystems" =some 6 by kernel_rfl).symm.trans hf)|>.symm
   obtain rfl:fn=Tryz.f6:=(Option.some.inj (Tryz.func6.symm.trans hfn)).symm
   exact⟨by kernel_rfl,fun j t ht=>by
    have hm:t∈Tryz.f6.params.toList:=by
     have:=Array.mem_of_getElem? ht
     simpa using this
    have hall:(Tryz.f6.params.toList.all fun u=> !Tryz.prog.wantsStandIn u)=true:=by kernel_rfl
    exact(show Tryz.prog.wantsStandIn t=false by simpa using List.all_eq_true.1 hall t hm)⟩)
  (by kernel_rfl)
end Go.Proofs.YtdnodlkdndfplaaGreatDoor
