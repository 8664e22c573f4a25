/-
 For every network and all powers the law 'TopEnergy' returns true, and its arguments read afterwards as before. Conditions: none beyond the given statement's.
-/
import Derived.Test.YtkhpbclcfldhmaaGreatDoorTf
import Derived.Test.YtkhpbclcfldhmaaGreatDoorP6
import Derived.Test.YtkhpbclcfldhmaaGreatDoorCards
import Derived.Test.YtkhpbclcfldhmaaGreatDoorTie
set_option linter.constructorNameAsVariable false
set_option linter.unusedSimpArgs false
set_option linter.unusedVariables false
namespace Go.Proofs.YtkhpbclcfldhmaaGreatDoor
open Go.Am Go.Tx
set_option maxRecDepth 100000
theorem Zww:ZaQ (Zlu Tryz.prog 20) Tryz.f3.params.toList=some [Zwv, .slice (.int .i64) 8, .slice (.int .i64) 8]:=by kernel_rfl
theorem Zup (qs:List PV) (h:Zfx [Zwv, .slice (.int .i64) 8, .slice (.int .i64) 8] qs): ∃n H',(ZfS Tryz.prog Zao n).rn 3 qs []=some (.bool true,H'):=by
 simp only[Zfx]at h
 obtain⟨p,_,rfl,h1,q,_,rfl,h2,r,_,rfl,h3,rfl⟩:=h
 obtain⟨n,hn,hz⟩:=Zwt h1
 obtain⟨g,hg⟩:=Zoa h2
 obtain⟨s,hs⟩:=Zoa h3
 exact Zt0 rfl (ZnH n g s hz) (by simp only[RL];exact⟨p,_,rfl,hn,q,_,rfl,hg,r,_,rfl,hs,rfl⟩)
open Go.ChangeShapes Go.WideShapes Go.ChangeAt Go.RowKit
theorem Zqb (os:Os) (started:os.Started) (H:Type) (enc:TypeId×Value→H):
 ReturnsInHanded {} Tryz.checked os 3 .any (fun w args=>(Rows.topEnergySpec.pre enc Tryz.prog Tryz.f3 [] false w args∧laidMetH Tryz.prog ZeN w)∧sizedMet enc Tryz.prog Tryz.f3 (OpenSpec.ofChange Rows.topEnergySpec) false w args) (Rows.topEnergySpec.post enc Tryz.prog Tryz.f3 false true false false):=by
 refine Zk5 (C:=Tryz.checked) (X:=fun w _=>laidMetH Tryz.prog ZeN w) (fun _ _ _ hh h=>h.of_heap hh) ZzM started (by kernel_rfl) Tryz.func3
  (ChangeSpec.witness_shaped (enc:=enc) (C:=Tryz.checked) (os:=os) (X:=fun w _=>laidMetH Tryz.prog ZeN w) false (World.laidAll Tryz.prog os ZeN) #[.agg #[.slice none 0 0, .slice none 0 0, .slice none 0 0, .slice none 0 0, .slice none 0 0, .slice none 0 0], .slice none 0 0, .slice none 0 0] 8 (World.laidAll_os _ _ _)
   (World.shaped_of_ZipB (by kernel_rfl) (by kernel_rfl)) (by kernel_rfl) (by kernel_rfl) (by kernel_rfl)
   (by rw[MakeChecks.laidMetH_plain _ _ _ (by kernel_rfl)];exact laidMet_laidAll _ (by kernel_rfl) (by kernel_rfl))) ?_
 intro W base args ds gs before hval hW hsz hL hsh
 exact ZmB (fn:=Tryz.f3) (s:=Rows.topEnergySpec) (tb:=4) Zwp Zxp ZuH rfl (by kernel_rfl) Tryz.underlying4 (of_decide_eq_true (by kernel_rfl)) Zww Zup (by
  intro ds hds
  have h3:Tryz.f3.params.size=3:=by kernel_rfl
  rw[h3]at hds
  match ds,hds with
  | [_,_,_],_=>rfl) (Zxq hL) hval hW hsz
theorem ZkQ:Rows.TopEnergySaid:=
 OpenClaim.holds_of_wide 3 Tryz.f3 rfl rfl rfl rfl rfl rfl rfl ⟨rfl,rfl,rfl,rfl,rfl⟩ rfl rfl rfl rfl rfl (by kernel_rfl) Tryz.func3 (by kernel_rfl)
  (of_decide_eq_true (by kernel_rfl)) (by unfold Func.isWrapper;first|(rw[if_pos (by decide+kernel)];kernel_rfl)|(rw[if_neg (by decide+kernel)];exact⟨rfl,rfl⟩))
  (fun os started H enc _=>Zqb os started H enc)
theorem topEnergy_holds:Rows.TopEnergyCardSaid:=
 Claim7.holds_tied_plain_at .later [] [.data, .data, .data, .sentinel, .sentinel] true (true,"6b9ce2e413ece76b0bb4eb3e8403c3922be4f84b4d0d367e67479fb35856dbb0") true
  ZkQ (fun _ h=>by cases h) (by kernel_rfl) (fun _ h=>by cases h) topEnergy_row_tie rfl ⟨rfl,rfl⟩ (by kernel_rfl) rfl
  (fun f fn hf hfn=>by
   obtain rfl:f=3:=Option.some.inj ((show Tryz.prog.funcNamed "gridhall/gridhalltop.TopEnergy" =some 3 by kernel_rfl).symm.trans hf)|>.symm
   obtain rfl:fn=Tryz.f3:=(Option.some.inj (Tryz.func3.symm.trans hfn)).symm
   exact⟨by kernel_rfl,fun j t ht=>by
    have hm:t∈Tryz.f3.params.toList:=by
     have:=Array.mem_of_getElem? ht
     simpa using this
    have hall:(Tryz.f3.params.toList.all fun u=> !Tryz.prog.wantsStandIn u)=true:=by kernel_rfl
    exact(show Tryz.prog.wantsStandIn t=false by simpa using List.all_eq_true.1 hall t hm)⟩)
  (by kernel_rfl)
end Go.Proofs.YtkhpbclcfldhmaaGreatDoor
