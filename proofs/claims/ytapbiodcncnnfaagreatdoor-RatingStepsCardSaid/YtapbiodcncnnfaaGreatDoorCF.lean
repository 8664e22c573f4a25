/- For every network and all powers the law 'RatingSteps' returns true, and its arguments read afterwards as before. Conditions: none beyond the given statement's. -/
import Derived.Test.YtapbiodcncnnfaaGreatDoorP1
import Derived.Test.YtapbiodcncnnfaaGreatDoorCards
import Derived.Test.YtapbiodcncnnfaaGreatDoorTie
set_option linter.all false
set_option maxRecDepth 100000
namespace Go.Proofs.YtapbiodcncnnfaaGreatDoor
open Go.Am Go.Tx
theorem Zxx:ZaV (ZmD Tryz.prog 20) Tryz.f3.params.toList=some [Zyh, .slice (.slice .str 16) 24, .slice (.int .i64) 8]:=by kernel_rfl
theorem Zum (C:List PV) (h:ZfT [Zyh, .slice (.slice .str 16) 24, .slice (.int .i64) 8] C): ∃n H',(Zdb Tryz.prog Zao n).rn 3 C []=some (.bool true,H'):=by
 simp only[ZfT]at h
 obtain⟨p,_,rfl,I,q,_,rfl,J,r,_,rfl,R,rfl⟩:=h
 obtain⟨n,U,hz⟩:=ZwW I
 obtain⟨g,hg,j⟩:=ZvB J
 obtain⟨s,hs⟩:=Zu3 R
 exact Zuy rfl (Zln n g s hz j) (by simp only[RL];exact⟨p,_,rfl,U,q,_,rfl,hg,r,_,rfl,hs,rfl⟩)
open Go.ChangeShapes Go.WideShapes Go.ChangeAt Go.RowKit
theorem ZqK (os:Os) (started:os.Started) (H:Type) (enc:TypeId×Value→H):
 ReturnsInHanded {} Tryz.checked os 3 .any (fun w args=>(Rows.ratingStepsSpec.pre enc Tryz.prog Tryz.f3 [] false w args∧laidMetH Tryz.prog Zfh w)∧sizedMet enc Tryz.prog Tryz.f3 (OpenSpec.ofChange Rows.ratingStepsSpec) false w args) (Rows.ratingStepsSpec.post enc Tryz.prog Tryz.f3 false true false false):=by
 refine Zly (C:=Tryz.checked) (X:=fun w _=>laidMetH Tryz.prog Zfh w) (fun _ _ _ R h=>h.of_heap R) ZBK started (by kernel_rfl) Tryz.func3
  (ChangeSpec.witness_shaped (enc:=enc) (C:=Tryz.checked) (os:=os) (X:=fun w _=>laidMetH Tryz.prog Zfh w) false (World.laidAll Tryz.prog os Zfh) #[.agg #[.slice none 0 0, .slice none 0 0, .slice none 0 0, .slice none 0 0, .slice none 0 0, .slice none 0 0], .slice none 0 0, .slice none 0 0] 8 (World.laidAll_os _ _ _)
   (World.shaped_of_ZipB (by kernel_rfl) (by kernel_rfl)) (by kernel_rfl) (by kernel_rfl) (by kernel_rfl)
   (by rw[MakeChecks.laidMetH_plain _ _ _ (by kernel_rfl)];exact laidMet_laidAll _ (by kernel_rfl) (by kernel_rfl))) ?_
 intro W base args ds gs before j U J hL aa
 exact ZmW (fn:=Tryz.f3) (s:=Rows.ratingStepsSpec) (tb:=4) Zw3 Zyw ZvS rfl (by kernel_rfl) Tryz.underlying4 (of_decide_eq_true (by kernel_rfl)) Zxx Zum (by
  intro ds I
  have h3:Tryz.f3.params.size=3:=by kernel_rfl
  rw[h3]at I
  match ds,I with
  | [_,_,_],_=>rfl) (Zy7 hL) j U J
theorem Zit:Rows.RatingStepsSaid:=
 OpenClaim.holds_of_wide 3 Tryz.f3 rfl rfl rfl rfl rfl rfl rfl ⟨rfl,rfl,rfl,rfl,rfl⟩ rfl rfl rfl rfl rfl (by kernel_rfl) Tryz.func3 (by kernel_rfl)
  (of_decide_eq_true (by kernel_rfl)) (by unfold Func.isWrapper;first|(rw[if_pos (by decide+kernel)];kernel_rfl)|(rw[if_neg (by decide+kernel)];exact⟨rfl,rfl⟩))
  (fun os started H enc _=>ZqK os started H enc)
theorem ratingSteps_holds:Rows.RatingStepsCardSaid:=
 Claim7.holds_tied_plain_at .later [] [.data, .data, .data, .sentinel, .sentinel] true (true,"2f4cf7722a613ce33678ab690026a8a0f91ba474dea485e5fc71ff3f0f8ca80a") true
  Zit (fun _ h=>by cases h) (by kernel_rfl) (fun _ h=>by cases h) ratingSteps_row_tie rfl ⟨rfl,rfl⟩ (by kernel_rfl) rfl
  (fun f fn J I=>by
   obtain rfl:f=3:=XbF ((show Tryz.prog.funcNamed "gridhall/gridhalllaw1.RatingSteps" =some 3 by kernel_rfl).symm.trans J)|>.symm
   obtain rfl:fn=Tryz.f3:=(XbF (Tryz.func3.symm.trans I)).symm
   exact⟨by kernel_rfl,fun j t R=>by
    have hm:t∈Tryz.f3.params.toList:=by
     have:=Array.mem_of_getElem? R
     simpa using this
    have C:(Tryz.f3.params.toList.all fun u=> !Tryz.prog.wantsStandIn u)=true:=by kernel_rfl
    exact(show Tryz.prog.wantsStandIn t=false by simpa using Xau.1 C t hm)⟩)
  (by kernel_rfl)
end Go.Proofs.YtapbiodcncnnfaaGreatDoor
