/- For every network and all injections the law 'FlowStates' returns true, and its arguments read afterwards as before. Conditions: none beyond the given statement's. -/
import Derived.Test.YtpdhpbldangmbaaGreatDoorFf
import Derived.Test.YtpdhpbldangmbaaGreatDoorFPn
import Derived.Test.YtpdhpbldangmbaaGreatDoorCards
import Derived.Test.YtpdhpbldangmbaaGreatDoorTie
set_option linter.all false
set_option maxRecDepth 100000
open Go.Proofs.Tryz
namespace Go.Proofs.YtpdhpbldangmbaaGreatDoor
open Go.Am Go.Tx
def ZES:Za3 (Zqr prog 20) Tryz.f3.params.toList=some [ZHx, .slice (.int .i64) 8]:=by kernel_rfl
def ZDI (j:List PV) (h:Zhp [ZHx, .slice (.int .i64) 8] j): ∃n H',(Zc2 prog Zai n).rn 3 j []=some (.bool true,H'):=by simp only[Zhp]at h;obtain⟨p,_,rfl,C,r,_,rfl,I,rfl⟩:=h;obtain⟨n,hn,J⟩:=ZFf C;obtain⟨s,R⟩:=ZBH I;exact ZCy rfl (ZpN n J s) (by simp only[RL];exact⟨p,_,rfl,hn,r,_,rfl,R,rfl⟩)
open Go.ChangeShapes Go.WideShapes Go.ChangeAt Go.RowKit
def ZvL (os:Os) (started:os.Started) (H:Type) (enc:TypeId×Value->H):
 ReturnsInHanded {} checked os 3 .any (λw args=>(Rows.flowStatesSpec.pre enc prog Tryz.f3 [] false w args/\laidMetH prog ZhR w)/\sizedMet enc prog Tryz.f3 (OpenSpec.ofChange Rows.flowStatesSpec) false w args) (Rows.flowStatesSpec.post enc prog Tryz.f3 false true false false):=by
 refine ZnG (λ_ _ _ J h=>h.of_heap J) ZMp started kR func3
  (ChangeSpec.witness_shaped (X:=λw _=>laidMetH prog ZhR w) false (World.laidAll prog os ZhR) #[.agg #[.slice none 0 0, .slice none 0 0, .slice none 0 0, .slice none 0 0, .slice none 0 0, .slice none 0 0], .slice none 0 0] 8 (World.laidAll_os _ _ _)
   (World.shaped_of_ZipB kR kR) kR kR kR
   (by rw[MakeChecks.laidMetH_plain _ _ _ kR];exact laidMet_laidAll _ kR kR)) ?_
 intro W base args ds gs before j R I U aa;exact ZpD ZEV ZHU ZDA rfl kR underlying4 (dT kR) ZES ZDI (by intro ds C;have h3:Tryz.f3.params.size=2:=kR;rw[h3]at C;match ds,C with| [_,_],_=>rfl) (ZIr U) j R I
def Zmg:Rows.FlowStatesSaid:=
 OpenClaim.holds_of_wide 3 Tryz.f3 rfl rfl rfl rfl rfl rfl rfl ⟨rfl,rfl,rfl,rfl,rfl⟩ rfl rfl rfl rfl rfl (by kernel_rfl) func3 (by kernel_rfl)
  (dT (by kernel_rfl)) (by unfold Func.isWrapper;first|(rw[if_pos (by decide+kernel)];kernel_rfl)|(rw[if_neg (by decide+kernel)];exact⟨rfl,rfl⟩))
  (λos started H enc _=>ZvL os started H enc)
theorem flowStates_holds:Rows.FlowStatesCardSaid:=
 Claim7.holds_tied_plain_at .later [] [.data, .data, .data, .sentinel, .sentinel] true (true,"9b3f06e22b91f5a8c352fc2085f146565e4c55b5b16ee159326b4d394475189b") true
  Zmg (λ_ h=>by cases h) kR (λ_ h=>by cases h) flowStates_row_tie rfl ⟨rfl,rfl⟩ kR rfl
  (λf fn hf I=>by obtain rfl:=Xbp ((show prog.funcNamed "gridhall/gridhalllaw1.FlowStates" =some 3 by kernel_rfl).symm.trans hf)|>.symm;obtain rfl:=(Xbp (func3.symm.trans I)).symm;exact⟨kR,λj t J=>by have hm:t∈Tryz.f3.params.toList:=(by have:=Array.mem_of_getElem? J;simpa using this);have C:(Tryz.f3.params.toList.all λu=> !prog.wantsStandIn u)=true:=kR;exact(show prog.wantsStandIn t=false by simpa using XaH.1 C t hm)⟩)
  kR
end Go.Proofs.YtpdhpbldangmbaaGreatDoor
