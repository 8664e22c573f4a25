/-
 For all inputs the law 'SimplexChecks' returns true, and its argument reads afterwards as before. Conditions: none beyond the given statement's.
-/
import Derived.Test.YtdnodlkdndfplaaGreatDoorU2
import Derived.Test.YtdnodlkdndfplaaGreatDoorP6
import Derived.Test.YtdnodlkdndfplaaGreatDoorCards
import Derived.Test.YtdnodlkdndfplaaGreatDoorTie
set_option linter.constructorNameAsVariable false
set_option linter.unusedSimpArgs false
set_option linter.unusedVariables false
namespace Go.Proofs.YtdnodlkdndfplaaGreatDoor
open Go.Am Go.Tx
set_option maxRecDepth 100000
theorem Zsb:ZaE (Zjt Tryz.prog 20) Tryz.f7.params.toList=some [.agg [.slice (.slice .str 16) 24, .slice .str 16, .slice .str 16]]:=by kernel_rfl
theorem Zoh {e:CT} {xs:List e.D} {c:List PV} (h:RR (.l e) xs c): ∃q,c=[q]∧RV [] (.v (.l e) xs) q:=by
 have h':=h
 simp only[RR]at h'
 rcases h' with⟨rfl,_⟩|⟨es,rfl,_⟩
 ·exact⟨_,rfl,h⟩
 ·exact⟨_,rfl,h⟩
theorem ZpS {p:PV} (hs:ZlE (.agg [.slice (.slice .str 16) 24, .slice .str 16, .slice .str 16]) p): ∃A B C,RV [] (pPV A B C) p∧(∀r∈A,okS r)∧okS B∧okS C:=by
 simp only[ZlE,HasTys]at hs
 obtain⟨_,rfl,c0,_,rfl,h0,c1,_,rfl,h1,c2,_,rfl,h2,rfl⟩:=hs
 obtain⟨A,a1,a2,_⟩:=ZeB (ct:= .l .s) (n:=24) (by decide) (fun c h=>by
  obtain⟨r,h1,h2,_⟩:=ZeB (ct:= .s) (n:=16) (Nat.le_refl _) Zi5 c h
  exact⟨r,h1,h2⟩) c0 h0
 obtain⟨B,b1,b2,_⟩:=ZeB (ct:= .s) (Nat.le_refl _) Zi5 c1 h1
 obtain⟨C,d1,d2,_⟩:=ZeB (ct:= .s) (Nat.le_refl _) Zi5 c2 h2
 obtain⟨q0,rfl,r0⟩:=Zoh a1
 obtain⟨q1,rfl,r1⟩:=Zoh b1
 obtain⟨q2,rfl,r2⟩:=Zoh d1
 refine⟨A,B,C, ?_,a2,b2,d2⟩
 show ∃cs',_=PV.agg cs'∧RL [] _ cs'
 exact⟨_,rfl,q0,[q1,q2],rfl,r0,q1,[q2],rfl,r1,q2,[],rfl,r2,rfl⟩
theorem ZqG (qs:List PV) (h:Zed [.agg [.slice (.slice .str 16) 24, .slice .str 16, .slice .str 16]] qs): ∃n H',(Zch Tryz.prog Zau n).rn 7 qs []=some (.bool true,H'):=by
 simp only[Zed]at h
 obtain⟨p,_,rfl,h1,rfl⟩:=h
 obtain⟨A,B,C,ha,hla,hlb,hlc⟩:=ZpS h1
 exact ZqR rfl (Zgq A B C hla hlb hlc) (by simp only[RL];exact⟨p,[],rfl,ha,rfl⟩)
open Go.ChangeShapes Go.WideShapes Go.ChangeAt Go.RowKit
theorem ZmO (os:Os) (started:os.Started) (H:Type) (enc:TypeId×Value→H):
 ReturnsInHanded {} Tryz.checked os 7 .any (fun w args=>(Rows.simplexChecksSpec.pre enc Tryz.prog Tryz.f7 [] false w args∧laidMetH Tryz.prog ZdH w)∧sizedMet enc Tryz.prog Tryz.f7 (OpenSpec.ofChange Rows.simplexChecksSpec) false w args) (Rows.simplexChecksSpec.post enc Tryz.prog Tryz.f7 false true false false):=by
 refine returnsInHanded_of_change_and (C:=Tryz.checked) (X:=fun w _=>laidMetH Tryz.prog ZdH w) (fun _ _ _ hh h=>h.of_heap hh) ZuB started (by kernel_rfl) Tryz.func7
  (ChangeSpec.witness_shaped (enc:=enc) (C:=Tryz.checked) (os:=os) (X:=fun w _=>laidMetH Tryz.prog ZdH w) false (World.laidAll Tryz.prog os ZdH) #[.agg #[.slice none 0 0, .slice none 0 0, .slice none 0 0]] 8 (World.laidAll_os _ _ _)
   (World.shaped_of_ZipB (by kernel_rfl) (by kernel_rfl)) (by kernel_rfl) (by kernel_rfl) (by kernel_rfl)
   (by rw[MakeChecks.laidMetH_plain _ _ _ (by kernel_rfl)];exact laidMet_laidAll _ (by kernel_rfl) (by kernel_rfl))) ?_
 intro W base args ds gs before hval hW _ hsz hL _
 exact Zkc (fn:=Tryz.f7) (s:=Rows.simplexChecksSpec) (tb:=4) Zrw Zs0 ZqC rfl (by kernel_rfl) Tryz.underlying4 (of_decide_eq_true (by kernel_rfl)) Zsb ZqG (by
  intro ds hds
  have h3:Tryz.f7.params.size=1:=by kernel_rfl
  rw[h3]at hds
  match ds,hds with
  | [_],_=>rfl) (Ztp hL) hval hW hsz
theorem Ze4:Rows.SimplexChecksSaid:=
 OpenClaim.holds_of_wide 7 Tryz.f7 rfl rfl rfl rfl rfl rfl rfl ⟨rfl,rfl,rfl,rfl,rfl⟩ rfl rfl rfl rfl rfl (by kernel_rfl) Tryz.func7 (by kernel_rfl)
  (of_decide_eq_true (by kernel_rfl)) (by unfold Func.isWrapper;first|(rw[if_pos (by decide+kernel)];kernel_rfl)|(rw[if_neg (by decide+kernel)];exact⟨rfl,rfl⟩))
  (fun os started H enc _=>ZmO os started H enc)
theorem simplexChecks_holds:Rows.SimplexChecksCardSaid:=
 Claim7.holds_tied_plain_at .later [] [.data, .data, .data, .sentinel, .sentinel] true (true,"c3402b151cbddd5634f7dc3957bff81483da8b557c1e57d7400b16dcdaba6b5c") true
  Ze4 (fun _ h=>by cases h) (by kernel_rfl) (fun _ h=>by cases h) simplexChecks_row_tie rfl ⟨rfl,rfl⟩ (by kernel_rfl) rfl
  (fun f fn hf hfn=>by
   obtain rfl:f=7:=Option.some.inj ((show Tryz.prog.funcNamed "gridhall/gridhalllaw1.SimplexChecks" =some 7 by kernel_rfl).symm.trans hf)|>.symm
   obtain rfl:fn=Tryz.f7:=(Option.some.inj (Tryz.func7.symm.trans hfn)).symm
   exact⟨by kernel_rfl,fun j t ht=>by
    have hm:t∈Tryz.f7.params.toList:=by
     have:=Array.mem_of_getElem? ht
     simpa using this
    have hall:(Tryz.f7.params.toList.all fun u=> !Tryz.prog.wantsStandIn u)=true:=by kernel_rfl
    exact(show Tryz.prog.wantsStandIn t=false by simpa using List.all_eq_true.1 hall t hm)⟩)
  (by kernel_rfl)
end Go.Proofs.YtdnodlkdndfplaaGreatDoor
