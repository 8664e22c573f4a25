/- The primitives of the seat are sound; its text passes the static checks. -/
import Derived.Test.YtpdhpbldangmbaaGreatDoorFGm
import Derived.Test.YtpdhpbldangmbaaGreatDoorFVm
import Derived.Test.YtpdhpbldangmbaaGreatDoorFWm
import Derived.Test.YtpdhpbldangmbaaGreatDoorU4
import Derived.Lay
import Derived.LaidSub
import Derived.Handed
set_option linter.all false
set_option maxRecDepth 100000
open Go.Proofs.Tryz
namespace Go.Proofs.YtpdhpbldangmbaaGreatDoor
open Go.RowKit Go.Shelf Go.Lib Dv Go.Tx Go.Am
def ZI5:Zbk prog ZiZ:=λf g j=>by cases j
def ZlQ:ZtN 6 Zus:=by intro J v j S w vals I R U;unfold Zus at j;cases C:Nat.ble J.length 61 with|false=>rw[C]at j;cases j|true=>rw[C,Bool.not_true,cond_false]at j;cases he:(Zc2 prog ZiZ 500).ex ⟨6,0,61⟩ (preC 6 (bodyOf Tryz.f6)) ⟨enterT 0 J,[]⟩with|none=>rw[he]at j;cases j|some r=>rw[he]at j;exact Zqs Znx ZI5 (by kernel_rfl) (Xam C) he j S w vals I R U
def ZDi {z:Int} {r:Option (PV×List Mem)} (h:ZkL z r=true): ∃H',r=some (.int .i64 z,H'):=by unfold ZkL at h;split at h;rename_i n H';have:=dT h;subst this;exact⟨_,rfl⟩;cases h
def ZHe:Zbk prog Zp3:=by intro f g j;have j:Zuu f=some g:=j;unfold Zuu at j;split at j;cases j;exact ZlQ;cases j;exact ZgG;cases j;exact Ze5;cases j;exact Zfe;cases j
def ZFd:Static prog Zp3:=Zdk Znx λf hf=>by unfold Zuu at hf;split at hf;exact⟨_,func6,kR,kR⟩;exact⟨_,func109,kR,kR⟩;exact⟨_,func150,kR,kR⟩;exact⟨_,func137,kR,kR⟩;cases hf
def ZEq {z:Int} {C:List PV} (J:ZkL z ((Zc2 prog Zp3 600).rn 14 C [])=true) (S:Nat->Prop) (w:World) (vals:List Value) (R: ∀b,S b->b<w.heap.size) (U:Laid.ok S w) (hv:LRel w S C vals):
 Calls prog 14 vals.toArray w λe w'=> ∃u,e= .returned u/\Below w.heap.size w w'/\IRel w' (λb=>S b\/(w.heap.size<=b/\b<w'.heap.size)) (iI z) u:=by obtain⟨H',h1⟩:=ZDi J;refine((ZcF ZFd ZHe 600).1.rn 14 C [] _ H' h1 _ S w w.heap.size vals (Inv.empty _ w R U) (ZdN hv)).mono ?_;rintro e w' ⟨u,φ',S',rfl,_,I,j⟩;refine⟨u,rfl,I.below, ?_⟩;simp only[VRel]at j;simp only[iI,IRel];exact j
def ZzZ:ZtN 14 ZLl:=by
 intro qs v j S w vals hS hL hr;unfold ZLl at j;split at j;rename_i n p s;cases R:(ZgW n ZvY&&(ZgW p ZvZ&&ZgW s ZFk))with|true=>rw[R,cond_true]at j;cases j;simp only[Xas]at R;obtain⟨C,I,J⟩:=R;have C:=ZfD _ _ C;have I:=ZfD _ _ I;have J:=ZfD _ _ J;subst C I J;exact ZEq ZFR S w vals hS hL hr|false=>rw[R,cond_false]at j;cases U:(ZgW n ZvY&&(ZgW p ZvZ&&ZgW s ZE7))with|true=>rw[U,cond_true]at j;cases j;simp only[Xas]at U;obtain⟨C,I,J⟩:=U;have C:=ZfD _ _ C;have I:=ZfD _ _ I;have J:=ZfD _ _ J;subst C I J;exact ZEq ZGR S w vals hS hL hr|false=>rw[U,cond_false]at j;cases j
 cases j
def ZFZ:Zbk prog ZxU:=by intro f g j;have j:ZuE f=some g:=j;unfold ZuE at j;split at j;cases j;exact ZlQ;cases j;exact ZgG;cases j;exact Ze5;cases j;exact Zfe;cases j;exact ZzZ;cases j
def ZF9:Static prog ZxU:=Zdk Znx λf hf=>by unfold ZuE at hf;split at hf;exact⟨_,func6,kR,kR⟩;exact⟨_,func109,kR,kR⟩;exact⟨_,func150,kR,kR⟩;exact⟨_,func137,kR,kR⟩;exact⟨_,func14,kR,kR⟩;cases hf
def ZwB:ZtN 4 factOf:=by intro j v C;refine Zsd (l:=[4]) ZF9 ZFZ (λf hf=> ?_) 4 factOf rfl j v ?_;rw[Xav.1 hf];exact⟨600,ZpX⟩;exact C
def ZFw:Zbk prog ZeM:=by intro f g j;have j:Zrd f=some g:=j;unfold Zrd at j;split at j;cases j;exact ZgG;cases j;exact Ze5;cases j;exact Zfe;cases j
def ZF5:Static prog ZeM:=Zdk ZsA λf hf=>by unfold Zrd at hf;split at hf;exact⟨_,func109,kR,kR⟩;exact⟨_,func150,kR,kR⟩;exact⟨_,func137,kR,kR⟩;cases hf
def ZqE:ZtN 6 ZjV:=by intro J v j S w vals I R U;unfold ZjV at j;cases C:Nat.ble J.length 61 with|false=>rw[C]at j;cases j|true=>rw[C,Bool.not_true,cond_false]at j;cases he:exS prog ZeM (lim prog ZeM) ⟨6,0,61⟩ (preC 6 (bodyOf Tryz.f6)) ⟨enterT 0 J,[]⟩with|none=>rw[he]at j;cases j|some r=>rw[he]at j;obtain⟨N,hN⟩:=Zgc.ex _ _ _ _ (ZeB _ _ _ _ he);exact Zqs ZF5 ZFw (by kernel_rfl) (Xam C) (hN N (Xae _)) j S w vals I R U
def ZHU:Zbk prog Zai:=by intro f g j;have j:Zm3 true f=some g:=j;unfold Zm3 at j;split at j;cases j;exact ZgG;cases j;exact Ze5;cases j;exact Zfe;cases j;exact ZqE;cases j;exact ZwB;cases j
def ZEV:Static prog Zai:=Zdk ZsA λf hf=>by unfold Zm3 at hf;split at hf;exact⟨_,func109,kR,kR⟩;exact⟨_,func150,kR,kR⟩;exact⟨_,func137,kR,kR⟩;exact⟨_,func6,kR,kR⟩;exact⟨_,func4,kR,kR⟩;cases hf
open Ne
def ZMp:ownKnob prog.godebug=none:=by kernel_rfl
def ZDA:laidOutB prog=true:=by kernel_rfl
abbrev ZhR:List (String×DataW Unit):=Rows.flowStatesRow.laid
def ZHd {W:World} (h:laidMetH prog ZhR W):Lib.TabIs prog W Zhr .u64 Lib.pow10Tab:=by have j:=laidMetH.filter (λx=>x.1==Zhr) h;rw[MakeChecks.laidMetH_plain _ _ _ kR]at j;exact Lib.tabIs_of_head (rest:=[]) (g:=1) (t:=220) (e:=162) (n:=20) kR kR kR kR kR kR j
def ZIr {W:World} (h:laidMetH prog ZhR W):natLaid.ok (λb=>b<W.heap.size) W:=by
 have j:=ZHd h;refine⟨1,by kernel_rfl, ?_,j⟩;unfold Lib.TabIs World.var? at j;have I:prog.globalNamed Zhr=some 1:=by kernel_rfl
 rw[I,Xad]at j;cases C:W.heap[1]? with|none=>rw[C]at j;simp at j|some o=>exact(Xbj.1 C).1
section
variable {H:Type} {enc:TypeId × Value->H}
def ZnG {a:Assume} {C:Checked} {os:Os} {f:FuncId} {fn:Func} {s:ChangeSpec} {conds:List PathCond} {apart fresh handsOn Zfo:Bool} {X:World->Array Value->Prop}
 (hX: ∀ (w w':World) (args:Array Value),w.heap=w'.heap->X w args->X w' args)
 (own:ownKnob C.prog.godebug=none) (started:os.Started) (J:C.prog.inits.idxOf? f=none) (ab:C.prog.funcs[f]? =some fn)
 (witness: ∃ (w:World) (tape:Tape) (i:Input),w.os=os/\(w.forCall tape i).Shaped C.prog/\i.vars=[]/\Input.okWide C.prog (w.forCall tape i) .any w.heap.size f i/\
  ((s.pre enc C.prog fn conds apart (w.forCall tape i).memory i.args/\X (w.forCall tape i).memory i.args)/\sizedMet enc C.prog fn (OpenSpec.ofChange s) apart (w.forCall tape i).memory i.args)/\a.holds C.prog (lone (Frame.enter C.prog f i.args .normal) [] (w.forCall tape i)))
 (I: ∀ (W:World) (base:Nat) (args:Array Value) (ds gs:List (DataW H)) (before:List MemPlace),
  (∀ (j:Nat) t v,fn.params[j]? =some t->args[j]? =some v->Value.okWide C.prog W .any base t v)->
  DataW.Whole enc C.prog fn.params.toList s.vars apart W args.toList ds gs before->
  (DataW.weightsEach C.prog (fn.params.toList++s.plain.varTypes C.prog) (ds++gs)).all (· <=reachBytes)=true->X W args->W.ShapedOpen C.prog->
  Calls C.prog f args W λe W'=> ∃v,e= .returned v/\s.post enc C.prog fn apart fresh handsOn Zfo W args v W'):
 ReturnsInHanded a C os f .any (λw args=>(s.pre enc C.prog fn conds apart w args/\X w args)/\sizedMet enc C.prog fn (OpenSpec.ofChange s) apart w args) (s.post enc C.prog fn apart fresh handsOn Zfo):=by
 refine returnsInHanded_of_calls own started J witness ?_;intro w tape i _ ad _ ae R _;let⟨_,_,_,ag,U,_,_,_,_,aa⟩:=ae
 have e:=Xbp (U.symm.trans ab);subst e;let⟨⟨⟨ds,gs,before,hw,_⟩,hx⟩,hz⟩:=R
 have af:=DataW.Whole.of_heap (w':=w.forCall tape i) (by rfl) hw;refine(I (w.forCall tape i) w.heap.size i.args ds gs before aa af (hz.weights hw) (hX _ _ _ (by rfl) hx) ad).mono λe W' ⟨v,he,hp⟩=> ?_;subst he;exact ChangeSpec.post_blind hp
end
theorem ZtC {n:Nat} {H:List Mem} {v:PV} {b:Bool} (h:exp n H v=some (.bool b)):v= .bool b:=by
 cases n with
 |zero=>simp[exp]at h
 |succ n=>cases v<;>simp only[exp]at h<;>first|(exact Xbp h)|(cases h;done)|(rename_i a b c d;cases j:H[a]? with
  |none=>rw[j]at h;cases h
  |some m=>cases m<;>rw[j]at h<;>simp only at h<;>first|(cases h;done)|(split at h<;>simp at h))|(rename_i a b c;cases j:H[a]? with
  |none=>rw[j]at h;cases h
  |some m=>cases m<;>rw[j]at h<;>simp only at h<;>first|(cases h;done)|(simp[Option.bind_eq_some_iff]at h))|(simp[Option.bind_eq_some_iff]at h)
def ZCy {f:FuncId} {Vs:List SV} {j:List PV} (hp:Zai.prim f=none) (h:PureOK prog Zai f Vs (λV=>V= .v .b true)) (C:RL [] Vs j): ∃n H',(Zc2 prog Zai n).rn f j []=some (.bool true,H'):=by obtain⟨q,V,J,I,rfl⟩:=h.out j C;simp[RV,RR]at I;grind [ZbZ,Option.bind_eq_some_iff,ZtC,Zw0]
def ZfX {cs:List PV} (h:ZcJ .str cs): ∃s:Txt,RR .s s cs/\s.length<=9223372036854775806:=by
 let⟨n,j,C⟩:=h
 refine⟨n.data.toList,by simp[RR];exact j, ?_⟩;have I:n.data.toList.length=n.size:=Array.length_toList;have J:reachBytes=140737488351232:=rfl;omega
def Zzo {cs:List PV} (h:ZcJ .bool cs): ∃b:Bool,RR .b b cs:=by
 let⟨b,j⟩:=h
 exact⟨b,by simp[RR];exact j⟩
def Zgi {k:IntKind} {cs:List PV} (h:ZcJ (.int k) cs): ∃n:Int,RR (.i k) n cs:=by
 let⟨n,j,_⟩:=h
 exact⟨n,by simp[RR];exact j⟩
def Zbb {t:Ty} {ts:List Ty} {cs:List PV} (h:HasTys (t::ts) cs): ∃a b,cs=a++b/\ZcJ t a/\HasTys ts b:=by simpa only[HasTys]using h
def Zlg {t:Ty} {cs:List PV} (h:HasTys [t] cs):ZcJ t cs:=by grind [HasTys]
def ZtF {ps:List Ty} {cs:List PV} (h:ZcJ (.agg ps) cs):HasTys ps cs:=by simpa only[ZcJ]using h
def Zhm {ct:CT} {e:Ty} {n:Nat} {Fit:ct.D->Prop} (I: ∀c,ZcJ e c-> ∃x:ct.D,RR ct x c/\Fit x) {cs:List PV} (h:ZcJ (.slice e n) cs): ∃l:List ct.D,RR (.l ct) l cs/\ ∀x∈l,Fit x:=by
 rcases h with h|⟨es,J,_,_,R⟩;exact⟨[], .inl ⟨h,rfl⟩,λ_ j=>absurd j Xaq⟩;have key: ∀es:List (List PV),(∀c∈es,ZcJ e c)-> ∃l:List ct.D,All2 (RR ct) l es/\ ∀x∈l,Fit x:=by intro es;induction es with|nil=>intro _;exact⟨[],trivial,λ_ j=>absurd j Xaq⟩|cons c r U=>intro C;(let⟨x,g1,g2⟩:=I c (C c Xah));(let⟨l,g3,g4⟩:=U (λd hd=>C d (Xai _ hd)));refine⟨x::l,⟨g1,g3⟩,λy hy=> ?_⟩;grind
 let⟨l,g1,g2⟩:=key es R
 exact⟨l, .inr ⟨es,J,g1⟩,g2⟩
abbrev ZL3:Ty:= .agg [.str, .str, .str, .bool, .bool]
abbrev ZMb:Ty:= .agg [.str, .str, .str, .int .i64, .int .i64, .int .i64, .int .i64, .int .i64, .int .i64]
abbrev ZLp:Ty:= .agg [.str, .str, .int .i64, .int .i64, .int .i64]
abbrev ZLV:Ty:= .agg [.str, .str, .int .i64]
abbrev ZHx:Ty:= .agg [.slice .str 16, .slice ZL3 56, .slice ZMb 96, .slice ZLp 56, .slice ZLV 40, .slice ZLp 56]
def ZLy c (h:ZcJ ZL3 c): ∃x,RR Zw1 x c/\x.1.length<=9223372036854775806:=by
 obtain⟨a1,r1,rfl,j,h⟩:=Zbb (ZtF h);obtain⟨a2,r2,rfl,C,h⟩:=Zbb h;obtain⟨a3,r3,rfl,I,h⟩:=Zbb h;obtain⟨a4,r4,rfl,J,h⟩:=Zbb h;let⟨R,g1,f1⟩:=ZfX j
 let⟨U,g2,_⟩:=ZfX C
 let⟨x3,g3,_⟩:=ZfX I
 let⟨x4,g4⟩:=Zzo J
 let⟨x5,g5⟩:=Zzo (Zlg h)
 exact⟨(R,U,x3,x4,x5),⟨_,_,rfl,g1,_,_,rfl,g2,_,_,rfl,g3,_,_,rfl,g4,g5⟩,f1⟩
def ZLB (c:List PV) (h:ZcJ ZMb c): ∃x:Br,RR ZiG x c/\x.1.length<=9223372036854775806:=by
 obtain⟨a1,r1,rfl,j,h⟩:=Zbb (ZtF h);obtain⟨a2,r2,rfl,C,h⟩:=Zbb h;obtain⟨a3,r3,rfl,I,h⟩:=Zbb h;obtain⟨a4,r4,rfl,J,h⟩:=Zbb h;obtain⟨a5,r5,rfl,R,h⟩:=Zbb h;obtain⟨a6,r6,rfl,U,h⟩:=Zbb h;obtain⟨a7,r7,rfl,h7,h⟩:=Zbb h;obtain⟨a8,r8,rfl,h8,h⟩:=Zbb h;let⟨x1,g1,f1⟩:=ZfX j
 let⟨x2,g2,_⟩:=ZfX C
 let⟨x3,g3,_⟩:=ZfX I
 let⟨x4,g4⟩:=Zgi J
 let⟨x5,g5⟩:=Zgi R
 let⟨x6,g6⟩:=Zgi U
 let⟨x7,g7⟩:=Zgi h7
 let⟨x8,g8⟩:=Zgi h8
 let⟨x9,g9⟩:=Zgi (Zlg h)
 exact⟨(x1,x2,x3,x4,x5,x6,x7,x8,x9),⟨_,_,rfl,g1,_,_,rfl,g2,_,_,rfl,g3,_,_,rfl,g4,_,_,rfl,g5,_,_,rfl,g6,_,_,rfl,g7,_,_,rfl,g8,g9⟩,f1⟩
def ZJS (c:List PV) (h:ZcJ ZLp c): ∃x:Ge,RR (.p .s (.p .s (.p (.i .i64) (.p (.i .i64) (.i .i64))))) x c/\x.1.length<=9223372036854775806:=by
 obtain⟨a1,r1,rfl,j,h⟩:=Zbb (ZtF h);obtain⟨a2,r2,rfl,C,h⟩:=Zbb h;obtain⟨a3,r3,rfl,I,h⟩:=Zbb h;obtain⟨a4,r4,rfl,J,h⟩:=Zbb h;let⟨R,g1,f1⟩:=ZfX j
 let⟨U,g2,_⟩:=ZfX C
 let⟨x3,g3⟩:=Zgi I
 let⟨x4,g4⟩:=Zgi J
 let⟨x5,g5⟩:=Zgi (Zlg h)
 exact⟨(R,U,x3,x4,x5),⟨_,_,rfl,g1,_,_,rfl,g2,_,_,rfl,g3,_,_,rfl,g4,g5⟩,f1⟩
def ZLF (c:List PV) (h:ZcJ ZLV c): ∃x:Lo,RR (.p .s (.p .s (.i .i64))) x c/\x.1.length<=9223372036854775806:=by
 obtain⟨U,r1,rfl,j,h⟩:=Zbb (ZtF h);obtain⟨a2,r2,rfl,C,h⟩:=Zbb h;let⟨I,g1,f1⟩:=ZfX j
 let⟨J,g2,_⟩:=ZfX C
 let⟨R,g3⟩:=Zgi (Zlg h)
 exact⟨(I,J,R),⟨_,_,rfl,g1,_,_,rfl,g2,g3⟩,f1⟩
def ZeY {ct:CT} {l:List ct.D} {e:Ty} {n:Nat} {cs:List PV} (h:ZcJ (.slice e n) cs) (j:RR (.l ct) l cs): ∃q,cs=[q]/\RV [] (.v (.l ct) l) q:=by rcases h with rfl|⟨es,rfl,_⟩;exact⟨_,rfl,by simpa only[RV]using j⟩;exact⟨_,rfl,by simpa only[RV]using j⟩
def ZFf {p:PV} (hs:ZuR ZHx p): ∃n:Ne.Net,RV [] (.agg (Zch n)) p/\Zhg n:=by
 obtain⟨cs,rfl,h⟩:=hs;obtain⟨a1,r1,rfl,C,h⟩:=Zbb h;obtain⟨a2,r2,rfl,I,h⟩:=Zbb h;obtain⟨a3,r3,rfl,J,h⟩:=Zbb h;obtain⟨a4,r4,rfl,R,h⟩:=Zbb h;obtain⟨a5,r5,rfl,U,h⟩:=Zbb h;have h6:=Zlg h;let⟨l1,g1,f1⟩:=Zhm (ct:= .s) (λc hc=>ZfX hc) C
 let⟨l2,g2,f2⟩:=Zhm (ct:=Zw1) ZLy I
 let⟨l3,g3,f3⟩:=Zhm (ct:=ZiG) ZLB J
 let⟨l4,g4,f4⟩:=Zhm (ct:= .p .s (.p .s (.p (.i .i64) (.p (.i .i64) (.i .i64))))) ZJS R
 let⟨l5,g5,f5⟩:=Zhm (ct:=(.p .s (.p .s (.i .i64)))) ZLF U
 let⟨l6,g6,f6⟩:=Zhm (ct:= .p .s (.p .s (.p (.i .i64) (.p (.i .i64) (.i .i64))))) ZJS h6
 obtain⟨q1,rfl,e1⟩:=ZeY C g1;obtain⟨q2,rfl,e2⟩:=ZeY I g2;obtain⟨q3,rfl,e3⟩:=ZeY J g3;obtain⟨q4,rfl,e4⟩:=ZeY R g4;obtain⟨q5,rfl,e5⟩:=ZeY U g5;obtain⟨q6,rfl,e6⟩:=ZeY h6 g6;refine⟨⟨l1,l2,l3,l4,l5,l6⟩, ?_,f1,f2,f3,f4,f5,f6⟩;show ∃j,_/\RL [] _ j
 refine⟨_,rfl, ?_⟩;simp only[Zch,RL];exact⟨_,_,rfl,e1,_,_,rfl,e2,_,_,rfl,e3,_,_,rfl,e4,_,_,rfl,e5,_,_,rfl,e6,rfl⟩
def ZBH {p:PV} (j:ZuR (.slice (.int .i64) 8) p): ∃l:List Int,RV [] (.v (.l (.i .i64)) l) p:=by
 let⟨l,C,_⟩:=Zhm (ct:= .i .i64) (Fit:=λ_=>True) (λc I=>by let⟨n,hn⟩:=Zgi I;exact⟨n,hn,trivial⟩) j
 exact⟨l,by simpa only[RV]using C⟩
end Go.Proofs.YtpdhpbldangmbaaGreatDoor
