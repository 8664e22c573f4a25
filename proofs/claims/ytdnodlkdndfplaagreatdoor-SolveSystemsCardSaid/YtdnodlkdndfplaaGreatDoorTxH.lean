/-
 Loops and blocks of code that is known by what it does.
-/
import Derived.Test.YtdnodlkdndfplaaGreatDoorV2
set_option linter.constructorNameAsVariable false
set_option linter.unusedSimpArgs false
set_option linter.unusedVariables false
namespace Go.Tx
open Go.Am
section
variable {P : Program} {h : Hints} {T : TypeId → TI} {hp : List SM} {tm : TM} {F : Nat}
theorem Zwq {σ:Type} {c:Cx} {b:Code} {k:Ex→TM→List SM→Prop} (hk:h.keep c.fid (Zdp b)=none) (ctm:σ→TM) (chp:σ→List SM) (Inv:σ→Prop) (meas:σ→Nat)
 (round: ∀a,Inv a→CodeOK P h F c b (ctm a) (chp a) (ZyM F ctm chp Inv meas a k)) (a:σ) (hi:Inv a) (he:Ent F tm hp (ctm a) (chp a)):LoopOK P h F c b tm hp k:=by
 have main: ∀ (n:Nat) (a:σ),meas a=n→Inv a→ ∀φ st,F≤φ.length→SRep φ (ctm a) (chp a) st→ ∃e st' φ' tm' hp',(lim P h).ex c (.loop b) st=some (e,st')∧Fr F φ φ'∧SRep φ' tm' hp' st'∧k e tm' hp':=by
  intro n
  induction n using Nat.strongRecOn with
  |_ n ih=>
   intro a hm hi φ st hF hs
   obtain⟨e,st1,φ1,tm1,hp1,h1,h2,h3,h4⟩:=(round a hi).out φ st hF hs
   have hr:ZhD P h (lim P h) c b st=some (e,st1):=by unfold ZhD;rw[hk];exact h1
   cases e with
   |normal=>
    obtain⟨a',g1,g2,g3⟩:=h4
    obtain⟨φ2,g4,g5⟩:=g3.out φ1 st1 (h2.len hF) h3
    obtain⟨e,st',φ',tm',hp',f1,f2,f3,f4⟩:=ih (meas a') (by omega) a' rfl g1 φ2 st1 (g4.len (h2.len hF)) g5
    exact⟨e,st',φ',tm',hp',ZlV hr f1,(h2.trans g4).trans f2,f3,f4⟩
   |exit j=>exact⟨_,st1,φ1,tm1,hp1,ZfR (by simp) hr,h2,h3,h4⟩
   |ret=>exact⟨_,st1,φ1,tm1,hp1,ZfR (by simp) hr,h2,h3,h4⟩
 refine⟨fun φ st hF hs=> ?_⟩
 obtain⟨φ1,h1,h2⟩:=he.out φ st hF hs
 obtain⟨e,st',φ',tm',hp',f1,f2,f3,f4⟩:=main _ a rfl hi φ1 st (h1.len hF) h2
 exact⟨e,st',φ',tm',hp',f1,h1.trans f2,f3,f4⟩
theorem Zbi {c:Cx} {id:Nat} {b:Code} {k:Ex→TM→List SM→Prop} (hk:h.keepB c.fid id=none) (hb:CodeOK P h F c b tm hp (ZuN id k)):CodeOK P h F c (.block id b) tm hp k:=by
 refine⟨fun φ st hF hs=> ?_⟩
 obtain⟨e,st1,φ1,tm1,hp1,h1,h2,h3,h4⟩:=hb.out φ st hF hs
 cases e with
 |normal=>exact⟨.normal,st1,φ1,tm1,hp1,by simp only[exS,h1,Option.bind_some,ZcL,hk,Zem,Option.map_some],h2,h3,h4⟩
 |exit j=>
  simp only[ZuN]at h4
  split at h4
  ·rename_i hj
   have hj:=Nat.eq_of_beq_eq_true hj
   exact⟨.normal,st1,φ1,tm1,hp1,by simp only[exS,h1,Option.bind_some,ZcL,hk,Zem,Option.map_some,if_pos hj],h2,h3,h4⟩
  ·rename_i hj
   have hj:j≠id:=fun e=>by subst e;simp at hj
   exact⟨.exit j,st1,φ1,tm1,hp1,by simp only[exS,h1,Option.bind_some,ZcL,if_neg hj],h2,h3,h4⟩
 |ret=>exact⟨.ret,st1,φ1,tm1,hp1,by simp only[exS,h1,Option.bind_some,ZcL],h2,h3,h4⟩
theorem ZbV {c:Cx} {b:Code} {k:Ex→TM→List SM→Prop} (hl:LoopOK P h F c b tm hp k):CodeOK P h F c (.loop b) tm hp k:=⟨fun φ st hF hs=>by
 obtain⟨e,st',φ',tm',hp',h1,h2,h3,h4⟩:=LoopOK.out hl φ st hF hs
 exact⟨e,st',φ',tm',hp',h1,h2,h3,h4⟩⟩
theorem CodeOK.mono {c:Cx} {b:Code} {k k':Ex→TM→List SM→Prop} (hl:CodeOK P h F c b tm hp k) (hk: ∀e tm hp,k e tm hp→k' e tm hp):CodeOK P h F c b tm hp k':=
 ⟨fun φ st hF hs=>by
  obtain⟨e,st',φ',tm',hp',f1,f2,f3,f4⟩:=hl.out φ st hF hs
  exact⟨e,st',φ',tm',hp',f1,f2,f3,hk _ _ _ f4⟩⟩
theorem Ztl {op:Op} {ct:CT} {by_ id n id2:Nat} {m2:Option Nat} {b:Bool} {l:List ct.D} {x:ct.D} {k:SV→List SM→Prop}
 {c:Call} {t t2 e e2:TypeId} {ts:List TypeId} (ho:op= .call c) (hc:c.callee= .builtin .append) (ha:evL tm c.args.toList=some [.ref id 0 n none, .ref id2 0 1 m2]) (ht:c.argTypes.toList=t::t2::ts) (hk1:(T t).k= .slice e) (hk2:(T t2).k= .slice e2) (hct:(T e).ct=some ct) (hby:(T e).by_=by_) (hok:(ZcW (T e).k,Nat.ble 1 (T e).by_&&Nat.ble 1 (T e).sz,h.frz t)=(false,true,false))
 (hn:nth hp id=some (.row ct l true)) (hn2:nth hp id2=some (.row ct [x] b)) (hl:n=l.length) (hz:(n+1)*by_≤140737488355328)
 (hk:k (.ref hp.length 0 (n+1) none) (hp.set id .dead++ [.row ct (l++ [x]) true])):opT P h T op tm hp k:=by
 have hg:Zp0 ct hp (.ref id2 0 1 m2) (fun new=>ZrI ct by_ hp (.ref id 0 n none) new k):=by
  refine Zgw hn2 (Nat.le_refl 1) ?_
  refine Zlb hn (by rw[hl];omega) hz ?_
  have e1:sub l 0 n=l:=by rw[sub,List.drop_zero,List.take_of_length_le (by omega)]
  have e2:sub [x] 0 1=[x]:=rfl
  rw[e1]
  exact hk
 simp only[Prod.mk.injEq]at hok
 obtain⟨ok1,ok2,ok3⟩:=hok
 simp only[ho,opT,Zns,ha,hc,ZfI,ht,hk1,hk2,hct,ok2,ok3]
 subst hby
 generalize(T e).k=kk at*
 cases kk<;>first|(cases ok1;done)|exact hg
theorem ZfL {t:CT} {x:t.D} {n:Nat}: ∀id∈Zen (.v t x),id<n:=fun _ h=>absurd h List.not_mem_nil
theorem ZbQ {i a l n:Nat} {o:Option Nat} (h:i<n): ∀id∈Zen (.ref i a l o),id<n:=fun id hid=>by rw[List.mem_singleton.1 hid];exact h
end
end Go.Tx
/-
 The loop of lin.Reduce that clears a column.
-/
namespace Go.Proofs.YtdnodlkdndfplaaGreatDoor
open Go.Am Go.Tx Dv Go.Lib
set_option maxRecDepth 100000
def vD (n cols m k i:Nat):TM:=[(0, .ref 0 0 n none),(1,nt cols),(6, .ref (n+1) 0 m none),(7,nt k),(8,nt m),(100,nt n),(101,nt i)]
set_option maxHeartbeats 16000000 in
theorem ZBB (n W cols m k K:Nat) (f g:Nat→Nat→Rat) (d:SM) (pv:SM) (hn:n≤1000) (hW:W≤1000) (hm:m<n) (hk:k<W) (hK:K≤50000000) (sf: ∀a j,a<n→j<W→szQ (f a j) K) (hpv:Zg2 pv=[]) (hdv:Zg2 d=[])
 (h0: ∀j,j<k→f m j=0) (hgm: ∀j,j<W→g m j=f m j) (hg: ∀i j,i<n→i≠m→j<W→g i j=f i j-f i k*f m j):
 LoopOK Tryz.prog Zan 0 cxR (Zbz Tryz.f118 18) (vD n cols m k 0) (hpM n W f [pv,d])
 (fun e tm hp=>e= .exit 6∧tm=vD n cols m k n∧hp=hpM n W g [pv,d]):=by
 have hstart:hpM n W f [pv,d]=hpM n W (fC f g 0 0) [pv,d]:=Zb4 fun a b _ _=>(if_neg (by omega)).symm
 have hend:hpM n W (fC f g n 0) [pv,d]=hpM n W g [pv,d]:=Zb4 fun a b ha _=>if_pos (.inl ha)
 refine LoopOK.through (k:=fun e tm hp=>e= .exit 6∧Ent 0 tm hp (vD n cols m k n) (hpM n W (fC f g n 0) [pv,d])) ?_ (by
  rintro e tm hp ⟨rfl,h5⟩
  exact⟨_,_,h5,rfl,rfl,hend⟩)
 refine Zat Zaa rfl (vD n cols m k) (fun i=>hpM n W (fC f g i 0) [pv,d]) (fun i=>i≤n) (fun i=>n-i) ?_ 0 (Nat.zero_le _) (Ent.eqs hstart ZaU)
 intro i hi
 cases hc:decide ((i:Int)<(n:Int))with
 |false=>
  have hin:i=n:=by have:=of_decide_eq_false hc;omega
  refine Zas ?_
  refine Zad ?_
  refine Zaq ?_
  refine brF hc ?_
  subst hin
  exact⟨rfl,Zap ⟨rfl,rfl,rfl,rfl,rfl,rfl,rfl,trivial⟩⟩
 |true=>
  have hlt:i<n:=by have:=of_decide_eq_true hc;omega
  have same:(∀j,j<W→g i j=f i j)→hpM n W (fC f g i 0) [pv,d]=hpM n W (fC f g (i+1) 0) [pv,d]:=fun h=>Zb4 fun a b _ hb=>by
   unfold fC
   by_cases h1:a<i
   ·rw[if_pos (.inl h1),if_pos (.inl (by omega))]
   ·rw[if_neg (by omega)]
    by_cases h2:a=i
    ·rw[if_pos (.inl (by omega)),h2,h b hb]
    ·rw[if_neg (by omega)]
  have hloopC:=fun him=>ZBK n W cols m k i K f g d pv hn hW hm hlt him hk hK sf h0 hgm (fun j hj=>hg i j hlt him hj)
  obtain⟨F,eF⟩: ∃x,fC f g i 0=x:=⟨_,rfl⟩
  have hv:F i k=f i k:=by rw[←eF];exact if_neg (by omega)
  rw[eF]at same hloopC⊢
  have hA:nth (hpM n W F [pv,d]) 0=some (.many (.l qct) (ZaM 1 (Zbo n W F)) true):=rfl
  have ci:=cin hlt
  have ck:=cin hk
  have hel:=ZeL (W:=W) (f:=F) (p:=1) hlt
  have hrow:=ZgT (W:=W) (f:=F) (ex:=[pv,d]) hlt
  have hcell:=Zkp (u:=F i) hk
  rw[hv]at hcell
  have hS:=Zlc (f i k)
  refine Zas ?_
  refine Zad ?_
  refine Zaq ?_
  refine brT hc ?_
  refine Zas ?_
  iterate 2 refine Zad ?_
  refine Zaq ?_
  cases hm2:decide ((i:Int)=(m:Int))with
  |true=>
   have him:i=m:=by have:=of_decide_eq_true hm2;omega
   refine Zas ?_
   iterate 4 refine Zad ?_
   refine ZaL hm2 ?_
   refine ZaL hm2 ?_
   refine ZaL hm2 ?_
   refine ZaL hm2 ?_
   refine ZaL hm2 ?_
   refine ZaL hm2 ?_
   refine ZaL hm2 ?_
   refine ZaL hm2 ?_
   refine ZaL hm2 ?_
   refine ZaY hm2 ?_
   refine Zaq ?_
   refine brT rfl ?_
   refine⟨i+1,hlt,by show n-(i+1)<n-i;omega, ?_⟩
   exact Ent.eqs (same fun j hj=>by rw[him];exact hgm j hj) (Zap ⟨rfl,rfl,rfl,rfl,rfl,rfl,congrArg (fun x=>some (SV.v (.i .i64) x)) (Zd7 (by omega)),trivial⟩)
  |false=>
   have him:i≠m:=by have:=of_decide_eq_false hm2;omega
   have hloopC:=hloopC him
   have hgi:=fun j hj=>hg i j hlt him hj
   obtain⟨c,ec⟩: ∃x,f i k=x:=⟨_,rfl⟩
   rw[ec]at hcell hS hgi hloopC
   cases hz:decide (c.num.sign=0)with
   |true=>
    have c0:=ZA3 hz
    refine Zas ?_
    iterate 4 refine Zad ?_
    refine Zae hm2 ?_
    refine Zae hm2 ?_
    refine ZaP rfl rfl rfl hm2 (ZaD rfl rfl rfl rfl rfl hA rfl ci ?_)
    refine Zab rfl rfl ?_
    refine ZaP rfl rfl rfl hm2 (ZaS rfl rfl hA hel rfl ?_)
    refine Zab rfl rfl ?_
    refine Zae hm2 ?_
    refine ZaP rfl rfl rfl hm2 (ZbI rfl rfl rfl rfl rfl hrow rfl ck ?_)
    refine Zab rfl rfl ?_
    refine ZaP rfl rfl rfl hm2 (Zca (V:=QR c) rfl rfl hrow hcell rfl ?_)
    refine Zab rfl rfl ?_
    refine ZaP rfl rfl rfl hm2 ((hS).mono ?_)
    rintro _ rfl
    refine Zab rfl rfl ?_
    refine Zae hm2 ?_
    refine ZaW hm2 ?_
    refine Zaq ?_
    refine brT hz ?_
    refine⟨i+1,hlt,by show n-(i+1)<n-i;omega, ?_⟩
    exact Ent.eqs (same fun j hj=>by rw[hgi j hj,c0];grind) (Zap ⟨rfl,rfl,rfl,rfl,rfl,rfl,congrArg (fun x=>some (SV.v (.i .i64) x)) (Zd7 (by omega)),trivial⟩)
   |false=>
    have hpush: ∀c:SM,nth (hpM n W F ([pv,d]++ [c])) (hpM n W F [pv,d]).length=some c:=fun c=>by rw[ZbL];exact Zf8 (e:=2)
    refine Zas ?_
    iterate 4 refine Zad ?_
    refine Zae hm2 ?_
    refine Zae hm2 ?_
    refine ZaP rfl rfl rfl hm2 (ZaD rfl rfl rfl rfl rfl hA rfl ci ?_)
    refine Zab rfl rfl ?_
    refine ZaP rfl rfl rfl hm2 (ZaS rfl rfl hA hel rfl ?_)
    refine Zab rfl rfl ?_
    refine Zae hm2 ?_
    refine ZaP rfl rfl rfl hm2 (ZbI rfl rfl rfl rfl rfl hrow rfl ck ?_)
    refine Zab rfl rfl ?_
    refine ZaP rfl rfl rfl hm2 (Zca (V:=QR c) rfl rfl hrow hcell rfl ?_)
    refine Zab rfl rfl ?_
    refine ZaP rfl rfl rfl hm2 ((hS).mono ?_)
    rintro _ rfl
    refine Zab rfl rfl ?_
    refine Zae hm2 ?_
    refine ZaW hm2 ?_
    refine Zaq ?_
    refine brF hz ?_
    refine Zas ?_
    iterate 2 refine Zad ?_
    refine Zag rfl (ZaD rfl rfl rfl rfl rfl hA rfl ci ?_)
    refine Zab rfl rfl ?_
    refine Zag rfl (ZaS rfl rfl hA hel rfl ?_)
    refine Zab rfl rfl ?_
    refine Zad ?_
    refine Zag rfl (ZbI rfl rfl rfl rfl rfl hrow rfl ck ?_)
    refine Zab rfl rfl ?_
    refine Zag rfl (Zca (V:=QR c) rfl rfl hrow hcell rfl ?_)
    refine Zab rfl rfl ?_
    refine Zn1 ?_
    refine Zss ZeZ ?_
    refine Zag rfl (Zmf rfl rfl rfl (hpush _) rfl rfl rfl rfl ?_)
    refine Zcb rfl ?_
    refine Zaq ?_
    refine Zas ?_
    iterate 2 refine Zad ?_
    refine Zaq ?_
    have hl3:(hpM n W F [pv,d]).length=n+3:=ZbL
    have hset: ∀x y:SM,(hpM n W F ([pv,d]++ [x])).set (hpM n W F [pv,d]).length y=hpM n W F [pv,d,y]:=fun x y=>by rw[ZbL];exact Zlr (e:=2)
    refine(hloopC.ent ?_).mono ?_
    ·exact Ent.eqs (hset _ _) (Zap ⟨rfl,rfl,rfl,rfl,rfl,rfl,congrArg (fun x=>some (SV.ptr x 0 0)) hl3,rfl,rfl,rfl,trivial⟩)
    rintro _ _ _ ⟨rfl,rfl,rfl⟩
    refine⟨i+1,hlt,by show n-(i+1)<n-i;omega, ?_⟩
    refine Zyg (ex:=[pv,d]) (Nat.zero_le _) (fun x hx=> ?_) ⟨rfl,ZbQ (by omega),rfl,ZfL,rfl,ZbQ (by show n+1<n+1+2;omega),rfl,ZfL,rfl,ZfL,rfl,ZfL,congrArg (fun x=>some (SV.v (.i .i64) x)) (Zd7 (by omega)),ZfL,trivial⟩
    rcases List.mem_cons.1 hx with rfl|hx
    ·exact hpv
    ·rw[List.mem_singleton.1 hx];exact hdv
end Go.Proofs.YtdnodlkdndfplaaGreatDoor
