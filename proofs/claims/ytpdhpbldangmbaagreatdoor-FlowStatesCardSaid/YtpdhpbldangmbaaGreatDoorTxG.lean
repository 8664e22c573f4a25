/- Matrices of own rows: two rows change places; a slice without memory seen as an empty row; a row that was built anew behind the matrix. -/
import Derived.Test.YtpdhpbldangmbaaGreatDoorTx8
import Derived.Test.YtpdhpbldangmbaaGreatDoorRows
set_option linter.all false
set_option maxRecDepth 100000
namespace Go.Tx
open Go.Am
section
variable {P:Program} {h:Hints} {T:TypeId->TI} {hp:List SM} {tm:TM}
def ZLC (ok:Nat->Prop) (tm:TM):TM->Prop
 | []=>True
 |(i,V')::r=>ZbJ i tm=some V'/\(∀id∈ZdS V',ok id)/\ZLC ok tm r
mutual
theorem ZEn {f:Nat->Nat}: ∀V:SV,(∀id∈ZdS V,f id=id)->rnV f V=V
 | .ref id i n m,j=>by rw[rnV,j id (by simp[ZdS])]
 | .ptr id i r,j=>by rw[rnV,j id (by simp[ZdS])]
 | .func g a c,j=>by simp only[ZdS,XaO]at j;rw[rnV,rnL_ok a (λid hi=>j id (.inl hi)),rnL_ok c (λid hi=>j id (.inr hi))]
 | .agg cs,j=>by rw[rnV,rnL_ok cs (by simpa only[ZdS]using j)]
 | .tup cs,j=>by rw[rnV,rnL_ok cs (by simpa only[ZdS]using j)]
 | .v _ _,_| .nilp,_| .nils,_| .nilf,_| .nili,_| .nilmp,_| .box _ _ _,_=>rfl
 | .mp id,j=>by rw[rnV,j id (by simp[ZdS])]
theorem rnL_ok {f:Nat->Nat}: ∀l:List SV,(∀id∈rchL l,f id=id)->rnL f l=l
 | [],_=>rfl
 |v::r,j=>by simp only[rchL,XaO]at j;rw[rnL,ZEn v (λid hi=>j id (.inl hi)),rnL_ok r (λid hi=>j id (.inr hi))]
end
def Zpn {ok f n} (j: ∀id,ok id->f id=id/\id<n) {tm}: ∀ {tm':TM},ZLC ok tm tm'->ZrG f n tm tm'
 | [],_=>trivial
 |(i,V')::r,⟨I,C,J⟩=>⟨by rw[ZEn V' λid hi=>(j id (C id hi)).1];exact I,λid hi=>(j id (C id hi)).2,Zpn j J⟩
def Zvp {A ct xs ex j} (C:j<xs.length):(A::(ZaP ct xs++ex))[j+1]? =some (.row ct xs[j] true):=by rw[XaV,Xan (by rw[Zal];exact C),Zb3 C]
def Zvn {A ct xs ex j} (C:xs.length<=j):(A::(ZaP ct xs++ex))[j+1]? =ex[j-xs.length]? :=by rw[XaV,Xaw (by rw[Zal];exact C),Zal]
def swI (a b j:Nat):Nat:=if j=a then b else if j=b then a else j
def ZEe {a b j n} (C:a<n) (I:b<n) (J:j<n):swI a b j<n:=by grind [swI]
def ZDC {F tm tm' ct ex xs ys a b la lb} (ha:a<xs.length) (hb:b<xs.length) (ae:xs[a].length=la) (af:xs[b].length=lb) (hl:ys.length=xs.length)
 (hy: ∀j (h1:j<ys.length) (h2:swI a b j<xs.length),ys[j]=xs[swI a b j]) (hF:F<=1) (hex: ∀m∈ex,Zd0 m=[]) (ag:ZLC (λid=>id=0\/(xs.length<id/\id<xs.length+1+ex.length)) tm tm'):
 Ent F tm (.many (.l ct) (((Zax 1 xs).set a (.ref (b+1) 0 lb none)).set b (.ref (a+1) 0 la none)) true::([]++(ZaP ct xs++ex))) tm' (.many (.l ct) (Zax 1 ys) true::([]++(ZaP ct ys++ex))):=by
 subst ae af;rw[Xba,Xba];have hlen: ∀A:SM,(A::(ZaP ct ys++ex)).length=xs.length+1+ex.length:=λA=>by rw[Xao,Xal,Zal];omega
 have U: ∀A:SM,(A::(ZaP ct xs++ex)).length=xs.length+1+ex.length:=λA=>by rw[Xao,Xal,Zal];omega
 let f:Nat->Nat:=λj=>match j with|0=>0|j+1=>swI a b j+1
 have fs: ∀j,f (j+1)=swI a b j+1:=λ_=>rfl
 have f0:f 0=0:=rfl;have R: ∀j,xs.length<j->f j=j:=λj C=>by grind [swI]
 have ad: ∀i j,f i=f j->i=j:=by
  intro i j h;cases i with
  |zero=>cases j with
   |zero=>rfl
   |succ j=>rw[f0,fs]at h;omega
  |succ i=>cases j with
   |zero=>rw[f0,fs]at h;omega
   |succ j=>rw[fs,fs]at h;unfold swI at h;(repeat' split at h);all_goals omega
 have ah: ∀j,j<xs.length+1+ex.length->f j<xs.length+1+ex.length:=by intro j C;cases j with|zero=>omega|succ j=>(rw[fs];unfold swI;repeat' split);all_goals omega
 refine ZdZ f ?_ ?_ ?_ ?_ ?_ ?_;rw[hlen];omega;intro j C;rw[show j=0 by omega];intro j C;rw[hlen]at C;rw[U];exact ah j C;exact λi j _ _ h=>ad i j h;refine Zpn (λid hid=> ?_) ag;rw[hlen];rcases hid with rfl|⟨h1,h2⟩;exact⟨rfl,oM⟩;exact⟨R id h1,h2⟩;·intro j m hm;right;cases j with|zero=>have hm:=hm;cases hm;refine⟨?_,λid hid=> ?_⟩;(·show some (SM.many (.l ct) (((Zax 1 xs).set a (.ref (b+1) 0 xs[b].length none)).set b (.ref (a+1) 0 xs[a].length none)) true)=some (SM.many (.l ct) (rnL f (Zax 1 ys)) true);congr 2;rw[ZsD];apply XaR;intro j;rw[XaD];by_cases C:j<xs.length;have I:j<ys.length:=oM;have J:=ZEe ha hb C;have e:=hy j I J;rw[ZbF I];show _=some (SV.ref (f (j+1)) 0 ys[j].length none);rw[fs,e];by_cases aa:j=b;subst aa;rw[XaN (by rw[Xap,Zaw];exact C)];have:swI a j j=a:=(by unfold swI;split<;>simp_all);simp[this];rw[XaL (λe=>aa e.symm)];by_cases ab:j=a;subst ab;rw[XaN (by rw[Zaw];exact C)];have:swI j b j=b:=(by unfold swI;rw[if_pos rfl]);simp[this];rw[XaL (λe=>ab e.symm),ZbF C];have:swI a b j=j:=(by unfold swI;rw[if_neg ab,if_neg aa]);simp[this];rw[Xat (by rw[Xap,Xap,Zaw];omega),Xat (by rw[Zaw];omega)];rfl);have:=ZcT (by simpa only[Zd0]using hid);rw[hlen];omega|succ j=>by_cases C:j<xs.length;have I:j<ys.length:=oM;rw[Zvp I]at hm;cases hm;have J:=ZEe ha hb C;refine⟨?_,λid hid=>by simp[Zd0]at hid⟩;rw[fs,Zvp J,hy j I J];rfl;rw[Zvn oM]at hm;have hr:=hex m (XaC hm);refine⟨?_,λid hid=>by rw[hr]at hid;exact absurd hid Xaq⟩;rw[R (j+1) oM,Zvn oM,<-hl,hm,Zjz (λj C=>absurd C (XaS j)) m (λid hid=>by rw[hr]at hid;exact absurd hid Xaq)]
end
section
variable {P:Program} {h:Hints} {T:TypeId->TI} {hp:List SM} {tm:TM} {F:Nat}
def Zcc {σ:Type} {c:Cx} {b:Code} {k:Ex->TM->List SM->Prop} (hk:h.keep c.fid (ZdG b)=none) (R:σ->TM) (U:σ->List SM) (Inv:σ->Prop) (I:σ->Nat)
 (round: ∀a,Inv a->CodeOK P h F c b (R a) (U a) (ZsZ F R U Inv I a k)) (a:σ) (hi:Inv a) (he:Ent F tm hp (R a) (U a)):LoopOK P h F c b tm hp k:=by
 have main: ∀ (n:Nat) (a:σ),I a=n->Inv a-> ∀φ st,F<=φ.length->SRep φ (R a) (U a) st-> ∃e C φ' tm' hp',(lim P h).ex c (.loop b) st=some (e,C)/\Fr F φ φ'/\SRep φ' tm' hp' C/\k e tm' hp':=by intro n;induction n using Nat.strongRecOn with|_ n ih=>intro a hm hi φ st hF hs;(let⟨e,st1,J,tm1,hp1,h1,h2,h3,h4⟩:=(round a hi).out φ st hF hs);have hr:Zvb P h (lim P h) c b st=some (e,st1):=(by unfold Zvb;rw[hk];exact h1);cases e with|normal=>(let⟨a',g1,g2,g3⟩:=h4);(let⟨aa,g4,g5⟩:=g3.out J st1 (h2.len hF) h3);(let⟨e,C,φ',tm',hp',f1,f2,f3,f4⟩:=ih (I a') oM a' rfl g1 aa st1 (g4.len (h2.len hF)) g5);exact⟨e,C,φ',tm',hp',ZzT hr f1,(h2.trans g4).trans f2,f3,f4⟩|exit j=>exact⟨_,st1,J,tm1,hp1,Zp8 sM hr,h2,h3,h4⟩|ret=>exact⟨_,st1,J,tm1,hp1,Zp8 sM hr,h2,h3,h4⟩
 refine⟨λφ st hF hs=> ?_⟩;let⟨J,h1,h2⟩:=he.out φ st hF hs
 let⟨e,C,φ',tm',hp',f1,f2,f3,f4⟩:=main _ a rfl hi J st (h1.len hF) h2
 exact⟨e,C,φ',tm',hp',f1,h1.trans f2,f3,f4⟩
def Zaq {σ:Type} (hT:TysOK P T) {c:Cx} {b:Code} {k:Ex->TM->List SM->Prop} (J:h.keep c.fid (ZdG b)=none) (j:σ->TM) (C:σ->List SM) (Inv:σ->Prop) (I:σ->Nat)
 (round: ∀a,Inv a->wp P h T F c b (j a) (C a) (ZsZ F j C Inv I a k)) (a:σ) (hi:Inv a) (he:Ent F tm hp (j a) (C a)):LoopOK P h F c b tm hp k:=Zcc J j C Inv I (λa h=>Zad hT (round a h)) a hi he
def Zao {c:Cx} {id:Nat} {b:Code} {k:Ex->TM->List SM->Prop} (hk:h.keepB c.fid id=none) (hb:CodeOK P h F c b tm hp (ZAP id k)):CodeOK P h F c (.block id b) tm hp k:=by
 refine⟨λφ st hF hs=> ?_⟩;let⟨e,st1,C,tm1,hp1,R,U,h3,J⟩:=hb.out φ st hF hs
 cases e with|normal=>exact⟨.normal,st1,C,tm1,hp1,by simp[exS,R,Xad,ZdF,hk,ZfN,Xau],U,h3,J⟩|exit j=>simp[ZAP]at J;split at J;rename_i I;have I:=Xay I;exact⟨.normal,st1,C,tm1,hp1,by simp[exS,R,Xad,ZdF,hk,ZfN,Xau,if_pos I],U,h3,J⟩;rename_i I;have I:j≠id:=λe=>(by subst e;simp at I);exact⟨.exit j,st1,C,tm1,hp1,by simp[exS,R,Xad,ZdF,if_neg I],U,h3,J⟩|ret=>exact⟨.ret,st1,C,tm1,hp1,by simp[exS,R,Xad,ZdF],U,h3,J⟩
def ZaH {c:Cx} {b:Code} {k:Ex->TM->List SM->Prop} (hl:LoopOK P h F c b tm hp k):CodeOK P h F c (.loop b) tm hp k:=⟨λφ st C I=>by
 let⟨e,j,φ',tm',hp',J,R,U,h4⟩:=LoopOK.out hl φ st C I
 exact⟨e,j,φ',tm',hp',J,R,U,h4⟩⟩
def CodeOK.mono {c:Cx} {b:Code} {k k':Ex->TM->List SM->Prop} (hl:CodeOK P h F c b tm hp k) (J: ∀e tm hp,k e tm hp->k' e tm hp):CodeOK P h F c b tm hp k':=
 ⟨λφ st j C=>by(let⟨e,I,φ',tm',hp',f1,f2,f3,f4⟩:=hl.out φ st j C);grind⟩
def ZbX {op:Op} {ct:CT} {by_ id n j:Nat} {m2:Option Nat} {b:Bool} {l:List ct.D} {x:ct.D} {k:SV->List SM->Prop}
 {c:Call} {t t2 e e2:TypeId} {ts:List TypeId} (ho:op= .call c) (hc:c.callee= .builtin .append) (ha:evL tm c.args.toList=some [.ref id 0 n none, .ref j 0 1 m2]) (ht:c.argTypes.toList=t::t2::ts) (I:(T t).k= .slice e) (J:(T t2).k= .slice e2) (R:(T e).ct=some ct) (U:(T e).by_=by_) (C:(ZcL (T e).k,Nat.ble 1 (T e).by_&&Nat.ble 1 (T e).sz,h.frz t)=(false,true,false))
 (hn:nth hp id=some (.row ct l true)) (aa:nth hp j=some (.row ct [x] b)) (hl:n=l.length) (hz:(n+1)*by_<=140737488355328)
 (hk:k (.ref hp.length 0 (n+1) none) (hp.set id .dead++ [.row ct (l++ [x]) true])):opT P h T op tm hp k:=by
 have hg:Zrr ct hp (.ref j 0 1 m2) (λnew=>ZsN ct by_ hp (.ref id 0 n none) new k):=by refine Zgu aa (Xae 1) (ZhZ hn (by rw[hl];omega) hz ?_);grind [sub,Xax]
 simp only[Prod.mk.injEq]at C;let⟨ab,ad,ae⟩:=C
 simp[ho,opT,Zhd,ha,hc,Zfs,ht,I,J,R,ad,ae];subst U;generalize(T e).k=kk at*;cases kk<;>first|(cases ab;done)|exact hg
def ZaO {t:CT} {x:t.D} {n:Nat}: ∀id∈ZdS (.v t x),id<n:=λ_ h=>absurd h Xaq
def ZaF {i a l n:Nat} {o:Option Nat} (h:i<n): ∀id∈ZdS (.ref i a l o),id<n:=λid hid=>by rw[Xav.1 hid];exact h
def Zbl {i a l n:Nat} (h:i<n): ∀id∈ZdS (.ptr i a l),id<n:=λid hid=>by rw[Xav.1 hid];exact h
end
section
variable {P:Program} {h:Hints} {T:TypeId->TI} {hp:List SM} {tm:TM} {F:Nat}
def Zcj {c:Cx} {k:Ex->TM->List SM->Prop} (hn:k .ret tm hp):wp P h T F c .ret tm hp k:=hn
def ZaK {k:Ex->TM->List SM->Prop} {n:TM->List SM->Prop} (hn:k .ret tm hp):ZHB k n .ret tm hp:=hn
def ZaJ {id:Nat} {k:Ex->TM->List SM->Prop} (hn:k .ret tm hp):ZAP id k .ret tm hp:=hn
def Zay {σ:Type} {C:σ->TM} {I:σ->List SM} {Inv:σ->Prop} {j:σ->Nat} {a:σ} {k:Ex->TM->List SM->Prop} (hn:k .ret tm hp):ZsZ F C I Inv j a k .ret tm hp:=hn
def ZBj {c:Cx} {x:Operand} {a b:Code} {t:Bool} {k:Ex->TM->List SM->Prop} (J:evS tm x=some (.v .b t)) (R:t=true->CodeOK P h F c a tm hp k) (U:t=false->CodeOK P h F c b tm hp k):CodeOK P h F c (.cond x a b) tm hp k:=by
 refine⟨λφ st I j=> ?_⟩;let⟨q,h1,h2⟩:=j.ev _ _ J
 rw[Zff h2]at h1;cases t with|true=>(let⟨e,C,φ',tm',hp',g1,g2,g3,g4⟩:=(R rfl).out φ st I j);grind [exS,ZlF]|false=>(let⟨e,C,φ',tm',hp',g1,g2,g3,g4⟩:=(U rfl).out φ st I j);grind [exS,ZlF]
def ZBL {c:Cx} {j:TM->List SM->Prop} {id:Nat} {k:Ex->TM->List SM->Prop} (hn:k .normal tm hp):wp P h T F c (.exit id) tm hp (ZHB (ZAP id k) j):=by show ZAP id k (.exit id) tm hp;grind [Nat.beq_refl,ZAP]
def ZHp {tm tm':TM} {id:Nat} {m:SM} (hm:nth hp id=some m) (R:Zd0 m=[]) (I:ZrG (λ_=>id) 1 tm tm'):Ent 0 tm hp tm' [m]:=by
 rw[ZaA]at hm;refine ZdZ (λ_=>id) (Xak _) (λj C=>absurd C (XaS j)) (λj _=>(Xaf.1 hm).1) (λi j hi C _=> ?_) I λj x U=> ?_;grind;have J:=(Xaf.1 U).1;have e:j=0:=by have h1:j<1:=J;omega
 subst e;cases U;refine .inr ⟨?_,λid hid=>by rw[R]at hid;exact absurd hid Xaq⟩;rw[hm,Zjz (λj C=>absurd C (XaS j)) m (λid hid=>by rw[R]at hid;exact absurd hid Xaq)]
theorem Zvt {α:Type} {l:List α} {n:Nat} {x:α} (h:nth l n=some x):n<l.length:=by rw[ZaA]at h;exact(Xaf.1 h).1
def ZdD {α:Type} {l:List α} {n:Nat} {x y:α} (h:nth l n=some x):nth (l++ [y]) n=some x:=by rw[ZaA]at h|-;grind
theorem ZpO {α:Type} {l:List α} {i n:Nat} {x:α} (h:i≠n):nth (l.set i x) n=nth l n:=by rw[ZaA,ZaA,XaL h]
def ZHi {id j:Nat} (h:id≠j):nth (frz1 hp id) j=nth hp j:=by grind [frz1,ZpO]
def Zf3 {j:Nat}: ∀ {ids:List Nat} {hp:List SM},j ∉ ids->nth (frzT hp ids) j=nth hp j
 | [],_,_=>rfl
 |i::r,hp,h=>by rw[frzT,Zf3 λC=>h (Xai _ C)];exact ZHi λe=>h (by rw[e];exact Xah)
def ZDH {id:Nat}:(frz1 hp id).length=hp.length:=by grind [frz1,Xap]
def Zdc: ∀ {ids:List Nat} {hp:List SM},(frzT hp ids).length=hp.length
 | [],_=>rfl
 |i::r,hp=>by rw[frzT,Zdc,ZDH]
def ZnI {op ct by_ id n X l new k c t t2 e e2 ts} (ho:op= .call c) (hc:c.callee= .builtin .append) (ha:evL tm c.args.toList=some [.ref id 0 n none,X]) (ht:c.argTypes.toList=t::t2::ts) (J:(T t).k= .slice e) (R:(T t2).k= .slice e2) (U:(T e).ct=some ct) (aa:(T e).by_=by_) (I:(ZcL (T e).k,Nat.ble 1 (T e).by_&&Nat.ble 1 (T e).sz,h.frz t)=(false,true,false))
 (hn:nth hp id=some (.row ct l true)) (hl:n=l.length) (hX: ∀kk,kk new->Zrr ct hp X kk) (hz:(n+new.length)*by_<=140737488355328)
 (hk: ∀C hp',nth hp' C=some (.row ct (l++new) true)->(∀j,j≠id->j<hp.length->nth hp' j=nth hp j)->hp.length<=hp'.length->(C=id\/hp.length<=C)->k (.ref C 0 (n+new.length) none) hp'):opT P h T op tm hp k:=by
 have hg:Zrr ct hp X (λnew=>ZsN ct by_ hp (.ref id 0 n none) new k):=by refine hX _ ?_;have e1:sub l 0 n=l:=(by rw[sub,XaP,Xax oM]);cases new with|nil=>grind [ZsN,Zd7]|cons x r=>refine ZhZ hn oM hz ?_;rw[e1];have hlen:(hp.set id .dead++ [SM.row ct (l++x::r) true]).length=hp.length+1:=(by rw[Xal,Xap];rfl);refine hk hp.length _ ?_ (λj hj ab=> ?_) (by rw[hlen];omega) (.inr (Xae _));rw[ZaA,Xaw (by rw[Xap];exact Xae _),Xap,Xbi];rfl;rw[ZaA,Xan (by rw[Xap];exact ab),XaL (λe=>hj e.symm),ZaA]
 simp only[Prod.mk.injEq]at I;let⟨ad,ae,af⟩:=I
 simp[ho,opT,Zhd,ha,hc,Zfs,ht,J,R,U,ae,af];subst aa;generalize(T e).k=kk at*;cases kk<;>first|(cases ad;done)|exact hg
def ZzV {ct xs kk} (h:kk xs):Zrr ct hp (.v (.l ct) xs) kk:=by simp only[Zrr];rw[dif_pos (Zd7 ct)];exact h
def ZsM {op ct by_ id n X l x k c t t2 e e2 ts} (ho:op= .call c) (hc:c.callee= .builtin .append) (ha:evL tm c.args.toList=some [.ref id 0 n none,X]) (ht:c.argTypes.toList=t::t2::ts) (J:(T t).k= .slice e) (R:(T t2).k= .slice e2) (U:(T e).ct=some ct) (aa:(T e).by_=by_) (I:(ZcL (T e).k,Nat.ble 1 (T e).by_&&Nat.ble 1 (T e).sz,h.frz t)=(false,true,true))
 (hX: ∀kk,kk (.v (.l ct) [x])->ZbS hp 40 X kk) (ab:id ∉ Zdz hp 40 X) (hn:nth hp id=some (.row ct l true)) (hl:n=l.length) (hz:(n+1)*by_<=140737488355328)
 (hk: ∀C hp',nth hp' C=some (.row ct (l++ [x]) true)->(∀j,j≠id->j ∉ Zdz hp 40 X->j<hp.length->nth hp' j=nth hp j)->hp.length<=C->k (.ref C 0 (n+1) none) hp'):opT P h T op tm hp k:=by
 have hg:ZbS hp 40 X λV=>Zrr ct [] V λnew=>ZsN ct by_ (frzT hp (Zdz hp 40 X)) (.ref id 0 n none) new k:=by refine hX _ (ZzV (ZhZ (by rw[Zf3 ab];exact hn) (by rw[hl];omega) hz ?_));have e1:sub l 0 n=l:=(by rw[sub,XaP,Xax oM]);rw[e1];refine hk _ _ ?_ (λj hj ad ae=> ?_) (by rw[Zdc];exact Xae _);rw[ZaA,Xaw (by rw[Xap];exact Xae _),Xap,Xbi];rfl;rw[ZaA,Xan (by rw[Xap,Zdc];exact ae),XaL (λe=>hj e.symm),<-ZaA,Zf3 ad]
 simp only[Prod.mk.injEq]at I;let⟨af,ag,ah⟩:=I
 simp[ho,opT,Zhd,ha,hc,Zfs,ht,J,R,U,ag,ah];subst aa;generalize(T e).k=kk at*;cases kk<;>first|(cases af;done)|exact hg
def ZCE {op ct I by_ id n X C x k c t t2 e e2 ts} (ho:op= .call c) (hc:c.callee= .builtin .append) (ha:evL tm c.args.toList=some [.ref id 0 n none,X]) (ht:c.argTypes.toList=t::t2::ts) (U:(T t).k= .slice e) (aa:(T t2).k= .slice e2) (ab:(T e).ct=some ct) (ad:(T e).by_=by_) (R:(ZcL (T e).k,Nat.ble 1 (T e).by_&&Nat.ble 1 (T e).sz,h.frz t)=(false,true,true))
 (hw:ct.w=1) (hX: ∀kk,kk (.v (.l ct) [x])->ZbS hp 40 X kk) (ae:id ∉ Zdz hp 40 X) (hn:nth hp id=some (.many I C true)) (hl:n=C.length) (hz:(n+1)*by_<=140737488355328)
 (hk: ∀J hp',nth hp' J=some (.many I (C++ [.v ct x]) true)->(∀j,j≠id->j ∉ Zdz hp 40 X->j<hp.length->nth hp' j=nth hp j)->J=hp.length->hp'.length=hp.length+1->k (.ref J 0 (n+1) none) hp'):opT P h T op tm hp k:=by
 have hg:ZbS hp 40 X λV=>Zrr ct [] V λnew=>ZsN ct by_ (frzT hp (Zdz hp 40 X)) (.ref id 0 n none) new k:=by refine hX _ (ZzV ?_);have af:nth (frzT hp (Zdz hp 40 X)) id=some (.many I C true):=(by rw[Zf3 ae];exact hn);simp only[ZsN,af];refine⟨hw,trivial,hl,trivial,hz,(hk _ _ ?_ (λj hj ag ah=> ?_) Zdc (by rw[Xal,Xap,Zdc];rfl))⟩;rw[ZaA,Xaw (by rw[Xap];exact Xae _),Xap,Xbi];rfl;rw[ZaA,Xan (by rw[Xap,Zdc];exact ah),XaL (λe=>hj e.symm),<-ZaA,Zf3 ag]
 simp only[Prod.mk.injEq]at R;let⟨ai,aj,ak⟩:=R
 simp[ho,opT,Zhd,ha,hc,Zfs,ht,U,aa,ab,aj,ak];subst ad;generalize(T e).k=kk at*;cases kk<;>first|(cases ai;done)|exact hg
def ZrZ {ct m r W n l b b2 k} (hm:nth hp m=some (.many (.l ct) [.ref r 0 W none] b)) (j:nth hp r=some (.row ct l b2)) (hl:l.length=W) (C:k (.v (.l (.l ct)) [l])):ZbS hp (n+3) (.ref m 0 1 none) k:=by
 simp only[ZbS,hm];refine⟨Xae 1, ?_⟩;have e:sub [SV.ref r 0 W none] 0 1=[.ref r 0 W none]:=rfl;rw[e];simp[Zdj,ZbS,j];refine⟨oM, ?_⟩;have I:sub l 0 W=l:=by rw[sub,XaP,Xax oM]
 have J:ZCF (.l ct) [SV.v (.l ct) (sub l 0 W)]=some [l]:=by rw[I];exact Zgz [l]
 rw[J];exact C
def Zei {ct m r W n l b b2} (hm:nth hp m=some (.many (.l ct) [.ref r 0 W none] b)) (j:nth hp r=some (.row ct l b2)):Zdz hp (n+2) (.ref m 0 1 none)=[m,r]:=by grind [sub,Zdz]
variable {N i dd:Nat} {ls:List Nat} {l:List Oper} {o:Oper} {ks:List (Nat × Nat × Bool)} {kk:TM->List SM->Prop} {V:SV}
end
section
variable {P:Program} {h:Hints} {T:TypeId->TI} {hp:List SM} {tm:TM} {N i:Nat} {ls:List Nat} {l:List Oper} {o:Oper} {ks:List (Nat × Nat × Bool)} {kk:TM->List SM->Prop} {V:SV}
def ZIm {y:Nat×Nat×Bool} {j:List (Nat×Nat×Bool)} {I C:Nat} {ids:List Nat} {c:Call} (hi:has i ls=false) (hd:Zpd h o ks=y::j) (hw:isW h o=true) (hl:ZkN (y::j)=I::ids) (J:o.op= .call c) (R:ZKp h tm c=false) (U:ZKy tm c=some (some C)) (hv:(ZeR hp C&&Zc4 hp (ZHI (y::j))&& !Zmj C (ZHI (y::j)))=true)
 (ho:opT P h T o.op tm hp λV hp'=>ZcX N o.dst V tm λtm'=>ZaL P h T N ls l (i+1) (y::j) tm' hp' kk):ZaL P h T N ls (o::l) i ks tm hp kk:=by simp_all [ZaL]
def Zpt {id:Nat} {ct:CT} {r:List ct.D} {m:Bool} (hn:nth hp id=some (.row ct r m)):ZeR hp id=true:=by rw[ZeR,hn];rfl
def ZxL (hp:List SM):List Nat->List SM->Prop
 | [],[]=>True
 |i::is,m::ms=>nth hp i=some m/\Zd0 m=[]/\ZxL hp is ms
 |_,_=>False
def ZAI: ∀ {is:List Nat} {ms:List SM},ZxL hp is ms->is.length=ms.length/\ ∀ (j:Nat) (x:SM),ms[j]? =some x-> ∃i,is[j]? =some i/\nth hp i=some x/\Zd0 x=[]
 | [],[],_=>⟨rfl,λj x h=>by simp at h⟩
 | [],_::_,h=>h.elim
 |_::_,[],h=>h.elim
 |i::is,m::ms,⟨I,J,R⟩=>by(let⟨g1,g2⟩:=ZAI R);refine⟨by simp[g1],λj x C=> ?_⟩;cases j with|zero=>cases C;exact⟨i,rfl,I,J⟩|succ j=>exact g2 j x C
theorem ZoX: ∀ {l:List Nat} {a b x:Nat},l.Nodup->l[a]? =some x->l[b]? =some x->a=b
 | [],_,_,_,_,h,_=>by simp at h
 |i::r,0,0,_,_,_,_=>rfl
 |i::r,0,b+1,x,hn,j,C=>by grind
 |i::r,a+1,0,x,hn,j,C=>by grind
 |i::r,a+1,b+1,x,hn,j,C=>congrArg (· +1) (ZoX (List.nodup_cons.1 hn).2 j C)
def Zbv {tm':TM} (is:List Nat) {ms:List SM} (hk:ZxL hp is ms) (aa:is.Nodup) (J:ZrG (λj=>is.getD j 0) ms.length tm tm'):Ent 0 tm hp tm' ms:=by
 let⟨hl,R⟩:=ZAI hk
 have I: ∀j,j<ms.length-> ∃x i,ms[j]? =some x/\is[j]? =some i/\is.getD j 0=i/\nth hp i=some x/\Zd0 x=[]:=λj C=>by(let⟨i,g1,g2,g3⟩:=R j ms[j] (Xac C));grind
 refine ZdZ (λj=>is.getD j 0) (Xak _) (λj C=>absurd C (XaS j)) (λj C=> ?_) (λa b ha hb ab=> ?_) J λj x U=> ?_;simp_all [Zvt];grind [ZoX];let⟨C,_⟩:=Xaf.1 U
 let⟨y,i,g1,_,g3,g4,g5⟩:=I j C
 rw[g1]at U;cases U;refine .inr ⟨?_,λid hid=>by rw[g5]at hid;exact absurd hid Xaq⟩;rw[g3,<-ZaA,g4,Zjz (λj C=>absurd C (XaS j)) x (λid hid=>by rw[g5]at hid;exact absurd hid Xaq)]
def ZiK {op:Op} {c:Call} {f:FuncId} {V W:SV} {k:SV->List SM->Prop} (ho:op= .call c) (j:c.callee= .value (.func f)) (C:evL tm c.args.toList=some [V,W]) (I:h.opn f=false) (J:h.imp f=false) (U:h.mem f=true) (he:ZbS hp 40 V λv=>ZbS hp 40 W λw=>PureOK P h f [v,w] λR=>k R (frzT hp (ZdC hp [V,W]))):opT P h T op tm hp k:=by simp_all [opT,Zhd,ZbY,ZDV,Zdj]
def Zmd {n:Nat} {t:CT} {x:t.D} {k:SV->Prop} (j:k (.v t x)):ZbS hp (n+2) (.v t x) k:=j
def ZKG {op:Op} {t:TypeId} {x j:Operand} {id:Nat} {s:List UInt8} {ks:List (List UInt8)} {k:SV->List SM->Prop} (ho:op= .lookup t x j false) (C:(T t).k= .smap) (I:evS tm x=some (.mp id)) (J:evS tm j=some (.v .s s)) (hn:nth hp id=some (.set ks)) (R:k (.v .b (ZwO s ks)) hp):opT P h T op tm hp k:=by simp_all [opT]
def ZL4 {op:Op} {t:TypeId} {m j x:Operand} {id:Nat} {s:List UInt8} {ks:List (List UInt8)} {k:SV->List SM->Prop} (ho:op= .mapUpdate t m j x) (C:(T t).k= .smap) (hm:evS tm m=some (.mp id)) (I:evS tm j=some (.v .s s)) (J:evS tm x=some (.v .b true)) (hn:nth hp id=some (.set ks)) (R:k (.tup []) (hp.set id (.set (ZCH s ks)))):opT P h T op tm hp k:=by simp_all [opT]
def ZMh {op:Op} {t:TypeId} {x j:Operand} {id:Nat} {s:Int} {c:CT} {ks:List (Int×c.D)} {k:SV->List SM->Prop} (ho:op= .lookup t x j false) (C:(T t).k= .imap c) (I:evS tm x=some (.mp id)) (J:evS tm j=some (.v (.i .i64) s)) (hn:nth hp id=some (.im c ks)) (R:ceq c c=true) (U:k (.v c (Zin c.z s ks)) hp):opT P h T op tm hp k:=by simp_all [opT]
def ZLb {op:Op} {t:TypeId} {m j x:Operand} {id:Nat} {s:Int} {c:CT} {v:c.D} {ks:List (Int×c.D)} {k:SV->List SM->Prop} (ho:op= .mapUpdate t m j x) (C:(T t).k= .imap c) (hm:evS tm m=some (.mp id)) (I:evS tm j=some (.v (.i .i64) s)) (J:evS tm x=some (.v c v)) (hn:nth hp id=some (.im c ks)) (R:ceq c c=true) (U:k (.tup []) (hp.set id (.im c (Zu7 s v ks)))):opT P h T op tm hp k:=by simp only[ho,opT,C,hm,I,J,hn];rw[dif_pos R];exact U
def Zoi {s:List UInt8}: ∀ {ks:List (List UInt8)},ZwO s ks=false->ZCH s ks=ks++ [s]
 | [],_=>rfl
 |k::r,h=>by rw[ZwO]at h;rw[ZCH];cases j:(s==k)with|true=>rw[j]at h;cases h|false=>rw[j]at h;rw[cond_false,Zoi h];rfl
end
def zin {i n:Nat} (h:i<n):(0:Int)<=(i:Int)/\(i:Int)<((n:Nat):Int):=by omega
def ZLY {k:Nat} (h:k<1000000):IntKind.i64.wrap ((k:Int)+1)=((k+1:Nat):Int):=by unfold IntKind.wrap IntKind.signed IntKind.bits;simp only[Bool.true_and];split<;>rename_i h<;>simp only[decide_eq_true_eq]at h<;>omega
def br1 {t:Bool} {A B:Prop} (h:t=true) (k:A):(t=true->A)/\(t=false->B):=⟨λ_=>k,λe=>by rw[h]at e;cases e⟩
def br0 {t:Bool} {A B:Prop} (h:t=false) (k:B):(t=true->A)/\(t=false->B):=⟨λe=>(by rw[h]at e;cases e),λ_=>k⟩
def nt1 {x:Bool} (h:x=true):(!x)=false:=by rw[h];rfl
def nt0 {x:Bool} (h:x=false):(!x)=true:=by rw[h];rfl
def axA {p:Prop} (h:p:=by first|with_reducible assumption|exact rfl|assumption):p:=h
def axE {p:Prop} (h:p:=by first|with_reducible assumption|exact rfl|exact nt1 (by with_reducible assumption)|exact nt0 (by with_reducible assumption)|assumption):p:=h
def axI {p:Prop} (h:p:=by first|with_reducible assumption|exact zin (by assumption)|assumption):p:=h
def ZpU:Op->Nat
 | .indexAddr .. =>1
 | .load .. =>2
 | .store .. =>3
 | .pick .. =>5
 | .call c=>match c.callee with
  | .value (.func _)=>4
  |_=>6
 |_=>0
section
variable {P:Program} {h:Hints} {T:TypeId->TI} {tm:TM} {hp hp':List SM} {op:Op} {k:SV->List SM->Prop} {V:SV}
def op0 (_:ZpU op=0) (he: ∀k,opT P h T op tm hp k=k V hp') (j:k V hp'):opT P h T op tm hp k:=by rw[he];exact j
def op1 (_:ZpU op=1) (j:opT P h T op tm hp k):opT P h T op tm hp k:=j
def op2 (_:ZpU op=2) (j:opT P h T op tm hp k):opT P h T op tm hp k:=j
def op3 (_:ZpU op=3) (j:opT P h T op tm hp k):opT P h T op tm hp k:=j
def op4 (_:ZpU op=4) (j:opT P h T op tm hp k):opT P h T op tm hp k:=j
def opQ (he: ∀k,opT P h T op tm hp k=k V hp') (j:k V hp'):opT P h T op tm hp k:=by rw[he];exact j
def opC {C:Prop} (he: ∀k,opT P h T op tm hp k=(C/\k V hp')) (j:C) (I:k V hp'):opT P h T op tm hp k:=by rw[he];exact⟨j,I⟩
def opY {α:Type} {A:Prop} {C:α->Prop} {W:α->SV} {x:α} (he: ∀k,opT P h T op tm hp k= ∃x,A/\C x/\k (W x) hp') (j:A) (I:C x) (J:k (W x) hp'):opT P h T op tm hp k:=by rw[he];exact⟨x,j,I,J⟩
def ZMx {c a b:Operand} {t:Bool} (ho:op= .pick c a b) (j:evS tm c=some (.v .b t)) (C:t=true) (I:evS tm a=some V) (J:k V hp):opT P h T op tm hp k:=by subst C;simp only[ho,opT,j,I];exact⟨λ_=>J,λh=>by cases h⟩
def ZMr {c a b:Operand} {t:Bool} (ho:op= .pick c a b) (j:evS tm c=some (.v .b t)) (C:t=false) (I:evS tm b=some V) (J:k V hp):opT P h T op tm hp k:=by subst C;simp only[ho,opT,j,I];exact⟨λh=>(by cases h),λ_=>J⟩
end
def axO {p q:Prop} (h:q) (k:Hid q->p:=by
 intro j;first
  |refine op0 rfl (λ_=>rfl) ?_
  |(refine op1 rfl ?_;first
   |refine ZaI rfl rfl rfl rfl rfl axA rfl axI ?_
   |refine ZaQ rfl rfl rfl rfl rfl axA rfl axI ?_
   |refine opC (λ_=>rfl) axE ?_
   |refine opY (λ_=>rfl) (by first|exact XaG _|exact Xby 0) (by assumption) ?_)
  |(refine op2 rfl ?_;first
   |refine Zbf rfl rfl axA (by assumption) rfl ?_
   |refine Za0 rfl rfl axA (by assumption) rfl ?_
   |refine ZbK rfl rfl axA rfl rfl ?_
   |refine opQ (λ_=>rfl) ?_)
  |(refine op3 rfl ?_;first
   |refine Zbw rfl rfl rfl axA rfl (by assumption) rfl rfl rfl ?_
   |refine opQ (λ_=>rfl) ?_
   |refine ZaS rfl rfl rfl axA rfl rfl rfl rfl ?_)
  |(refine op4 rfl ?_;refine PureOK.mono (by assumption) ?_;rintro _ rfl)
  |refine ZMx rfl rfl axE rfl ?_
  |refine ZMr rfl rfl axE rfl ?_
  |refine opQ (λ_=>rfl) ?_
  |refine opC (λ_=>rfl) axE ?_
 exact j.out):p:=k ⟨h⟩
def axM {p q:Prop} (h:q) (k:Hid q->p:=by
 intro j;repeat (first
  |with_reducible refine Ztz ?_
  |(refine Zag rfl ?_;refine axO ?_;first|refine Zaf rfl rfl ?_|refine Zat rfl ?_)
  |refine Zpw rfl rfl rfl rfl rfl ?_
  |refine Zn7 rfl rfl rfl axE rfl rfl ?_
  |(refine Zbq rfl rfl rfl axE ?_;refine axO ?_;first|refine Zaf rfl rfl ?_|refine Zat rfl ?_))
 exact j.out):p:=k ⟨h⟩
def axN {p q:Prop} (h:q) (k:Hid q->p:=by
 intro j;refine axM ?_;try (refine Hid.mk ?_;repeat (first|refine Zeq ?_|refine ZcH ?_))
 exact j.out):p:=k ⟨h⟩
def axG {p q:Prop} (h:q) (k:Hid q->p:=by intro j;refine ZHG ?_;refine axN ?_;exact j.out):p:=k ⟨h⟩
def ZDc {P:Program} {h:Hints} {T:TypeId->TI} {N i:Nat} {ls:List Nat} {ks:List (Nat×Nat×Bool)} {tm:TM} {hp:List SM} {k:TM->List SM->Prop} (j:Hid (k tm hp)):ZaL P h T N ls [] i ks tm hp k:=j.out
def ZLe {P:Program} {h:Hints} {T:TypeId->TI} {N i:Nat} {ls:List Nat} {ks:List (Nat×Nat×Bool)} {o:Oper} {l:List Oper} {tm:TM} {hp:List SM} {k:TM->List SM->Prop} (_:has i ls=true) (j:ZaL P h T N ls (o::l) i ks tm hp k):ZaL P h T N ls (o::l) i ks tm hp k:=j
def axK {p q:Prop} (h:q) (k:Hid q->p:=by
 intro j;repeat (first
  |with_reducible refine ZDc ?_
  |(refine ZLe rfl ?_;first
   |refine Zcs rfl rfl rfl rfl rfl ?_
   |refine ZEl rfl rfl rfl (λ_=>rfl) (by first|rfl|assumption|exact zin (by assumption)) rfl rfl ?_
   |refine ZEB rfl rfl rfl (λ_=>rfl) (by first|rfl|assumption|exact zin (by assumption)) rfl rfl ?_
   |refine ZD9 rfl rfl rfl (λ_=>rfl) (by assumption) rfl rfl ?_)
  |((first|refine Zak rfl rfl ?_|refine ZeC rfl rfl ?_);refine axO ?_;first|refine Zan rfl rfl ?_|refine Zat rfl ?_))
 try (refine Hid.mk ?_;repeat (first|refine Zeq ?_|refine ZcH ?_))
 exact j.out):p:=k ⟨h⟩
def axL {p q:Prop} (h:q) (k:Hid q->p:=by
 intro j;first|refine ZDm ?_|refine ZLA ?_
 refine axK ?_;exact j.out):p:=k ⟨h⟩
def axT {p q:Prop} (h:q) (k:Hid q->p:=by
 intro j;first|refine axG ?_|refine axN ?_|refine axL ?_|refine axK ?_
 repeat (first|refine br1 axE ?_|refine br0 axE ?_|refine axG ?_|refine axL ?_)
 exact j.out):p:=k ⟨h⟩
def ZAs {r p q:Prop} (a:r) (h:q) (k:r->Hid q->p:=by intro _ j;refine axT ?_;exact j.out):p:=k a ⟨h⟩
def ZAW {r s p q:Prop} (a:r) (b:s) (h:q) (k:r->s->Hid q->p:=by intro _ _ j;refine axT ?_;exact j.out):p:=k a b ⟨h⟩
variable {P:Program} {h:Hints} {T:TypeId->TI} {F:Nat} {tm:TM} {hp:List SM}
def eK {tm':TM} (j:ZJs tm tm':=by repeat (first|exact trivial|refine Xaa (by first|rfl|assumption|exact congrArg (λx=>some (SV.v (.i .i64) x)) (ZLY (by omega))|exact congrArg some (by congr)) ?_)):Ent F tm hp tm' hp:=Zah j
def eO {tm':TM} {hp':List SM} {σ:List Im} (j:ZKa tm tm' hp hp' 0 hp'=σ:=by exact rfl) (C:(ZhH σ&&ZqI F σ)=true:=by exact rfl)
 (h:ZzR σ tm tm'/\ZAf σ hp σ hp':=by repeat' (first|exact trivial|refine Xaa ?_ ?_|exact rfl|exact λ_=>rfl|exact id|assumption|exact Eq.symm (by assumption)|exact(ZLY (by omega)).symm)):Ent F tm hp tm' hp':=Zbx j C h.1 h.2
def Zfi (hT:TysOK P T) {c:Cx} {b:Code} {k:Ex->TM->List SM->Prop} (I:h.keep c.fid (ZdG b)=none) (j:Nat->TM) (C:Nat->List SM) (n:Nat)
 (round: ∀i,i<n->decide ((i:Int)<(n:Int))=true->wp P h T F c b (j i) (C i) (ZsZ F j C (λi=>i<=n) (λi=>n-i) i k)) (he:Ent F tm hp (j 0) (C 0))
 (last:decide ((n:Int)<(n:Int))=false->wp P h T F c b (j n) (C n) (ZsZ F j C (λi=>i<=n) (λi=>n-i) n k):=by intro J;refine axT ?_;exact⟨rfl,eK⟩):LoopOK P h F c b tm hp k:=by
 refine Zaq hT I j C (λi=>i<=n) (λi=>n-i) (λi hi=> ?_) 0 (Xak n) he
 rcases Nat.lt_or_eq_of_le hi with h|rfl
 ·exact round i h (decide_eq_true (by omega))
 ·exact last (decide_eq_false (Int.lt_irrefl _))
def nxt {j:Nat->TM} {C:Nat->List SM} {i n:Nat} {k:Ex->TM->List SM->Prop} (h:i<n) (he:Ent F tm hp (j (i+1)) (C (i+1))):ZsZ F j C (λi=>i<=n) (λi=>n-i) i k .normal tm hp:=⟨i+1,h,XaJ h (XaA i),he⟩
def Zkq {F hp tm k ct tm'} (hF:F<=hp.length) (hk:ZbJ k tm=some .nils) (ab: ∀i V,i≠k->ZbJ i tm'=some V->ZbJ i tm=some V) (ad:ZbJ k tm'=some (.ref hp.length 0 0 none)):Ent F tm hp tm' (hp++ [.row ct [] true]):=by
 refine⟨λφ st af hs=> ?_⟩;have hlen:=hs.hp.len;have ext: ∀id,id<hp.length->(φ++ [none])[id]? =φ[id]? :=λid h=>Xan oM
 have le:Le φ (φ++ [none]):=λid o h=>by rw[Xan (Xaf.1 h).1];exact h
 have new:(φ++ [(none:Option Nat)])[hp.length]? =some none:=by rw[Xaw oM,hlen,Xbi];rfl
 refine⟨φ++ [none],λid hid=>ext id oM, ?_, ?_⟩;intro i V hV;by_cases e:i=k;subst e;rw[ad]at hV;cases hV;let⟨q,I,J⟩:=hs.tm _ _ hk
 refine⟨q,I, ?_⟩;simp only[RV]at J|-;subst J;exact .inr ⟨new,rfl,trivial,trivial,rfl⟩;let⟨q,I,J⟩:=hs.tm _ _ (ab i V e hV)
 exact⟨q,I,RV.mono le _ _ J⟩;refine⟨by simp[hlen], ?_, ?_⟩;intro id sm o j ho;by_cases hid:id<hp.length;rw[Xan hid]at j;rw[ext id hid]at ho;exact RM.mono le (λ_ _ _=>rfl) (hs.hp.row id sm o j ho);have C:=(Xaf.1 j).1;simp at C;have e:id=hp.length:=oM;subst e;rw[Xaw (Xae _),Xbi]at j;cases j;rw[new]at ho;cases ho;rfl;intro id R sm aa a ae I J h3 h4 U h6;have lt: ∀id sm,(hp++ [SM.row ct [] true])[id]? =some sm->(φ++ [none])[id]? =some (some a)->id<hp.length:=by intro id sm I U;rcases Xa8 id hp.length with h|h;exact h;have C:=(Xaf.1 I).1;simp at C;have e:id=hp.length:=oM;subst e;rw[new]at U;cases U
 have l1:=lt id sm I U;have l2:=lt R aa J h6;rw[Xan l1]at I;rw[Xan l2]at J;rw[ext id l1]at U;rw[ext R l2]at h6;exact hs.hp.inj id R sm aa a ae I J h3 h4 U h6
end Go.Tx
namespace Go.Proofs.YtpdhpbldangmbaaGreatDoor
def ZiN (x:Nat×Nat) (v:Nat):Bool:=decide (x.1=v)||decide (x.2=v)
def oth (x:Nat×Nat) (v:Nat):Nat:=x.1+x.2-v
def Za2 (out:List Int) (v:Nat):Bool:=decide (out.getD v 0<0)
def Za9 (wo:Int) (at_ m:Nat):Nat->List (Nat×Nat)->List Int->List Nat->List Int×List Nat
 |_,[],out,todo=>(out,todo)
 |k,x::r,out,todo=>if(!decide ((k:Int)=wo)&&ZiN x at_&&Za2 out (oth x at_))=true then Za9 wo at_ m (k+1) r (out.set (oth x at_) m) (todo++ [oth x at_])else Za9 wo at_ m (k+1) r out todo
def cnt (out:List Int):Nat:=(out.filter λx=>decide (x<0)).length
def Zos: ∀ {out:List Int} {i:Nat} (m:Nat),Za2 out i=true->cnt (out.set i m)+1=cnt out
 | [],i,m,h=>by simp[Za2]at h
 |x::r,0,m,h=>by have j:x<0:=(by simpa[Za2]using h);have C:decide ((m:Int)<0)=false:=decide_eq_false oM;rw[List.set_cons_zero];simp only[cnt,List.filter_cons,C,decide_eq_true j,if_true,Xao];simp
 |x::r,i+1,m,h=>by have I:=Zos m (by simpa[Za2]using h);unfold cnt at I|-;rw[List.set_cons_succ,List.filter_cons,List.filter_cons];split<;>(try simp only[Xao])<;>omega
theorem Zvu {out:List Int} {i:Nat} (h:Za2 out i=true):i<out.length:=by unfold Za2 at h;grind
def ZrK {wo:Int} {at_ m:Nat} {k:Nat} {l:List (Nat×Nat)} (h:k<l.length) {out:List Int} {todo:List Nat} (j:(!decide ((k:Int)=wo)&&ZiN l[k] at_&&Za2 out (oth l[k] at_))=false):Za9 wo at_ m k (l.drop k) out todo=Za9 wo at_ m (k+1) (l.drop (k+1)) out todo:=by grind [XaM,Za9]
def Zr3 {wo:Int} {at_ m:Nat} {k:Nat} {l:List (Nat×Nat)} (h:k<l.length) {out:List Int} {todo:List Nat} (j:(!decide ((k:Int)=wo)&&ZiN l[k] at_&&Za2 out (oth l[k] at_))=true):Za9 wo at_ m k (l.drop k) out todo=Za9 wo at_ m (k+1) (l.drop (k+1)) (out.set (oth l[k] at_) m) (todo++ [oth l[k] at_]):=by grind [XaM,Za9]
def okL (n:Nat) (l:List (Nat×Nat)):Prop:= ∀x∈l,x.1<n/\x.2<n
def ZeN (wo:Int) (at_ m:Nat): ∀ (l:List (Nat×Nat)) (k:Nat) (out:List Int) (todo:List Nat),(Za9 wo at_ m k l out todo).1.length=out.length
 | [],_,_,_=>rfl
 |x::r,k,out,todo=>by rw[Za9];split;rw[ZeN wo at_ m r,Xap];exact ZeN wo at_ m r _ _ _
def ZgL (wo:Int) (at_ m:Nat): ∀ (l:List (Nat×Nat)) (k:Nat) (out:List Int) (todo:List Nat),cnt (Za9 wo at_ m k l out todo).1+(Za9 wo at_ m k l out todo).2.length=cnt out+todo.length
 | [],_,_,_=>rfl
 |x::r,k,out,todo=>by rw[Za9];split;rename_i h;simp only[Xas]at h;have:=Zos m h.2;rw[ZgL wo at_ m r,Xal,Xao,Xbq];omega;exact ZgL wo at_ m r _ _ _
def Zhh (wo:Int) (at_ m n:Nat): ∀ (l:List (Nat×Nat)) (k:Nat) (out:List Int) (todo:List Nat),out.length=n->(∀v∈todo,v<n)-> ∀v∈(Za9 wo at_ m k l out todo).2,v<n
 | [],_,_,_,_,h=>h
 |x::r,k,out,todo,ho,h=>by rw[Za9];split;rename_i j;refine Zhh wo at_ m n r _ _ _ (by rw[Xap];exact ho) ?_;grind [Xav,Zvu];exact Zhh wo at_ m n r _ _ _ ho h
def ZfE (wo:Int) (l:List (Nat×Nat)) (m:Nat):Nat->List Int->List Nat->List Int
 |0,out,_=>out
 |_+1,out,[]=>out
 |f+1,out,v::todo=>ZfE wo l m f (Za9 wo v m 0 l out todo).1 (Za9 wo v m 0 l out todo).2
def Zim (wo:Int) (l:List (Nat×Nat)) (m:Nat): ∀ (f:Nat) (out:List Int) (todo:List Nat),(ZfE wo l m f out todo).length=out.length
 |0,_,_=>rfl
 |_+1,_,[]=>rfl
 |f+1,out,v::todo=>by rw[ZfE,Zim wo l m f,ZeN]
def Zca (wo:Int) (l:List (Nat×Nat)):Nat->Nat->Nat->List Int->List Int
 |0,_,_,out=>out
 |k+1,i,m,out=>if Za2 out i=true then Zca wo l k (i+1) (m+1) (ZfE wo l m (cnt (out.set i m)+1) (out.set i m) [i])else Zca wo l k (i+1) m out
def ZeU (wo:Int) (l:List (Nat×Nat)) (n:Nat):List Int:=Zca wo l n 0 0 (List.replicate n (-1))
def Zha (wo:Int) (l:List (Nat×Nat)): ∀ (k i m:Nat) (out:List Int),(Zca wo l k i m out).length=out.length
 |0,_,_,_=>rfl
 |k+1,i,m,out=>by rw[Zca];split;rw[Zha wo l k,Zim,Xap];exact Zha wo l k _ _ _
def ZeF (wo:Int) (l:List (Nat×Nat)) (n:Nat):(ZeU wo l n).length=n:=by rw[ZeU,Zha,XaE]
def Nbd (m:Nat) (a b:List Int):Prop:=(∀j,0<=a.getD j 0->0<=b.getD j 0)/\((∀x∈a,x<=m)-> ∀x∈b,x<=m)
def Zxq (m:Nat) (a:List Int) (i:Nat):Nbd m a (a.set i m):=by refine⟨λj h=> ?_,λh x C=> ?_⟩;grind;grind
def Zjg (wo:Int) (at_ m:Nat): ∀ (l:List (Nat×Nat)) (k:Nat) (out:List Int) (todo:List Nat),Nbd m out (Za9 wo at_ m k l out todo).1
 | [],_,_,_=>⟨λ_ h=>h,λh=>h⟩
 |x::r,k,out,todo=>by rw[Za9];split;have C:=Zjg wo at_ m r (k+1) (out.set (oth x at_) m) (todo++ [oth x at_]);have I:=Zxq m out (oth x at_);exact⟨λj h=>C.1 j (I.1 j h),λh=>C.2 (I.2 h)⟩;exact Zjg wo at_ m r _ _ _
def ZqT (wo:Int) (l:List (Nat×Nat)) (m:Nat): ∀ (f:Nat) (out:List Int) (todo:List Nat),Nbd m out (ZfE wo l m f out todo)
 |0,_,_=>⟨λ_ h=>h,λh=>h⟩
 |_+1,_,[]=>⟨λ_ h=>h,λh=>h⟩
 |f+1,out,v::todo=>by rw[ZfE];have C:=Zjg wo v m l 0 out todo;have I:=ZqT wo l m f (Za9 wo v m 0 l out todo).1 (Za9 wo v m 0 l out todo).2;exact⟨λj h=>I.1 j (C.1 j h),λh=>I.2 (C.2 h)⟩
def Zhe (wo:Int) (l:List (Nat×Nat)): ∀ (k i m:Nat) (out:List Int),(∀j,j<i->0<=out.getD j 0)->(∀x∈out,x<m)->m<=i->(∀j,j<i+k->0<=(Zca wo l k i m out).getD j 0)/\ ∀x∈Zca wo l k i m out,x<((i+k:Nat):Int)
 |0,i,m,out,J,I,R=>⟨J,λx C=>by have:=I x C;omega⟩
 |k+1,i,m,out,J,I,R=>by have e:i+(k+1)=i+1+k:=oM;rw[Zca,e];cases hn:Za2 out i with|true=>have d0:=Zxq m out i;have d1:=ZqT wo l m (cnt (out.set i m)+1) (out.set i m) [i];refine Zhe wo l k (i+1) (m+1) _ (λj U=>d1.1 j ?_) (λx C=>by have:=(d1.2 (d0.2 λx C=>by have:=I x C;omega)) x C;omega) oM;by_cases c:j=i;grind;exact d0.1 j (J j oM)|false=>refine Zhe wo l k (i+1) m out (λj U=> ?_) I oM;grind [Za2]
def Zm9 (wo:Int) (l:List (Nat×Nat)) (n:Nat): ∀x∈ZeU wo l n,0<=x/\x<(n:Int):=by
 have h:=Zhe wo l n 0 0 (List.replicate n (-1)) (λj I=>absurd I (XaS j)) (λx C=>by rw[List.eq_of_mem_replicate C];decide) (Xae 0);rw[Xag]at h;intro x C;obtain⟨j,I,rfl⟩:=List.mem_iff_getElem.1 C;refine⟨?_,h.2 _ C⟩;have hl:=ZeF wo l n;have:=h.1 j oM;have e:(Zca wo l n 0 0 (List.replicate n (-1))).getD j 0=(ZeU wo l n)[j]:=by rw[XaB,show Zca wo l n 0 0 (List.replicate n (-1))=ZeU wo l n from rfl,Xac I];rfl
 omega
end Go.Proofs.YtpdhpbldangmbaaGreatDoor
namespace Go.Tx
open Go.Am
section
variable {P:Program} {h:Hints} {T:TypeId->TI} {hp:List SM} {tm:TM} {op:Op} {k:SV->List SM->Prop}
def ZGd {t e:TypeId} {x a:Operand} {id i n:Nat} {ct:CT} {l:List ct.D} {bb:Bool} {I:IntKind} {u:Int} (ho:op= .slice t x (some a) none none) (J:evS tm x=some (.ref id i n none)) (j:(T t).k= .slice e) (R:ZcL (T e).k=false) (hn:nth hp id=some (.row ct l bb)) (C:Nat.beq ct.w (T e).sz=true)
 (U:evS tm a=some (.v (.i I) u)) (hj:0<=u/\u<=(n:Int)) (hk:k (.ref id (i+u.toNat) (n-u.toNat) none) hp):opT P h T op tm hp k:=by subst ho;simp[opT,J,ZuX,j,hn,C,ZEH,U];generalize(T e).k=q at*;cases q<;>first|(cases R;done)|(simp[];rw[C];exact⟨hj,hk⟩)
end
end Go.Tx
namespace Go.Proofs.YtpdhpbldangmbaaGreatDoor
open Go.Tx
def Zbd:TI:=⟨.func,1,8,[.nilf],none⟩
def ZEs:TI:=⟨.ptr,1,8,[.nilp],none⟩
def ZKC:TI:=⟨.int .i64,1,8,[.v (.i .i64) (0:Int)],some (.i .i64)⟩
def ZKv:TI:=⟨.int .u8,1,1,[.v (.i .u8) (0:Int)],some (.i .u8)⟩
def ZKH:TI:=⟨.str,1,16,[.v .s []],some (.s)⟩
def ZKl:TI:=⟨.struct [(0,9,1),(1,9,1),(2,3,1),(3,3,1),(4,3,1)],5,56,[.v .s [], .v .s [], .v (.i .i64) (0:Int), .v (.i .i64) (0:Int), .v (.i .i64) (0:Int)],some (.p (.s) (.p (.s) (.p (.i .i64) (.p (.i .i64) (.i .i64)))))⟩
def ZKS:TI:=⟨.int .u64,1,8,[.v (.i .u64) (0:Int)],some (.i .u64)⟩
def ZKL:TI:=⟨.any,1,16,[.nili],some (.any)⟩
def ZKY:TI:=⟨.int .i32,1,4,[.v (.i .i32) (0:Int)],some (.i .i32)⟩
def ZMa:TI:=⟨.struct [(0,2,1),(1,3,1),(2,4,1),(3,6,1)],4,24,[.v (.i .i64) (0:Int), .v (.i .i64) (0:Int), .v .b false, .v (.i .u8) (0:Int)],some (.p (.i .i64) (.p (.i .i64) (.p (.b) (.i .u8))))⟩
def ZIV:TI:=⟨.struct [(0,9,1),(1,12,1)],2,24,[.v .s [], .v (.i .u64) (0:Int)],some (.p (.s) (.i .u64))⟩
def ZJH:TI:=⟨.struct [(0,17,1)],1,8,[.nilp],none⟩
def ZJn:TI:=⟨.struct [(0,22,1),(1,23,1),(2,24,1),(3,25,1),(4,26,1),(5,27,1)],6,144,[.nils, .nils, .nils, .nils, .nils, .nils],some (.p (.l (.s)) (.p (.l (.p (.s) (.p (.s) (.p (.s) (.p (.b) (.b)))))) (.p (.l (.p (.s) (.p (.s) (.p (.s) (.p (.i .i64) (.p (.i .i64) (.p (.i .i64) (.p (.i .i64) (.p (.i .i64) (.i .i64)))))))))) (.p (.l (.p (.s) (.p (.s) (.p (.i .i64) (.p (.i .i64) (.i .i64)))))) (.p (.l (.p (.s) (.p (.s) (.i .i64)))) (.l (.p (.s) (.p (.s) (.p (.i .i64) (.p (.i .i64) (.i .i64)))))))))))⟩
def ZJP:TI:=⟨.slice 44,1,24,[.nils],some (.l (.s))⟩
def ZIp:TI:=⟨.struct [(0,35,1),(1,35,1)],2,48,[.nils, .nils],some (.p (.l (.s)) (.l (.s)))⟩
def ZJ0:TI:=⟨.struct [(0,30,1),(1,30,1)],2,48,[.nils, .nils],some (.p (.l (.i .i64)) (.l (.i .i64)))⟩
def ZIH:TI:=⟨.slice 35,1,24,[.nils],some (.l (.l (.s)))⟩
def ZJt:TI:=⟨.struct [(0,9,1),(1,9,1),(2,9,1),(3,3,1),(4,3,1),(5,3,1),(6,3,1),(7,3,1),(8,3,1)],9,96,[.v .s [], .v .s [], .v .s [], .v (.i .i64) (0:Int), .v (.i .i64) (0:Int), .v (.i .i64) (0:Int), .v (.i .i64) (0:Int), .v (.i .i64) (0:Int), .v (.i .i64) (0:Int)],some (.p (.s) (.p (.s) (.p (.s) (.p (.i .i64) (.p (.i .i64) (.p (.i .i64) (.p (.i .i64) (.p (.i .i64) (.i .i64)))))))))⟩
def ZJI:TI:=⟨.struct [(0,9,1),(1,9,1),(2,3,1)],3,40,[.v .s [], .v .s [], .v (.i .i64) (0:Int)],some (.p (.s) (.p (.s) (.i .i64)))⟩
def ZHX:TI:=⟨.struct [(0,9,1),(1,9,1),(2,9,1),(3,4,1),(4,4,1)],5,56,[.v .s [], .v .s [], .v .s [], .v .b false, .v .b false],some (.p (.s) (.p (.s) (.p (.s) (.p (.b) (.b)))))⟩
def ZJ5:TI:=⟨.struct [(0,9,1),(1,22,1),(2,4,1),(3,4,1)],4,48,[.v .s [], .nils, .v .b false, .v .b false],some (.p (.s) (.p (.l (.s)) (.p (.b) (.b))))⟩
def ZIu:TI:=⟨.struct [(0,104,1),(1,22,1)],2,32,[.nilmp, .nils],none⟩
def ZJL:TI:=⟨.slice 61,1,24,[.nils],some (.l (.l (.p (.p (.b) (.l (.i .u32))) (.p (.b) (.l (.i .u32))))))⟩
def ZI0:TI:=⟨.struct [(0,55,2),(2,30,1),(3,30,1),(4,61,1),(5,61,1),(6,30,1),(7,111,1)],8,192,[.nils, .nils, .nils, .nils, .nils, .nils, .nils, .nils],some (.p (.p (.l (.i .i64)) (.l (.i .i64))) (.p (.l (.i .i64)) (.p (.l (.i .i64)) (.p (.l (.p (.p (.b) (.l (.i .u32))) (.p (.b) (.l (.i .u32))))) (.p (.l (.p (.p (.b) (.l (.i .u32))) (.p (.b) (.l (.i .u32))))) (.p (.l (.i .i64)) (.l (.l (.p (.p (.b) (.l (.i .u32))) (.p (.b) (.l (.i .u32))))))))))))⟩
def ZJm:TI:=⟨.struct [(0,4,1),(1,114,1)],2,32,[.v .b false, .nils],some (.p (.b) (.l (.i .u32)))⟩
def ZI1:TI:=⟨.struct [(0,116,2),(2,116,2)],4,64,[.v .b false, .nils, .v .b false, .nils],some (.p (.p (.b) (.l (.i .u32))) (.p (.b) (.l (.i .u32))))⟩
def ZJB:TI:=⟨.struct [(0,186,1),(1,155,1)],2,32,[.nilp, .nils],none⟩
def ZHY:TI:=⟨.struct [(0,9,1),(1,9,1),(2,191,1)],3,48,[.v .s [], .v .s [], .nili],some (.p (.s) (.p (.s) (.any)))⟩
def ZIw:TI:=⟨.struct [(0,9,1)],1,16,[.v .s []],some (.s)⟩
def ZIB:TI:=⟨.struct [(0,17,1),(1,17,1),(2,17,1),(3,9,1)],4,40,[.nilp, .nilp, .nilp, .v .s []],none⟩
def ZIk:TI:=⟨.struct [(0,241,0)],0,0,[],none⟩
def ZJi:TI:=⟨.struct [(0,12,1),(1,12,1),(2,158,1),(3,244,1),(4,5,1),(5,5,1),(6,245,1),(7,246,1),(8,204,1),(9,247,1),(10,248,1)],11,48,[.v (.i .u64) (0:Int), .v (.i .u64) (0:Int), .v (.i .u32) (0:Int), .v (.i .u8) (0:Int), .v (.i .u8) (0:Int), .v (.i .u8) (0:Int), .v (.i .u8) (0:Int), .nilf, .nilp, .v (.i .i32) (0:Int), .v (.i .i32) (0:Int)],none⟩
def ZMY:Tr:=
 (.nd 118 (.nd 60 (.nd 29 (.nd 15 (.nd 8 (.nd 4 (.nd 2 (.lf 1 Zbd) (.nd 3 (.lf 2 ZKC) (.lf 3 ZKC))) (.nd 6 (.nd 5 (.lf 4 ⟨.bool,1,1,[.v .b false],some (.b)⟩) (.lf 5 ZKv)) (.nd 7 (.lf 6 ZKv) (.lf 7 ZMa)))) (.nd 11 (.nd 9 (.lf 8 ZMa) (.nd 10 (.lf 9 ZKH) (.lf 10 ZKH))) (.nd 13 (.nd 12 (.lf 11 ZKH) (.lf 12 ZKS)) (.nd 14 (.lf 13 ZIV) (.lf 14 ZIV))))) (.nd 22 (.nd 18 (.nd 16 (.lf 15 ZEs) (.nd 17 (.lf 16 ZEs) (.lf 17 ZEs))) (.nd 20 (.nd 19 (.lf 18 ZJH) (.lf 19 ZJH)) (.nd 21 (.lf 20 ZKL) (.lf 21 ZKY)))) (.nd 25 (.nd 23 (.lf 22 ⟨.slice 9,1,24,[.nils],some (.l (.s))⟩) (.nd 24 (.lf 23 ⟨.slice 83,1,24,[.nils],some (.l (.p (.s) (.p (.s) (.p (.s) (.p (.b) (.b))))))⟩) (.lf 24 ⟨.slice 72,1,24,[.nils],some (.l (.p (.s) (.p (.s) (.p (.s) (.p (.i .i64) (.p (.i .i64) (.p (.i .i64) (.p (.i .i64) (.p (.i .i64) (.i .i64))))))))))⟩))) (.nd 27 (.nd 26 (.lf 25 ⟨.slice 77,1,24,[.nils],some (.l (.p (.s) (.p (.s) (.p (.i .i64) (.p (.i .i64) (.i .i64))))))⟩) (.lf 26 ⟨.slice 81,1,24,[.nils],some (.l (.p (.s) (.p (.s) (.i .i64))))⟩)) (.nd 28 (.lf 27 ⟨.slice 79,1,24,[.nils],some (.l (.p (.s) (.p (.s) (.p (.i .i64) (.p (.i .i64) (.i .i64))))))⟩) (.lf 28 ZJn)))))) (.nd 45 (.nd 36 (.nd 32 (.nd 30 (.lf 29 ZJn) (.nd 31 (.lf 30 ⟨.slice 3,1,24,[.nils],some (.l (.i .i64))⟩) (.lf 31 Zbd))) (.nd 34 (.nd 33 (.lf 32 ZKC) (.lf 33 Zbd)) (.nd 35 (.lf 34 ZJP) (.lf 35 ZJP)))) (.nd 40 (.nd 37 (.lf 36 ZIp) (.nd 39 (.lf 37 ZIp) (.lf 39 Zbd))) (.nd 43 (.nd 42 (.lf 40 Zbd) (.lf 42 Zbd)) (.nd 44 (.lf 43 Zbd) (.lf 44 ZKH))))) (.nd 53 (.nd 49 (.nd 47 (.lf 45 Zbd) (.nd 48 (.lf 47 Zbd) (.lf 48 Zbd))) (.nd 51 (.nd 50 (.lf 49 Zbd) (.lf 50 Zbd)) (.nd 52 (.lf 51 Zbd) (.lf 52 Zbd)))) (.nd 56 (.nd 54 (.lf 53 Zbd) (.nd 55 (.lf 54 ZJ0) (.lf 55 ZJ0))) (.nd 58 (.nd 57 (.lf 56 Zbd) (.lf 57 Zbd)) (.nd 59 (.lf 58 ⟨(.imap (.i .i64)),1,8,[.nilmp],none⟩) (.lf 59 ZEs))))))) (.nd 90 (.nd 76 (.nd 68 (.nd 63 (.nd 61 (.lf 60 Zbd) (.nd 62 (.lf 61 ⟨.slice 118,1,24,[.nils],some (.l (.p (.p (.b) (.l (.i .u32))) (.p (.b) (.l (.i .u32)))))⟩) (.lf 62 Zbd))) (.nd 66 (.nd 65 (.lf 63 Zbd) (.lf 65 Zbd)) (.nd 67 (.lf 66 ZIH) (.lf 67 ZIH)))) (.nd 71 (.nd 69 (.lf 68 Zbd) (.nd 70 (.lf 69 Zbd) (.lf 70 Zbd))) (.nd 73 (.nd 72 (.lf 71 ZJt) (.lf 72 ZJt)) (.nd 75 (.lf 73 Zbd) (.lf 75 Zbd))))) (.nd 83 (.nd 79 (.nd 77 (.lf 76 ZKl) (.nd 78 (.lf 77 ZKl) (.lf 78 ZKl))) (.nd 81 (.nd 80 (.lf 79 ZKl) (.lf 80 ZJI)) (.nd 82 (.lf 81 ZJI) (.lf 82 ZHX)))) (.nd 86 (.nd 84 (.lf 83 ZHX) (.nd 85 (.lf 84 ⟨.slice 32,1,24,[.nils],some (.l (.i .i64))⟩) (.lf 85 Zbd))) (.nd 88 (.nd 87 (.lf 86 Zbd) (.lf 87 Zbd)) (.nd 89 (.lf 88 Zbd) (.lf 89 Zbd)))))) (.nd 104 (.nd 97 (.nd 93 (.nd 91 (.lf 90 Zbd) (.nd 92 (.lf 91 Zbd) (.lf 92 ⟨.slice 95,1,24,[.nils],some (.l (.p (.s) (.p (.l (.s)) (.p (.b) (.b)))))⟩))) (.nd 95 (.nd 94 (.lf 93 Zbd) (.lf 94 ZJ5)) (.nd 96 (.lf 95 ZJ5) (.lf 96 Zbd)))) (.nd 100 (.nd 98 (.lf 97 ⟨.slice 99,1,24,[.nils],some (.l (.p (.i .i64) (.i .i64)))⟩) (.nd 99 (.lf 98 Zbd) (.lf 99 ⟨.arr 2 3,2,16,[.v (.i .i64) (0:Int), .v (.i .i64) (0:Int)],some (.p (.i .i64) (.i .i64))⟩))) (.nd 102 (.nd 101 (.lf 100 ⟨.slice 134,1,24,[.nils],some (.l (.l (.b)))⟩) (.lf 101 Zbd)) (.nd 103 (.lf 102 Zbd) (.lf 103 Zbd))))) (.nd 111 (.nd 107 (.nd 105 (.lf 104 ⟨.smap,1,8,[.nilmp],none⟩) (.nd 106 (.lf 105 ZIu) (.lf 106 ZIu))) (.nd 109 (.nd 108 (.lf 107 Zbd) (.lf 108 Zbd)) (.nd 110 (.lf 109 Zbd) (.lf 110 ZJL)))) (.nd 114 (.nd 112 (.lf 111 ZJL) (.nd 113 (.lf 112 ZI0) (.lf 113 ZI0))) (.nd 116 (.nd 115 (.lf 114 ⟨.slice 158,1,24,[.nils],some (.l (.i .u32))⟩) (.lf 115 ZJm)) (.nd 117 (.lf 116 ZJm) (.lf 117 ZI1)))))))) (.nd 188 (.nd 151 (.nd 134 (.nd 127 (.nd 121 (.nd 119 (.lf 118 ZI1) (.nd 120 (.lf 119 Zbd) (.lf 120 Zbd))) (.nd 124 (.nd 122 (.lf 121 ⟨(.imap .b),1,8,[.nilmp],none⟩) (.lf 122 Zbd)) (.nd 126 (.lf 124 Zbd) (.lf 126 Zbd)))) (.nd 130 (.nd 128 (.lf 127 Zbd) (.nd 129 (.lf 128 Zbd) (.lf 129 Zbd))) (.nd 132 (.nd 131 (.lf 130 Zbd) (.lf 131 Zbd)) (.nd 133 (.lf 132 Zbd) (.lf 133 Zbd))))) (.nd 142 (.nd 138 (.nd 136 (.lf 134 ⟨.slice 4,1,24,[.nils],some (.l (.b))⟩) (.nd 137 (.lf 136 Zbd) (.lf 137 Zbd))) (.nd 140 (.nd 139 (.lf 138 Zbd) (.lf 139 Zbd)) (.nd 141 (.lf 140 Zbd) (.lf 141 Zbd)))) (.nd 146 (.nd 143 (.lf 142 Zbd) (.nd 145 (.lf 143 Zbd) (.lf 145 Zbd))) (.nd 149 (.nd 147 (.lf 146 Zbd) (.lf 147 Zbd)) (.nd 150 (.lf 149 Zbd) (.lf 150 Zbd)))))) (.nd 168 (.nd 159 (.nd 155 (.nd 153 (.lf 151 Zbd) (.nd 154 (.lf 153 Zbd) (.lf 154 Zbd))) (.nd 157 (.nd 156 (.lf 155 ⟨.slice 5,1,24,[.nils],some (.l (.i .u8))⟩) (.lf 156 Zbd)) (.nd 158 (.lf 157 Zbd) (.lf 158 ⟨.int .u32,1,4,[.v (.i .u32) (0:Int)],some (.i .u32)⟩)))) (.nd 163 (.nd 161 (.lf 159 Zbd) (.nd 162 (.lf 161 Zbd) (.lf 162 ZKS))) (.nd 165 (.nd 164 (.lf 163 Zbd) (.lf 164 ZKS)) (.nd 166 (.lf 165 Zbd) (.lf 166 Zbd))))) (.nd 179 (.nd 172 (.nd 169 (.lf 168 Zbd) (.nd 170 (.lf 169 Zbd) (.lf 170 Zbd))) (.nd 175 (.nd 173 (.lf 172 Zbd) (.lf 173 Zbd)) (.nd 177 (.lf 175 Zbd) (.lf 177 Zbd)))) (.nd 183 (.nd 181 (.lf 179 Zbd) (.nd 182 (.lf 181 Zbd) (.lf 182 Zbd))) (.nd 186 (.nd 185 (.lf 183 Zbd) (.lf 185 Zbd)) (.nd 187 (.lf 186 ZEs) (.lf 187 ZJB))))))) (.nd 223 (.nd 206 (.nd 197 (.nd 191 (.nd 189 (.lf 188 ZJB) (.nd 190 (.lf 189 Zbd) (.lf 190 ZKL))) (.nd 194 (.nd 193 (.lf 191 ZKL) (.lf 193 Zbd)) (.nd 196 (.lf 194 Zbd) (.lf 196 Zbd)))) (.nd 202 (.nd 199 (.lf 197 Zbd) (.nd 201 (.lf 199 Zbd) (.lf 201 Zbd))) (.nd 204 (.nd 203 (.lf 202 Zbd) (.lf 203 Zbd)) (.nd 205 (.lf 204 ZEs) (.lf 205 Zbd))))) (.nd 215 (.nd 209 (.nd 207 (.lf 206 ⟨.arr 2 9,2,32,[.v .s [], .v .s []],some (.p (.s) (.s))⟩) (.nd 208 (.lf 207 Zbd) (.lf 208 Zbd))) (.nd 211 (.nd 210 (.lf 209 ⟨.arr 24 5,24,24,List.replicate 24 (.v (.i .u8) (0:Int)),none⟩) (.lf 210 Zbd)) (.nd 213 (.lf 211 Zbd) (.lf 213 Zbd)))) (.nd 219 (.nd 216 (.lf 215 Zbd) (.nd 218 (.lf 216 Zbd) (.lf 218 Zbd))) (.nd 221 (.nd 220 (.lf 219 Zbd) (.lf 220 ⟨.arr 20 162,20,160,List.replicate 20 (.v (.i .u64) (0:Int)),none⟩)) (.nd 222 (.lf 221 ⟨.arr 65 5,65,65,List.replicate 65 (.v (.i .u8) (0:Int)),none⟩) (.lf 222 Zbd)))))) (.nd 237 (.nd 230 (.nd 226 (.nd 224 (.lf 223 Zbd) (.nd 225 (.lf 224 Zbd) (.lf 225 ZKC))) (.nd 228 (.nd 227 (.lf 226 Zbd) (.lf 227 ZEs)) (.nd 229 (.lf 228 Zbd) (.lf 229 Zbd)))) (.nd 233 (.nd 231 (.lf 230 ⟨.arr 32 5,32,32,List.replicate 32 (.v (.i .u8) (0:Int)),none⟩) (.nd 232 (.lf 231 ⟨.arr 64 5,64,64,List.replicate 64 (.v (.i .u8) (0:Int)),none⟩) (.lf 232 ZHY))) (.nd 235 (.nd 234 (.lf 233 ZHY) (.lf 234 Zbd)) (.nd 236 (.lf 235 ZEs) (.lf 236 ZIw))))) (.nd 244 (.nd 240 (.nd 238 (.lf 237 ZIw) (.nd 239 (.lf 238 Zbd) (.lf 239 ZIB))) (.nd 242 (.nd 241 (.lf 240 ZIB) (.lf 241 ⟨.arr 0 16,0,0,[],none⟩)) (.nd 243 (.lf 242 ZIk) (.lf 243 ZIk)))) (.nd 247 (.nd 245 (.lf 244 ZKv) (.nd 246 (.lf 245 ZKv) (.lf 246 Zbd))) (.nd 249 (.nd 248 (.lf 247 ZKY) (.lf 248 ZKY)) (.nd 250 (.lf 249 ZJi) (.lf 250 ZJi)))))))))
def tys (t:Nat):TI:=ZMY.find t
def Zaa:TysOK Tryz.prog tys:=ZIO (by decide+kernel)
end Go.Proofs.YtpdhpbldangmbaaGreatDoor
