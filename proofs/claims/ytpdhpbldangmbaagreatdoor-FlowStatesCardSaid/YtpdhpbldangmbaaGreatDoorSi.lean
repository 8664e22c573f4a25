/- A text of a number; flow.Check. -/
import Derived.Test.YtpdhpbldangmbaaGreatDoorSh
set_option linter.all false
set_option maxHeartbeats 16000000
set_option maxRecDepth 1000000
open Go.Proofs.Tryz
namespace Go.Proofs.YtpdhpbldangmbaaGreatDoor
noncomputable section
open Go.RowKit Go.Shelf Go.Lib Dv Go.Tx Go.Am Go.Sort
def Zh5 {T e:TypeId} {B b:Nat} {j:List Value} {w w':World} (h:Lib.IsBuilderF T e B b j w) (J:Below w.heap.size w w'):Lib.IsBuilderF T e B b j w':=by
 have at_: ∀p,Lib.BuilderAtF T e B b p j w->Lib.BuilderAtF T e B b p j w':=by
  rintro p ⟨R,v,U,⟨h3,C⟩,h5⟩;have lt: ∀ (k:Nat) (o:Obj),w.heap[k]? =some o->w'.heap[k]? =some o:=λk o I=>by rw[J.block k (Xbj.1 I).1];exact I
  refine⟨R,v,lt _ _ U,⟨h3, ?_⟩,h5⟩;rcases C with C|⟨g,cap,cur,fz,h6,h7,h8,h9⟩;exact .inl C;exact .inr ⟨g,cap,cur,fz,h6,h7,lt _ _ h8,h9⟩
 exact h.imp (at_ _) (at_ _)
def ZiT (w:World) (k:Nat) (os:Array Obj):Below w.heap.size w (grow (w.drewN k) os):=
 ⟨rfl,rfl,rfl,by simp[grow],λi hi=>by simp[grow,World.heap_drewN];rw[Array.getElem?_append_left hi]⟩
def ZAd (a b:List UInt8):(⟨a.toArray⟩++⟨b.toArray⟩:ByteArray)=⟨(a++b).toArray⟩:=by apply ByteArray.ext;simp
def Zmr (f:Nat->Value):Nat->Nat->List Value
 |0,_=> []
 |n+1,i=>f i::Zmr f n (i+1)
def ZpA (f:Nat->Value): ∀ (l:List Value) (i:Nat),(∀j,j<l.length->l[j]? =some (f (i+j)))->l=Zmr f l.length i
 | [],_,_=>rfl
 |x::l,i,h=>by show x::l=f i::Zmr f l.length (i+1);rw[<-ZpA f l (i+1) λj C=>by have:=h (j+1) (Nat.succ_lt_succ C);rwa[show i+(j+1)=i+1+j by omega]at this];rw[Xbp (h 0 (Nat.succ_pos _))];rfl
def ZzJ (l:List Value) {n:Nat} (h:l.length=n):l=Zmr (λi=>l.getD i undef) n 0:=by subst h;exact ZpA _ l 0 λj C=>by rw[Xag,XaB,Xac C];rfl
def ZA5 (m:Bool) (C:List Nat) (av:C≠ []) (h9: ∀p∈C,p<1000000000) (hlen:C.length<=300) (b1 o1 b4 o4 cap:Nat) (f:Nat->Value) (f1:f 1= .pointer (some ⟨b1,o1,none⟩)) (f4:f 4= .slice (some ⟨b4,o4,none⟩) C.length cap) (I:World)
 (ai:b1<I.heap.size) (aj:b4<I.heap.size) (hm:I.cell? ⟨b1,o1,none⟩=some (.bool m)) (hc: ∀j (hj:j<C.length),I.cell? ⟨b4,o4+j,none⟩=some (.int .u32 (C[j]:Nat)))
 (g:Nat) (hg:prog.globalNamed Zhr=some g) (ak:g<I.heap.size) (ae:Lib.TabIs prog I Zhr .u64 Lib.pow10Tab):
 (Zp9 5 (bodyOf Tryz.f109)).wp prog (bodyPost prog Tryz.f109 λe w'=>e= .returned (.tuple #[.string ⟨((match m with|true=> [45]|false=> [])++Zco C).toArray⟩, .bool (Nat.ble (Zco C).length 2000)])/\Below I.heap.size I w')
  ⟨(Zmr f 72 0).toArray,[]⟩ I:=by
 simp only[Zmr,Nat.reduceAdd,f1,f4];conv=>arg 2;simp only[Zp9,bodyOf,Tryz.f109]
 go_wp2;go_loopw [9] (λv wr=> ∃i:Nat,i<=C.length/\v= .int .i64 ((i:Int)-1)/\Lib.IsBuilderF 188 5 I.heap.size I.heap.size (Lib.byteCells (Zco (C.drop i))) wr/\Below I.heap.size I wr/\I.heap.size<=wr.heap.size)
  (λv _=>match v with| .int _ x=>(x+1).toNat|_=>0)
 case atStart=>
  refine⟨C.length,Xae _, ?_, ?_,(Below.refl _ I).alloc (Xae _) _,sM⟩
  ·rfl
  ·rw[Xbo]
   exact Lib.IsBuilderF.of (Lib.fresh_isBuilder 188 5 I)
 case round=>
  obtain⟨i,hi,rfl,hI,U,af⟩:=hrel
  rcases i with _|j
  ·rw[XaP]at hI
   have ag:=ZlS C h9
   go_wp2_with (go_at_call 125;refine(Zmb I.heap.size I.heap.size (Zco C) _ hI af).mono ?_)
   rintro e W1 ⟨rfl,_,al,_⟩
   have aa:=U.trans al
   have aw:=(aa.cell ai).trans hm
   have ax:decide (((Zco C).length:Int)<=2000)=Nat.ble (Zco C).length 2000:=by
    cases hb:Nat.ble (Zco C).length 2000 with|true=>have:=Xam hb;exact decide_eq_true oM|false=>refine decide_eq_false λh=> ?_;rw[Nat.ble_eq_true_of_le oM]at hb;cases hb
   cases m
   ·go_wp2
    go_ret2
    refine⟨?_,aa⟩
    show Ending.returned (.tuple #[.string ⟨(Zco C).toArray⟩, .bool (Nat.ble (Zco C).length 2000)])=_
    rfl
   ·go_wp2
    go_ret2
    refine⟨?_,aa⟩
    show Ending.returned (.tuple #[.string (⟨[45].toArray⟩++⟨(Zco C).toArray⟩), .bool (Nat.ble (Zco C).length 2000)])=_
    rw[ZAd];rfl
  ·have hj:j<C.length:=oM
   let⟨p,hp⟩: ∃p,C[j]=p:=⟨_,rfl⟩
   have an:=hp▸h9 _ (XaI hj)
   have ay:wr.cell? ⟨b4,o4+j,none⟩=some (.int .u32 (p:Nat)):=by rw[U.cell aj,hc j hj,hp]
   have J:=Zty hg (U.block g ak) ae
   have az:IntKind.u64.wrap (p:Int)=p:=by rw[IntKind.wrap_u64];omega
   have ao:(((j+1:Nat):Int)-1)=j:=oM
   rw[ao]
   have aq:(decDigits p).length<=9:=(Zcp dC).2 an
   have a1:((decDigits p).length:Int)<=9:=oM
   have ag:=ZlS (C.drop (j+1)) λx hx=>h9 x (XbE hx)
   rw[XbC]at ag
   have ah:C.drop j=p::C.drop (j+1):=by rw[XaM hj,hp]
   have R: ∀k os,Below I.heap.size I (grow (wr.drewN k) os):=λk os=>U.trans ((ZiT wr k os).mono af)
   by_cases ab:j+1=C.length
   ·have ar: ¬ ((j:Int)<(C.length:Int)-1):=oM
    go_wp2_with (go_at_call 123;refine(Zzf p oM _ J).mono ?_;rintro e W1 ⟨rfl,k,os,rfl⟩)
    go_at_call 124
    refine(Ze7 I.heap.size I.heap.size _ _ _ (Zh5 hI (ZiT wr k os)) ?_ ?_).mono ?_
    ·rw[Lib.byteCells_length]
     show _+(decDigits p).toArray.size<=_
     rw[List.size_toArray];omega
    ·exact(R k os).size
    rintro e W2 ⟨rfl,h2,b2,_⟩
    go_wp2
    go_roundw
    case rel=>
     refine⟨j,oM,by go_num, ?_,(R k os).trans b2,((R k os).trans b2).size⟩
     refine Or.inr ?_
     have e:Zco (C.drop j)=Zco (C.drop (j+1))++decDigits p:=by
      rw[ah,ab,Xbo];rfl
     rw[e,Lib.byteCells_append]
     exact h2
    case measure=>
     show((j:Int)-1+1).toNat<((j:Int)+1).toNat
     omega
   ·have ar:((j:Int)<(C.length:Int)-1):=oM
    go_wp2_with (go_at_call 123;refine(Zzf p oM _ J).mono ?_;rintro e W1 ⟨rfl,k,os,rfl⟩)
    have hz: ∀L,L<=9->(⟨#[48,48,48,48,48,48,48,48,48]⟩:ByteArray).extract L 9=⟨(List.replicate (9-L) 48).toArray⟩:=by
     intro L hL;have: ∀L:Fin 10,(⟨#[48,48,48,48,48,48,48,48,48]⟩:ByteArray).extract L.val 9=⟨(List.replicate (9-L.val) 48).toArray⟩:=by decide+kernel
     exact this ⟨L,oM⟩
    rw[hz _ aq]
    go_at_call 124
    refine(Ze7 I.heap.size I.heap.size _ _ _ (Zh5 hI (ZiT wr k os)) ?_ ?_).mono ?_
    ·rw[Lib.byteCells_length]
     show _+(List.replicate (9-(decDigits p).length) (48:UInt8)).toArray.size<=_
     rw[List.size_toArray,XaE];omega
    ·exact(R k os).size
    rintro e W2 ⟨rfl,h2,b2,_⟩
    have e2:Lib.byteCells (Zco (C.drop (j+1)))++Lib.strCells ⟨(List.replicate (9-(decDigits p).length) (48:UInt8)).toArray⟩=Lib.byteCells (Zco (C.drop (j+1))++List.replicate (9-(decDigits p).length) 48):=by
     rw[Lib.byteCells_append];rfl
    rw[e2]at h2
    have ad:=(R k os).trans b2
    go_wp2_with (go_at_call 124;refine(Ze7 I.heap.size I.heap.size _ _ _ (Or.inr h2) ?_ ad.size).mono ?_)
    ·rw[Lib.byteCells_length,Xal,XaE]
     show _+(decDigits p).toArray.size<=_
     rw[List.size_toArray];omega
    rintro e W3 ⟨rfl,h3,b3,_⟩
    go_wp2
    go_roundw
    case rel=>
     refine⟨j,oM,by go_num, ?_,ad.trans b3,(ad.trans b3).size⟩
     refine Or.inr ?_
     have e:Zco (C.drop j)=(Zco (C.drop (j+1))++List.replicate (9-(decDigits p).length) 48)++decDigits p:=by
      rw[ah,ZwH p (by rw[ne_eq,List.drop_eq_nil_iff];omega),ZAT,Xa7]
     rw[e,Lib.byteCells_append]
     exact h3
    case measure=>
     show((j:Int)-1+1).toNat<((j:Int)+1).toNat
     omega
def ZtQ:Am.Hints:=ZqJ λ_=>none
def ZyV (j:List Nat):List Int:=j.map λn:Nat=>(n:Int)
def Zz2 {k:Nat} {A:Int} (h:(1000000000:Int)^k<=A) (j:A<4294967296^210):k<=299:=by
 rcases Xa8 k 300 with h1|h1;omega;have C:(1000000000:Int)^300<=1000000000^k:=ZiR (b:=1000000000) (by decide) h1;have I:(4294967296:Int)^210<1000000000^300:=by decide+kernel
 exact absurd (Int.lt_of_lt_of_le I (Int.le_trans C (Int.le_trans h (Xbw j)))) (Int.lt_irrefl _)
def ZJZ (a:List Int) (j:List Nat):Prop:=(a≠ []->j≠ [])/\(∀p∈j,p<1000000000)/\(2<=j.length->j.getLast?≠some 0)/\(pvN j:Int)=wv a/\j.length<=300
def ZBu (m:Bool) (a:List Int) (ha:Wd a) (hl:a.length<=210):LoopOK prog ZtQ 0 ⟨109,0,72⟩ (ZaN Tryz.f109 7) [(1, .ptr 0 0 0),(4, .nils),(5,ZbC a)] [.cell [.v .b m,ZbC a] true]
 (λe tm hp=>e= .exit 0/\ ∃j,ZJZ a j/\ZbJ 1 tm=some (.ptr 0 0 0)/\ZbJ 4 tm=some (.ref 1 0 j.length none)/\hp=[.cell [.v .b m,ZbC a] true, .row (.i .u32) (ZyV j) true]):=by
 refine Zaq Zaa rfl (λ(s:List Nat×List Int)=> [(1, .ptr 0 0 0),(4, .ref 1 0 s.1.length none),(5,ZbC s.2)]) (λs=> [.cell [.v .b m,ZbC a] true, .row (.i .u32) (ZyV s.1) true])
  (λs=>Wd s.2/\s.2.length<=210/\(s.1=[]->s.2=a)/\(s.1≠ []->Nz s.2)/\(∀p∈s.1,p<1000000000)/\(wv s.2=0->2<=s.1.length->s.1.getLast?≠some 0)/\(pvN s.1:Int)+1000000000^s.1.length*wv s.2=wv a/\s.1.length<=300) (λs=>(wv s.2).toNat+s.2.length) ?_ ([],a) ?_ ?_
 rintro⟨j,cur⟩ ⟨hw,ae,h1,h2,h3,h4,I,aa⟩;simp only at hw ae h1 h2 h3 h4 I aa;refine Xaa (λh=> ?_) (λh=> ?_);have J:cur≠ []:=by rintro rfl;have h':(0:Int)<(([]:List Int).length:Int):=dT h;simp at h'
 have al:=Zbu hw;have an:0<=wv cur % 1000000000:=Int.emod_nonneg _ (by decide);have ao:wv cur % 1000000000<1000000000:=Int.emod_lt_of_pos _ (by decide);obtain⟨r,hr⟩: ∃r:Nat,wv cur % 1000000000=r:=⟨(wv cur % 1000000000).toNat,by omega⟩;have af:=Zbu ha;have hA:wv a<4294967296^210:=Int.lt_of_lt_of_le af.2 (ZiR (b:=4294967296) (by decide) hl);have aq:j.length<=299:=by by_cases C:j=[];subst C;simp;have h5:=Zqv hw (h2 C) J;refine Zz2 (A:=wv a) ?_ hA;have h6:(1000000000:Int)^j.length*1<=1000000000^j.length*wv cur:=Xbt (by omega) (Xbw (Xb0 (by decide)));omega
 have ar:(ZyV j).length=j.length:=by simp[ZyV]
 refine(ZmB _ rfl cur 1000000000 hw (by decide) (by decide) (by omega)).mono ?_;rintro _ ⟨q,rfl,ag,au,ah⟩;refine Xaa (by show 0+1<=1;decide) ?_;refine Xaa (by show 0+j.length<=(ZyV j).length;omega) ?_;refine Xaa (by show(j.length+(0+1))*4<=_;omega) ?_;refine(ZEA _ rfl false q ag (by omega)).mono ?_;rintro _ ⟨s,rfl,R,ab,av,ai⟩;have aw:=Zbu R;have e1:wv s=wv cur/1000000000:=by rw[ai,ah]
 have e2:ZyV (j++ [r])=sub (ZyV j) 0 j.length++ [wv cur % 1000000000]:=by rw[sub,XaP,Xax (by omega),hr];simp[ZyV]
 refine⟨(j++ [r],s),⟨R, ?_, ?_, ?_, ?_, ?_, ?_, ?_⟩, ?_, ?_⟩;show s.length<=210;omega;intro h;simp at h;intro _;exact ab;intro p hp;rcases XaO.1 hp with hp|hp;exact h3 p hp;rw[Xav.1 hp];omega;intro h0 U;have h0:wv s=0:=h0;rw[List.getLast?_concat];have C:j≠ []:=by rintro rfl;simp at U
 have:=Zqv hw (h2 C) J;intro e;cases e;omega;show(pvN (j++ [r]):Int)+1000000000^(j++ [r]).length*wv s=wv a;have e5:((pvN (j++ [r]):Nat):Int)=pvN j+1000000000^j.length*(r:Int):=by rw[ZzO,XbZ,Xa6,Int.natCast_pow];rfl
 rw[e5,Xal,List.length_singleton,XbB,e1,<-I];have e3:=XbU (wv cur) 1000000000;rw[hr]at e3;have e4:(1000000000:Int)^j.length*wv cur=1000000000^j.length*(r:Int)+1000000000^j.length*1000000000*(wv cur/1000000000):=by rw[<-e3,Int.mul_add,Int.mul_assoc,e3]
 rw[e4];omega;show(j++ [r]).length<=300;simp;omega;show(wv s).toNat+s.length<(wv cur).toNat+cur.length;have ak:1<=cur.length:=by cases cur with|nil=>exact absurd rfl J|cons x l=>simp
 by_cases hz:wv cur=0;have hs:s=[]:=by rcases s with _|⟨x,l⟩;rfl;have:=Zqv R ab (by simp);omega
 subst hs;simp[wv];omega;omega;refine Zbx rfl rfl ?_ ?_;exact⟨⟨rfl,rfl⟩,⟨rfl,(by simp:(j++ [r]).length=j.length+1),(by simp:(j++ [r]).length=j.length+1)⟩,rfl,trivial⟩;exact⟨⟨⟨rfl,rfl,trivial⟩,λ_=>rfl⟩,⟨e2,λ_=>rfl⟩,trivial⟩;have aj:cur=[]:=by cases cur with|nil=>rfl|cons x r=>have h': ¬ (0:Int)<((x::r).length:Int):=dF h;simp at h'
 subst aj;refine⟨rfl,j,⟨?_,h3,λU=>h4 rfl U, ?_, ?_⟩,rfl,rfl,rfl⟩;exact λad C=>ad (h1 C).symm;simpa[wv]using I;exact aa;exact⟨ha,hl,λ_=>rfl,λh=>absurd rfl h,λp hp=>by simp at hp,λ_ h=>by simp at h,by simp[pvN],by simp⟩;refine Zbx rfl rfl ?_ ?_;exact⟨⟨rfl,rfl⟩,⟨rfl,rfl,rfl⟩,rfl,trivial⟩;exact⟨⟨⟨rfl,rfl,trivial⟩,λ_=>rfl⟩,rfl,trivial⟩
def ZLK (m:Bool) (a:List Int) (e:Ex) (tm:TM) (hp:List SM):Prop:=
 (e= .ret/\ ∃s f,ZbJ 2 tm=some (.v .s s)/\ZbJ 3 tm=some (.v .b f)/\s=ZeV m a/\f=ZeA a)\/
 (e= .normal/\a≠ []/\a.length<=210/\ ∃j,ZJZ a j/\ZbJ 1 tm=some (.ptr 0 0 0)/\ZbJ 4 tm=some (.ref 1 0 j.length none)/\hp=[.cell [.v .b m,ZbC a] true, .row (.i .u32) (ZyV j) true])
def ZGU (m:Bool) (a:List Int) (R:Wd a):wp prog ZtQ tys 0 ⟨109,0,72⟩ (preC 5 (bodyOf Tryz.f109)) (ZcQ 0 [.agg [.v .b m,ZbC a]]) [] (ZLK m a):=by
 refine Xaa rfl ?_;refine Xaa (λh=> ?_) (λh=> ?_);have he:a=[]:=by have J:=dT h;exact Xbv.1 oM
 subst he;exact .inl ⟨rfl,_,_,rfl,rfl,rfl,rfl⟩;have j:a≠ []:=by rintro rfl;exact absurd rfl (dF h: ¬ (([]:List Int).length:Int)=0)
 have he:a.isEmpty=false:=by simpa using j
 refine Xaa rfl ?_;refine Xaa (λI=> ?_) (λI=> ?_);have hl:210<a.length:=by have J:=dT I;omega
 have C:Nat.ble a.length 210=false:=by cases C:Nat.ble a.length 210 with|false=>rfl|true=>have:=Xam C;omega
 exact .inl ⟨rfl,_,_,rfl,rfl,by simp only[ZeV,he,C],by simp only[ZeA,he,C]⟩;have hl:a.length<=210:=by have J:=dF I;omega
 refine Xaa rfl ?_;refine((ZBu m a R hl).ent ?_).mono ?_;exact eO;rintro e tm hp ⟨rfl,U,h3,h4,h5,h6⟩;exact .inr ⟨rfl,j,hl,U,h3,h4,h5,h6⟩
def ZE6:Static prog ZtQ:=Zdk ZsA λf hf=>by cases hf
def ZJG:Zbk prog ZtQ:=λf g j=>by cases j
def ZpK: ∀ {es:List (List PV)} {a:List Int},ZfZ es=some a->Wd a/\All2 (RR (.i .u32)) a es
 | [],a,h=>by cases h;exact⟨λx I=>by simp at I,trivial⟩
 |c::r,a,h=>by unfold ZfZ at h;split at h;rename_i heq;cases heq;rename_i x U heq;cases heq;split at h;rename_i C;simp[decide_eq_true_eq]at C;(cases j:ZfZ r with|none=>rw[j]at h;cases h|some l=>rw[j]at h;cases h;(let⟨J,R⟩:=ZpK j);refine⟨λy hy=> ?_,rfl,R⟩;rcases XaF.1 hy with rfl|hy;exact C;exact J y hy);cases h;cases h
def Zno {φ w S b}: ∀ {l:List Int} {es:List (List PV)} {o:Nat},All2 (RR (.i .u32)) l es->VE φ w S es b o-> ∀j (C:j<l.length),w.cell? ⟨b,o+j,none⟩=some (.int .u32 l[j])
 | [],_,_,_,_,j,C=>by simp at C
 |x::l,[],_,h,_,_,_=>by cases h
 |x::l,c::es,o,h,I,j,C=>by(let⟨J,R⟩:=h);subst J;obtain⟨⟨⟨_,v,U,rfl⟩,_⟩,h4⟩:=I;cases j with|zero=>exact U|succ j=>have:=Zno R h4 j (by simpa using C);grind
def ZwC (m:Bool) (a:List Int) (ha:Wd a) (qs:List PV) (hr:RL [] [.agg [.v .b m,ZbC a]] qs) (S:Nat->Prop) (w:World) (vals:List Value) (an: ∀b,S b->b<w.heap.size) (hL:Laid.ok S w) (hv:LRel w S qs vals):
 Calls prog 109 vals.toArray w λe w'=>e= .returned (.tuple #[.string ⟨(ZeV m a).toArray⟩, .bool (ZeA a)])/\Below w.heap.size w w':=by
 refine ZzF ZE6 ZJG Zaa (fn:=Tryz.f109) (code:=bodyOf Tryz.f109) 5 (by kernel_rfl) func109 (by kernel_rfl) (Xam (by kernel_rfl)) (by kernel_rfl) (ZGU m a ha) hr an hL hv ?_;intro e st tm hp a7 a' w' φ' S' hK hs hI hE hT;refine⟨λao=> ?_,λhn=> ?_⟩;rcases hK with⟨rfl,s,f,R,h3,rfl,rfl⟩|⟨rfl,_⟩;obtain⟨q2,g2,r2⟩:=hs.tm _ _ R;obtain⟨q3,g3,r3⟩:=hs.tm _ _ h3;simp only[RV,RR,List.cons.injEq,and_true]at r2 r3;subst r2 r3;obtain⟨u,h8,h9⟩:=ZfA (P:=prog) (fn:=Tryz.f109) (vs:=[.str ⟨(ZeV m a).toArray⟩, .bool (ZeA a)]) (tm:=st.tm) (H:=st.hp) (by show Za3 (Zj2 prog st.tm st.hp) [.tmp 2, .tmp 3]=_;simp only[Zbn,Zyt,Zj2,g2,g3,Xad]) hI hT;simp only[ZbW,VRel,VL]at h9;obtain⟨arr,rfl,_,_,aq,rfl,_,_,rfl,rfl,rfl⟩:=h9;refine⟨hT.2.1,_,h8, ?_,hE.below⟩;have:arr= #[.string ⟨(ZeV m a).toArray⟩, .bool (ZeA a)]:=by apply Array.ext';rw[aq]
 rw[this];exact absurd rfl ao;rcases hK with⟨rfl,_⟩|⟨_,U,ae,ns,⟨hp1,af,ar,au,av⟩,k1,k4,rfl⟩;cases hn;have aa:=hp1 U;obtain⟨q1,g1,r1⟩:=hs.tm _ _ k1;obtain⟨q4,g4,r4⟩:=hs.tm _ _ k4;simp only[RV]at r1 r4;obtain⟨p0,f0,rfl⟩:=r1;have ag:ns.length≠0:=λh=>aa (Xbv.1 h);rcases r4 with⟨p1,f1,rfl⟩|⟨_,_,_,h0,_⟩;have m0:=hs.hp.row 0 _ _ rfl f0;have m1:=hs.hp.row 1 _ _ rfl f1;simp only[RM,RL,RV,RR,List.cons.injEq,and_true]at m0 m1;obtain⟨_,a8,m',e0,c0,⟨_,_,rfl,rfl,qw,_,rfl,_,rfl⟩,_⟩:=m0;cases e0;obtain⟨es,ba,c1,ce,_⟩:=m1;obtain⟨_,v1⟩:=hT.2.2 1 _ g1;obtain⟨_,v4⟩:=hT.2.2 4 _ g4;simp only[VRel,Option.getD_none]at v1 v4;obtain⟨l0,e0,aw⟩:=v1;obtain⟨l1,ad,cap,e1,ax,_,_,ah⟩:=v4;rcases ah with⟨h0,_⟩|⟨ay,_⟩;exact absurd h0 ag;subst ay;have R0:=hI.row p0 l0 _ _ _ e0 c0;have R1:=hI.row p1 l1 _ _ _ e1 c1;have L0:=hI.live p0 l0 e0;have L1:=hI.live p1 l1 e1;obtain⟨⟨⟨_,vm,hm,ai⟩,_⟩,_⟩:=R0.cells;simp only[VRel]at ai;subst ai;obtain⟨g,hg,az,aj⟩:=hI.laid;obtain⟨tmps,a1⟩:=a';have a6:a1=[]:=hT.2.1;subst a6;obtain⟨l⟩:=tmps;have ak:=ZzJ l hT.1;have I:(λi=>l.getD i undef) 1= .pointer (some ⟨l0.b,l0.o,none⟩):=Eq.trans (by simp) (Eq.trans aw (by simp));have h4:(λi=>l.getD i undef) 4= .slice (some ⟨l1.b,l1.o,none⟩) ns.length cap:=Eq.trans (by simp) (Eq.trans ax (by simp));generalize(λi=>l.getD i undef)=f at ak I h4;rw[ak];have J: ∀j (hj:j<ns.length),w'.cell? ⟨l1.b,l1.o+j,none⟩=some (.int .u32 (ns[j]:Nat)):=λj hj=>by have:=Zno ce R1.cells j (by simpa[ZyV]using hj);rw[this];simp[ZyV]
 refine wp_mono (ZA5 m ns aa af av l0.b l0.o l1.b l1.o cap f I h4 w' L0.2.1 L1.2.1 hm J g hg (hI.stable g az) aj) ?_;have C: ∀e w2,(e=Ending.returned (.tuple #[.string ⟨((match m with|true=> [45]|false=> [])++Zco ns).toArray⟩, .bool (Nat.ble (Zco ns).length 2000)])/\Below w'.heap.size w' w2)->e= .returned (.tuple #[.string ⟨(ZeV m a).toArray⟩, .bool (ZeA a)])/\Below w.heap.size w w2:=by rintro e w2 ⟨rfl,hb⟩;have hj:Zco ns=ZCN 2100 (wv a).toNat:=(by rw[ZCr aa af ar,ZsY];rw[<-au];simp;decide;have I:=(Zbu ha).2;have R:(4294967296:Int)^a.length<=4294967296^210:=ZiR (b:=4294967296) (by decide) ae;have h3:(4294967296:Int)^210<((10^2100:Nat):Int):=(by decide+kernel);omega);have ab:Nat.ble a.length 210=true:=Nat.ble_eq_true_of_le ae;have al:a.isEmpty=false:=(by simpa using U);refine⟨?_,hE.below.trans (hb.mono hE.below.size)⟩;simp only[ZeV,ZeA,al,ab,hj];cases m<;>rfl
 intro e a2 w2 hq;cases e with|normal=>obtain⟨I,v,R,h3⟩:=hq;exact⟨I,v,R,C _ _ h3⟩|ret=>obtain⟨I,v,R,h3⟩:=hq;exact⟨I,v,R,C _ _ h3⟩|panic c=>obtain⟨I,R⟩:=hq;exact⟨I,C _ _ R⟩|outgrown=>exact C _ _ hq|_=>exact hq.elim
 exact absurd h0 ag
def ZgG: ∀C v,textG C=some v-> ∀ (S:Nat->Prop) w vals,(∀b,S b->b<w.heap.size)->Laid.ok S w->LRel w S C vals->
 Calls prog 109 vals.toArray w λe w'=> ∃u,e= .returned u/\Below w.heap.size w w'/\IRel w' (λb=>S b\/(w.heap.size<=b/\b<w'.heap.size)) v u:=by
 intro C v j S w vals J R U;have main: ∀m a,Wd a->RL [] [.agg [.v .b m,ZbC a]] C->v= .tup [.str ⟨(ZeV m a).toArray⟩, .bool (ZeA a)]->Calls prog 109 vals.toArray w λe w'=> ∃u,e= .returned u/\Below w.heap.size w w'/\IRel w' (λb=>S b\/(w.heap.size<=b/\b<w'.heap.size)) v u:=by rintro m a ha I rfl;refine(ZwC m a ha C I S w vals J R U).mono ?_;rintro e w' ⟨rfl,hb⟩;refine⟨_,rfl,hb, ?_⟩;simp only[IRel];exact⟨_,rfl,by simp[LRel,IRel]⟩
 unfold textG at j;split at j;rename_i m;cases j;refine main m [] (λx hx=>by simp at hx) ?_ rfl;simp only[RL,RV,RR];exact⟨_,_,rfl,⟨_,rfl,_,_,rfl,rfl,_,_,rfl, .inl ⟨rfl,trivial⟩,rfl⟩,rfl⟩;rename_i m es;cases hw:ZfZ es with|none=>rw[hw]at j;cases j|some a=>rw[hw]at j;cases j;obtain⟨h1,h2⟩:=ZpK hw;refine main m a h1 ?_ rfl;simp only[RL,RV,RR];exact⟨_,_,rfl,⟨_,rfl,_,_,rfl,rfl,_,_,rfl, .inr ⟨_,rfl,h2⟩,rfl⟩,rfl⟩
 cases j
def Zfe: ∀C v,indexG C=some v-> ∀ (S:Nat->Prop) w vals,(∀b,S b->b<w.heap.size)->Laid.ok S w->LRel w S C vals->
 Calls prog 137 vals.toArray w λe w'=> ∃u,e= .returned u/\Below w.heap.size w w'/\IRel w' (λb=>S b\/(w.heap.size<=b/\b<w'.heap.size)) v u:=by
 intro C v j S w vals hS hL I;unfold indexG at j;split at j;rename_i s t;split at j;rename_i c J;cases j;simp only[LRel,IRel]at I;obtain⟨_,_,rfl,rfl,_,_,rfl,rfl,rfl⟩:=I;have R:t=⟨#[c]⟩:=by cases t with|mk d=>have U:d.toList=[c]:=J;have h2:d= #[c]:=(by rw[<-Array.toList_inj,U]);rw[h2]
 subst R;refine(Any.stringslite_Index_one Tryz.lays219 s c w).mono ?_;rintro e w' ⟨rfl,rfl⟩;refine⟨_,rfl,Below.refl _ _, ?_⟩;rw[ZHL];simp only[IRel];cases j;cases j
open Go.ChangeMaps (setBlock)
def ZKz (es:Array MapEntry):Bool:=es.toList.all λx=>decide (valOf x.val=0)
def Zxe {w:World} {r m s c seen} (h:w.heap[r]? =some (.mapIter m s seen c)):w.iterSeen r=seen:=by unfold World.iterSeen;rw[h]
def ZwE {B w C j o} (h:Below B w C) (hB:B<C.heap.size) (hd:j=C\/j=C.drew):Below B w (setBlock j B o):=by
 have e:j.heap=C.heap/\j.os=C.os/\j.tape=C.tape/\j.output=C.output:=by rcases hd with rfl|rfl<;>exact⟨rfl,rfl,rfl,rfl⟩
 let⟨I,J,R,U⟩:=e
 refine⟨?_, ?_, ?_, ?_,λi hi=> ?_⟩;show j.os=_;rw[J];exact h.os;show j.tape=_;rw[R];exact h.tape;show j.output=_;rw[U];exact h.output;show w.heap.size<=(j.heap.setIfInBounds B o).size;rw[Array.size_setIfInBounds,I];exact h.size;show(j.heap.setIfInBounds B o)[i]? =_;rw[Array.getElem?_setIfInBounds_ne oM,I];exact h.block i hi
def ZJu {j C r o} (hB:r<C.heap.size) (hd:j=C\/j=C.drew):(setBlock j r o).heap[r]? =some o:=by
 have I:j.heap=C.heap:=by rcases hd with rfl|rfl<;>rfl
 show(j.heap.setIfInBounds r o)[r]? =_;grind
def ZAk (b clock:Nat) (es:Array MapEntry) (f:Nat->Value) (I:World) (hb:I.heap[b]? =some (.map es clock)) (ak: ∀x∈es.toList,x.born<clock) (ad:(es.toList.map (·.born)).Nodup) (hv: ∀x∈es.toList,∃v,x.val= .int .i64 v):
 (Zp9 6 (bodyOf Tryz.f6)).wp prog (bodyPost prog Tryz.f6 λe' w'=>e'= .returned (.int .i64 (bif ZKz es then 0 else 14))/\Below I.heap.size I w')
  ⟨(f 0::f 1::f 2::f 3::f 4::f 5::f 6:: .map (some b)::f 8::f 9::f 10::f 11::f 12::f 13::f 14::f 15::f 16::f 17::f 18::f 19::f 20::f 21::f 22::f 23::f 24::f 25::f 26::f 27::f 28::f 29::f 30::f 31::f 32::f 33::f 34::f 35::f 36::f 37::f 38::f 39::f 40::f 41::f 42::f 43::f 44::f 45::f 46::f 47::f 48::f 49::f 50::f 51::f 52::f 53::f 54::f 55::f 56::f 57::f 58::f 59::f 60::[]).toArray,[]⟩ I:=by
 conv=>arg 2;simp only[Zp9,bodyOf,Tryz.f6]
 have U:=(Xbj.1 hb).1;let⟨w2,R⟩: ∃w2,I.alloc (.mapIter (some b) clock #[] clock)=w2:=⟨_,rfl⟩
 have ae:=run_range_map I 58 3 3 b es clock underlying58 hb;rw[R]at ae;have r2:w2.heap[I.heap.size]? =some (.mapIter (some b) clock #[] clock):=by rw[<-R];exact(MapKept.heap_alloc I _).1
 have af:Below I.heap.size I w2:=by rw[<-R];exact(Below.refl _ I).alloc (Xae _) _
 let⟨ro,ag⟩: ∃ro,I.heap.size=ro:=⟨_,rfl⟩
 rw[ag]at r2 af ae U;rw[ag];clear R;go_wp2;go_loopw [] (λw'=> ∃ (seen:Array Nat) (c0:Nat),w'.heap[ro]? =some (.mapIter (some b) clock seen c0)/\clock<=c0/\Below ro I w'/\ ∀x∈es.toList,seen.contains x.born=true->valOf x.val=0) (λw'=>(leftOf es (w'.iterSeen ro)).size);case atStart=>exact⟨#[],clock,r2,Xae _,af,λx _ h=>by simp at h⟩
 case round=>
  let⟨seen,c0,hr,hc,hB,ah⟩:=hrel
  have al:=(hB.block b U).trans hb
  have ai:=(Xbj.1 hr).1
  rcases run_next_at wr 0 ro b clock c0 seen es clock hr al ak hc with⟨h0,j⟩|⟨e,he,w3,hd,j⟩
  ·have an: ∀ty,(Instr.next (.pointer (some ⟨ro,0,none⟩)) false ty).run prog wr=_:=λ_=>j
   have J:ZKz es=true:=XaH.2 λx hx=>decide_eq_true (ah x hx (all_seen es seen h0 x hx))
   go_wp2
   go_ret
   exact⟨by rw[J];rfl,hB⟩
  ·let⟨v,C⟩:=hv e (mem_left he).1
   let⟨w4,aa⟩: ∃w4,setBlock w3 ro (.mapIter (some b) clock (seen.push e.born) clock)=w4:=⟨_,rfl⟩
   have ab:=aa▸ZwE hB ai hd
   have r4:=aa▸ZJu ai hd
   have b4:=(ab.block b U).trans hb
   have ao:=run_entry_at (P:=prog) w4 ro b clock seen es clock e r4 b4 (mem_left he).1 ad
   rw[C]at ao
   rw[C,aa]at j
   have an: ∀ty,(Instr.next (.pointer (some ⟨ro,0,none⟩)) false ty).run prog wr=_:=λ_=>j
   go_wp2
   ·rename_i aq
    have h:v≠0:=by simpa using aq
    have J:ZKz es=false:=List.all_eq_false.2 ⟨e,(mem_left he).1,by rw[C];simp[valOf,h]⟩
    go_ret
    exact⟨by rw[J];rfl,ab⟩
   ·rename_i heq
    have h:v=0:=by simpa using heq
    go_roundw
    case rel=>
     refine⟨seen.push e.born,clock,r4,Xae _,ab,λx hx aj=> ?_⟩
     rw[contains_push]at aj
     rcases Bool.or_eq_true _ _▸aj with h1|h1
     ·exact ah x hx h1
     ·have:=born_inj ad hx (mem_left he).1 (beq_iff_eq.1 h1)
      subst this
      rw[C]
      exact h
    case measure=>
     rw[Zxe r4,Zxe hr]
     exact left_shrinks es seen e he
def ZGA {f:Nat->Value} {b} (h:f 7= .map (some b)):(List.range 61).map f=f 0::f 1::f 2::f 3::f 4::f 5::f 6:: .map (some b)::f 8::f 9::f 10::f 11::f 12::f 13::f 14::f 15::f 16::f 17::f 18::f 19::f 20::f 21::f 22::f 23::f 24::f 25::f 26::f 27::f 28::f 29::f 30::f 31::f 32::f 33::f 34::f 35::f 36::f 37::f 38::f 39::f 40::f 41::f 42::f 43::f 44::f 45::f 46::f 47::f 48::f 49::f 50::f 51::f 52::f 53::f 54::f 55::f 56::f 57::f 58::f 59::f 60::[]:=by rw[<-h];rfl
section
variable [Laid] {P:Program} {h:Hints}
def Zmp (hS:Static P h) (hP:Zbk P h) {c:Cx}: ∀ (n N:Nat) (code:Code) (s:St) (e:Ex) (J:St),Ztn n code=true->(Zc2 P h N).ex c (preC n code) s=some (e,J)->Zbs h c.fid (preC n code)=true->
 ∀φ S w a B,Inv φ s.hp w S B->TRel φ w S c.N s.tm a->c.base<=s.hp.length-> ∀Q:Exit->Act->World->Prop,
 (∀R w' φ' S',Inv φ' J.hp w' S' B->Evo c.base B φ S w φ' S' w'->TRel φ' w' S' c.N J.tm R->(e≠ .normal->Q (conv e) R w')/\(e= .normal->(Zp9 n code).wp P Q R w'))->code.wp P Q a w
 |0,_,code,s,e,J,hi,_,_=>by cases code<;>cases hi
 |n+1,N,code,s,e,J,hi,hx,aa=>by
  intro φ S w a B hI hT hb Q hQ;cases code with
  |seq x r=>
   cases n with
   |zero=>refine wp_seq (((ZcF hS hP N).2.1 _ _ _ _ _ hx aa).1 φ S w a B hI hT hb _ ?_);intro R w' φ' S' h1 h2 h3 _;(let⟨q1,q2⟩:=hQ R w' φ' S' h1 h2 h3);cases e with|normal=>exact q2 rfl|exit j=>exact q1 sM|ret=>exact q1 sM
   |succ n=>
    cases N with
    |zero=>cases hx
    |succ N=>
     have C:(((Zc2 P h N).ex c x s).bind λ(e,J)=>match e with
      | .normal=>(Zc2 P h N).ex c (preC (n+1) r) J
      |e=>some (e,J))=some (e,J):=hx
     have I:(Zbs h c.fid x&&Zbs h c.fid (preC (n+1) r))=true:=aa;rw[Xas]at I;cases h1:(Zc2 P h N).ex c x s with|none=>rw[h1]at C;cases C|some y=>(let⟨e1,s1⟩:=y);rw[h1,Xad]at C;refine wp_seq (((ZcF hS hP N).2.1 _ _ _ _ _ h1 I.1).1 φ S w a B hI hT hb _ ?_);intro a1 w1 U S1 g1 g2 g3 g4;cases e1 with|normal=>refine Zmp hS hP (n+1) N r s1 e J hi C I.2 U S1 w1 a1 B g1 g3 g4 Q ?_;intro R w' φ' S' k1 k2 k3;exact hQ R w' φ' S' k1 (g2.trans k2) k3|exit j=>obtain⟨rfl,rfl⟩:=C;exact(hQ a1 w1 U S1 g1 g2 g3).1 sM|ret=>obtain⟨rfl,rfl⟩:=C;exact(hQ a1 w1 U S1 g1 g2 g3).1 sM
  |_=>cases hi
end
def ZFM l n (h:l.length=n):l=(List.range n).map λi=>l.getD i undef:=by apply XaR;grind
abbrev ZtN (f:FuncId) (g:List PV->Option PV):Prop:= ∀j v,g j=some v-> ∀ (S:Nat->Prop) w vals,(∀b,S b->b<w.heap.size)->Laid.ok S w->LRel w S j vals->
 Calls prog f vals.toArray w λe w'=> ∃u,e= .returned u/\Below w.heap.size w w'/\IRel w' (λb=>S b\/(w.heap.size<=b/\b<w'.heap.size)) v u
def Zxw {φ w S}: ∀ {es:List (PV×PV)} {l:List MapEntry} {b:Bool},VM φ w S es l->ZwI es=some b->(∀x∈l,∃v,x.val= .int .i64 v)/\b=l.all λx=>decide (valOf x.val=0)
 | [],l,b,h,j=>by simp only[VM]at h;subst h;cases j;grind
 |(k,u)::r,l,b,h,j=>by obtain⟨e,U,rfl,_,C,I⟩:=h;unfold ZwI at j;split at j;rename_i heq;cases heq;rename_i k' v r' heq;cases heq;(let⟨c,J,R⟩:=Option.map_eq_some_iff.1 j);(let⟨g1,g2⟩:=Zxw I J);have C:e.val= .int .i64 v:=(by simpa only[VRel]using C);refine⟨λx hx=> ?_, ?_⟩;grind;rw[List.all_cons,<-R,g2,C];rfl;cases j
def Zqs {h:Hints} (hS:Static prog h) (hP:Zbk prog h) (R:Zbs h 6 (preC 6 (bodyOf Tryz.f6))=true) {N:Nat} {qs:List PV} {r:Ex×St} {v:PV} (hq:qs.length<=61)
 (hr:(Zc2 prog h N).ex ⟨6,0,61⟩ (preC 6 (bodyOf Tryz.f6)) ⟨enterT 0 qs,[]⟩=some r) (I:Zd8 (some r)=some v) (S:Nat->Prop) (w:World) (vals:List Value) (ad: ∀b,S b->b<w.heap.size) (hL:Laid.ok S w) (hl:LRel w S qs vals):
 Calls prog 6 vals.toArray w λe w'=> ∃u,e= .returned u/\Below w.heap.size w w'/\IRel w' (λb=>S b\/(w.heap.size<=b/\b<w'.heap.size)) v u:=by
 let⟨e,s⟩:=r
 have aa:=ZdN hl;have hlen:=VL.length aa;refine calls_of_wp func6 kR (Zmp hS hP 6 N _ _ e s kR hr R (λ_=>none) S w _ w.heap.size (Inv.empty S w ad hL) ?_ (Xae _) _ ?_);refine⟨by simp;omega,rfl, ?_⟩;intro i p hp;let⟨_,h5⟩:=ZeO qs 0 i p hp
 simp only[Nat.sub_zero]at h5;let⟨u,h6,h7⟩:=VL.get aa h5
 have hi:=(Xaf.1 h6).1;refine⟨by show i<61;omega, ?_⟩;have:(vals.toArray++Array.replicate (61-vals.toArray.size) undef).getD i undef=u:=by rw[Array.getD_eq_getD_getElem?,Array.getElem?_append_left (by simpa using hi)];simp[h6]
 rw[<-this]at h7;exact h7;intro a' w' φ' S' hI hE hT;let⟨tmps,an⟩:=a'
 have ae:=hT.2.1;subst ae;let⟨l9⟩:=tmps
 have af:=hT.1;refine⟨λag=> ?_,λhe=> ?_⟩;cases e with|normal=>exact absurd rfl ag|exit j=>cases I|ret=>simp only[Zd8]at I;split at I;rename_i z ah;cases I;(let⟨u,h8,h9⟩:=ZfA (P:=prog) (fn:=Tryz.f6) (vs:=[.int .i64 z]) (tm:=s.tm) (H:=s.hp) (by rw[show Tryz.f6.results.toList=[.tmp 4]from rfl];simp only[Za3,Zj2,ah];rfl) hI hT);simp only[ZbW,VRel]at h9;subst h9;exact⟨rfl, .int .i64 z,h8,_,rfl,hE.below,by simp only[IRel]⟩;cases I
 subst he;simp only[Zd8,Zo4]at I;split at I;rename_i id ai;split at I;rename_i es hid;obtain⟨c,hc,rfl⟩:=Option.map_eq_some_iff.1 I;obtain⟨_,v7⟩:=hT.2.2 7 _ ai;simp only[VRel]at v7;let⟨l,el,aj⟩:=v7
 let⟨_,J,clock,hb,ak,U,al⟩:=hI.map id l _ el hid
 let⟨g1,g2⟩:=Zxw ak hc
 have ab:=ZFM l9 61 af;have h7:(λi=>l9.getD i undef) 7= .map (some l.b):=Eq.trans sM aj;generalize(λi=>l9.getD i undef)=f at ab h7;rw[ab,ZGA h7];refine wp_mono (ZAk l.b clock J f w' hb U al g1) ?_;have C: ∀e w2,(e=Ending.returned (.int .i64 (bif ZKz J then 0 else 14))/\Below w'.heap.size w' w2)-> ∃u,e= .returned u/\Below w.heap.size w w2/\IRel w2 (λb=>S b\/(w.heap.size<=b/\b<w2.heap.size)) (.int .i64 (bif c then 0 else 14)) u:=by rintro e w2 ⟨rfl,hb⟩;exact⟨_,rfl,hE.below.trans (hb.mono hE.below.size),by rw[g2];simp only[IRel];rfl⟩
 intro e a2 w2 hq;cases e with|normal=>let⟨h1,v,h2,h3⟩:=hq;exact⟨h1,v,h2,C _ _ h3⟩|ret=>let⟨h1,v,h2,h3⟩:=hq;exact⟨h1,v,h2,C _ _ h3⟩|panic c=>let⟨h1,h2⟩:=hq;exact⟨h1,C _ _ h2⟩|outgrown=>exact C _ _ hq|_=>exact hq.elim
 cases I;cases I
def ZMI:List Nat:=
 [4,7,10,11,12,13,14,15,20,21,22,23,24,25,26,35,36,37,38,39,49,50,51,52,53,54,55,56,57,58,59,60,61,62,70,71,74,75,76,77,78,79,80,81,82,83,84,85,86,87,88,89,90,95,97,98,99,100,101,102,103,104,105,106,107,108,111,112,113,114,115,116,117,118,119,120,121,122,126,127,128,129,130,131,132,133,136,138,139,145,149,152,155,159,160,161,164,165,166,167,168]
def ZLn:List Nat:=
 [21,22,23,24,26,36,37,49,51,56,60,70,85,86,104,120]
def ZLP:List Nat:=
 [11,12,52,53,54,55,58,59,61,78,81,82,83,87,88,89,98,99,100,101,105,107,117,119,121,122,128,138,159,164,165,166,167]
def ZLL:List Nat:=
 [7,25,57,62,80,84,97,102,118,133]
def ZHk:List (Nat×List (Nat×List Nat)):=
 [(22,[(5,[0]),(6,[0]),(8,[0]),(9,[0])]),(56,[(10,[8,9,10,11,12,13,14,15]),(17,[9])]),(97,[(9,[0])]),(100,[(5,[1])]),(102,[(9,[0])]),(104,[(11,[2,3])])]
def ZH4:List (Nat×List (Nat×List Nat)):=
 [(56,[(10,[0,1,2,3,4,5,6,7,9,10,11,12,13,14,15,16,8,17,18,19])])]
def ZiZ:Hints:=withPerm (mkHints ZMI ZLn ZLP ZLL [] [] ZHk []) ZH4
def Znx:Static prog ZiZ:=static_ofP checked.mixed (by decide+kernel)
def Zus (j:List PV):Option PV:=bif !Nat.ble j.length 61 then none else Zd8 ((Zc2 prog ZiZ 500).ex ⟨6,0,61⟩ (preC 6 (bodyOf Tryz.f6)) ⟨enterT 0 j,[]⟩)
def Zuu:FuncId->Option (List PV->Option PV)
 |6=>some Zus
 |109=>some Dv.textG
 |150=>some Dv.parseG
 |137=>some Dv.indexG
 |_=>none
def Zp3:Hints:=withPrims ZiZ Zuu
def sS (l:List UInt8):PV:= .str ⟨l.toArray⟩
def iI (n:Int):PV:= .int .i64 n
def ZvY:PV:= .agg [.lst [[sS [65]],[sS [66]],[sS [67]]], .lst [[sS [83],sS [65],sS [66], .bool false, .bool false]],
 .lst [[sS [76,49],sS [65],sS [67],iI 1000,iI 1000,iI 0,iI 10,iI 20,iI 60],[sS [76,50],sS [65],sS [67],iI 1000,iI 1000,iI 0,iI 10,iI 20,iI 60]],
 .lst [[sS [71],sS [66],iI 1,iI 30,iI 5]], .lst [[sS [68],sS [67],iI 8]], .nils]
def ZvZ:PV:= .lst [[iI 0],[iI 8],[iI (-8)]]
def ZFk:PV:= .agg [.lst [[sS [48]],[sS [45,52]]], .lst [[sS [52]],[sS [52]]]]
def ZE7:PV:= .agg [.lst [[sS [48]],[sS [45,52]]], .lst [[sS [53]],[sS [52]]]]
def ZLl:List PV->Option PV
 | [n,p,s]=>bif ZgW n ZvY&&(ZgW p ZvZ&&ZgW s ZFk)then some (iI 0)else bif ZgW n ZvY&&(ZgW p ZvZ&&ZgW s ZE7)then some (iI 21)else none
 |_=>none
def ZuE:FuncId->Option (List PV->Option PV)
 |6=>some Zus
 |109=>some Dv.textG
 |150=>some Dv.parseG
 |137=>some Dv.indexG
 |14=>some ZLl
 |_=>none
def ZxU:Hints:=withPrims ZiZ ZuE
def ZkL (z:Int):Option (PV×List Mem)->Bool
 |some (.int .i64 n,_)=>decide (n=z)
 |_=>false
end
end Go.Proofs.YtpdhpbldangmbaaGreatDoor

