/- Parts of a graph: the search of the program and the numbers of the reference are numberings of the same parts. Plain Lean. -/
import Derived.Test.YtplkkbcnilnfaaaGreatDoorKa
set_option linter.all false
namespace Go.Proofs.YtplkkbcnilnfaaaGreatDoor
def ZcM (wo:Int) (k:Nat):Bool:= !decide ((k:Int)=wo)
section
variable {wo:Int} {l:List (Nat × Nat)} {n:Nat}
def ZtI {out:List Int} {i v:Nat} {x:Int} (hi:i<out.length):(out.set i x).getD v 0=if i=v then x else out.getD v 0:=by rw[Xan,List.getElem?_set];by_cases h:i=v;subst h;rw[if_pos rfl,if_pos hi,if_pos rfl];rfl;rw[if_neg h,if_neg h,<-Xan]
structure EdgeS (wo:Int) (l r:List (Nat×Nat)) (k at_ m:Nat) (out:List Int) (todo:List Nat) (s:List Int×List Nat):Prop where
 old: ∀v,Za3 out v=false->s.1.getD v 0=out.getD v 0
 new: ∀v,Za3 out v=true->(s.1.getD v 0=out.getD v 0)\/(s.1.getD v 0=m/\Adj (ZcM wo) l at_ v)
 sub: ∀v,v∈todo->v∈s.2
 got: ∀v,Za3 out v=true->Za3 s.1 v=false->v∈s.2
 frm: ∀v,v∈s.2->v∈todo\/Adj (ZcM wo) l at_ v
 all: ∀j x,r[j]? =some x->ZcM wo (k+j)=true->Zil x at_=true->oth x at_<out.length->Za3 s.1 (oth x at_)=false
def Zgi {at_ m:Nat}: ∀ (r:List (Nat×Nat)) (k:Nat) (out:List Int) (todo:List Nat),(∀j x,r[j]? =some x->l[k+j]? =some x)->EdgeS wo l r k at_ m out todo (Za9 wo at_ m k r out todo)
 | [],k,out,todo,_=>⟨λ_ _=>rfl,λ_ _=> .inl rfl,λ_ h=>h,λv R h2=>absurd (R.symm.trans h2) (by simp),λ_ h=> .inl h,λj x h=>by simp at h⟩
 |x::r,k,out,todo,hl=>by
  have aa: ∀j y,r[j]? =some y->l[k+1+j]? =some y:=λj y h=>by rw[show k+1+j=k+(j+1)by omega];exact hl (j+1) y (by simpa using h)
  rw[Za9];by_cases hc:(!decide ((k:Int)=wo)&&Zil x at_&&Za3 out (oth x at_))=true;rw[if_pos hc];simp only[Xah]at hc;obtain⟨⟨hu,ht⟩,hn⟩:=hc;have ad:=Zms hn;have U:Adj (ZcM wo) l at_ (oth x at_):=(by refine⟨k,x,hl 0 x rfl,hu, ?_⟩;simp only[Zil,Xb2,decide_eq_true_eq]at ht;simp only[oth];omega);have hs:=λv=>ZtI (v:=v) (x:=(m:Int)) ad;have C: ∀v,Za3 (out.set (oth x at_) m) v=(Za3 out v&& !decide (oth x at_=v)):=by intro v;unfold Za3;rw[hs];by_cases h:oth x at_=v;rw[if_pos h,decide_eq_true h];simp;rw[if_neg h,decide_eq_false h];simp
  have I:=Zgi (at_:=at_) (m:=m) r (k+1) (out.set (oth x at_) m) (todo++ [oth x at_]) aa;have ab:Za3 (Za9 wo at_ m (k+1) r (out.set (oth x at_) m) (todo++ [oth x at_])).1 (oth x at_)=false:=(by have R:=I.old (oth x at_) (by rw[C];simp);unfold Za3;rw[R,hs,if_pos rfl];simp);refine⟨?_, ?_, ?_, ?_, ?_, ?_⟩;intro v J;rw[I.old v (by rw[C,J];rfl),hs,if_neg];intro e;rw[e]at hn;rw[hn]at J;cases J;intro v J;by_cases e:oth x at_=v;right;subst e;exact⟨by rw[I.old _ (by rw[C];simp),hs,if_pos rfl],U⟩;have:=I.new v (by rw[C,J,decide_eq_false e];rfl);rwa[hs,if_neg e]at this;intro v J;exact I.sub v (by simp[J]);intro v J ae;by_cases e:oth x at_=v;exact I.sub v (by simp[e]);exact I.got v (by rw[C,J,decide_eq_false e];rfl) ae;intro v J;rcases I.frm v J with h|h;rcases XaJ.1 h with h|h;exact .inl h;rw[Xat.1 h];exact .inr U;exact .inr h;intro j y hj R h2 h3;(cases j with|zero=>simp only[XbC,Xaf]at hj;subst hj;exact ab|succ j=>exact I.all j y (by simpa using hj) (by rw[show k+1+j=k+(j+1)by omega];exact R) h2 (by rw[XaB];exact h3));rw[if_neg hc];have I:=Zgi (at_:=at_) (m:=m) r (k+1) out todo aa;refine⟨I.old,I.new,I.sub,I.got,I.frm, ?_⟩;intro j y hj R h2 h3;cases j with|zero=>simp only[XbC,Xaf]at hj;subst hj;have hu:(!decide ((k:Int)=wo))=true:=R;have hn:Za3 out (oth x at_)=false:=(by rw[hu,h2]at hc;simpa using hc);unfold Za3;rw[I.old _ hn];exact hn|succ j=>exact I.all j y (by simpa using hj) (by rw[show k+1+j=k+(j+1)by omega];exact R) h2 h3
def Zxd {at_ m:Nat} (J:okL n l) {out:List Int} (C:out.length=n) {todo:List Nat} {w:Nat} (I:Adj (ZcM wo) l at_ w):Za3 (Za9 wo at_ m 0 l out todo).1 w=false:=by
 have R:=Zgi (wo:=wo) (l:=l) (at_:=at_) (m:=m) l 0 out todo (λj x h=>by simpa using h);have U:=I.lt J;obtain⟨k,x,h1,h2,h3⟩:=I;have ht:Zil x at_=true:=by simp only[Zil,Xb2,decide_eq_true_eq];rcases h3 with h|h;exact .inl h.1;exact .inr h.1
 have hw:oth x at_=w:=by simp only[oth];omega
 have:=R.all k x h1 (by simpa using h2) ht (by rw[hw];omega);rwa[hw]at this
def Zg2 {out j:List Int} {v:Nat} (h:j.getD v 0=out.getD v 0):Za3 j v=Za3 out v:=by unfold Za3;rw[h]
def ZlL {m:Nat} (ho:okL n l): ∀ (f:Nat) (out:List Int) (todo:List Nat),out.length=n->cnt out+todo.length<=f->
 (∀v,Za3 out v=false->(Zfd wo l m f out todo).getD v 0=out.getD v 0)/\
 (∀v,Za3 out v=true->(Zfd wo l m f out todo).getD v 0=out.getD v 0\/((Zfd wo l m f out todo).getD v 0=m/\ ∃t∈todo,Rch (ZcM wo) l t v))/\
 (∀v,(v∈todo\/(Za3 out v=true/\Za3 (Zfd wo l m f out todo) v=false))-> ∀w,Adj (ZcM wo) l v w->Za3 (Zfd wo l m f out todo) w=false)
 |0,out,todo,I,hf=>by have:todo=[]:=Xbg.1 (by omega);subst this;refine⟨λ_ _=>rfl,λ_ _=> .inl rfl,λv h=> ?_⟩;rcases h with h|⟨h,h'⟩;cases h;exact absurd (h.symm.trans h') (by simp)
 |f+1,out,[],I,hf=>by refine⟨λ_ _=>rfl,λ_ _=> .inl rfl,λv h=> ?_⟩;rcases h with h|⟨h,h'⟩;cases h;exact absurd (h.symm.trans h') (by simp)
 |f+1,out,at_::todo,I,hf=>by
  have J:=Zgi (wo:=wo) (l:=l) (at_:=at_) (m:=m) l 0 out todo (λj x h=>by simpa using h);have aa:=λw (R:Adj (ZcM wo) l at_ w)=>Zxd (m:=m) ho I (todo:=todo) R;have hlen:=ZeY wo at_ m l 0 out todo;have U:=Zgq wo at_ m l 0 out todo;rw[Zfd];generalize Za9 wo at_ m 0 l out todo=s at J aa hlen U;obtain⟨C,ab⟩:=s;simp only at J aa hlen U|-;obtain⟨i1,i2,i3⟩:=ZlL (m:=m) ho f C ab (by omega) (by simp only[Xaq]at hf;omega);have ae: ∀v,Za3 out v=false->Za3 C v=false:=λv hv=>by rw[Zg2 (J.old v hv)];exact hv
  refine⟨?_, ?_, ?_⟩;intro v hv;rw[i1 v (ae v hv),J.old v hv];intro v hv;rcases J.new v hv with h|⟨h,R⟩;have ad:Za3 C v=true:=(by rw[Zg2 h];exact hv);rcases i2 v ad with h'|⟨h',t,ht,hr⟩;exact .inl (by rw[h',h]);right;refine⟨h', ?_⟩;rcases J.frm t ht with ht|ht;exact⟨t,Xaj _ ht,hr⟩;exact⟨at_,Xai,((Rch.refl _).step ht).trans hr⟩;right;have ad:Za3 C v=false:=(by unfold Za3;rw[h];simp);exact⟨by rw[i1 v ad,h],at_,Xai,(Rch.refl _).step R⟩;intro v hv w R;rcases hv with hv|⟨hv,af⟩;rcases Xau.1 hv with rfl|hv;have h1:=aa w R;rw[Zg2 (i1 w h1)];exact h1;exact i3 v (.inl (J.sub v hv)) w R;cases hn:Za3 C v with|true=>exact i3 v (.inr ⟨hn,af⟩) w R|false=>exact i3 v (.inl (J.got v hv hn)) w R
def ZcQ (R:Nat->Nat->Bool) (i:Nat):Bool:=(List.range i).all λk=> !R k i
def num (R:Nat->Nat->Bool) (i:Nat):Nat:=((List.range i).filter (ZcQ R)).length
def Zeg (R:Nat->Nat->Bool) (i:Nat):num R (i+1)=num R i+if ZcQ R i=true then 1 else 0:=by unfold num;rw[List.range_succ,List.filter_append,Xas];congr 1;cases h:ZcQ R i<;>simp[h]
structure IsNum (n:Nat) (R:Nat->Nat->Bool) (f:Nat->Int):Prop where
 same: ∀i k,i<n->k<i->R k i=true->f i=f k
 fst: ∀i,i<n->ZcQ R i=true->f i=num R i
def ZiT {R:Nat->Nat->Bool} {f g:Nat->Int} (hf:IsNum n R f) (C:IsNum n R g): ∀i,i<n->f i=g i:=by
 intro i;induction i using Nat.strongRecOn with
 |_ i I=>
  intro hi;cases h:ZcQ R i with
  |true=>rw[hf.fst i hi h,C.fst i hi h]
  |false=>
   have: ∃k,k<i/\R k i=true:=by simp only[ZcQ,List.all_eq_false,Xba]at h;obtain⟨k,j,hR⟩:=h;exact⟨k,j,by simpa using hR⟩
   obtain⟨k,j,hR⟩:=this;rw[hf.same i k hi j hR,C.same i k hi j hR,I k j (by omega)]
def ZBT {R:Nat->Nat->Bool} {P:Nat->Nat->Prop} (hR: ∀i k,i<n->k<n->(R i k=true<->P i k)) (I: ∀v,P v v) (J: ∀a b c,P a b->P b c->P a c): ∀v,v<n-> ∃k,k<=v/\P k v/\ZcQ R k=true:=by
 intro v;induction v using Nat.strongRecOn with
 |_ v ih=>
  intro hv;cases h:ZcQ R v with
  |true=>exact⟨v,Xag v,I v,h⟩
  |false=>
   have: ∃k,k<v/\R k v=true:=by simp only[ZcQ,List.all_eq_false,Xba]at h;obtain⟨k,U,C⟩:=h;exact⟨k,U,by simpa using C⟩
   obtain⟨k,U,C⟩:=this;obtain⟨j,hj,h1,h2⟩:=ih k U (by omega);exact⟨j,by omega,J _ _ _ h1 ((hR k v (by omega) hv).1 C),h2⟩
def Zso {R:Nat->Nat->Bool} {P:Nat->Nat->Prop} (hR: ∀i k,i<n->k<n->(R i k=true<->P i k)) (C: ∀v,P v v) (I: ∀a b c,P a b->P b c->P a c) {f:Nat->Int}
 (hf: ∀v k,v<n->k<=v->P k v->ZcQ R k=true->f v=num R k):IsNum n R f:=by refine⟨?_,λi hi h=>hf i i hi (Xag i) (C i) h⟩;intro i k hi hk h;obtain⟨j,hj,J,U⟩:=ZBT hR C I k (by omega);rw[hf k j (by omega) hj J U,hf i j hi (by omega) (I _ _ _ J ((hR k i (by omega) hi).1 h)) U]
def ZfA {R:Nat->Nat->Bool} {P:Nat->Nat->Prop} (hR: ∀i k,i<n->k<n->(R i k=true<->P i k)) {i:Nat} (hi:i<n):ZcQ R i=true<-> ∀k,k<i-> ¬P k i:=by simp only[ZcQ,Xaw,Xba];constructor;intro h k j C;have:=h k j;rw[(hR k i (by omega) hi).2 C]at this;cases this;intro h k j;cases I:R k i with|false=>rfl|true=>exact absurd ((hR k i (by omega) hi).1 I) (h k j)
def Zha (ho:okL n l) {R:Nat->Nat->Bool} (hR: ∀i k,i<n->k<n->(R i k=true<->Rch (ZcM wo) l i k)): ∀ (c i m:Nat) (out:List Int),i+c=n->out.length=n->m=num R i->
 (∀v,v<n->(Za3 out v=true<-> ¬ ∃k,k<i/\Rch (ZcM wo) l k v))->(∀v k,v<n->k<i->Rch (ZcM wo) l k v->ZcQ R k=true->out.getD v 0=num R k)->
 ∀v k,v<n->k<n->Rch (ZcM wo) l k v->ZcQ R k=true->(ZbZ wo l c i m out).getD v 0=num R k
 |0,i,m,out,hc,ad,hm,h1,h2=>λv k hv hk h3 h4=>by rw[ZbZ];exact h2 v k hv (by omega) h3 h4
 |c+1,i,m,out,hc,ad,hm,h1,h2=>by
  have hi:i<n:=(by omega);rw[ZbZ];cases ae:Za3 out i with
  |true=>
   simp only[if_true];have ah: ∀k,k<i-> ¬Rch (ZcM wo) l k i:=λk hk hr=>(h1 i hi).1 ae ⟨k,hk,hr⟩
   have ak:ZcQ R i=true:=(ZfA hR hi).2 ah;have hs:=λv=>ZtI (out:=out) (v:=v) (x:=(m:Int)) (i:=i) (by omega);have aa: ∀v,Za3 (out.set i m) v=(Za3 out v&& !decide (i=v)):=by intro v;unfold Za3;rw[hs];by_cases h:i=v;rw[if_pos h,decide_eq_true h];simp;rw[if_neg h,decide_eq_false h];simp
   obtain⟨d1,d2,d3⟩:=ZlL (wo:=wo) (m:=m) ho (cnt (out.set i m)+1) (out.set i m) [i] (by rw[XaB];exact ad) (by simp);have dl:=ZhE wo l m (cnt (out.set i m)+1) (out.set i m) [i];generalize Zfd wo l m (cnt (out.set i m)+1) (out.set i m) [i]=J at d1 d2 d3 dl;have au:Za3 J i=false:=(by rw[Zg2 (d1 i (by rw[aa];simp)),aa];simp);have al: ∀v,Rch (ZcM wo) l i v->v<n->v=i\/(Za3 (out.set i m) v=true/\Za3 J v=false):=by intro v hr;induction hr with|refl=>intro _;exact .inl rfl|step hr ha ih=>rename_i v w;intro hw;have av:=(ha.lt ho).1;have aw:Za3 J w=false:=(by rcases ih av with h|h;exact d3 v (.inl (by simp[h])) w ha;exact d3 v (.inr h) w ha);by_cases an:w=i;exact .inl an;right;refine⟨?_,aw⟩;rw[aa,decide_eq_false (λe=>an e.symm),Bool.not_false,Bool.and_true];rw[h1 w hw];rintro⟨k,hk,C⟩;exact ah k hk (C.trans ((hr.step ha).symm))
   refine Zha ho hR c (i+1) (m+1) J (by omega) (by rw[dl,XaB];exact ad) ?_ ?_ ?_;rw[Zeg,if_pos ak,hm];intro v hv;by_cases hold: ∃k,k<i/\Rch (ZcM wo) l k v
   have U:Za3 out v=false:=(by cases h:Za3 out v with|false=>rfl|true=>exact absurd hold ((h1 v hv).1 h));have I:Za3 (out.set i m) v=false:=(by rw[aa,U];rfl);rw[Zg2 (d1 v I),I];obtain⟨k,hk,C⟩:=hold;exact⟨λh=>absurd h (by simp),λh=>absurd ⟨k,by omega,C⟩ h⟩;have U:Za3 out v=true:=(h1 v hv).2 hold;by_cases hr:Rch (ZcM wo) l i v;have:Za3 J v=false:=(by rcases al v hr hv with h|h;rw[h];exact au;exact h.2);rw[this];exact⟨λh=>absurd h (by simp),λh=>absurd ⟨i,by omega,hr⟩ h⟩;have ai:i≠v:=λe=>hr (e▸ .refl _);have I:Za3 (out.set i m) v=true:=(by rw[aa,U,decide_eq_false ai];rfl);have ax:Za3 J v=true:=(by rcases d2 v I with h|⟨_,t,ht,ao⟩;rw[Zg2 h];exact I;rw[Xat.1 ht]at ao;exact absurd ao hr);rw[ax];refine⟨λ_=> ?_,λ_=>rfl⟩;rintro⟨k,hk,C⟩;by_cases ab:k=i;subst ab;exact hr C;exact hold ⟨k,by omega,C⟩;intro v k hv hk C af;by_cases ab:k=i;subst ab;have U:Za3 out v=true:=(by rw[h1 v hv];rintro⟨j,hj,ag⟩;exact ah j hj (ag.trans C.symm));rw[<-hm];by_cases aj:k=v;subst aj;rw[d1 _ (by rw[aa];simp),hs,if_pos rfl];have I:Za3 (out.set k m) v=true:=(by rw[aa,U,decide_eq_false aj];rfl);rcases d2 v I with h|⟨h,_⟩;rcases al v C hv with h'|h';exact absurd h'.symm aj;have:=h'.2;rw[Zg2 h,I]at this;cases this;exact h;have aq:k<i:=(by omega);have U:Za3 out v=false:=(by cases h:Za3 out v with|false=>rfl|true=>exact absurd ⟨k,aq,C⟩ ((h1 v hv).1 h));have ai:i≠v:=(by rintro rfl;rw[ae]at U;cases U);rw[d1 v (by rw[aa,U];rfl),hs,if_neg ai];exact h2 v k hv aq C af
  |false=>
   simp only[XaO,if_false];have hex: ∃k,k<i/\Rch (ZcM wo) l k i:=by apply Classical.byContradiction;intro h;rw[(h1 i hi).2 h]at ae;cases ae
   obtain⟨j,hj,ag⟩:=hex;have ar:ZcQ R i=false:=(by cases h:ZcQ R i with|false=>rfl|true=>exact absurd ag ((ZfA hR hi).1 h j hj));refine Zha ho hR c (i+1) m out (by omega) ad ?_ ?_ ?_;rw[Zeg,ar,hm];rfl;intro v hv;rw[h1 v hv];constructor;rintro h ⟨k,hk,C⟩;by_cases ab:k=i;subst ab;exact h ⟨j,hj,ag.trans C⟩;exact h ⟨k,by omega,C⟩;rintro h ⟨k,hk,C⟩;exact h ⟨k,by omega,C⟩;intro v k hv hk C af;by_cases ab:k=i;subst ab;rw[ar]at af;cases af;exact h2 v k hv (by omega) C af
def ZDy {v:Nat} (j:v<n):Za3 (List.replicate n (-1)) v=true:=by unfold Za3;rw[Xan,List.getElem?_replicate_of_lt j];rfl
def Zml (R:okL n l):IsNum n (gt (Zcx (ZcM wo) n l)) λv=>(ZeJ wo l n).getD v 0:=by
 have hR: ∀i k,i<n->k<n->(gt (Zcx (ZcM wo) n l) i k=true<->Rch (ZcM wo) l i k):=λi k hi j=>ZeG R hi j
 refine Zso hR (λv=> .refl v) (λ_ _ _=>Rch.trans) ?_;intro v k C j I J;refine Zha R hR n 0 0 _ (by omega) (by simp) rfl (λv C=> ?_) (λv k _ j=>by omega) v k C (by omega) I J;rw[ZDy C];exact⟨λ_=>by rintro⟨k,j,_⟩;omega,λ_=>rfl⟩
def Zjz (T:List (List Bool)) (acc:List Nat) (i:Nat): ∀ (c k:Nat) (a:Int),k+c=i->(0<=a->atF T acc i c k a=a)/\(a<0->((∀j,k<=j->j<i->gt T i j=false)/\atF T acc i c k a=a)\/ ∃j,k<=j/\j<i/\gt T i j=true/\atF T acc i c k a=(acc.getD j 0:Nat))
 |0,k,a,hc=>⟨λ_=>rfl,λ_=> .inl ⟨λj J C=>by omega,rfl⟩⟩
 |c+1,k,a,hc=>by rw[atF];constructor;intro I;rw[decide_eq_false (by omega: ¬a<0),Bool.and_false,if_neg (by simp)];exact(Zjz T acc i c (k+1) a (by omega)).1 I;intro I;rw[decide_eq_true I,Bool.and_true];cases U:gt T i k with|true=>rw[if_pos rfl];right;exact⟨k,Xag k,by omega,U,(Zjz T acc i c (k+1) _ (by omega)).1 (by omega)⟩|false=>rw[if_neg (by simp)];rcases(Zjz T acc i c (k+1) a (by omega)).2 I with⟨J,C⟩|⟨j,J,C,h3,h4⟩;left;refine⟨λj aa R=> ?_,C⟩;by_cases e:j=k;rw[e];exact U;exact J j (by omega) R;exact .inr ⟨j,by omega,C,h3,h4⟩
def Zmp {T:List (List Bool)} {P:Nat->Nat->Prop} (hR: ∀i k,i<n->k<n->(gt T i k=true<->P i k)) (J: ∀a b,P a b->P b a) (U: ∀a b c,P a b->P b c->P a c) (ae: ∀v,P v v): ∀ (c i many:Nat) (acc:List Nat),i+c=n->acc.length=i->many=num (gt T) i->
 (∀v k,v<i->k<=v->P k v->ZcQ (gt T) k=true->acc.getD v 0=num (gt T) k)->(ZEx T c i many acc).length=n/\ ∀v k,v<n->k<=v->P k v->ZcQ (gt T) k=true->(ZEx T c i many acc).getD v 0=num (gt T) k
 |0,i,many,acc,hc,I,hm,h=>by rw[ZEx];exact⟨by omega,λv k hv=>h v k (by omega)⟩
 |c+1,i,many,acc,hc,I,hm,h=>by
  have hi:i<n:=(by omega);have aa: ∀ (x v:Nat),v<i->(acc++ [x]).getD v 0=acc.getD v 0:=by intro x v hv;rw[Xan,Xam (by omega),<-Xan]
  have R: ∀x:Nat,(acc++ [x]).getD i 0=x:=by intro x;rw[Xan,Xaz (by omega),I,XbI];rfl
  rw[ZEx];rcases(Zjz T acc i i 0 (-1) (by omega)).2 (by omega)with⟨h1,h2⟩|⟨j,h1,h2,h3,h4⟩;have ab:ZcQ (gt T) i=true:=(ZfA hR hi).2 λk hk hP=>(by have:=(hR i k hi (by omega)).2 (J _ _ hP);rw[h1 k (by omega) hk]at this;cases this);rw[h2,if_pos (by omega)];refine Zmp hR J U ae c (i+1) (many+1) _ (by omega) (by simp[I]) (by rw[Zeg,if_pos ab,hm]) ?_;intro v k hv hk hP C;by_cases e:v=i;subst e;rw[R,hm];have:k=v:=(by apply Classical.byContradiction;intro ah;exact(ZfA hR hi).1 ab k (by omega) hP);rw[this];rw[aa _ v (by omega)];exact h v k (by omega) hk hP C;have hP:=(hR i j hi (by omega)).1 h3;have af:ZcQ (gt T) i=false:=(by cases hh:ZcQ (gt T) i with|false=>rfl|true=>exact absurd (J _ _ hP) ((ZfA hR hi).1 hh j h2));rw[h4,if_neg (by omega),Xac];refine Zmp hR J U ae c (i+1) many _ (by omega) (by simp[I]) (by rw[Zeg,af,hm];rfl) ?_;intro v k hv hk ad C;by_cases e:v=i;subst e;rw[R];have ai:k≠v:=(by rintro rfl;rw[af]at C;cases C);by_cases ag:k<=j;exact h j k h2 ag (U _ _ _ ad hP) C;have:=(ZfA hR (by omega)).1 C j (by omega);exact absurd (J _ _ (U _ _ _ ad hP)) this;rw[aa _ v (by omega)];exact h v k (by omega) hk ad C
def ZiS (I:okL n l) {use:Nat->Bool}:(Zh1 (Zcx use n l) n).length=n/\IsNum n (gt (Zcx use n l)) λv=>((Zh1 (Zcx use n l) n).getD v 0:Nat):=by
 have hR: ∀i k,i<n->k<n->(gt (Zcx use n l) i k=true<->Rch use l i k):=λi k hi j=>ZeG I hi j
 obtain⟨J,R⟩:=Zmp hR (λ_ _=>Rch.symm) (λ_ _ _=>Rch.trans) (λv=> .refl v) n 0 0 [] (by omega) rfl rfl (λv k C=>by omega);exact⟨J,Zso hR (λv=> .refl v) (λ_ _ _=>Rch.trans) λv k C j U hf=>by rw[show(Zh1 (Zcx use n l) n).getD v 0=num (gt (Zcx use n l)) k from R v k C j U hf]⟩
end
def Ztd (R:Nat->Nat->Bool) {a b:Nat} (j:a<b) (C:ZcQ R a=true):num R a<num R b:=by
 have: ∀d,num R (a+1)<=num R (a+1+d):=by intro d;induction d with|zero=>exact Xag _|succ d I=>rw[<-XbA];exact XaK I (by rw[Zeg R (a+1+d)];omega)
 have J:=this (b-(a+1));rw[Zeg,if_pos C,show a+1+(b-(a+1))=b by omega]at J;omega
section
variable {n:Nat} {R:Nat->Nat->Bool} {P:Nat->Nat->Prop}
def Zn1 (hR: ∀i k,i<n->k<n->(R i k=true<->P i k)) (j: ∀v,P v v) (C: ∀a b c,P a b->P b c->P a c) {f:Nat->Int} (hf:IsNum n R f) {i:Nat} (hi:i<n): ∃k,k<=i/\P k i/\ZcQ R k=true/\f i=num R k:=by obtain⟨k,U,J,I⟩:=ZBT hR j C i hi;refine⟨k,U,J,I, ?_⟩;by_cases e:k=i;subst e;exact hf.fst k hi I;rw[hf.same i k hi (by omega) ((hR k i (by omega) hi).2 J)];exact hf.fst k (by omega) I
def Zyo (hR: ∀i k,i<n->k<n->(R i k=true<->P i k)) (J: ∀v,P v v) (C: ∀a b,P a b->P b a) (j: ∀a b c,P a b->P b c->P a c) {f:Nat->Int} (hf:IsNum n R f) {i k:Nat} (hi:i<n) (hk:k<n):f i=f k<->P i k:=by
 obtain⟨a,a1,a2,a3,a4⟩:=Zn1 hR J j hf hi;obtain⟨b,b1,b2,b3,b4⟩:=Zn1 hR J j hf hk;rw[a4,b4];constructor;intro h;have:a=b:=by apply Classical.byContradiction;intro I;rcases Nat.lt_or_gt_of_ne I with hl|hl;have:=Ztd R hl a3;omega;have:=Ztd R hl b3;omega
 subst this;exact j _ _ _ (C _ _ a2) b2;intro h;have:a=b:=by apply Classical.byContradiction;intro I;have U:P a b:=j _ _ _ (j _ _ _ a2 h) (C _ _ b2);rcases Nat.lt_or_gt_of_ne I with hl|hl;exact(ZfA hR (by omega)).1 b3 a hl U;exact(ZfA hR (by omega)).1 a3 b hl (C _ _ U)
 rw[this]
end
def Zqr {n:Nat} {R R':Nat->Nat->Bool} (h: ∀i k,i<n->k<n->R i k=R' i k) {f:Nat->Int} (hf:IsNum n R f):IsNum n R' f:=by
 have J: ∀i,i<n->ZcQ R i=ZcQ R' i:=by intro i hi;unfold ZcQ;rw[Bool.eq_iff_iff,Xaw,Xaw];constructor;intro C k j;have I:k<i:=(by simpa using j);rw[<-h k i (by omega) hi];exact C k j;intro C k j;have I:k<i:=(by simpa using j);rw[h k i (by omega) hi];exact C k j
 have U: ∀i,i<=n->num R i=num R' i:=by intro i;induction i with|zero=>intro _;rfl|succ i ih=>intro hi;rw[Zeg,Zeg,ih (by omega),J i (by omega)]
 refine⟨λi k hi j hr=>hf.same i k hi j (by rw[h k i (by omega) hi];exact hr),λi hi C=>by rw[hf.fst i hi (by rw[J i hi];exact C),U i (by omega)]⟩
open Ne
def swA (n:Ne.Net):List (Nat×Nat):=n.sws.map (swE n)
def ZA4 (n:Ne.Net) (i:Nat):Bool:=match n.sws[i]? with
 |some s=>ZBY s
 |none=>false
def Zqk (n:Ne.Net):List Nat:=Zh1 (Zcx (ZA4 n) n.nodes.length (swA n)) n.nodes.length
def brB (n:Ne.Net):List (Nat×Nat):=n.brs.map (brE n)
def Zo1 (n:Ne.Net):List Nat:=Zh1 (Zcx (ZcM (-1)) (Zaf n) (brB n)) (Zaf n)
def Zx2 {l:List (Nat×Nat)} {u v:Nat}:Adj (ZcM (-1)) l u v<-> ∃x∈l,(x.1=u/\x.2=v)\/(x.2=u/\x.1=v):=by constructor;rintro⟨k,x,j,_,C⟩;exact⟨x,XaF j,C⟩;rintro⟨x,j,C⟩;obtain⟨k,I⟩:=List.getElem?_of_mem j;exact⟨k,x,I,by simp only[ZcM,XbJ,decide_eq_false_iff_not];omega,C⟩
def Zzr {n:Ne.Net} {u v:Nat}:Adj (ZA4 n) (swA n) u v<-> ∃s∈n.sws,ZBY s=true/\(((swE n s).1=u/\(swE n s).2=v)\/((swE n s).2=u/\(swE n s).1=v)):=by
 constructor;rintro⟨k,x,j,C,I⟩;rw[swA,XaC]at j;unfold ZA4 at C;cases J:n.sws[k]? with|none=>rw[J]at j;cases j|some s=>rw[J]at j C;simp only[Xal,Xaf]at j;subst j;exact⟨s,XaF J,C,I⟩
 rintro⟨s,j,C,I⟩;obtain⟨k,R⟩:=List.getElem?_of_mem j;exact⟨k,swE n s,by rw[swA,XaC,R];rfl,by unfold ZA4;rw[R];exact C,I⟩
def ZBM {use j:Nat->Bool} {l C:List (Nat×Nat)} (h: ∀u v,Adj use l u v->Adj j C u v) {u v:Nat} (I:Rch use l u v):Rch j C u v:=by induction I with|refl=>exact .refl _|step _ J R=>exact R.step (h _ _ J)
def ZtW (n:Ne.Net) (u v:Nat):Rch (ZcM (-1)) (ZeB n) u v<->Rch (ZA4 n) (swA n) u v:=by
 have J: ∀u v,Adj (ZcM (-1)) (ZeB n) u v<->Adj (ZA4 n) (swA n) u v:=by intro u v;rw[Zx2,Zzr];constructor;rintro⟨x,R,j⟩;obtain⟨s,C,rfl⟩:=XaU.1 R;obtain⟨I,U⟩:=XbF.1 C;exact⟨s,I,U,j⟩;rintro⟨s,C,I,j⟩;exact⟨swE n s,XaU.2 ⟨s,XbF.2 ⟨C,I⟩,rfl⟩,j⟩
 exact⟨ZBM λu v=>(J u v).1,ZBM λu v=>(J u v).2⟩
def Zvi {n:Nat} {l:List Int} {r:List Nat} (C:l.length=n) (I:r.length=n) (h: ∀v,v<n->l.getD v 0=(r.getD v 0:Nat)):l=r.map Int.ofNat:=by apply XaW;intro v;by_cases j:v<n;have:=h v j;simp only[Xan]at this;rw[XaC,Xad (by omega),Xad (by omega)]at*;simp only[XbH]at this;simp only[Xal,this];rfl;rw[Xax (by omega),Xax (by rw[XaG];omega)]
def ZAc {r:List Nat} {i:Nat}:(r.map Int.ofNat).getD i 0=((r.getD i 0:Nat):Int):=by rw[Xan,Xan,XaC];cases r[i]? <;>rfl
section
variable {n:Ne.Net} (hf:Fine n)
include hf
theorem ZBW:okL n.nodes.length (swA n):=λx j=>by obtain⟨s,C,rfl⟩:=XaU.1 j;have h:=ZxX hf C;exact⟨(Zfr h.1).2,(Zfr h.2).2⟩
theorem ZrY:okL (Zaf n) (brB n):=(ZxD hf).1
theorem ZCU:(Zqk n).length=n.nodes.length/\IsNum n.nodes.length (gt (Zcx (ZA4 n) n.nodes.length (swA n))) λv=>((Zqk n).getD v 0:Nat):=ZiS (ZBW hf)
theorem ZF9:ZcS n=(Zqk n).map Int.ofNat:=by have j:=(Ziv hf).1;have I:=Zqr (R':=gt (Zcx (ZA4 n) n.nodes.length (swA n))) (λi k hi C=>by rw[Bool.eq_iff_iff,ZeG j hi C,ZeG (ZBW hf) hi C];exact ZtW n i k) (Zml (wo:= -1) j);obtain⟨J,R⟩:=ZCU hf;exact Zvi (ZjD n) J (ZiT I R)
theorem ZnG {i:Nat}:(ZcS n).getD i 0=((Zqk n).getD i 0:Nat):=by rw[ZF9 hf,ZAc]
theorem ZFx {i:Nat} (hi:i<n.nodes.length):(Zqk n).getD i 0<Zaf n:=by obtain⟨b,C,I⟩:=ZkT hi;have j:=ZnG hf (i:=i);rw[Xan,C]at j;have j:(b:Int)=((Zqk n).getD i 0:Nat):=j;omega
theorem ZnA:(Zo1 n).length=Zaf n/\IsNum (Zaf n) (gt (Zcx (ZcM (-1)) (Zaf n) (brB n))) λv=>((Zo1 n).getD v 0:Nat):=ZiS (ZrY hf)
theorem ZmO:Zbp n=(Zo1 n).map Int.ofNat:=Zvi (ZdQ n) (ZnA hf).1 (ZiT (Zml (wo:= -1) (ZrY hf)) (ZnA hf).2)
theorem Zs0 {b c:Nat} (j:b<Zaf n) (C:c<Zaf n):(Zo1 n).getD b 0=(Zo1 n).getD c 0<->Rch (ZcM (-1)) (brB n) b c:=by have:=Zyo (λi k hi I=>ZeG (ZrY hf) hi I) (λv=> .refl v) (λ_ _=>Rch.symm) (λ_ _ _=>Rch.trans) (ZnA hf).2 j C;rw[<-this];omega
end
end Go.Proofs.YtplkkbcnilnfaaaGreatDoor
namespace La
def S:Nat->(Nat->Rat)->Rat
 |0,_=>0
 |n+1,f=>S n f+f n
def ZaB: ∀ {n:Nat} {f g:Nat->Rat},(∀k,k<n->f k=g k)->S n f=S n g
 |0,_,_,_=>rfl
 |n+1,f,g,h=>by rw[S,S,ZaB λk j=>h k (by omega),h n (by omega)]
def Zej {n:Nat} {f:Nat->Rat} (h: ∀k,k<n->f k=0):S n f=0:=by induction n with|zero=>rfl|succ n j=>rw[S,j λk C=>h k (by omega),h n (by omega)];grind
def ZmA (n:Nat) (f g:Nat->Rat):S n (λk=>f k+g k)=S n f+S n g:=by induction n with|zero=>rw[S,S,S];grind|succ n j=>rw[S,S,S,j];grind
def Zd0 (n:Nat) (c:Rat) (f:Nat->Rat):S n (λk=>c*f k)=c*S n f:=by induction n with|zero=>rw[S,S];grind|succ n j=>rw[S,S,j];grind
def ZqA (n:Nat) (f:Nat->Rat):S (n+1) f=f 0+S n (λk=>f (k+1)):=by induction n with|zero=>rw[S,S,S];grind|succ n j=>rw[S,j,S];grind
def Zom (m n:Nat) (f:Nat->Nat->Rat):S m (λi=>S n (λj=>f i j))=S n (λj=>S m (λi=>f i j)):=by induction m with|zero=>exact(Zej λk _=>rfl).symm|succ m C=>rw[S,C,<-ZmA];rfl
def Zll {n j:Nat} {f:Nat->Rat} (J:j<n) (h: ∀k,k<n->k≠j->f k=0):S n f=f j:=by induction n with|zero=>omega|succ n C=>rw[S];by_cases e:j=n;subst e;rw[Zej λk I=>h k (by omega) (by omega)];grind;rw[C (by omega) λk I=>h k (by omega),h n (by omega) (by omega)];grind
def ZH4 {n j:Nat} {f:Nat->Rat} (R:j+1<n) (h: ∀k,k<n->k≠j->k≠j+1->f k=0):S n f=f j+f (j+1):=by induction n with|zero=>omega|succ n C=>rw[S];by_cases e:j+1=n;subst e;rw[Zll (j:=j) (by omega) λk I J=>h k (by omega) J (by omega)];rw[C (by omega) λk I=>h k (by omega),h n (by omega) (by omega) (by omega)];grind
def sg:Nat->Rat
 |0=>1
 |n+1=> -sg n
def sk (k j:Nat):Nat:=if j<k then j else j+1
abbrev Mx:=Nat->Nat->Rat
def mnr (M:Mx) (k:Nat):Mx:=λi j=>M (i+1) (sk k j)
def det:Nat->Mx->Rat
 |0,_=>1
 |n+1,M=>S (n+1) λk=>sg k*M 0 k*det n (mnr M k)
def ZGb {k j n:Nat} (h:j<n):sk k j<n+1:=by unfold sk;split<;>omega
def ZbP: ∀ {n:Nat} {M N:Mx},(∀i j,i<n->j<n->M i j=N i j)->det n M=det n N
 |0,_,_,_=>rfl
 |n+1,M,N,h=>by rw[det,det];refine ZaB λk C=> ?_;rw[h 0 k (by omega) C,ZbP (M:=mnr M k) (N:=mnr N k) λi j hi I=>h (i+1) (sk k j) (by omega) (ZGb I)]
def mnc (M:Mx) (k:Nat):Mx:=λi j=>M (sk k i) (j+1)
def Zvr: ∀ (n:Nat) (M:Mx),det (n+1) M=S (n+1) λk=>sg k*M k 0*det n (mnc M k)
 |0,M=>rfl
 |n+1,M=>by
  rw[det,ZqA,ZqA (n+1) λk=>sg k*M k 0*det (n+1) (mnc M k)];congr 1;have j: ∀l,l<n+1->sg (l+1)*M 0 (l+1)*det (n+1) (mnr M (l+1))=S (n+1) λi=>sg (l+1)*M 0 (l+1)*(sg i*M (i+1) 0*det n (mnc (mnr M (l+1)) i)):=by intro l _;rw[Zvr n,Zd0];rfl
  have C: ∀i,i<n+1->sg (i+1)*M (i+1) 0*det (n+1) (mnc M (i+1))=S (n+1) λl=>sg (i+1)*M (i+1) 0*(sg l*M 0 (l+1)*det n (mnr (mnc M (i+1)) l)):=by intro i _;rw[det,Zd0];rfl
  rw[ZaB j,ZaB C,Zom];refine ZaB λi _=>ZaB λl _=> ?_;have I:mnc (mnr M (l+1)) i=mnr (mnc M (i+1)) l:=(by funext a b;simp only[mnc,mnr,sk];congr 1<;>(repeat' split)<;>omega);rw[I,sg,sg];grind
def tr (M:Mx):Mx:=λi j=>M j i
def ZBX: ∀ (n:Nat) (M:Mx),det n (tr M)=det n M
 |0,_=>rfl
 |n+1,M=>by rw[Zvr n M,det];refine ZaB λk _=> ?_;rw[<-ZBX n (mnc M k)];rfl
def ZbL (M:Mx) (i:Nat) (v:Nat->Rat):Mx:=λr c=>if r=i then v c else M r c
def ZsW (M:Mx) (v:Nat->Rat) (k:Nat):mnr (ZbL M 0 v) k=mnr M k:=by funext a b;simp only[mnr,ZbL];rw[if_neg (by omega)]
def Zzb (M:Mx) (i:Nat) (v:Nat->Rat) (k:Nat):mnr (ZbL M (i+1) v) k=ZbL (mnr M k) i (λc=>v (sk k c)):=by funext a b;simp only[mnr,ZbL];by_cases h:a=i;rw[if_pos (by omega),if_pos h];rw[if_neg (by omega),if_neg h]
def Zfo: ∀ {n i:Nat} (M:Mx) (u v:Nat->Rat) (c:Rat),i<n->det n (ZbL M i (λj=>u j+c*v j))=det n (ZbL M i u)+c*det n (ZbL M i v)
 |0,_,_,_,_,_,h=>by omega
 |n+1,0,M,u,v,c,_=>by rw[det,det,det,<-Zd0,<-ZmA];refine ZaB λk _=> ?_;simp only[ZsW];simp only[ZbL,if_pos];grind
 |n+1,i+1,M,u,v,c,h=>by rw[det,det,det,<-Zd0,<-ZmA];refine ZaB λk _=> ?_;simp only[Zzb];rw[Zfo (mnr M k) (λj=>u (sk k j)) (λj=>v (sk k j)) c (by omega)];simp only[ZbL,if_neg (show ¬ (0=i+1)by omega)];grind
def ZqG: ∀ {n j:Nat} {M:Mx},j+1<n->(∀i,i<n->M i j=M i (j+1))->det n M=0
 |0,_,_,h,_=>by omega
 |n+1,j,M,h,he=>by rw[det,ZH4 h];have e:det n (mnr M j)=det n (mnr M (j+1)):=(by refine ZbP λa b J R=> ?_;simp only[mnr,sk];by_cases C:b<j;rw[if_pos C,if_pos (by omega)];rw[if_neg C];by_cases I:b<j+1;rw[if_pos I,show b=j by omega,he (a+1) (by omega)];rw[if_neg I]);rw[e,he 0 (by omega),sg];grind;intro k U C I;have:det n (mnr M k)=0:=(by by_cases h3:k<j;refine ZqG (j:=j-1) (by omega) λi hi=> ?_;simp only[mnr,sk];rw[if_neg (by omega),if_neg (by omega),show j-1+1=j by omega];exact he (i+1) (by omega);refine ZqG (j:=j) (by omega) λi hi=> ?_;simp only[mnr,sk];rw[if_pos (by omega),if_pos (by omega)];exact he (i+1) (by omega));rw[this];grind
def ZwC {n i:Nat} {M:Mx} (h:i+1<n) (he: ∀j,j<n->M i j=M (i+1) j):det n M=0:=by rw[<-ZBX];exact ZqG h he
def ZhX (M:Mx) (i:Nat):ZbL M i (M i)=M:=by funext a b;simp only[ZbL];split;rename_i h;rw[h];rfl
def swR (M:Mx) (i k:Nat):Mx:=λr c=>if r=i then M k c else if r=k then M i c else M r c
def ZfY {M:Mx} {i k:Nat} {u v:Nat->Rat} (h:i≠k):ZbL (ZbL M i u) k v=ZbL (ZbL M k v) i u:=by funext a b;simp only[ZbL];by_cases j:a=i<;>by_cases C:a=k<;>simp[j,C]<;>omega
def ZJH {n i k:Nat} (hi:i<n) (J:k<n) (C:i≠k) (M:Mx) (u v:Nat->Rat)
 (I: ∀w,det n (ZbL (ZbL M i w) k w)=0):det n (ZbL (ZbL M i u) k v)= -det n (ZbL (ZbL M i v) k u):=by have R:=I (λj=>u j+1*v j);rw[Zfo _ _ _ _ J,ZfY C,Zfo _ _ _ _ hi,ZfY C,Zfo _ _ _ _ hi]at R;have U:=I u;have h3:=I v;rw[ZfY C]at U h3;rw[ZfY C,ZfY C (u:=v)];grind
def ZGw (M:Mx) {i k:Nat} (h:i≠k):swR M i k=ZbL (ZbL M i (M k)) k (M i):=by funext a b;simp only[swR,ZbL];by_cases j:a=i;subst j;rw[if_pos rfl,if_neg h,if_pos rfl];rw[if_neg j];by_cases C:a=k;subst C;rw[if_pos rfl,if_pos rfl];rw[if_neg C,if_neg C,if_neg j]
def ZAT (M:Mx) {i k:Nat} (_:i≠k):ZbL (ZbL M i (M i)) k (M k)=M:=by rw[ZhX,ZhX]
def ZpT: ∀ (d:Nat) {n i k:Nat} {M:Mx},k=i+d+1->k<n->(∀j,j<n->M i j=M k j)->det n M=0
 |0,n,i,k,M,e,C,he=>by subst e;exact ZwC C he
 |d+1,n,i,k,M,e,C,he=>by have I:det n M= -det n (swR M (k-1) k):=(by have:=ZJH (n:=n) (i:=k-1) (k:=k) (by omega) C (by omega) M (M (k-1)) (M k) λw=>(by refine ZwC (i:=k-1) (by omega) λj _=> ?_;simp only[ZbL];rw[if_neg (by omega),if_pos trivial,if_pos (by omega)]);rw[ZAT M (by omega),<-ZGw M (by omega)]at this;exact this);rw[I,ZpT d (i:=i) (k:=k-1) (by omega) (by omega)];grind;intro j J;simp only[swR];rw[if_neg (by omega),if_neg (by omega),if_pos trivial];exact he j J
def ZjI {n i k:Nat} {M:Mx} (h:i≠k) (hi:i<n) (C:k<n) (he: ∀j,j<n->M i j=M k j):det n M=0:=by by_cases J:i<k;exact ZpT (k-i-1) (i:=i) (k:=k) (by omega) C he;exact ZpT (i-k-1) (i:=k) (k:=i) (by omega) hi λj I=>(he j I).symm
def Zn4 {n i:Nat} (M:Mx) (c:Rat) (hi:i<n):det n (ZbL M i (λj=>c*M i j))=c*det n M:=by
 have:=Zfo (n:=n) (i:=i) M (λ_=>0) (M i) c hi;rw[ZhX]at this;have C:det n (ZbL M i λ_=>0)=0:=by have:=Zfo (n:=n) (i:=i) M (λ_=>0) (λ_=>0) 1 hi;have e:(λj:Nat=>(0:Rat)+1*0)=λ_=>0:=(by funext j;grind);rw[e]at this;grind
 rw[C]at this;have e:(λj=>(0:Rat)+c*M i j)=λj=>c*M i j:=by funext j;grind
 rw[e]at this;grind
def Zy4 {n i:Nat} {M:Mx} (hi:i<n) (h: ∀j,j<n->M i j=0):det n M=0:=by have:=Zn4 (n:=n) M 0 hi;rw[ZbP (N:=M)]at this;grind;intro a b I C;simp only[ZbL];split;rename_i e;rw[e,h b C];grind;rfl
def ZwL {n i:Nat} (M:Mx) (m:Nat) (x:Nat->Rat) (v:Nat->Nat->Rat) (hi:i<n):det n (ZbL M i (λj=>S m λt=>x t*v t j))=S m λt=>x t*det n (ZbL M i (v t)):=by induction m with|zero=>rw[S];refine Zy4 hi λj _=> ?_;simp only[ZbL];rw[if_pos trivial];rfl|succ m C=>rw[S,<-C,<-Zfo _ _ _ _ hi];rfl
def ZGc {n i:Nat} {M:Mx} {x b:Nat->Rat} (hi:i<n) (h: ∀j,j<n->(S n λt=>x t*M t j)=b j):det n (ZbL M i b)=x i*det n M:=by rw[ZbP (N:=ZbL M i (λj=>S n λt=>x t*M t j)),ZwL M n x M hi,Zll hi];rw[ZhX];intro k I C;rw[ZjI (i:=i) (k:=k) (λe=>C e.symm) hi I];grind;intro j _;simp only[ZbL];rw[if_pos trivial,if_neg C];intro a c _ J;simp only[ZbL];split;exact(h c J).symm;rfl
def Zc8 (n k:Nat) (g:Nat->Nat) (M:Mx):Prop:= ∃f:Nat->Nat,(∀i,i<k->f i<n)/\det k (λi j=>M (f i) (g j))≠0
def Zyr {n k:Nat} {g:Nat->Nat} {M N:Mx} (h:Zc8 n k g M) (he: ∀i j,i<n->j<k->M i (g j)=N i (g j)):Zc8 n k g N:=by obtain⟨f,C,J⟩:=h;refine⟨f,C, ?_⟩;rwa[<-ZbP (M:=λi j=>M (f i) (g j)) (N:=λi j=>N (f i) (g j)) λi j hi I=>he (f i) j (C i hi) I]
def ZGk {n k i r:Nat} {g:Nat->Nat} {M:Mx} (hi:i<n) (hr:r<n) (h:Zc8 n k g M):Zc8 n k g (swR M i r):=by
 obtain⟨f,R,J⟩:=h;refine⟨λt=>if f t=i then r else if f t=r then i else f t,λt U=> ?_, ?_⟩;have:=R t U;simp only;split<;>(try split)<;>omega;have e:(λa j=>M (f a) (g j))=λa j=>swR M i r (if f a=i then r else if f a=r then i else f a) (g j):=by funext a j;simp only[swR];by_cases I:f a=i;rw[if_pos I];by_cases C:r=i;rw[if_pos C,I,C];rw[if_neg C,if_pos rfl,I];rw[if_neg I];by_cases C:f a=r;rw[if_pos C,if_pos rfl,C];rw[if_neg C,if_neg I,if_neg C]
 rw[e]at J;exact J
def ZBm {n k i r:Nat} {g:Nat->Nat} {M:Mx} {c:Rat} (hr:r<n) (h:Zc8 n k g (ZbL M i (λj=>M i j+c*M r j))):Zc8 n k g M:=by
 obtain⟨f,J,R⟩:=h;by_cases hex: ∃t,t<k/\f t=i
 obtain⟨t,ht,hf⟩:=hex;have hu: ∀s,s<k->f s=i->s=t:=λs U aa=>by apply Decidable.byContradiction;intro ab;refine R (ZjI ab U ht λj _=> ?_);simp only[hf,aa]
 by_cases h0:det k (λa j=>M (f a) (g j))=0;refine⟨λs=>if s=t then r else f s,λs U=> ?_, ?_⟩;simp only;split;exact hr;exact J s U;intro h3;apply R;have e:det k (λa j=>ZbL M i (λj=>M i j+c*M r j) (f a) (g j))=det k (ZbL (λa j=>M (f a) (g j)) t (λj=>M i (g j)+c*M r (g j))):=by refine ZbP λa j I _=> ?_;simp only[ZbL];by_cases C:a=t;subst C;rw[if_pos hf,if_pos rfl];rw[if_neg C,if_neg λe=>C (hu a I e)]
 rw[e,Zfo _ _ _ _ ht];have e1:det k (ZbL (λa j=>M (f a) (g j)) t (λj=>M i (g j)))=0:=by rw[<-h0];refine ZbP λa j I _=> ?_;simp only[ZbL];split;rename_i C;subst C;rw[hf];rfl
 have e2:det k (ZbL (λa j=>M (f a) (g j)) t (λj=>M r (g j)))=0:=by rw[<-h3];refine ZbP λa j I _=> ?_;simp only[ZbL];split<;>rfl
 rw[e1,e2];grind;exact⟨f,J,h0⟩;refine⟨f,J, ?_⟩;rwa[ZbP (N:=λa j=>M (f a) (g j)) λa j I _=>by simp only[ZbL];rw[if_neg λe=>hex ⟨a,I,e⟩]]at R
def Zs4 {n k i:Nat} {g:Nat->Nat} {M:Mx} {c:Rat} (h:Zc8 n k g (ZbL M i (λj=>c*M i j))):Zc8 n k g M:=by
 obtain⟨f,h1,I⟩:=h;by_cases hex: ∃t,t<k/\f t=i
 obtain⟨t,ht,hf⟩:=hex;have hu: ∀s,s<k->f s=i->s=t:=λs hs J=>by apply Decidable.byContradiction;intro R;refine I (ZjI R hs ht λj _=> ?_);simp only[hf,J]
 refine⟨f,h1,λh0=>I ?_⟩;have:=Zn4 (n:=k) (λa j=>M (f a) (g j)) c ht;rw[h0]at this;rw[show(0:Rat)=c*0 by grind,<-this];refine ZbP λa j U _=> ?_;simp only[ZbL];by_cases C:a=t;subst C;rw[if_pos hf,if_pos rfl,hf];rw[if_neg C,if_neg λe=>C (hu a U e)];refine⟨f,h1, ?_⟩;rwa[ZbP (N:=λa j=>M (f a) (g j)) λa j U _=>by simp only[ZbL];rw[if_neg λe=>hex ⟨a,U,e⟩]]at I
structure REq (n W:Nat) (M N:Mx):Prop where
 sol: ∀y:Nat->Rat,(∀i,i<n->S W (λj=>M i j*y j)=0)<->(∀i,i<n->S W (λj=>N i j*y j)=0)
 min: ∀k g,(∀j,j<k->g j<W)->(Zc8 n k g M<->Zc8 n k g N)
def REq.of_eq {n W:Nat} {M N:Mx} (h: ∀i j,i<n->j<W->M i j=N i j):REq n W M N:=
 ⟨λy=>⟨λC i hi=>by rw[<-C i hi];exact ZaB λj I=>by rw[h i j hi I],λC i hi=>by rw[<-C i hi];exact ZaB λj I=>by rw[h i j hi I]⟩,
  λk g J=>⟨λC=>Zyr C λi j hi I=>h i _ hi (J j I),λC=>Zyr C λi j hi I=>(h i _ hi (J j I)).symm⟩⟩
def REq.refl (n W:Nat) (M:Mx):REq n W M M:= .of_eq λ_ _ _ _=>rfl
def REq.trans {n W:Nat} {M N K:Mx} (j:REq n W M N) (C:REq n W N K):REq n W M K:=
 ⟨λy=>(j.sol y).trans (C.sol y),λk g I=>(j.min k g I).trans (C.min k g I)⟩
def Zv1 {M:Mx} {i r:Nat}:swR (swR M i r) i r=M:=by funext a b;simp only[swR];by_cases C:a=i;subst C;rw[if_pos rfl];by_cases j:r=a;rw[if_pos j,j];rw[if_neg j,if_pos trivial];rw[if_neg C];by_cases j:a=r;subst j;rw[if_pos rfl,if_pos trivial];rw[if_neg j,if_neg C,if_neg j]
def ZBz {n W i r:Nat} {M:Mx} {y:Nat->Rat} (hi:i<n) (J:r<n) (h: ∀i,i<n->S W (λj=>M i j*y j)=0): ∀t,t<n->S W (λj=>swR M i r t j*y j)=0:=by intro t R;simp only[swR];by_cases C:t=i;simp only[if_pos C];exact h r J;simp only[if_neg C];by_cases I:t=r;simp only[if_pos I];exact h i hi;simp only[if_neg I];exact h t R
def REq.sw {n W i r:Nat} {M:Mx} (hi:i<n) (j:r<n):REq n W M (swR M i r):=
 ⟨λy=>⟨ZBz hi j,λh=>by have:=ZBz hi j h;rwa[Zv1]at this⟩,
  λk g _=>⟨ZGk hi j,λh=>by have:=ZGk hi j h;rwa[Zv1]at this⟩⟩
def Zol {M:Mx} {i:Nat} {u v:Nat->Rat}:ZbL (ZbL M i u) i v=ZbL M i v:=by funext a b;simp only[ZbL];split<;>rfl
def ZxC {n W i r:Nat} {M:Mx} {y:Nat->Rat} {c:Rat} (hi:i<n) (I:r<n) (h: ∀i,i<n->S W (λj=>M i j*y j)=0): ∀t,t<n->S W (λj=>ZbL M i (λj=>M i j+c*M r j) t j*y j)=0:=by intro t J;simp only[ZbL];by_cases C:t=i;simp only[if_pos C];rw[ZaB (g:=λj=>M i j*y j+c*(M r j*y j)) λk _=>by grind,ZmA,Zd0,h i hi,h r I];grind;simp only[if_neg C];exact h t J
def Ztl {M:Mx} {i r:Nat} {c:Rat} (C:i≠r):M=ZbL (ZbL M i (λj=>M i j+c*M r j)) i (λj=>ZbL M i (λj=>M i j+c*M r j) i j+ -c*ZbL M i (λj=>M i j+c*M r j) r j):=by rw[Zol];funext a b;simp only[ZbL];split;rename_i h;subst h;rw[if_pos trivial,if_neg λe=>C e.symm];grind;rfl
def REq.add {n W i r:Nat} {M:Mx} (c:Rat) (hi:i<n) (I:r<n) (C:i≠r):REq n W M (ZbL M i (λj=>M i j+c*M r j)):=
 ⟨λy=>⟨ZxC hi I,λh=>by have:=ZxC (c:= -c) hi I h;rwa[<-Ztl C]at this⟩,
  λk g _=>⟨λh=>ZBm (c:= -c) I (by rwa[<-Ztl C]),ZBm I⟩⟩
def Zlw {M:Mx} {i:Nat} {c:Rat} (C:c≠0):M=ZbL (ZbL M i (λj=>c*M i j)) i (λj=>c⁻¹ *ZbL M i (λj=>c*M i j) i j):=by rw[Zol];funext a b;simp only[ZbL];split;rename_i h;subst h;rw[if_pos trivial];grind;rfl
def ZoV {n W i:Nat} {M:Mx} {y:Nat->Rat} {c:Rat} (h: ∀i,i<n->S W (λj=>M i j*y j)=0) (hi:i<n): ∀t,t<n->S W (λj=>ZbL M i (λj=>c*M i j) t j*y j)=0:=by intro t I;simp only[ZbL];by_cases C:t=i;simp only[if_pos C];rw[ZaB (g:=λj=>c*(M i j*y j)) λk _=>by grind,Zd0,h i hi];grind;simp only[if_neg C];exact h t I
def REq.scale {n W i:Nat} {M:Mx} {c:Rat} (hi:i<n) (C:c≠0):REq n W M (ZbL M i (λj=>c*M i j)):=
 ⟨λy=>⟨λh=>ZoV h hi,λh=>by have:=ZoV (c:=c⁻¹) h hi;rwa[<-Zlw C]at this⟩,
  λk g _=>⟨λh=>Zs4 (c:=c⁻¹) (i:=i) (by rwa[<-Zlw C]),Zs4⟩⟩
structure Ech (n c m:Nat) (p:Nat->Nat) (M:Mx):Prop where
 mn:m<=n
 inc: ∀s t,s<t->t<m->p s<p t
 lt: ∀t,t<m->p t<c
 one: ∀t,t<m->M t (p t)=1
 col: ∀i t,i<n->t<m->i≠t->M i (p t)=0
 low: ∀i j,m<=i->i<n->j<c->M i j=0
def ZBH: ∀ (k:Nat) {m:Nat} {f:Nat->Nat},m<k->(∀i,i<k->f i<m)-> ∃a b,a<k/\b<k/\a≠b/\f a=f b
 |0,_,_,h,_=>by omega
 |k+1,0,f,_,hf=>by have:=hf 0 (by omega);omega
 |k+1,m+1,f,h,hf=>by
  by_cases hex: ∃a,a<k/\f a=f k
  obtain⟨a,C,e⟩:=hex;exact⟨a,k,by omega,by omega,by omega,e⟩;obtain⟨a,b,C,I,j,e⟩:=ZBH k (m:=m) (f:=λi=>if f i<f k then f i else f i-1) (by omega) (λi hi=>by have R:=hf i (by omega);have U:=hf k (by omega);have J:f i≠f k:=λe=>hex ⟨i,hi,e⟩;split<;>omega);refine⟨a,b,by omega,by omega,j, ?_⟩;have J:f a≠f k:=λe=>hex ⟨a,C,e⟩;have h4:f b≠f k:=λe=>hex ⟨b,I,e⟩;split at e<;>split at e<;>omega
def Sol (n w:Nat) (M:Mx) (x:Nat->Rat):Prop:= ∀i,i<n->S w (λj=>M i j*x j)=M i w
def ZII (n w:Nat) (M:Mx) (x:Nat->Rat):Prop:=Sol n w M x/\ ∀y,Sol n w M y-> ∀j,j<w->y j=x j
def Ech.none {n w m i:Nat} {p:Nat->Nat} {M:Mx} (h:Ech n w m p M) (hm:m<=i) (hi:i<n) (j:M i w≠0) (x:Nat->Rat): ¬Sol n w M x:=λC=>by apply j;rw[<-C i hi];exact Zej λk I=>by rw[h.low i k hm hi I];grind
def Ech.ge {n w m:Nat} {p:Nat->Nat} {M:Mx} (h:Ech n w m p M): ∀t,t<m->t<=p t:=by intro t;induction t with|zero=>intro _;omega|succ t j=>intro C;have:=j (by omega);have:=h.inc t (t+1) (by omega) C;omega
def Ech.le {n w m:Nat} {p:Nat->Nat} {M:Mx} (h:Ech n w m p M):m<=w:=by rcases Nat.eq_zero_or_pos m with h0|h0;omega;have:=h.ge (m-1) (by omega);have:=h.lt (m-1) (by omega);omega
def Ech.full {n w:Nat} {p:Nat->Nat} {M:Mx} (h:Ech n w w p M): ∀t,t<w->p t=t:=by
 intro t j;have J:=h.ge t j;have C: ∀d,t+d<w->p t+d<=p (t+d):=by intro d;induction d with|zero=>intro _;exact Xag _|succ d I=>intro hd;have:=I (by omega);have:=h.inc (t+d) (t+(d+1)) (by omega) hd;omega
 have R:=C (w-1-t) (by omega);have U:=h.lt (t+(w-1-t)) (by omega);omega
def Ech.many {n w m:Nat} {p:Nat->Nat} {M:Mx} (h:Ech n w m p M) (hm:m<w) (x:Nat->Rat): ¬ZII n w M x:=by
 rintro⟨hs,hu⟩;obtain⟨c,J,aa⟩: ∃c,c<w/\ ∀t,t<m->p t≠c:=by
  apply Decidable.byContradiction;intro hn;have hex: ∀c,c<w-> ∃t,t<m/\p t=c:=λc J=>by apply Decidable.byContradiction;intro h2;exact hn ⟨c,J,λt R e=>h2 ⟨t,R,e⟩⟩
  obtain⟨f,hf⟩: ∃f:Nat->Nat,∀c,c<w->f c<m/\p (f c)=c:=
   ⟨λc=>if h:c<w then Classical.choose (hex c h)else 0,λc J=>by simp only[dif_pos J];exact Classical.choose_spec (hex c J)⟩
  obtain⟨a,b,ha,hb,ab,e⟩:=ZBH w hm λc J=>(hf c J).1;apply ab;rw[<- (hf a ha).2,<- (hf b hb).2,e]
 let v:Nat->Rat:=λj=>if j=c then 1 else S m (λt=>if p t=j then-M t c else 0)
 have hv: ∀i,i<n->S w (λj=>M i j*v j)=0:=by
  intro i hi;by_cases C:i<m;have ad:p i≠c:=aa i C;have ae:v (p i)= -M i c:=(by show(if p i=c then(1:Rat)else S m (λt=>if p t=p i then-M t c else 0))=_;rw[if_neg ad,Zll C];rw[if_pos rfl];intro k hk I;rw[if_neg];intro e;rcases Nat.lt_or_gt_of_ne I with h1|h1;have:=h.inc k i h1 C;omega;have:=h.inc i k h1 hk;omega);have U:S w (λj=>M i j*v j)=M i c*v c+M i (p i)*v (p i):=by
    have e1:S w (λj=>M i j*v j)=S w (λj=>(if j=c then M i c*v c else 0)+(if j=p i then M i (p i)*v (p i)else 0)):=by
     refine ZaB λj hj=> ?_;by_cases c1:j=c;rw[if_pos c1,if_neg (by omega),c1];grind;rw[if_neg c1];by_cases c2:j=p i;rw[if_pos c2,c2];grind;rw[if_neg c2];have:M i j*v j=0:=by
        by_cases c3: ∃t,t<m/\p t=j
        obtain⟨t,R,e⟩:=c3;rw[<-e,h.col i t hi R λe2=>by subst e2;omega];grind;have:v j=0:=(by show(if j=c then(1:Rat)else S m (λt=>if p t=j then-M t c else 0))=0;rw[if_neg c1];exact Zej λt R=>if_neg λe=>c3 ⟨t,R,e⟩);rw[this];grind
     rw[this];grind
    rw[e1,ZmA,Zll J λk _ I=>if_neg I,Zll (h.lt i C) λk _ I=>if_neg I,if_pos rfl,if_pos rfl]
  rw[U,ae,h.one i C];show M i c*(if c=c then(1:Rat)else _)+_=0;rw[if_pos rfl];grind;exact Zej λk hk=>by rw[h.low i k (by omega) hi hk];grind
 have h2:=hu (λj=>x j+v j) (λi hi=>by rw[ZaB (g:=λj=>M i j*x j+M i j*v j) λk _=>by grind,ZmA,hs i hi,hv i hi];grind) c J;have h3:v c=1:=if_pos rfl;simp only[h3]at h2;grind
def bd:Nat->Nat->Nat
 |0,_=>1
 |n+1,B=>(n+1)*(B*bd n B)
def ZAE {n:Nat} {f:Nat->Rat} {B:Nat} (h: ∀k,k<n-> ∃z:Int,f k=z/\z.natAbs<=B): ∃z:Int,S n f=z/\z.natAbs<=n*B:=by induction n with|zero=>exact⟨0,rfl,by simp⟩|succ n j=>obtain⟨a,C,J⟩:=j λk R=>h k (by omega);obtain⟨b,I,U⟩:=h n (by omega);refine⟨a+b,by rw[S,C,I,Rat.intCast_add], ?_⟩;have:=Int.natAbs_add_le a b;rw[Nat.succ_mul];omega
def ZqH {B:Nat}: ∀ {n:Nat} {M:Mx},(∀i j,i<n->j<n-> ∃z:Int,M i j=z/\z.natAbs<=B)-> ∃z:Int,det n M=z/\z.natAbs<=bd n B
 |0,M,_=>⟨1,rfl,Xag 1⟩
 |n+1,M,h=>by
  rw[det,bd];refine ZAE λk J=> ?_;obtain⟨a,R,U⟩:=h 0 k (by omega) J;obtain⟨b,h3,h4⟩:=ZqH (M:=mnr M k) (n:=n) λi j hi hj=>h (i+1) (sk k j) (by omega) (ZGb hj);have hs: ∃s:Int,sg k=s/\s.natAbs=1:=by clear J R U h3 h4;induction k with|zero=>exact⟨1,rfl,rfl⟩|succ k ih=>obtain⟨s,C,I⟩:=ih;exact⟨-s,by rw[sg,C,Rat.intCast_neg],by rw[Int.natAbs_neg,I]⟩
  obtain⟨s,C,I⟩:=hs;refine⟨s*a*b,by rw[C,R,h3,Rat.intCast_mul,Rat.intCast_mul], ?_⟩;rw[Xb0,Xb0,I,Nat.one_mul];exact Xbb U h4
end La
