/- Part of the proof that the law JudgementClash returns true and leaves its arguments as they were, for all arguments of bulk at most 1048576 (the Upto form). -/
import Derived.Test.YtnanafpgfihjfaaGreatJ509
import Derived.Test.YtnanafpgfihjfaaGreatJ508
import Derived.Calls
import Derived.Shelf.SlSortCmp.NoneTotal
import Derived.Ground.SlsfProg
import Derived.Test.YtnanafpgfihjfaaGreatProg
import Derived.Test.YtnanafpgfihjfaaGreatJ506
import Derived.Test.YtnanafpgfihjfaaGreatJ507
import Derived.Test.YtnanafpgfihjfaaGreatJ501
set_option linter.all false
set_option maxHeartbeats 4000000
set_option maxRecDepth 100000
section
namespace Go.Sx
open Go.Proofs
open IntKind (i64)
theorem AC (b:Bool)(e:Int):aw b e=b:=by cases b <;>rfl
theorem OZ (n lo hi:Int):aG n lo hi=(decide (lo<=n)&&decide (n<=hi)):=rfl
theorem HO (n lo hi:Int):aV n lo hi=(decide (lo<=n)&&decide (n<=hi)):=rfl
theorem JE (d:District)(x:Judgement):je d x=mT d x:=by
 unfold je mT;simp only[AC,OZ,HO,dT];generalize ((d.farms.getD (Int.toNat x.other) (default:Farm)).reach==(d.farms.getD (Int.toNat x.farm) (default:Farm)).reach)=R;generalize i64.wrap ((d.farms.length:Int) - 1)=m;rw[Bool.eq_iff_iff];cases R <;>simp[Bool.cond_eq_ite] <;>grind
structure JInv (b:List Judgement)(s:List (Int×Bool)):Prop where
 nd:(sT s).Nodup
 val:∀ z:Int,dS .int .bool s z=true↔(∃ y∈b,y.of_=0/\y.no+1=z)/\¬ ∃ y∈b,y.of_=z
 no:∀ y∈b,0<=y.no/\y.no<=1048576
 of:∀ y∈b,y.of_≠0->∃ z∈b,y.of_=z.no+1
 last:∀ y∈b,y.no<=(b.getD (b.length - 1) default).no
theorem O0:JInv [] []:=⟨List.nodup_nil,fun z=>⟨fun h=>(by cases h),fun⟨⟨y,hy,_⟩,_⟩ =>(by cases hy)⟩,fun y hy=>(by cases hy),fun y hy=>(by cases hy),fun y hy=>(by cases hy)⟩
theorem yL (b:List Judgement)(x:Judgement):∀ (n k:Nat) (s:Bool),k+n=b.length->
  an (rS b x) n k s=bif(b.drop k).any (fun y=>y.of_==x.of_)then .inl ()else .inr (s||(b.drop k).any (fun y=>y.of_==0&&y.no==i64.wrap (x.of_ - 1)))
 |0,k,s,h=>by
  have:b.drop k=[]:=List.drop_eq_nil_of_le (by omega);simp[this,an]
 |n+1,k,s,h=>by
  have hk:k<b.length:=by omega
  rw[List.drop_eq_getElem_cons hk];simp only[an,rS,qR _ _ hk,List.any_cons];cases h1:(b[k].of_==x.of_) <;>cases h2:(b[k].of_==0&&b[k].no==i64.wrap (x.of_ - 1)) <;>simp only[cond_true,cond_false,Bool.true_or,Bool.false_or,Bool.or_true,Bool.or_false]
  ·rw[yL b x n (k+1) s (by omega)]
  ·rw[yL b x n (k+1) true (by omega)];simp
theorem Df (b:List Judgement)(x:Judgement)(h0:0<x.of_)(h1:x.of_<9223372036854775808):nR b x=true↔
  (x.kind=0/\x.farm=0/\x.other=0/\x.since=0/\x.to=0/\x.n=0)/\(∃ y∈b,y.of_=0/\y.no+1=x.of_)/\¬ ∃ y∈b,y.of_=x.of_:=by
 unfold nR;rw[yL b x b.length 0 false (by omega),List.drop_zero,fE (by omega) (by omega)];have hA:(b.any fun y=>y.of_==x.of_)=true↔∃ y∈b,y.of_=x.of_:=by simp
 have hB:(b.any fun y=>y.of_==0&&y.no==x.of_ - 1)=true↔∃ y∈b,y.of_=0/\y.no+1=x.of_:=by
  simp only[List.any_eq_true,Bool.and_eq_true,beq_iff_eq];exact⟨fun⟨y,h1,h2,h3⟩ =>⟨y,h1,h2,by omega⟩,fun⟨y,h1,h2,h3⟩ =>⟨y,h1,h2,by omega⟩⟩
 rw[<-hA,<-hB];cases(b.any fun y=>y.of_==x.of_) <;>cases(b.any fun y=>y.of_==0&&y.no==x.of_ - 1) <;>simp <;>grind
theorem AD {α:Type}(l:List α)(d:α){k:Nat}(h0:0<k)(h:k<=l.length):(l.take k).getD ((l.take k).length - 1) d=l.getD (k - 1) d:=by
 rw[List.length_take,Nat.min_eq_left h,List.getD_eq_getElem?_getD,List.getElem?_take_of_lt (by omega),<-List.getD_eq_getElem?_getD]
theorem F6 (d:District)(j:List Judgement)(hj:∀ y∈j,-9223372036854775808<=y.of_/\y.of_<9223372036854775808)(hl:j.length<=64){k:Nat}(hk:k<j.length){s:List (Int×Bool)}(hs:JInv (j.take k) s):
  (jD d ((j.take k).drop 0) (j.getD k default)=true/\∃ s',ev d j k s=.inr s'/\JInv (j.take (k+1)) s')\/(jD d ((j.take k).drop 0) (j.getD k default)=false/\ev d j k s=.inl ()):=by
 have hlen:(j.take k).length=k:=by rw[List.length_take];omega
 rw[List.drop_zero];have hx:j.getD k default∈j:=by rw[qR _ _ hk];exact List.getElem_mem _
 have hof:=hj _ hx;have hT:j.take (k+1)=j.take k++[j.getD k default]:=by rw[List.take_add_one,qR _ _ hk,List.getElem?_eq_getElem hk];rfl
 have hlast:0<k->(j.take k).getD (Int.toNat (i64.wrap (((j.take k).length:Int) - 1))) default=j.getD (k - 1) default/\j.getD (Int.toNat (i64.wrap ((k:Int) - 1))) default=j.getD (k - 1) default:=fun h0=>by
  rw[hlen,fE (by omega) (by omega),show((k:Int) - 1).toNat=k - 1 by omega];refine⟨?_,rfl⟩;have:=AD j default h0 (by omega)
  rwa[hlen]at this
 generalize hxe:j.getD k default=x at *;have hx1:j.getD k (default:Judgement)=x:=hxe;generalize hpe:j.getD (k - 1) (default:Judgement)=p at *;have hbk:∀ y∈j.take k,0<k/\y.no<=p.no:=fun y hy=>by
  have h0:0<k:=by
   rcases Nat.eq_zero_or_pos k with h|h
   ·subst h;cases hy
   ·exact h
  have h1:=hs.last y hy;have h2:=AD j (default:Judgement) h0 (by omega:k<=j.length);rw[h2,hpe]at h1;exact⟨h0,h1⟩
 have eB:((k:Int) ==0||(decide (x.no > (j.getD (Int.toNat (i64.wrap ((k:Int) - 1))) (default:Judgement)).no)&&decide (x.hour>=(j.getD (Int.toNat (i64.wrap ((k:Int) - 1))) (default:Judgement)).hour)))=decide (k=0\/p.no<x.no/\p.hour<=x.hour):=by
  by_cases h0:k=0
  ·subst h0;simp
  ·rw[(hlast (by omega)).2];rw[Bool.eq_iff_iff];simp[h0]
 have eR:(decide (((j.take k).length:Int) > 0)&&(decide (x.no<=((j.take k).getD (Int.toNat (i64.wrap (((j.take k).length:Int) - 1))) (default:Judgement)).no) ||decide (x.hour< ((j.take k).getD (Int.toNat (i64.wrap (((j.take k).length:Int) - 1))) (default:Judgement)).hour)))= !decide (k=0\/p.no<x.no/\p.hour<=x.hour):=by
  by_cases h0:k=0
  ·subst h0;simp
  ·rw[(hlast (by omega)).1,hlen];rw[Bool.eq_iff_iff];simp[h0];omega
 have e1:ev d j k s=bif(aV x.no 0 1048576&&aV x.hour 0 d.hours)&&decide (k=0\/p.no<x.no/\p.hour<=x.hour)then(bif x.of_==0 then(bif mT d x then .inr (lF .int .bool s (i64.wrap (x.no+1)) true)else .inl ())else(bif dS .int .bool s x.of_&&decide (x.kind=0/\x.farm=0/\x.other=0/\x.since=0/\x.to=0/\x.n=0)then .inr (yU .int .bool s x.of_)else .inl ()))else .inl ():=by
  unfold ev;simp only[AC,hx1,eB,JE];rw[show aG x.no 0 1048576=aV x.no 0 1048576 from rfl,show aG x.hour 0 d.hours=aV x.hour 0 d.hours from rfl];have eZ:(dS .int .bool s x.of_&&(x.no==x.no&&(x.hour==x.hour&&(x.kind==0&&(x.farm==0&&(x.other==0&&(x.since==0&&(x.to==0&&(x.n==0&&x.of_==x.of_)))))))))=(dS .int .bool s x.of_&&decide (x.kind=0/\x.farm=0/\x.other=0/\x.since=0/\x.to=0/\x.n=0)):=by
   congr 1
   rw[Bool.eq_iff_iff];simp
  rw[eZ];cases aV x.no 0 1048576&&aV x.hour 0 d.hours <;>cases decide (k=0\/p.no<x.no/\p.hour<=x.hour) <;>rfl
 have e2:jD d (j.take k) x=bif(aV x.no 0 1048576&&aV x.hour 0 d.hours)&&decide (k=0\/p.no<x.no/\p.hour<=x.hour)then(bif x.of_==0 then mT d x else(decide (x.of_ > 0)&&nR (j.take k) x))else false:=by
  unfold jD;rw[eR];cases aV x.no 0 1048576 <;>cases aV x.hour 0 d.hours <;>cases decide (k=0\/p.no<x.no/\p.hour<=x.hour) <;>rfl
 rw[e1,e2];cases hAB:(aV x.no 0 1048576&&aV x.hour 0 d.hours)&&decide (k=0\/p.no<x.no/\p.hour<=x.hour)with
 |false=>exact .inr ⟨rfl,rfl⟩
 |true=>
  simp only[Bool.and_eq_true,HO,decide_eq_true_eq]at hAB;obtain⟨⟨⟨n1,n2⟩,_⟩,hB⟩:=hAB;have hno:∀ y∈j.take k,y.no<x.no:=fun y hy=>by
   obtain⟨h0,h1⟩:=hbk y hy;rcases hB with hB|hB <;>omega
  simp only[cond_true];have hlst:∀ y∈j.take (k+1),y.no<=((j.take (k+1)).getD ((j.take (k+1)).length - 1) default).no:=fun y hy=>by
   rw[AD j default (by omega) (by omega:k+1<=j.length),Nat.add_sub_cancel,hx1];rw[hT]at hy;rcases List.mem_append.1 hy with hy|hy
   ·exact Int.le_of_lt (hno y hy)
   ·rw[List.mem_singleton.1 hy];exact Int.le_refl _
  have hnn:∀ y∈j.take (k+1),0<=y.no/\y.no<=1048576:=fun y hy=>by
   rw[hT]at hy;rcases List.mem_append.1 hy with hy|hy
   ·exact hs.no y hy
   ·rw[List.mem_singleton.1 hy];exact⟨n1,n2⟩
  cases ho:x.of_==0 with
  |true=>
   have ho':x.of_=0:=eq_of_beq ho;simp only[cond_true];cases hv:mT d x with
   |false=>exact .inr ⟨rfl,rfl⟩
   |true=>
    refine .inl ⟨rfl,_,rfl,(EK _ _ _ hs.nd).1,fun z=>?_,hnn,fun y hy h0=>?_,hlst⟩
    ·rw[xC,fE (by omega) (by omega),hT];by_cases hz:z=x.no+1
     ·subst hz;rw[if_pos rfl];refine⟨fun _=>⟨⟨x,by simp,ho',rfl⟩,fun⟨y,hy,h1⟩ =>?_⟩,fun _=>rfl⟩;rcases List.mem_append.1 hy with hy|hy
      ·obtain⟨q,hq,h2⟩:=hs.of y hy (by omega);have:=hno q hq;omega
      ·rw[List.mem_singleton.1 hy]at h1;omega
     ·rw[if_neg hz,hs.val];constructor
      ·rintro⟨⟨y,hy,h1,h2⟩,h3⟩;refine⟨⟨y,List.mem_append_left _ hy,h1,h2⟩,fun⟨q,hq,h4⟩ =>?_⟩;rcases List.mem_append.1 hq with hq|hq
       ·exact h3 ⟨q,hq,h4⟩
       ·rw[List.mem_singleton.1 hq]at h4;have:=(hs.no y hy).1;omega
      ·rintro⟨⟨y,hy,h1,h2⟩,h3⟩;refine⟨?_,fun⟨q,hq,h4⟩ =>h3 ⟨q,List.mem_append_left _ hq,h4⟩⟩;rcases List.mem_append.1 hy with hy|hy
       ·exact⟨y,hy,h1,h2⟩
       ·rw[List.mem_singleton.1 hy]at h2;exact absurd h2.symm hz
    ·rw[hT]at hy |-;rcases List.mem_append.1 hy with hy|hy
     ·obtain⟨q,hq,h2⟩:=hs.of y hy h0;exact⟨q,List.mem_append_left _ hq,h2⟩
     ·rw[List.mem_singleton.1 hy]at h0;exact absurd ho' h0
  |false=>
   have ho':x.of_≠0:=fun e=>by rw[e]at ho;cases ho
   simp only[cond_false];have hC:(decide (x.of_ > 0)&&nR (j.take k) x)=(dS .int .bool s x.of_&&decide (x.kind=0/\x.farm=0/\x.other=0/\x.since=0/\x.to=0/\x.n=0)):=by
    rw[Bool.eq_iff_iff];simp only[Bool.and_eq_true,decide_eq_true_eq];constructor
    ·rintro⟨h1,h2⟩;obtain⟨h3,h4⟩:=(Df _ x h1 hof.2).1 h2;exact⟨(hs.val _).2 h4,h3⟩
    ·rintro⟨h1,h2⟩;have h3:=(hs.val _).1 h1;have h4:0<x.of_:=by
      obtain⟨⟨y,hy,_,h5⟩,_⟩:=h3;have:=(hs.no y hy).1;omega
     exact⟨h4,(Df _ x h4 hof.2).2 ⟨h2,h3⟩⟩
   rw[hC];cases hv:(dS .int .bool s x.of_&&decide (x.kind=0/\x.farm=0/\x.other=0/\x.since=0/\x.to=0/\x.n=0))with
   |false=>exact .inr ⟨rfl,rfl⟩
   |true=>
    simp only[Bool.and_eq_true]at hv;have h3:=(hs.val _).1 hv.1;refine .inl ⟨rfl,_,rfl,(Az _ _ hs.nd).1,fun z=>?_,hnn,fun y hy h0=>?_,hlst⟩
    ·rw[Mt _ hs.nd,hT];by_cases hz:z=x.of_
     ·rw[if_pos hz];exact⟨fun h=>(by cases h),fun h=>absurd ⟨x,by simp,hz.symm⟩ h.2⟩
     ·rw[if_neg hz,hs.val];constructor
      ·rintro⟨⟨y,hy,h1,h2⟩,h4⟩;refine⟨⟨y,List.mem_append_left _ hy,h1,h2⟩,fun⟨q,hq,h5⟩ =>?_⟩;rcases List.mem_append.1 hq with hq|hq
       ·exact h4 ⟨q,hq,h5⟩
       ·rw[List.mem_singleton.1 hq]at h5;exact hz h5.symm
      ·rintro⟨⟨y,hy,h1,h2⟩,h4⟩;refine⟨?_,fun⟨q,hq,h5⟩ =>h4 ⟨q,List.mem_append_left _ hq,h5⟩⟩;rcases List.mem_append.1 hy with hy|hy
       ·exact⟨y,hy,h1,h2⟩
       ·rw[List.mem_singleton.1 hy]at h1;exact absurd h1 ho'
    ·rw[hT]at hy |-;rcases List.mem_append.1 hy with hy|hy
     ·obtain⟨q,hq,h2⟩:=hs.of y hy h0;exact⟨q,List.mem_append_left _ hq,h2⟩
     ·rw[List.mem_singleton.1 hy];obtain⟨⟨q,hq,_,h2⟩,_⟩:=h3;exact⟨q,List.mem_append_left _ hq,h2.symm⟩
theorem A4 (d:District)(j:List Judgement)(hj:∀ y∈j,-9223372036854775808<=y.of_/\y.of_<9223372036854775808)(hl:j.length<=64):∀ (n k:Nat) (s:List (Int×Bool)),k+n=j.length->JInv (j.take k) s->
  (∃ s',an (ev d j) n k s=.inr s'/\an (i9 d j) n k ()=.inr ())\/(an (ev d j) n k s=.inl ()/\an (i9 d j) n k ()=.inl ())
 |0,k,s,h,hs=>.inl ⟨s,rfl,rfl⟩
 |n+1,k,s,h,hs=>by
  simp only[an,i9];rcases F6 d j hj hl (by omega:k<j.length) hs with⟨h1,s',h2,h3⟩ | ⟨h1,h2⟩
  ·rw[h1,h2];simp only[Bool.not_true,cond_false];exact A4 d j hj hl n (k+1) s' (by omega) h3
  ·rw[h1,h2];simp only[Bool.not_false,cond_true];exact .inr ⟨by simp,by simp⟩
theorem zw (d:District)(j:List Judgement)(hj:∀ y∈j,-9223372036854775808<=y.of_/\y.of_<9223372036854775808):bw d j=iu d j:=by
 unfold bw iu;rw[w7,AC];cases hc:(gf d !=0)with
 |true=>rfl
 |false=>
  simp only[cond_false];by_cases hl:j.length<=64
  ·rw[decide_eq_true (by omega:(j.length:Int)<=64),decide_eq_false (by omega:¬ (j.length:Int) > 64)];simp only[cond_true,cond_false];rcases A4 d j hj hl j.length 0 [] (by omega) O0 with⟨s',h1,h2⟩ | ⟨h1,h2⟩ <;>rw[h1,h2]
  ·rw[decide_eq_false (by omega:¬ (j.length:Int)<=64),decide_eq_true (by omega:(j.length:Int) > 64)];rfl
abbrev JR (j:List Judgement):Prop:= ∀ y∈j,-9223372036854775808<=y.of_/\y.of_<9223372036854775808
theorem ER (j:List Judgement)(x:Judgement)(hour:Int):∀ (n i:Nat),
  (decide ((match an (bP j x hour) n i ()with| .inl x_0_0=>x_0_0| .inr s_0=>(-1))>=(0:Int)))=(match an (sW j x hour) n i ()with| .inl x_0_0=>true| .inr s_0=>false)
 |0,i=>rfl
 |n+1,i=>by
  simp only[an,bP,sW,mq];rcases Bool.eq_false_or_eq_true (((j.getD i (default:Judgement)).of_==i64.wrap (x.no+1))&&decide ((j.getD i (default:Judgement)).hour<=hour))with h|h
  ·simp only[h,cond_true];exact decide_eq_true (Int.natCast_nonneg i)
  ·simp only[h,cond_false];exact ER j x hour n (i+1)
theorem O1 (j:List Judgement)(x:Judgement)(hour:Int):gZ j x hour=tU j x hour:=ER j x hour j.length 0
theorem ES {d:District}{j:List Judgement}(h:iu d j=0):gf d=0/\j.length<=64/\∀ k,k<j.length->jD d (j.take k) (j.getD k default)=true:=by
 unfold iu at h;cases hc:(gf d !=0)with
 |true=>
  rw[hc]at h;simp only[cond_true]at h;rw[h]at hc;cases hc
 |false=>
  rw[hc]at h;simp only[cond_false]at h;have hc':gf d=0:=by simpa using hc
  by_cases hl:j.length<=64
  ·rw[decide_eq_false (by omega:¬ (j.length:Int) > 64)]at h;simp only[cond_false]at h;refine⟨hc',hl,fun k hk=>?_⟩;cases hr:an (i9 d j) j.length 0 ()with
   |inl y=>rw[hr]at h;cases h
   |inr s=>
    have:=pa hr k (by omega) (by omega);simp only[i9,List.drop_zero]at this;cases hq:jD d (j.take k) (j.getD k default)with
    |true=>rfl
    |false=>rw[hq]at this;cases this
  ·rw[decide_eq_true (by omega:(j.length:Int) > 64)]at h;cases h
structure JOk (d:District)(x:Judgement):Prop where
 no:0<=x.no/\x.no<=1048576
 end_:x.of_≠0->x.kind=0
 kind:x.of_=0->1<=x.kind/\x.kind<=4
 farm:x.of_=0->0<=x.farm/\x.farm< (d.farms.length:Int)
 none:x.kind=1->x.n=0
 n:x.kind≠1->x.of_=0->1<=x.n/\x.n<=1073741824
 other:3<=x.kind->0<=x.other/\x.other< (d.farms.length:Int)/\x.other≠x.farm
theorem jok {d:District}{b:List Judgement}{x:Judgement}(hf:d.farms.length<=600)(h:jD d b x=true):JOk d x:=by
 unfold jD at h;cases h1:((!(aV x.no 0 1048576)) ||(!(aV x.hour 0 d.hours))) ||((decide ((b.length:Int) > 0))&&((decide (x.no<=(b.getD (Int.toNat (i64.wrap ((b.length:Int) - 1))) (default:Judgement)).no)) ||(decide (x.hour< (b.getD (Int.toNat (i64.wrap ((b.length:Int) - 1))) (default:Judgement)).hour))))with
 |true=>rw[h1]at h;cases h
 |false=>
  rw[h1]at h;simp only[cond_false]at h;have hno:0<=x.no/\x.no<=1048576:=by
   have h2:aV x.no 0 1048576=true:=by
    cases hw:aV x.no 0 1048576 with
    |true=>rfl
    |false=>rw[hw]at h1;simp at h1
   simpa[HO]using h2
  cases ho:x.of_==0 with
  |false=>
   rw[ho]at h;simp only[cond_false,Bool.and_eq_true]at h;have ho':x.of_≠0:=fun e=>by rw[e]at ho;cases ho
   have hk:x.kind=0:=by
    have h2:=h.2;unfold nR at h2;cases hz:(((((x.kind !=0) ||(x.farm !=0)) ||(x.other !=0)) ||(x.since !=0)) ||(x.to !=0)) ||(x.n !=0)with
    |true=>rw[hz]at h2;cases h2
    |false=>simp only[Bool.or_eq_false_iff]at hz;simpa using hz.1.1.1.1.1
   exact⟨hno,fun _=>hk,fun e=>absurd e ho',fun e=>absurd e ho',fun e=>by omega,fun _ e=>absurd e ho',fun e=>by omega⟩
  |true=>
   rw[ho]at h;simp only[cond_true]at h;have ho':x.of_=0:=eq_of_beq ho;unfold mT at h;rw[JD (by omega:d.farms.length<=4096)]at h;simp only[HO]at h;have key:(1<=x.kind/\x.kind<=4)/\(0<=x.farm/\x.farm<=(d.farms.length:Int) - 1)/\(x.kind=1->x.n=0)/\(x.kind≠1->1<=x.n/\x.n<=1073741824)/\(3<=x.kind->(0<=x.other/\x.other<=(d.farms.length:Int) - 1)/\x.other≠x.farm):=by
    generalize ((d.farms.getD (Int.toNat x.other) (default:Farm)).reach==(d.farms.getD (Int.toNat x.farm) (default:Farm)).reach)=R at h;rw[Bool.cond_eq_ite]at h;split at h
    ·cases h
    rename_i hc;simp only[Bool.or_eq_true,Bool.not_eq_true',Bool.and_eq_false_iff,decide_eq_true_eq,decide_eq_false_iff_not,not_or]at hc;rw[Bool.cond_eq_ite]at h;split at h
    ·rename_i hk;have hk':=eq_of_beq hk;simp only[Bool.and_eq_true,beq_iff_eq]at h;omega
    rename_i hk1;have hk1':x.kind≠1:=fun e=>hk1 (by rw[e];rfl);rw[Bool.cond_eq_ite]at h;split at h
    ·rename_i hk;have hk':=eq_of_beq hk;simp only[Bool.and_eq_true,beq_iff_eq,decide_eq_true_eq]at h;omega
    rename_i hk2;rw[Bool.cond_eq_ite]at h;split at h
    ·cases h
    rename_i hc2;simp only[Bool.or_eq_true,Bool.not_eq_true',Bool.and_eq_false_iff,decide_eq_true_eq,decide_eq_false_iff_not,not_or,beq_iff_eq]at hc2;omega
   obtain⟨k1,k2,k3,k4,k5⟩:=key;exact⟨hno,fun e=>absurd ho' e,fun _=>k1,fun _=>⟨k2.1,by omega⟩,k3,fun e _=>k4 e,fun e=>⟨(k5 e).1.1,by have:=(k5 e).1.2;omega,(k5 e).2⟩⟩
theorem Zp {d:District}{j:List Judgement}(h:iu d j=0):∀ k,k<j.length->JOk d (j.getD k default):=fun k hk=>by
 obtain⟨h1,_,h3⟩:=ES h;have h4:bW d=0:=by rw[w7];exact h1
 exact jok ((rv d).1 h4).1.2.1 (h3 k hk)
end Go.Sx
end
section
namespace Go.Sx
open Go.RowKit
def pXM {α:Type 1}(t t2:Tag)(k:List (t.T×t2.T)->List SV->Option α):List SV->Option α
 | .ep [s] 0::r=>pM t t2 k (s::r)
 |_=>none
@[go_sem] theorem Zq {α:Type 1}{t t2:Tag}{k:List (t.T×t2.T)->List SV->Option α}{s:SV}{r:List SV}:pXM t t2 k (.ep [s] 0::r)=pM t t2 k (s::r):=(rfl)
theorem F7 {α:Type 1}{G:List SV->α->Prop}{t t2:Tag}{k:List (t.T×t2.T)->List SV->Option α}(h:∀ n l c,k n l=some c->G (.ep [.rm t t2 n] 0::l) c):∀ l c,pXM t t2 k l=some c->G l c:=fun l c hc=>by
 unfold pXM at hc;split at hc
 ·obtain⟨x,r,e,h1⟩:=UO hc;simp only[List.cons.injEq]at e;obtain⟨rfl,rfl⟩:=e;exact h x _ c h1
 ·cases hc
section
universe u
variable {α:Type u}{G:List SV->α->Prop}
def pLS (k:List SV->Option (List SV->Option α)):List SV->Option α
 | .ls l::r=>apO (k l) r
 |_=>none
@[go_sem] theorem acw {k:List SV->Option (List SV->Option α)}{l r:List SV}:pLS k (.ls l::r)=apO (k l) r:=(rfl)
theorem K7 {k:List SV->Option (List SV->Option α)}(h:∀ caps q,k caps=some q->∀ l c,q l=some c->G (.ls caps::l) c):∀ l c,pLS k l=some c->G l c:=fun l c hc=>by
 unfold pLS at hc;split at hc
 ·obtain⟨q,h1,h2⟩:=zn hc;exact h _ q h1 _ c h2
 ·cases hc
end
open Classical in
noncomputable def qz {τ:Type}(A:τ->List SV)(H:τ->List Ob)(K:τ->HCon):List SV->List Ob->Option HCon:=fun l h=>if e:∃ x,l=A x/\h=H x then some (K e.choose)else none
theorem Mz {k:Tag}{x y:k.T}:cellsOf k x=cellsOf k y↔x=y:=⟨fun h=>by
 have h1:=xu x;rw[h,xu y]at h1;exact(Option.some.inj h1).symm,fun h=>by rw[h]⟩
theorem nT {τ:Type}{A:τ->List SV}{H:τ->List Ob}{K:τ->HCon}{x:τ}(inj:∀ x y,A x=A y->H x=H y->x=y:=by
 intro x y h1 h2;simp only[List.cons.injEq,SV.agg.injEq,SV.ep.injEq,SV.v.injEq,Value.int.injEq,Value.bool.injEq,Value.string.injEq,SV.fn.injEq,SV.rs.injEq,SV.rm.injEq,Ob.row.injEq,Ob.mp.injEq,Ob.cells.injEq,Ob.grid.injEq,heq_eq_eq,Mz,true_and,and_true]at h1 h2;first|exact h2|exact h1|(simp_all [Prod.ext_iff];done)):qz A H K (A x) (H x)=some (K x):=by
 have e:∃ y,A x=A y/\H x=H y:=⟨x,rfl,rfl⟩;unfold qz;rw[dif_pos e];have:=inj _ _ e.choose_spec.1 e.choose_spec.2;rw[<-this]
theorem lp {τ:Type}{A:τ->List SV}{H:τ->List Ob}{K:τ->HCon}{l:List SV}{h:List Ob}{c:HCon}(hh:qz A H K l h=some c):∃ x,l=A x/\h=H x/\c=K x:=by
 unfold qz at hh;split at hh
 ·rename_i e;simp only[Option.some.injEq]at hh;exact⟨e.choose,e.choose_spec.1,e.choose_spec.2,hh.symm⟩
 ·cases hh
end Go.Sx
end
section
namespace Go.Sx
open Go.Proofs
open IntKind (i64)
theorem u0 {l0 l1 l2:List Nat}(a0:JL l0)(a1:JL l1)(a2:JL l2){p:Prop}(h:JL l0->JL l1->JL l2->p:=by intro ja jb jc;(first|done|(repeat' (first|with_reducible refine And.intro ?_ ?_|((with_reducible show _≠_);first|assumption|omega|(simp_all [et,fN];done) |grind) |with_reducible intro _)) <;>(first|done|with_reducible exact Empty.elim ‹Empty› |with_reducible assumption|rfl|omega|assumption|decide|exact fk ja|exact fk jb|exact fk jc|exact czl|(simp only[*,cond_true,cond_false,Bool.not_true,Bool.not_false,go_sem,Nat.reduceBEq,Nat.reduceLeDiff,Nat.reduceLT,decide_true,Nat.reduceAdd,Nat.reduceSub,Nat.reduceMul,Int.reduceLE,Int.reduceLT,Int.reduceToNat,Int.reduceNeg,reduceCtorEq];(repeat' (first|with_reducible refine And.intro ?_ ?_|((with_reducible show _≠_);first|assumption|omega|(simp_all [et,fN];done) |grind) |with_reducible intro _)) <;>(first|done|assumption|rfl|omega|decide|exact fk ja|exact fk jb|exact fk jc|(simp_all [et,fN];done))) |(simp_all [okI,et,fN];done) |(simp_all [et,fN];(first|done|exact fk2 ja|exact fk2 jb|exact fk2 jc)) |exact fk2 ja|exact fk2 jb|exact fk2 jc))):p:=h a0 a1 a2
theorem O2 {l0 l1 l2:List Nat}(a0:JL l0)(a1:JL l1)(a2:JL l2){p:Prop}(h:JL l0->JL l1->JL l2->p:=by intro ja jb jc;simp only[go_sem,Nat.reduceBEq,Nat.reduceLeDiff,Nat.reduceLT,decide_true,Nat.reduceAdd,Nat.reduceSub,Nat.reduceMul,Int.reduceLE,Int.reduceLT,Int.reduceToNat,Int.reduceNeg,reduceCtorEq];all_goals exact u0 ja jb jc):p:=h a0 a1 a2
def fc (y:Claim)(x_:Judgement)(r_:List Claim)(i_:Int):Bool:=((y.farm==x_.other)&&(y.right==(r_.getD (Int.toNat i_) default).right))
def hM (y:Claim)(x_:Judgement)(r_:List Claim)(i_:Int):Prop:=((y.farm==x_.other)=true->(0<=i_/\i_< (r_.length:Int)))
@[go_sem] noncomputable def nX:List SV->Option Con:=(pD .claim fun y=>(pX .judgement fun x_=>(pXR .claim fun r_=>(pX .int fun i_=>(pE (.det (hM y x_ r_ i_) (.v (.bool (fc y x_ r_ i_)))))))))
theorem sY:FnOk Tryz.prog 141 nX:=by
 have hG:ConsOk Tryz.prog (mkG [] []):=ar cg0 cg0;refine ay [.o] mixed ak hG (fn:=Tryz.f141) (c:=ae Tryz.f141) kr kr kr kr (bk fun y=>(aQ fun x_=>(BJ fun r_=>(aQ fun i_=>(ai (fun hp=>?_))))));dsimp only[ax]at hp;unfold hM at hp;refine⟨nbl rfl,L0,ag _,?_⟩
 ·unfold ae Tryz.f141;try unfold fc
  exact zq1
@[go_sem] def bL (s_:List Claim)(x_:Judgement)(r_:List Claim)(i_:Int)(k_0:Nat)(s_0:Unit):Int⊕Unit:=(bif(fc (s_.getD k_0 default) x_ r_ i_)then .inl (k_0:Int)else .inr ())
def bE (s_:List Claim)(x_:Judgement)(r_:List Claim)(i_:Int)(k_0:Nat)(s_0:Unit):Prop:=(hM (s_.getD k_0 default) x_ r_ i_)
def aF (s_:List Claim)(x_:Judgement)(r_:List Claim)(i_:Int):Int:=(match an (bL s_ x_ r_ i_) s_.length 0 ()with| .inl x_0_0=>x_0_0| .inr s_0=>(-1))
def bQ (s_:List Claim)(x_:Judgement)(r_:List Claim)(i_:Int):Prop:=(s_.length<=aD->okI (bL s_ x_ r_ i_) (bE s_ x_ r_ i_) s_.length 0 ())
@[go_sem] noncomputable def dq:List SV->Option Con:=(pR .claim fun s_=>(pFn 141 (pX .judgement fun x_=>(pXR .claim fun r_=>(pX .int fun i_=>(pE ((pE (.det (bQ s_ x_ r_ i_) (.v (.int .i64 (aF s_ x_ r_ i_))))))))))))
theorem fB:FnOk Tryz.prog 142 dq:=by
 have hG:ConsOk Tryz.prog (mkG [(141,nX)] []):=ar (cgc sY cg0) cg0;refine ay [.o] mixed ak hG (fn:=Tryz.f142) (c:=ae Tryz.f142) kr kr kr kr (bC fun s_=>(bJ (aQ fun x_=>(BJ fun r_=>(aQ fun i_=>(ai ((ai (fun hp=>?_)))))))));dsimp only[ax]at hp;unfold bQ at hp;refine⟨nbl rfl,(fun id st=>bif Nat.beq id 0 then some (LCR (ρ:=Int) (σ:=Unit) 0 [] [] (fun k_0 s_0=>⟨[(0,.rs .claim s_),(1,.fn 141 [] [.ep (cellsOf .judgement x_) 0,.ep [.rs .claim r_] 0,.ep [.v (.int .i64 i_)] 0]),(7,.v (.int .i64 (s_.length:Int))),(8,.v (.int .i64 (k_0:Int)))],[]⟩) (bL s_ x_ r_ i_) (bE s_ x_ r_ i_) s_.length () (s_.length<=aD) (fun _=>.ret) (fun x_0_0=>⟨[(4,.v (.int .i64 x_0_0))],[]⟩) st)else none),?_,?_⟩
 ·unfold ae Tryz.f142;simp only[am,true_and,and_true]
  ·refine a_ mixed ak hG kr (fun _=>rfl) (s_.length:Int) rfl gA (fun hb0 k_0 s_0 hlt0 hq0 hw hc=>⟨L0,ag _,?_⟩) (fun hb0 s_0 hc=>?_)
   ·unfold bE at hq0;try simp only[hw,Int.toNat_natCast]at hq0
    exact bi (jl [])
   ·exact ba (jl [])
 ·unfold ae Tryz.f142;try unfold aF
  exact zq1
@[go_sem] noncomputable def dy:List SV->Option Con:=fun l=>(dq l)
theorem jH:FnOk Tryz.prog 142 dy:=fB
@[go_sem] def bX (x:Judgement)(l_:List Claim)(k_0:Nat)(s_0:Int×List Claim×Int):(List Claim)⊕(Int×List Claim×Int):=letI q6:=i64.wrap (s_0.1 - 1);letI q8:=Int.toNat s_0.1;letI q1:=s_0.2.1.getD q8 default;letI q3:=if s_0.2.2<q1.litres then s_0.2.2 else q1.litres;letI q0:=s_0.2.1.set q8 ({ right:=q1.right,farm:=q1.farm,hour:=q1.hour,litres:=(i64.wrap (q1.litres - q3)),rank:=q1.rank}:Claim);letI q4:=aF q0 x q0 s_0.1;letI q2:=q0.getD (Int.toNat q4) default;letI q5:=q0.getD q8 default;letI q7:=i64.wrap (s_0.2.2 - q3);(bif(decide (s_0.1>=0))then(bif(q1.farm !=x.farm)then .inr (q6,s_0.2.1,s_0.2.2)else(bif(decide (q4>=0))then .inr (q6,(q0.set (Int.toNat q4) ({ right:=q2.right,farm:=q2.farm,hour:=q2.hour,litres:=(i64.wrap (q2.litres+q3)),rank:=q2.rank}:Claim)),q7)else .inr (q6,(q0++([({ right:=q5.right,farm:=x.other,hour:=q5.hour,litres:=q3,rank:=q5.rank}:Claim)])),q7)))else .inl s_0.2.1)
def b7 (x:Judgement)(l_:List Claim)(k_0:Nat)(s_0:Int×List Claim×Int):Prop:=letI q3:=0<=s_0.1/\s_0.1< (s_0.2.1.length:Int);letI q7:=Int.toNat s_0.1;letI q1:=s_0.2.1.getD q7 default;letI q5:=if s_0.2.2<q1.litres then s_0.2.2 else q1.litres;letI q0:=s_0.2.1.set q7 ({ right:=q1.right,farm:=q1.farm,hour:=q1.hour,litres:=(i64.wrap (q1.litres - q5)),rank:=q1.rank}:Claim);letI q2:=aF q0 x q0 s_0.1;letI q4:=q0.getD q7 default;letI q6:=0<=q2/\q2< (q0.length:Int);((decide (s_0.1>=0))=true->(q3/\((q1.farm !=x.farm)=false->(q3/\(q3/\(q3/\((bQ q0 x q0 s_0.1)/\(((decide (q2>=0))=true->(q6/\q6))/\((decide (q2>=0))=false->((0<=s_0.1/\s_0.1< (q0.length:Int))/\((q0++([({ right:=q4.right,farm:=x.other,hour:=q4.hour,litres:=q5,rank:=q4.rank}:Claim)])).length*40<=c6)))))))))))
def cm (x:Judgement)(l_:List Claim):List Claim:=(match an (bX x l_) (l_.length+1) 0 ((i64.wrap ((l_.length:Int) - 1)),l_,x.n)with| .inl x_0_0=>x_0_0| .inr s_0=>default)
def cX (x:Judgement)(l_:List Claim):Prop:=letI q0:=((i64.wrap ((l_.length:Int) - 1)),l_,x.n);letI q1:=bX x l_;(l_.length<=aD->(okI q1 (b7 x l_) (l_.length+1) 0 q0/\(∀ z_,an q1 (l_.length+1) 0 q0≠ .inr z_)))
noncomputable def kB:List SV->List Ob->Option HCon:=qz (fun x_:Judgement×(List Claim) =>[.os 0,.agg (cellsOf .judgement x_.1)]) (fun x_=>[.row .claim x_.2]) (fun x_=>jQ (cX x_.1 x_.2) (.os 1) [.dead,.row .claim (cm x_.1 x_.2)])
@[go_sem] theorem Dg (x:Judgement)(l_:List Claim):kB ([.os 0,.agg [.v (.int .i64 x.no),.v (.int .i64 x.hour),.v (.int .i64 x.kind),.v (.int .i64 x.farm),.v (.int .i64 x.other),.v (.int .i64 x.since),.v (.int .i64 x.to),.v (.int .i64 x.n),.v (.int .i64 x.of_)]]) ([.row .claim l_])=some (jQ (cX x l_) (.os 1) [.dead,.row .claim (cm x l_)]):=nT (A:=fun x_:Judgement×(List Claim) =>[.os 0,.agg (cellsOf .judgement x_.1)]) (H:=fun x_=>[.row .claim x_.2]) (K:=fun x_=>jQ (cX x_.1 x_.2) (.os 1) [.dead,.row .claim (cm x_.1 x_.2)]) (x:=(x,l_))
theorem zq56 {l0:List Nat}(a0:JL l0){p:Prop}(h:JL l0->p:=by intro ja;simp only[go_sem,Nat.reduceBEq,Nat.reduceLeDiff,Nat.reduceLT,decide_true,Nat.reduceAdd,Nat.reduceSub,Nat.reduceMul,Int.reduceLE,Int.reduceLT,Int.reduceToNat,Int.reduceNeg,reduceCtorEq,dy];all_goals exact jA ja):p:=h a0
theorem ur:FnOkO Tryz.prog 89 (kB):=by
 have hG:ConsOk Tryz.prog (mkG [(142,fun l=>dy (bp [.sl .claim,.o] l))] []):=ar (cgc (jH.norm [.sl .claim,.o]) cg0) cg0;refine py mixed ak hG (fn:=Tryz.f89) (c:=ae Tryz.f89) kr kr kr kr fun l o con h=>?_;obtain⟨⟨x,l_⟩,rfl,rfl,rfl⟩:=lp h;clear h;try dsimp only
 refine⟨_,_,_,rfl,fun hp=>?_⟩;unfold cX at hp;refine⟨nbl rfl,(fun id st=>bif Nat.beq id 0 then some (LCV (ρ:=(List Claim)) (σ:=(Int×List Claim×Int)) 4 [] [0,1,2,3,3,0] (fun k_0 s_0=>⟨[(2,.ptr 1 0),(3,.ptr 2 0),(5,.v (.int .i64 s_0.2.2)),(6,.ptr 4 0)],[.dead,.cells [.os 5],.cells (cellsOf .judgement x),.dead,.cells [.v (.int .i64 s_0.1)],.row .claim s_0.2.1]⟩) (bX x l_) (b7 x l_) (l_.length+1) ((i64.wrap ((l_.length:Int) - 1)),l_,x.n) (fun _=>.normal) (fun x_0_0=>⟨[(2,.ptr 1 0)],[.dead,.cells [.os 5],.dead,.dead,.dead,.row .claim x_0_0]⟩) st)else none),?_,?_⟩
 ·unfold ae Tryz.f89;simp only[am,true_and,and_true,and_assoc]
  ·refine rq mixed ak hG kr (fun _=>rfl) fun k_0 s_0 hq0=>⟨L0,ag _,?_⟩
   ·unfold b7 at hq0;exact O2 (jl [0,1,2,3,6,5]) (jl [0,1,2,3,9,8]) (jl [0,1,2,3,4,5])
 ·unfold ae Tryz.f89;try unfold cm
  exact zq56 (jl [0,5])
end Go.Sx
end
section
namespace Go.Sx
def Vd {α:Type}:Result α->World
 | .ok _ w=>w
 | .halt _ w=>w
theorem JF {α:Type}:∀ (a:Ask α) (w:World),w.drawn<=(w.ask a).2.drawn
 | .done a,w=>Nat.le_refl _
 | .ask what range k,w=>by
  unfold World.ask;dsimp only;split
  ·exact JF _ w
  ·exact Nat.le_trans (Nat.le_succ _) (JF _ { w with drawn:=w.drawn+1})
theorem Ve (w:World)(c:Sys):w.drawn<=(w.sys c).2.drawn:=by
 unfold World.sys;have:=JF (Kernel.perform c w.os) w;split
 ·exact Nat.le_refl _
 ·rename_i h;rw[h]at this;exact this
theorem HP {p:Program}{w w':World}{a:Addr}{v:Value}{b:Bool}{l:List Addr}(h:w.farStore p a v b=.ok (w',l)):w'.drawn=w.drawn:=by
 unfold World.farStore at h;split at h
 ·split at h
  ·rename_i r hr;cases h;unfold World.viewStore at hr;simp only[bind,Except.bind,pure,Except.pure]at hr
   repeat' split at hr
   all_goals (first|(cases hr;done) |skip)
   all_goals (cases hr;rfl)
  ·cases h
 ·cases h
theorem F8 {α:Type}(p:Program):∀ (s:Sem α) (w:World),w.drawn<=(Vd (s.run p w)).drawn:=by
 intro s;induction s with
 |pure a=>intro w;exact Nat.le_refl _
 |load m a k ih=>
  intro w;unfold Sem.run;split
  ·exact ih _ w
  ·split
   ·exact ih _ w
   ·exact Nat.le_refl _
 |store m a v k ih=>
  intro w;cases v
  case agg=>exact Nat.le_refl _
  case tuple=>exact Nat.le_refl _
  all_goals
   simp only[Sem.run];split
   ·split
    ·exact Nat.le_refl _
    ·exact ih (w.setCell a _)
   ·split
    ·rename_i h;rw[<-HP h];exact ih _
    ·exact Nat.le_refl _
 |new o k ih=>intro w;exact ih w.heap.size { w with heap:=w.heap.push o}
 |shape r k ih=>intro w;exact ih _ _
 |freeze a n k ih=>
  intro w;have:(w.freeze a n).drawn=w.drawn:=by unfold World.freeze;split <;>rfl
  rw[<-this];exact ih _
 |frozen a k ih=>intro w;exact ih _ _
 |getObj r k ih=>
  intro w;unfold Sem.run;split
  ·exact Nat.le_refl _
  ·exact ih _ _
  ·exact Nat.le_refl _
 |setObj r o k ih=>
  intro w;unfold Sem.run;split
  ·exact Nat.le_refl _
  ·exact ih { w with heap:=w.heap.setIfInBounds r o}
  ·exact Nat.le_refl _
 |choose q k ih=>
  intro w;unfold Sem.run;split
  ·exact ih _ _
  ·exact Nat.le_trans (Nat.le_succ _) (ih _ { w with drawn:=w.drawn+1})
 |sys c k ih=>intro w;exact Nat.le_trans (Ve w c) (ih _ _)
 |program k ih=>intro w;exact ih _ _
 |mark m k ih=>intro w;exact ih _
 |halt h=>intro w;exact Nat.le_refl _
theorem O3 {α:Type}(p:Program):∀ (s:Sem α) (w:World) (es:Array Event),(s.runT p w es).1=s.run p w:=by
 intro s;induction s with
 |store m a v k ih=>
  intro w es;cases v
  case agg=>rfl
  case tuple=>rfl
  all_goals
   simp only[Sem.runT,Sem.run];split
   ·split
    ·rfl
    ·exact ih _ _
   ·split
    ·exact ih _ _
    ·rfl
 |load m a k ih=>
  intro w es;simp only[Sem.runT,Sem.run];split
  ·exact ih _ _ _
  ·split
   ·exact ih _ _ _
   ·rfl
 |getObj r k ih=>
  intro w es;simp only[Sem.runT,Sem.run];split
  ·rfl
  ·exact ih _ _ _
  ·rfl
 |setObj r o k ih=>
  intro w es;simp only[Sem.runT,Sem.run];split
  ·rfl
  ·exact ih _ _
  ·rfl
 |choose q k ih=>
  intro w es;simp only[Sem.runT,Sem.run];split
  ·exact ih _ _ _
  ·exact ih _ _ _
 |pure a=>intro w es;rfl
 |new o k ih=>intro w es;exact ih _ _ _
 |shape r k ih=>intro w es;exact ih _ _ _
 |freeze a n k ih=>intro w es;exact ih _ _
 |frozen a k ih=>intro w es;exact ih _ _ _
 |sys c k ih=>intro w es;exact ih _ _ _
 |program k ih=>intro w es;exact ih _ _ _
 |mark m k ih=>intro w es;exact ih _ _
 |halt h=>intro w es;rfl
theorem mY {α:Type}{p:Program}{s:Sem α}{w w':World}{a:α}(h:s.run p w=.ok a w'):w.drawn<=w'.drawn:=by have:=F8 p s w;rw[h]at this;exact this
theorem O4 {α:Type}{p:Program}{s:Sem α}{w w':World}{a:Halt}(h:s.run p w=.halt a w'):w.drawn<=w'.drawn:=by have:=F8 p s w;rw[h]at this;exact this
theorem sw {α:Type}{p:Program}{s:Sem α}{w:World}{es es':Array Event}{r:Result α}(h:s.runT p w es=(r,es')):w.drawn<=(Vd r).drawn:=by
 have:=O3 p s w es;rw[h]at this;have h2:=F8 p s w;rw[<-this]at h2;exact h2
def gLe (w:World):GStep->Prop
 | .ended .. =>True
 | .go _ w' _| .comm _ _ _ _ w' _| .spawn _ _ w' _| .count _ w' _| .timer _ _ w' _| .alone _ _ w' _| .newcoro _ _ _ w' _| .coroswitch _ _ _ w' _| .collect _ w' _| .watch _ w' _=>w.drawn<=w'.drawn
theorem gLe.after {w:World}{es:Array Event}{s:GStep}(h:gLe w s):gLe w (s.after es):=by cases s <;>exact h
theorem gLe.trans {w w':World}{s:GStep}(h1:w.drawn<=w'.drawn)(h:gLe w' s):gLe w s:=by cases s <;>first|trivial|exact Nat.le_trans h1 h
theorem zx {c:Prop}[Decidable c]{w:World}{a b:GStep}(h1:gLe w a)(h2:gLe w b):gLe w (if c then a else b):=by split <;>assumption
theorem tY (fr:Frame)(m:String)(w:World):gLe w (endThrow fr m w):=Nat.le_refl _
theorem xc (p:Program)(fr:Frame)(v:Value)(w:World):gLe w (endPrinting p fr v w):=by
 unfold endPrinting;dsimp only;split
 ·exact tY _ _ _
 ·trivial
theorem A5 (p:Program)(fr:Frame)(callers:List Frame)(dying:Option Dying)(m:String)(w:World):gLe w (endFatal p fr callers dying m w):=by
 unfold endFatal
 extract_lets
 split
 ·rename_i h;exact mY h
 ·trivial
 ·trivial
theorem JG (p:Program)(fr:Frame)(d:Dying)(f:Fatal)(w:World):gLe w (writeOn p fr d f w):=by
 unfold writeOn
 extract_lets
 split
 ·trivial
 ·extract_lets
  generalize h:Sem.runT _ _ _ _=rr;obtain⟨r,es⟩:=rr;have h:=sw h;split
  ·rename_i e;cases e;exact h
  ·rename_i e;cases e;exact h
  ·trivial
  ·trivial
theorem JH (w w':World)(fd:Nat)(t:ByteArray)(o:Outcome):gLe w (endWith w' fd t o):=by
 unfold endWith
 extract_lets
 split
 ·split <;>trivial
 ·trivial
 ·trivial
theorem Vf (p:Program)(fr:Frame)(d:Dying)(w:World):gLe w (die p fr d w):=by
 unfold die;split
 ·exact JG _ _ _ _ _
 ·split
  ·split
   ·exact Nat.le_refl _
   ·exact JH _ _ _ _ _
  ·extract_lets
   split
   ·exact Nat.le_refl _
   ·split
    ·rename_i h;exact mY h
    ·trivial
   ·split
    rename_i h;have h:=sw h;refine gLe.after ?_;split
    all_goals first|exact h|trivial|exact gLe.trans h (xc _ _ _ _)
   ·trivial
theorem xd (p:Program)(main:Bool)(fr:Frame)(callers:List Frame)(dying:Option Dying)(v:Value)(w:World):gLe w (doReturn p main fr callers dying v w):=by
 unfold doReturn;split
 ·split
  all_goals exact Nat.le_refl _
 ·split
  ·exact Nat.le_refl _
  ·trivial
  ·split
   ·exact Nat.le_refl _
   ·split
    ·exact Nat.le_refl _
    ·trivial
theorem Bw (p:Program)(fr:Frame)(callers:List Frame)(dying:Option Dying)(d:Deferred)(w:World):gLe w (callDeferred p fr callers dying d w):=by
 unfold callDeferred;refine zx trivial ?_;rcases h:(invoke d.target d.args).runT p w #[]with⟨r,es⟩;have h:=sw h;dsimp only;refine gLe.after ?_;split
 all_goals first|exact h|trivial|exact gLe.trans h (A5 _ _ _ _ _ _) |exact gLe.trans h (tY _ _ _) |skip
 split <;>exact h
theorem MA (p:Program)(main:Bool)(fr:Frame)(callers:List Frame)(dying:Option Dying)(w:World):gLe w (unwind p main fr callers dying w):=by
 unfold unwind;split
 ·split
  rename_i h;have h:=sw h;refine gLe.after ?_;split
  ·exact h
  ·trivial
 ·exact Bw _ _ _ _ _ _
 ·split
  ·trivial
  ·split
   ·trivial
   ·split
    ·exact Nat.le_refl _
    ·split
     ·split
      ·exact Nat.le_refl _
      ·split
       ·rename_i h;exact mY h
       ·trivial
       ·trivial
     ·split
      ·exact xc _ _ _ _
      ·trivial
  ·split
   ·exact xd _ _ _ _ _ _ _
   ·split
    rename_i h;have h:=sw h;refine gLe.after ?_;split
    ·exact gLe.trans h (xd _ _ _ _ _ _ _)
    ·trivial
    ·trivial
theorem O5 (p:Program)(fr:Frame)(callers:List Frame)(dying:Option Dying)(g:Nat)(w:World):gLe w (early p fr callers dying g w):=by
 unfold early
 extract_lets refuse notYet there
 have hn:∀ w0:World,w.drawn<=w0.drawn->gLe w (notYet w0):=fun w0 h0=>by
  show gLe w (match w0.heap[g]? with|some (.pending c elem) =>_|_=>_);split
  ·exact h0
  ·trivial
 split
 ·exact hn w (Nat.le_refl _)
 ·split
  ·trivial
  ·extract_lets there
   have ht:∀ w0:World,w.drawn<=w0.drawn->gLe w (there w0):=fun w0 h0=>h0;split
   ·exact hn w (Nat.le_refl _)
   ·split
    ·exact hn w (Nat.le_refl _)
    ·split
     ·trivial
     ·exact ht w (Nat.le_refl _)
     ·trivial
     ·exact hn w (Nat.le_refl _)
     ·split
      ·exact ht w (Nat.le_refl _)
      ·split
       ·exact hn w (Nat.le_refl _)
       ·split
        ·rename_i h;exact hn _ (mY h)
        ·rename_i h;exact ht _ (mY h)
        ·trivial
theorem xe (p:Program)(listen:Bool)(fr:Frame)(callers:List Frame)(dying:Option Dying)(s:Sem Next)(w:World):gLe w (Go.stepG.apply p listen fr callers dying s w):=by
 unfold Go.stepG.apply
 extract_lets go kind
 have hr:∃ r es,(if listen=true then s.runT p w #[]else(s.run p w,#[]))=(r,es)/\w.drawn<=(Vd r).drawn:=by
  split
  ·rcases h:s.runT p w #[]with⟨r,es⟩;exact⟨r,es,rfl,sw h⟩
  ·exact⟨_,_,rfl,F8 p s w⟩
 obtain⟨r,es,he,h⟩:=hr;rw[he];dsimp only;refine gLe.after ?_;have hgo:∀ fr w0,w.drawn<=w0.drawn->gLe w (go fr w0):=fun fr w0 h0=>h0;split
 all_goals first|exact h|trivial|exact hgo _ _ h|exact gLe.trans h (A5 _ _ _ _ _ _) |exact gLe.trans h (tY _ _ _) |exact gLe.trans h (O5 _ _ _ _ _ _) |skip
 all_goals first|(refine zx (gLe.trans h (tY _ _ _)) ?_;exact h) |(split <;>first|exact h|trivial|exact hgo _ _ h)
theorem R4 (p:Program)(listen:Bool)(fr:Frame)(callers:List Frame)(dying:Option Dying)(w:World):gLe w (Go.stepG.oper p listen fr callers dying w):=by
 unfold Go.stepG.oper;split
 ·trivial
 ·split
  ·exact xe _ _ _ _ _ _ _
  ·exact xe _ _ _ _ _ _ _
theorem K8 {α:Type}{w:World}{o:Option α}{a:GStep}{f:α->GStep}(h1:gLe w a)(h2:∀ x,gLe w (f x)):gLe w (o.elim a f):=by cases o;exact h1;exact h2 _
theorem R5 (p:Program)(main listen:Bool)(fr:Frame)(callers:List Frame)(dying:Option Dying)(w:World):gLe w (Go.stepG.exec p main listen fr callers dying w):=by
 unfold Go.stepG.exec
 extract_lets go to lost leave
 have hgo:∀ fr w0,w.drawn<=w0.drawn->gLe w (go fr w0):=fun fr w0 h0=>h0;have hto:∀ k,gLe w (to k):=fun k=>Nat.le_refl _;have hlost:∀ m,gLe w (lost m):=fun _=>trivial;have hleave:∀ j,gLe w (leave j):=fun j=>by
  show gLe w (match fr.roundOf with|none=>_|some l=>_);split
  ·refine zx (hgo _ _ (Nat.le_refl _)) trivial
  ·rcases h:(Instr.endRound _ j).runT p w #[]with⟨r,es⟩;have h:=sw h;dsimp only;refine gLe.after ?_;split
   ·exact gLe.trans h (xd _ _ _ _ _ _ _)
   ·trivial
 have hgo1:∀ fr,gLe w (go fr w):=fun fr=>Nat.le_refl _
 clear_value to lost leave
 split
 all_goals first|exact hleave _|exact hto _|exact hlost _|trivial|exact K8 (hleave _) hto|exact xe _ _ _ _ _ _ _|exact K8 (hlost _) (fun _=>xe _ _ _ _ _ _ _) |skip
 ·split
  ·exact hto _
  ·exact hlost _
 ·rcases h:(Instr.enterLoop fr.fn fr.tmps _ _ _ fr.roundOf).runT p w #[]with⟨r,es⟩;have h:=sw h;dsimp only;refine gLe.after ?_;split
  ·exact gLe.trans h (xe _ _ _ _ _ _ _)
  ·trivial
 ·rcases h:(Instr.endLoop _).runT p w #[]with⟨r,es⟩;have h:=sw h;dsimp only;refine gLe.after ?_;split
  ·exact hgo _ _ h
  ·exact hgo _ _ h
  ·trivial
 ·refine zx (hto _) ?_;split
  ·rename_i h;exact hgo _ _ (mY h)
  ·trivial
 ·exact zx (R4 _ _ _ _ _ _) (hgo1 _)
theorem O6 (p:Program)(main:Bool)(g:Goroutine)(w:World)(listen:Bool):gLe w (Go.stepG p main g w listen):=by
 unfold Go.stepG;obtain⟨fr,callers,st,dying,off⟩:=g;dsimp only;split
 ·exact Vf _ _ _ _
 ·exact R5 _ _ _ _ _ _ _
 ·exact MA _ _ _ _ _ _
def sLe (w:World):Stepped->Prop
 | .next m=>w.drawn<=m.world.drawn
 | .ended .. =>True
theorem sLe.trans {w w':World}{s:Stepped}(h1:w.drawn<=w'.drawn)(h:sLe w' s):sLe w s:=by cases s <;>first|trivial|exact Nat.le_trans h1 h
theorem K9 {c:Prop}[Decidable c]{w:World}{a b:Stepped}(h1:sLe w a)(h2:sLe w b):sLe w (if c then a else b):=by split <;>assumption
theorem K_ (p:Program)(gs:Array Goroutine)(rest:Rest)(w:World):sLe w (look p gs rest w):=by
 unfold look;split
 ·extract_lets
  refine K9 trivial ?_;split
  ·trivial
  ·extract_lets
   split
   ·rename_i h;have h:=mY h;exact h
   ·trivial
   ·trivial
 ·trivial
theorem F9 {rest:Rest}{cases:Array CommCase}{w w':World}(h:waitingAt rest cases w=some w'):w.drawn<=w'.drawn:=by
 unfold waitingAt at h;split at h
 ·split at h
  ·cases h;exact Nat.le_refl _
  ·cases h
 ·cases h;exact Nat.le_refl _
theorem Dh (p:Program)(rest:Rest)(gs:Array Goroutine)(i:Nat)(g:Goroutine)(cases:Array CommCase)(bl:Bool)(shape:CommShape)(w:World):sLe w (communicate p rest gs i g cases bl shape w).1:=by
 unfold communicate
 extract_lets put illMade me other
 have hput:∀ g gs w0 ops,w.drawn<=w0.drawn->sLe w (put g gs w0 ops).1:=fun _ _ _ _ h=>h;split
 ·trivial
 ·split
  ·split
   ·split
    ·rename_i h;exact F9 h
    ·trivial
   ·exact hput _ _ _ _ (Nat.le_refl _)
  ·split
   ·trivial
   ·rename_i h;have hw:=mY h;clear h
    extract_lets r
    split
    ·split
     ·rename_i h2;exact hput _ _ _ _ (Nat.le_trans hw (O4 h2))
     ·trivial
    ·exact hput _ _ _ _ hw
    ·exact hput _ _ _ _ hw
    ·extract_lets
     split
     ·exact hput _ _ _ _ hw
     ·split
      ·rename_i h2;have h3:=mY h2;exact hput _ _ _ _ (Nat.le_trans hw h3)
      ·trivial
    ·exact hput _ _ _ _ hw
    ·exact hput _ _ _ _ hw
    ·trivial
theorem ET (m:Machine)(k:Nat)(t:Timer)(a b:Nat):m.world.drawn<=(retime m k t a b).2.world.drawn:=by
 unfold retime drain;dsimp only
 repeat' split
 all_goals first|exact Nat.le_refl _|skip
 all_goals (simp_all;try omega)
theorem JI {m m':Machine}{op:TimerOp}{v:Value}(h:timerOp m op=.ok (v,m')):m.world.drawn<=m'.world.drawn:=by
 have named:∀ (D:Nat) (m0:Machine) var f,(∀ k t,D<=(f k t).2.world.drawn)->timerOp.named m0 var f=.ok (v,m')->D<=m'.world.drawn:=fun D m0 var f hf h=>by
  unfold timerOp.named at h;split at h
  ·injection h with h;exact Nat.le_trans (hf _ _) (Nat.le_of_eq (congrArg (fun x:Value×Machine=>x.2.world.drawn) h))
  ·cases h
 unfold timerOp at h;split at h
 ·split at h
  ·cases h;exact Nat.le_refl _
  ·split at h
   ·split at h
    ·cases h
    ·cases h;exact Nat.le_refl _
   ·cases h
 ·exact named _ _ _ _ (fun k t=>ET _ _ _ _ _) h
 ·split at h
  ·rename_i m1 ho;have h1:m.world.drawn<=m1.world.drawn:=by
    unfold timerOp.opened at ho;split at ho
    ·split at ho
     ·cases ho;exact Nat.le_refl _
     ·cases ho
    ·cases ho;exact Nat.le_refl _
   exact Nat.le_trans h1 (named m1.world.drawn _ _ _ (fun k t=>ET _ _ _ _ _) h)
  ·cases h
 ·cases h;exact Nat.le_refl _
theorem O7 (p:Program)(m:Machine)(i:Nat)(listen:Bool):sLe m.world (Go.runT p m i listen).1:=by
 unfold Go.runT
 extract_lets rest world
 split
 extract_lets wake fn pos s ops done
 have hs:gLe m.world s:=O6 _ _ _ _ _;have hd:∀ r,(done r).1=r:=fun r=>rfl
 clear_value s done
 split
 all_goals try rw[hd]
 ·trivial
 ·split
  rename_i h;have:=Dh p rest ‹_› i ‹_› ‹_› ‹_› ‹_› ‹_›;rw[h]at this;exact sLe.trans hs this
 ·exact hs
 ·exact hs
 ·exact K9 trivial hs
 ·exact hs
 ·exact sLe.trans hs (K_ _ _ _ _)
 ·exact hs
 ·exact hs
 ·split
  ·exact hs
  ·split
   ·rename_i h;simp only[endThrow,dieOf]at h;cases h;exact hs
   ·trivial
  ·trivial
 ·split
  ·rename_i h;exact Nat.le_trans hs (JI h)
  ·exact hs
  ·trivial
  ·trivial
theorem O8 (p:Program)(m:Machine)(k:Nat):sLe m.world (serve p m k):=by
 unfold serve;split
 ·trivial
 ·exact Nat.le_refl _
 ·extract_lets
  split
  ·trivial
  ·exact Nat.le_refl _
def mLe (w:World):Move->Prop
 | .goroutine m _=>w.drawn<=m.world.drawn
 | .machine s _=>sLe w s
theorem mLe.trans {w w':World}{s:Move}(h1:w.drawn<=w'.drawn)(h:mLe w' s):mLe w s:=by
 cases s
 ·exact Nat.le_trans h1 h
 ·exact sLe.trans h1 h
theorem Di (p:Program)(m:Machine):mLe m.world (askOn p m):=by
 unfold askOn
 extract_lets mono rs ds pick
 have hpick:∀ m0:Machine,m.world.drawn<=m0.world.drawn->mLe m.world (pick m0):=fun m0 h0=>by
  show mLe m.world (match (choose (.sched rs.length)).run p m0.world with| .halt _ w=>_| .ok k world=>_);split
  ·trivial
  ·rename_i h;have h1:=mY h;split
   ·exact Nat.le_trans h0 h1
   ·split
    ·trivial
    ·rename_i h2;have h2:=mY h2;exact Nat.le_trans h0 (Nat.le_trans h1 h2)
 clear_value pick rs ds
 split
 ·trivial
 ·rename_i h;have hw:=mY h;clear h
  extract_lets m1
  split
  ·exact sLe.trans hw (O8 p _ _)
  ·cases rs with
   |nil=>
    dsimp only;split
    ·exact hw
    ·split
     ·exact hw
     ·split <;>trivial
   |cons r rs=>
    dsimp only;split
    ·exact hpick _ hw
    ·split
     ·trivial
     ·rename_i h;have h2:=mY h;exact hpick _ (Nat.le_trans hw h2)
     ·rename_i h;have h2:=mY h;exact Nat.le_trans hw h2
     ·rename_i h;have h2:=mY h;exact hpick _ (Nat.le_trans hw h2)
theorem HQ (p:Program)(m:Machine):mLe m.world (ask p m):=by
 unfold ask;split
 ·split
  ·trivial
  ·rename_i h;have hw:=mY h;have:=K_ p m.gs m.rest ‹World›;split
   ·rename_i m2 h2;rw[h2]at this;exact mLe.trans (Nat.le_trans hw this) (Di p _)
   ·rename_i e h2;exact sLe.trans hw this
  ·rename_i h;have hw:=mY h;exact mLe.trans hw (Di p _)
 ·exact Di p m
theorem R6 (p:Program)(m:Machine):mLe m.world (move p m):=by
 unfold move;split
 ·split
  ·exact Nat.le_refl _
  ·trivial
 ·split
  ·split
   ·exact Nat.le_refl _
   ·exact HQ p _
  ·exact HQ p m
theorem R7 (p:Program)(m:Machine):sLe m.world (step p m):=by
 unfold step stepT;have:=R6 p m;split
 ·rename_i h;rw[h]at this;exact sLe.trans this (O7 p _ _ _)
 ·rename_i h;rw[h]at this;exact this
theorem HR {p:Program}{m m':Machine}(h:Steps p m m'):m.world.drawn<=m'.world.drawn:=by
 obtain⟨n,hn⟩:=h;induction n generalizing m with
 |zero=>simp only[runN,Stepped.next.injEq]at hn;subst hn;exact Nat.le_refl _
 |succ n ih=>
  simp only[runN]at hn;have:=R7 p m;cases hs:step p m with
  |next m1=>
   rw[hs]at hn this;exact Nat.le_trans this (ih hn)
  |ended o w=>rw[hs]at hn;cases hn
theorem HS {P:Program}{f:FuncId}{args:Array Value}{w:World}{R:Ending->World->Prop}(h:Calls P f args w R):Calls P f args w fun e w'=>R e w'/\(e≠ .outgrown->w.drawn<=w'.drawn):=by
 intro cs;obtain⟨e,w',fr,hr,hc,hf,hl⟩:=h cs;refine⟨e,w',fr,⟨hr,fun hne=>?_⟩,hc,hf,hl⟩;cases e with
 |returned v=>exact HR (p:=P) hc
 |panicked c=>exact HR (p:=P) hc
 |outgrown=>exact absurd rfl hne
end Go.Sx
end
section
namespace Go.Sx
open Go.Lib Go.Proofs Go.RowKit Go.Shelf Go.Sort
def Zr:SV->Value
 | .v x=>x
 |_=>undef
def sA (k:Tag)(x:k.T):List Value:=(cellsOf k x).map Zr
def F_ (k:Tag):Prop:= ∀ (x:k.T) (s:SV),s∈cellsOf k x->∃ v,s=.v v/\v.oneCell'=true
def srt {α:Type}(cf:α->α->Int)(l:List α):List α:=l.mergeSort fun x y=>!(ltOf cf y x)
def apart {α:Type}(cf:α->α->Int)(l:List α):Prop:= ∀ x∈l,∀ y∈l,ltOf cf x y=false->ltOf cf y x=false->x=y
theorem JJ {α:Type}[Inhabited α]{cf:α->α->Int}(hO:SWO (ltOf cf)){l:List α}(h:apart cf l){d':Array α}(hp:PermIn 0 l.toArray.size l.toArray d')(hs:SortedIn (ltOf cf) 0 l.toArray.size d'):d'=(srt cf l).toArray:=by
 obtain⟨hsz,_,hperm⟩:=hp;have e1:d'.extract 0 l.toArray.size=d':=by rw[<-hsz];exact Array.extract_size
 rw[e1,Array.extract_size]at hperm;have hperm:d'.toList.Perm l:=by simpa using hperm
 have:d'.toList=srt cf l:=by
  refine List.Perm.eq_of_pairwise (le:=fun x y=>(!ltOf cf y x)=true) ?_ ?_ ?_ (hperm.trans (List.mergeSort_perm _ _).symm)
  ·intro a b ha hb h1 h2;simp only[Bool.not_eq_true']at h1 h2;exact h a (hperm.subset ha) b ((List.mergeSort_perm _ _).subset hb) h2 h1
  ·rw[List.pairwise_iff_getElem];intro i j hi hj hij;have:=hs i j (Nat.zero_le _) hij (by simp only[List.size_toArray]at hsz |-;simp only[Array.length_toList]at hj;omega);simp only[Array.length_toList]at hi hj;rw[getElem!_pos d' i hi,getElem!_pos d' j hj]at this;simpa using this
  ·refine List.pairwise_mergeSort (fun a b c h1 h2=>?_) (fun a b=>?_) l
   ·simp only[Bool.not_eq_true']at h1 h2 |-;exact hO.ntrans c b a h2 h1
   ·simp only[Bool.or_eq_true,Bool.not_eq_true'];cases h1:ltOf cf b a with
    |false=>exact .inl rfl
    |true=>
     right;cases h2:ltOf cf a b with
     |false=>rfl
     |true=>
      have h3:=hO.trans a b a h2 h1;rw[hO.irrefl]at h3;cases h3
 rw[<-this]
section
variable {P:Program}{ρ:Ren}{F:Nat->Prop}{own:Own}{w:World}{k:Tag}
theorem MB (hk:F_ k){l:List k.T}{o:Nat}{cs:Array Value}(h:RowAt F own w k l o cs){i j:Nat}(hi:i<l.length)(hj:j<aa k):cs[o+i*aa k+j]? =(sA k l[i])[j]?:=by
 have e1:=List.getElem?_eq_getElem hi;have hlen:j< (cellsOf k l[i]).length:=by rw[bh];exact hj
 have e2:=List.getElem?_eq_getElem hlen;obtain⟨u,h1,h2⟩:=h i _ e1 j _ e2;obtain⟨v,h3,_⟩:=hk l[i] _ (List.getElem_mem hlen);rw[h1];unfold sA;rw[List.getElem?_map,e2];rw[h3]at h2 |-;rw[bG h2];rfl
theorem MC (hk:F_ k){l:List k.T}{o:Nat}{cs:Array Value}(h:∀ i j,(hi:i<l.length)->j<aa k->cs[o+i*aa k+j]? =(sA k l[i])[j]?):RowAt F own w k l o cs:=by
 intro i x hi j s hj;obtain⟨hl,rfl⟩:=List.getElem?_eq_some_iff.1 hi;have hlen:=(List.getElem?_eq_some_iff.1 hj).1;rw[bh]at hlen;have:=h i j hl hlen;unfold sA at this;rw[List.getElem?_map,hj]at this;obtain⟨v,h3,_⟩:=hk _ s (List.mem_of_getElem? hj);subst h3;exact⟨v,this,.v v⟩
theorem R8 {w w':World}(hb:Go.RowKit.Below w.heap.size w w')(hd:w.drawn<=w'.drawn):∃ q os,w'=grow (w.drewN q) os:=by
 refine⟨w'.drawn - w.drawn,w'.heap.extract w.heap.size w'.heap.size,?_⟩;obtain⟨h1,h2,h3,h4,h5⟩:=hb;obtain⟨heap,tape,drawn,os,output⟩:=w;obtain⟨heap',tape',drawn',os',output'⟩:=w';simp only at h1 h2 h3 h4 h5 hd;subst h1;subst h2;subst h3;unfold grow World.drewN;simp only[World.mk.injEq,true_and,and_true];refine⟨?_,by omega⟩;apply Array.ext
 ·simp;omega
 ·intro i hi1 hi2;by_cases hi:i<heap.size
  ·rw[Array.getElem_append_left hi];have:=h5 i hi;rw[Array.getElem?_eq_getElem hi1,Array.getElem?_eq_getElem hi]at this;exact Option.some.inj this
  ·rw[Array.getElem_append_right (by omega)];simp only[Array.getElem_extract];congr 1;omega
end
section
variable {P:Program}{ρ:Ren}{k:Tag}
theorem O9 {w:World}{b:Nat}{cs:Array Value}{ty:TypeId}(hb:w.heap[b]? =some (.cells cs ty (0,0)))(D:Array Value)(o:Nat):(putRow id w b o D).heap[b]? =some (.cells (putCells id o D cs) ty (0,0)):=by
 unfold putRow mapBlock;simp only[Array.getElem?_modify,if_true,hb];rfl
theorem HT {w:World}{b c:Nat}(hc:c≠b)(D:Array Value)(o:Nat):(putRow id w b o D).heap[c]? =w.heap[c]?:=by
 unfold putRow mapBlock;simp only[Array.getElem?_modify];rw[if_neg (fun e=>hc e.symm)]
theorem Ga {D cs:Array Value}{o t:Nat}(ht:t<D.size)(hs:o+t<cs.size):(putCells id o D cs)[o+t]? =D[t]?:=by
 unfold putCells;rw[Array.getElem?_mapIdx,Array.getElem?_eq_getElem hs];simp only[Option.map_some];rw[if_pos (by omega),Array.getElem?_eq_getElem ht];have:o+t - o=t:=by omega
 rw[this,getElem!_pos D t ht];rfl
theorem HU {α:Type}[Inhabited α]{enc:α->List Value}{n:Nat}(hn:∀ x,(enc x).length=n){d:Array α}{i j:Nat}(hi:i<d.size)(hj:j<n):(flatK enc n d)[i*n+j]? =(enc d[i]!)[j]?:=by
 have hlt:i*n+j<d.size*n:=by
  have:=Nat.mul_le_mul_right n (show i+1<=d.size from hi);rw[Nat.succ_mul]at this;omega
 have h1:i*n+j< (flatK enc n d).size:=by rw[size_flatK];exact hlt
 rw[Array.getElem?_eq_getElem h1,<-getElem!_pos (flatK enc n d) _ h1,get_flatK enc n d _ hlt];have hd:(i*n+j) / n=i:=by
  rw[Nat.mul_comm,Nat.mul_add_div (by omega),Nat.div_eq_of_lt hj];omega
 have hm:(i*n+j) % n=j:=by
  rw[Nat.mul_comm,Nat.mul_add_mod,Nat.mod_eq_of_lt hj]
 rw[hd,hm];have hj':j< (enc d[i]!).length:=by rw[hn];exact hj
 rw[List.getElem?_eq_getElem hj',getElem!_pos (enc d[i]!) j hj']
theorem sw_b {α:Type}[Inhabited α]{enc:α->List Value}{n b o m:Nat}{w:World}{cs:Array Value}{ty:TypeId}(hb:w.heap[b]? =some (.cells cs ty (0,0)))(d:Array α)(os:Array Obj):(sortWorldK enc n w b o m d os).heap[b]? =some (.cells (putCells id o (flatK enc n d) cs) ty (0,0)):=by
 have hlt:b<w.heap.size:=(Array.getElem?_eq_some_iff.1 hb).1;unfold sortWorldK grow;simp only;rw[Array.getElem?_append_left (by unfold putRowK putRow mapBlock Sort.ahead;simpa using hlt)];exact O9 (w:=Sort.ahead w m) hb _ _
theorem Td {α:Type}[Inhabited α]{enc:α->List Value}{n b o m c:Nat}{w:World}(hc:c<w.heap.size)(hne:c≠b)(d:Array α)(os:Array Obj):(sortWorldK enc n w b o m d os).heap[c]? =w.heap[c]?:=by
 unfold sortWorldK grow;simp only;rw[Array.getElem?_append_left (by unfold putRowK putRow mapBlock Sort.ahead;simpa using hc)];exact HT (w:=Sort.ahead w m) hne _ _
theorem Gb {α:Type}[Inhabited α]{enc:α->List Value}{n b o m:Nat}{w:World}(d:Array α)(os:Array Obj):w.heap.size<=(sortWorldK enc n w b o m d os).heap.size:=by
 unfold sortWorldK grow putRowK putRow mapBlock Sort.ahead;simp
end
open Classical in
noncomputable def EU (k:Tag)(g:FuncId)(caps:List SV)(cf:k.T->k.T->Int):List SV->List Ob->Option HCon:=fun l h=>
 RT k (fun l0=>match l with
  | [s0,.v (.int .i64 z),.v (.int .i64 n),.v (.int .i64 lim),f] =>if s0=.os 0/\f=.fn g [] caps then some (jQ (z=0/\n=(l0.length:Int)/\0<=lim/\lim<4611686018427387904/\apart cf l0) (.tup []) [.row k (srt cf l0)])else none
  |_=>none) h
@[go_sem] theorem O_ {k:Tag}{g:FuncId}{caps:List SV}{cf:k.T->k.T->Int}{l0:List k.T}{z n lim:Int}:EU k g caps cf [.os 0,.v (.int .i64 z),.v (.int .i64 n),.v (.int .i64 lim),.fn g [] caps] [.row k l0]=some (jQ (z=0/\n=(l0.length:Int)/\0<=lim/\lim<4611686018427387904/\apart cf l0) (.tup []) [.row k (srt cf l0)]):=by
 simp[EU,RT]
theorem R9 {k:Tag}{g:FuncId}{caps:List SV}{cf:k.T->k.T->Int}{l:List SV}{h:List Ob}{c:HCon}(e:EU k g caps cf l h=some c):∃ (z n lim:Int) (l0:List k.T),l=[.os 0,.v (.int .i64 z),.v (.int .i64 n),.v (.int .i64 lim),.fn g [] caps]/\h=[.row k l0]/\c=jQ (z=0/\n=(l0.length:Int)/\0<=lim/\lim<4611686018427387904/\apart cf l0) (.tup []) [.row k (srt cf l0)]:=by
 unfold EU at e;obtain⟨l0,hh,hK⟩:=OP e;split at hK
 ·rename_i s0 z n lim f;split at hK
  ·rename_i hq;obtain⟨rfl,rfl⟩:=hq;exact⟨z,n,lim,l0,rfl,hh,(Option.some.inj hK).symm⟩
  ·cases hK
 ·cases hK
section
variable {P:Program}{ρ:Ren}{k:Tag}
theorem MD {α:Type}[Inhabited α](L:SlLaysF0.n14 P ρ)(k:Nat)(aE:∀ w,(isAgg (ρ.t 24)).run P w=.ok true w)(zE:∀ w,(Go.sizeOf (ρ.t 24)).run P w=.ok k w)(enc:α->List Value)(hk:∀ x,(enc x).length=k)(h1:∀ x,∀ v∈enc x,v.oneCell'=true)(cf:α->α->Int)(hO:SWO (ltOf cf))(g:Nat)(cb:Array Value)(blk off cap:Nat)(d:Array α)(w:World)
  (eg:∀ args w,(callFunc g args).run P w=.ok (.enter g args) w) (hcmp:CmpLays P g cb enc k cf blk off d.size w) (hH:HoldsK enc k w blk off d) (hblk:blk<w.heap.size) (hsz:d.size<4611686018427387904) {lim:Nat} (hlim:lim<4611686018427387904):
  Calls P (ρ.f 14) #[.slice (some ⟨blk,off,none⟩) d.size cap,.int .i64 0,.int .i64 (d.size:Int),.int .i64 (lim:Int),.func (.func g) #[] cb] w fun e w'=>
   e=.returned (.tuple #[])/\∃ d' n os,PermIn 0 d.size d d'/\SortedIn (ltOf cf) 0 d.size d'/\w'=sortWorldK enc k w blk off n d' os:=by
 have hp:=AnyQ.pdqsortCmpFunc_all (P:=P) (ρ:=ρ) L k aE zE enc cf g cb hO blk off cap d w eg hcmp ⟨hk,h1,hH,hblk⟩ (d.size+1) 0 d.size lim d w (by omega) rfl (SWK.start hH) (Nat.zero_le _) (Nat.le_refl _) hsz hlim (Or.inl rfl);refine hp.mono fun e w' he=>?_;obtain⟨rfl,n,os,rfl⟩:=he;have h:=pdq_sorts (ltOf cf) hO d 0 d.size lim true true (Nat.zero_le _) (Nat.le_refl _) (Or.inl rfl);exact⟨rfl,_,n,os,h.1,h.2,rfl⟩
theorem Vg (L:SlLaysF0.n14 P ρ)(aE:∀ w,(isAgg (ρ.t 24)).run P w=.ok true w)(zE:∀ w,(Go.sizeOf (ρ.t 24)).run P w=.ok (aa k) w)(hk:F_ k)(h0:0<aa k){g:FuncId}{caps:List SV}{C:List SV->Option Con}(hC:FnOk P g C){cf:k.T->k.T->Int}
  (hcf:∀ x y,C (.agg (cellsOf k x):: .agg (cellsOf k y)::caps)=some (.det True (.v (.int .i64 (cf x y))))) (hO:SWO (ltOf cf)) (hpf:∀ s∈caps,PF s) (hcf0:∃ x y,C (.agg (cellsOf k x):: .agg (cellsOf k y)::caps)=some (.det True (.v (.int .i64 (cf x y))))):FnOkO P (ρ.f 14) (EU k g caps cf):=by
 haveI:Inhabited k.T:=⟨gw k⟩
 refine⟨fun l h c hc args w=>L.f14.enters rfl args w,fun l h c hc hp F own w vs hHp hvs=>?_⟩;obtain⟨z,n,lim,l0,rfl,hh,hK⟩:=R9 hc;clear hc;subst hh;subst hK;obtain⟨rfl,rfl,hl0,hl1,hp⟩:=hp;obtain⟨hsz,hrel⟩:=hvs;have r0:=hrel 0 _ rfl;have r1:=hrel 4 _ rfl;have q1:=bG (hrel 1 _ rfl);have q2:=bG (hrel 2 _ rfl);have q3:=bG (hrel 3 _ rfl);have hvs2:vs= #[vs.getD 0 undef,.int .i64 0,.int .i64 (l0.length:Int),.int .i64 lim,vs.getD 4 undef]:=by
  apply Array.ext
  ·simpa using hsz
  ·intro i h1 h2;simp only[List.length_cons,List.length_nil]at hsz;match i,h1,h2 with
   |0,h1,_=>simp[Array.getD,h1]
   |1,h1,_=>rw[<-q1];simp[Array.getD,h1]
   |2,h1,_=>rw[<-q2];simp[Array.getD,h1]
   |3,h1,_=>rw[<-q3];simp[Array.getD,h1]
   |4,h1,_=>simp[Array.getD,h1]
   |i+5,h1,_=>omega
 clear q1 q2 q3;generalize vs.getD 0 undef=v0 at r0 hvs2;generalize vs.getD 4 undef=v1 at r1 hvs2;subst hvs2;obtain⟨hd,o0,rfl,_⟩:=i6 r0;obtain⟨hd',o0',hrow⟩:=hHp.at (id:=0) (o:=.row k l0) rfl rfl;rw[o0]at o0';cases o0';have hrow:RowRel F own w k l0 hd.v hd.bs:=hrow;cases r1 with
 | @fn _ _ _ us cs s1 s2 c1 c2=>
 have hus:us= #[]:=Array.eq_empty_of_size_eq_zero (by simpa using s1);subst hus;rcases hrow with⟨a,e1,rfl,e2⟩ | ⟨b,o,cap,cells,ty,e1,e2,e3,e4,e5,e6,e7⟩
 ·rw[e1];refine(AnyF.pdqsortCmpFunc_none L a 0 lim _ w).mono fun e w' he=>?_;obtain⟨rfl,rfl⟩:=he;refine⟨(),own,trivial,⟨_,rfl,.tup rfl fun j s hj=>by simp at hj⟩,?_,Fr.refl _,Nat.le_refl _⟩;have:srt cf ([]:List k.T)=[]:=by simp[srt]
  rw[this];exact hHp
 ·have hbown:b∈hd.bs:=by rw[e2];simp
  have hbw:b<w.heap.size:=hHp.lt 0 hd b o0 hbown;have hkl:∀ x:k.T,(sA k x).length=aa k:=fun x=>by unfold sA;rw[List.length_map,bh]
  have hone:∀ x:k.T,∀ v∈sA k x,v.oneCell'=true:=fun x v hv=>by
   unfold sA at hv;rw[List.mem_map]at hv;obtain⟨s,hs,rfl⟩:=hv;obtain⟨v,rfl,h1⟩:=hk x s hs;exact h1
  have eg:∀ args w,(callFunc g args).run P w=.ok (.enter g args) w:=fun args w=>by
   obtain⟨x,y,hxy⟩:=hcf0;exact hC.enter _ _ hxy args w
  have hown:∀ id h2,own id=some h2->id=0:=fun id h2 e=>by have:=hHp.dom id h2 e;simpa using this
  have hH:HoldsK (sA k) (aa k) w b o l0.toArray:=by
   intro t ht;rw[size_flatK]at ht;simp only[List.size_toArray]at ht;have hi:t / aa k<l0.length:=Nat.div_lt_of_lt_mul (by rw[Nat.mul_comm];exact ht);have hj:=Nat.mod_lt t h0;have ht':t=t / aa k*aa k+t % aa k:=(Nat.div_add_mod' t _).symm;have q1:=MB hk e7 hi hj;have q2:=HU (enc:=sA k) hkl (d:=l0.toArray) (i:=t / aa k) (j:=t % aa k) (by simpa using hi) hj;rw[<-ht']at q2;rw[Nat.add_assoc,<-ht']at q1;have hl0:l0.toArray[t / aa k]! =l0[t / aa k]:=by rw[getElem!_pos l0.toArray _ (by simpa using hi)];rfl
   rw[hl0]at q2;have hlt:t< (flatK (sA k) (aa k) l0.toArray).size:=by rw[size_flatK];simpa using ht
   constructor
   ·unfold World.cell?;rw[e3];dsimp only;rw[q1,<-q2,Array.getElem?_eq_getElem hlt,getElem!_pos _ t hlt];rfl
   ·unfold World.frozen?;rw[e3];simp
  have hcmp:CmpLays P g cs (sA k) (aa k) cf b o l0.toArray.size w:=by
   intro m os dk hdk x y;generalize hW:sortWorldK (sA k) (aa k) w b o m dk os=W;have hcar:Carries F own w F own W:=⟨fun _ h2 e=>⟨h2,e,.refl _⟩,fun c hc hn=>⟨hn,by
    rw[<-hW];exact Td hc (fun e=>hn (.inr ⟨0,hd,o0,e▸hbown⟩)) _ _⟩⟩
   have henc:∀ z:k.T,Rel (fun _=>False) cO W (.agg (cellsOf k z)) (.agg (sA k z).toArray):=fun z=>by
    refine .agg (by simp[sA]) fun j s hj=>?_;obtain⟨v,rfl,_⟩:=hk z s (List.mem_of_getElem? hj);have:(sA k z).toArray.getD j undef=v:=by
     unfold sA;rw[Array.getD_eq_getD_getElem?,List.getElem?_toArray,List.getElem?_map,hj];rfl
    rw[this];exact .v v
   have hcall:=HS (hC.calls _ _ (hcf x y) trivial (fun _=>False) W (#[.agg (sA k x).toArray,.agg (sA k y).toArray]++cs) (fun _ h=>h.elim) ⟨by simp[c1];omega,fun j s hj=>by
    match j,hj with
    |0,hj=>
     cases hj;rw[Array.getD_eq_getD_getElem?,Array.getElem?_append_left (by simp)];exact henc x
    |1,hj=>
     cases hj;rw[Array.getD_eq_getD_getElem?,Array.getElem?_append_left (by simp)];exact henc y
    |j+2,hj=>
     have hj:caps[j]? =some s:=hj;have:=((c2 j s hj).carry hcar).over (hpf s (List.mem_of_getElem? hj)) (F':=fun _=>False) (own':=cO) fun _ _ h=>by
      rcases h with h| ⟨_,_,h,_⟩
      ·exact h
      ·cases h
     have e:(#[Value.agg (sA k x).toArray,.agg (sA k y).toArray]++cs).getD (j+2) undef=cs.getD j undef:=by
      rw[Array.getD_eq_getD_getElem?,Array.getD_eq_getD_getElem?,Array.getElem?_append_right (by simp)];simp
     rw[e];exact this⟩)
   refine hcall.mono fun e w' hq=>?_;obtain⟨he,hdr⟩:=hq;rcases he with⟨s,u,own',hs,rfl,hh,hb⟩ | ⟨z,hz,_⟩
   ·simp only[dH]at hs;subst hs;have:=hh.val;simp only[wM]at this;rw[bG this];exact⟨rfl,R8 hb (hdr (by simp))⟩
   ·exact hz.elim
  have hall:=MD L (aa k) aE zE (sA k) hkl hone cf hO g cs b o cap l0.toArray w eg hcmp hH hbw (by unfold aD at e6;simp only[List.size_toArray];omega) (lim:=lim.toNat) (by omega);rw[Int.toNat_of_nonneg hl0]at hall;rw[e1];refine hall.mono fun e w' he=>?_;obtain⟨rfl,d',n,os,hpm,hst,rfl⟩:=he;have hd':=JJ hO hp hpm hst;subst hd';have hlS:(srt cf l0).length=l0.length:=List.length_mergeSort _;generalize srt cf l0=lS at hlS;have hsb:=sw_b (enc:=sA k) (n:=aa k) (o:=o) (m:=n) e3 lS.toArray os;refine⟨(),own,trivial,⟨_,rfl,.tup rfl fun j s hj=>by simp at hj⟩,?_,?_,Nat.le_refl _⟩
  ·refine⟨hHp.dom,fun c hc=>Nat.lt_of_lt_of_le (hHp.foreign c hc) (Gb _ _),hHp.apart,hHp.inj,fun i h2 c e hc=>Nat.lt_of_lt_of_le (hHp.lt i h2 c e hc) (Gb _ _),fun i hi=>?_⟩;match i,hi with
   |0,_=>
    refine⟨hd,o0,?_⟩;show RowRel F own _ k lS hd.v hd.bs;refine .inr ⟨b,o,cap,_,ty,by rw[hlS];exact e1,e2,hsb,?_,by omega,by omega,MC hk fun i j hi hj=>?_⟩
    ·unfold putCells;simpa using e4
    ·have hlt:i*aa k+j< (flatK (sA k) (aa k) lS.toArray).size:=by
      rw[size_flatK];have:=Nat.mul_le_mul_right (aa k) (show i+1<=lS.length from hi);rw[Nat.succ_mul]at this;simp only[List.size_toArray];omega
     have hle:o+(i*aa k+j) <cells.size:=by
      rw[size_flatK]at hlt;simp only[List.size_toArray]at hlt;have:=Nat.mul_le_mul_right (aa k) (show lS.length<=cap by omega);omega
     rw[Nat.add_assoc,Ga hlt hle,HU hkl (by simpa using hi) hj];have:lS.toArray[i]! =lS[i]:=by rw[getElem!_pos lS.toArray _ (by simpa using hi)];rfl
     rw[this]
   |i+1,hi=>rw[qX (by simp)]at hi;cases hi
  ·refine⟨fun _ h2 e=>⟨h2,e,.refl _⟩,(Fr.refl { w:=w,own:=own}).base,rfl,rfl,rfl,Gb _ _,fun c hc=>?_⟩;exact Td hc.1 (fun e=>hc.2 ⟨0,hd,o0,e▸hbown⟩) _ _
end
end Go.Sx
end
section
namespace Go.Proofs
open Go.Shelf
def Tryz.sortLk_ren:Go.Shelf.Ren:=⟨fun|15=>144|14=>143|28=>199|29=>200|20=>191|21=>192|22=>193|23=>194|24=>195|25=>196|26=>197|27=>198|46=>224|47=>225|48=>226|49=>227|50=>228|57=>252|n=>n,fun|22=>32|24=>68|25=>119|3=>3|39=>211|0=>0|53=>262|55=>120|4=>4|46=>256|45=>255|50=>133|5=>5|9=>9|66=>277|70=>281|76=>296|77=>297|n=>n,fun|n=>n⟩
theorem Tryz.sortLk:Go.Proofs.SlLaysF0.n14 Tryz.prog Tryz.sortLk_ren:= {
 mixed:=by kernel_rfl
 f14:=⟨Tryz.f143.name,by decide,Tryz.func143.trans (congrArg some (by kernel_rfl))⟩
 f15:=Tryz.func144.trans (congrArg some (by kernel_rfl))
 f20:=⟨Tryz.f191.name,by decide,Tryz.func191.trans (congrArg some (by kernel_rfl))⟩
 f21:=⟨Tryz.f192.name,by decide,Tryz.func192.trans (congrArg some (by kernel_rfl))⟩
 f22:=⟨Tryz.f193.name,by decide,Tryz.func193.trans (congrArg some (by kernel_rfl))⟩
 f23:=⟨Tryz.f194.name,by decide,Tryz.func194.trans (congrArg some (by kernel_rfl))⟩
 f24:=⟨Tryz.f195.name,by decide,Tryz.func195.trans (congrArg some (by kernel_rfl))⟩
 f25:=⟨Tryz.f196.name,by decide,Tryz.func196.trans (congrArg some (by kernel_rfl))⟩
 f26:=⟨Tryz.f197.name,by decide,Tryz.func197.trans (congrArg some (by kernel_rfl))⟩
 f27:=⟨Tryz.f198.name,by decide,Tryz.func198.trans (congrArg some (by kernel_rfl))⟩
 f28:=Tryz.func199.trans (congrArg some (by kernel_rfl))
 f29:=Tryz.func200.trans (congrArg some (by kernel_rfl))
 f46:=⟨Tryz.f224.name,by decide,Tryz.func224.trans (congrArg some (by kernel_rfl))⟩
 f47:=Tryz.func225.trans (congrArg some (by kernel_rfl))
 f48:=Tryz.func226.trans (congrArg some (by kernel_rfl))
 f49:=⟨Tryz.f227.name,by decide,Tryz.func227.trans (congrArg some (by kernel_rfl))⟩
 f50:=⟨Tryz.f228.name,by decide,Tryz.func228.trans (congrArg some (by kernel_rfl))⟩
 f57:=⟨Tryz.f252.name,by decide,Tryz.func252.trans (congrArg some (by kernel_rfl))⟩
 t0:=Tryz.underlying0
 a0:=Tryz.isAgg0
 z0:=Tryz.sizeOf0
 v0:=Tryz.zeroValue0
 t3:=Tryz.underlying3
 a3:=Tryz.isAgg3
 z3:=Tryz.sizeOf3
 v3:=Tryz.zeroValue3
 t4:=Tryz.underlying4
 a4:=Tryz.isAgg4
 z4:=Tryz.sizeOf4
 v4:=Tryz.zeroValue4
 t5:=Tryz.underlying5
 a5:=Tryz.isAgg5
 z5:=Tryz.sizeOf5
 v5:=Tryz.zeroValue5
 t9:=Tryz.underlying9
 a9:=Tryz.isAgg9
 z9:=Tryz.sizeOf9
 v9:=Tryz.zeroValue9
 t22:=Tryz.underlying32
 a22:=Tryz.isAgg32
 z22:=Tryz.sizeOf32
 v22:=Tryz.zeroValue32
 t25:=Tryz.underlying119
 a25:=Tryz.isAgg119
 z25:=Tryz.sizeOf119
 v25:=Tryz.zeroValue119
 t39:=Tryz.underlying211
 a39:=Tryz.isAgg211
 z39:=Tryz.sizeOf211
 v39:=Tryz.zeroValue211
 t45:=Tryz.underlying255
 a45:=Tryz.isAgg255
 z45:=Tryz.sizeOf255
 v45:=Tryz.zeroValue255
 t46:=Tryz.underlying256
 a46:=Tryz.isAgg256
 z46:=Tryz.sizeOf256
 v46:=Tryz.zeroValue256
 t50:=Tryz.underlying133
 a50:=Tryz.isAgg133
 z50:=Tryz.sizeOf133
 v50:=Tryz.zeroValue133
 t53:=Tryz.underlying262
 a53:=Tryz.isAgg262
 z53:=Tryz.sizeOf262
 v53:=Tryz.zeroValue262
 t55:=Tryz.underlying120
 a55:=Tryz.isAgg120
 z55:=Tryz.sizeOf120
 v55:=Tryz.zeroValue120
 t66:=Tryz.underlying277
 a66:=Tryz.isAgg277
 z66:=Tryz.sizeOf277
 v66:=Tryz.zeroValue277
 t70:=Tryz.underlying281
 a70:=Tryz.isAgg281
 z70:=Tryz.sizeOf281
 v70:=Tryz.zeroValue281
 t76:=Tryz.underlying296
 a76:=Tryz.isAgg296
 z76:=Tryz.sizeOf296
 v76:=Tryz.zeroValue296
 t77:=Tryz.underlying297
 a77:=Tryz.isAgg297
 z77:=Tryz.sizeOf297
 v77:=Tryz.zeroValue297}
end Go.Proofs
end
section
namespace Go.Sx
open Go.Lib Go.Proofs Go.RowKit Go.Shelf Go.Sort
def u4:List SV->Option Con:=pU fun n=>pE (.det (0<=n/\n<18446744073709551616) (.v (.int .i64 ((Go.Lib.bitLen n.toNat:Nat):Int))))
attribute [go_sem] u4
theorem JK:FnOk Tryz.prog 144 u4 where
 enter:=fun l c h args w=>enters_of Tryz.sortLk.f15 kr rfl args w
 calls:=fun l c h hp F w vs hF hvs=>by
  unfold u4 at h;obtain⟨n,r,rfl,h0⟩:=Ar h;obtain⟨rfl,rfl⟩:=CT h0;obtain⟨p1,p2⟩:=hp;have q:=bG (hvs.2 0 _ rfl);have hv:vs= #[.int .u64 n]:=by
   apply Array.ext
   ·simpa using hvs.1
   ·intro i h1 h2;have:i=0:=by simp at h2;exact h2
    subst this;simp only[Array.getD,h1,dif_pos]at q;exact q
  subst hv;have:=Any.bits_Len (P:=Tryz.prog) (ρ:=Tryz.sortLk_ren.viaSlsf) (SlLaysF0.n15.bits (P:=Tryz.prog) (ρ:=Tryz.sortLk_ren) { Tryz.sortLk with}) n w p1 (by omega);refine this.mono fun e w' he=>?_;obtain⟨rfl,rfl⟩:=he;exact .inl ⟨_,_,cO,rfl,rfl,⟨vN hF,Rel.v _,fun _ _ _ e=>by cases e⟩,Below.refl _ _⟩
noncomputable def JM:List SV->List Ob->Option HCon:=EU .claim 95 [] dO
@[go_sem] theorem Xp {l0:List Claim}{z n lim:Int}:JM [.os 0,.v (.int .i64 z),.v (.int .i64 n),.v (.int .i64 lim),.fn 95 [] []] [.row .claim l0]=some (jQ (z=0/\n=(l0.length:Int)/\0<=lim/\lim<4611686018427387904/\apart dO l0) (.tup []) [.row .claim (srt dO l0)]):=O_
theorem HV:F_ .claim:=fun x s hs=>by
 simp only[cellsOf,List.mem_cons,List.not_mem_nil,or_false]at hs;rcases hs with rfl|rfl|rfl|rfl|rfl;all_goals exact⟨_,rfl,rfl⟩
theorem HW (x y:Claim):sU (.agg (cellsOf .claim x):: .agg (cellsOf .claim y)::[])=some (.det True (.v (.int .i64 (dO x y)))):=by
 simp only[go_sem,Nat.reduceBEq]
theorem R_:FnOkO Tryz.prog 143 JM:=
 Vg (k:=.claim) Tryz.sortLk (fun w=>by kernel_rfl) (fun w=>by kernel_rfl) HV (by decide) (g:=95) (caps:=[]) xN (cf:=dO) HW HJ (fun s hs=>by cases hs) ⟨default,default,HW _ _⟩
end Go.Sx
end
section
namespace Go.Sx
open Go.Proofs
open IntKind (i64 u64)
@[go_sem] def dc (s_:List Claim)(k_0:Nat)(s_0:Unit):Int⊕Unit:=(bif(ap (s_.getD k_0 default))then .inl (k_0:Int)else .inr ())
def az (s_:List Claim):Int:=(match an (dc s_) s_.length 0 ()with| .inl x_0_0=>x_0_0| .inr s_0=>(-1))
@[go_sem] def fJ:List SV->Option Con:=(pR .claim fun s_=>(pFn 93 (pE ((pE (.det True (.v (.int .i64 (az s_)))))))))
theorem jv:FnOk Tryz.prog 142 fJ:=by
 have hG:ConsOk Tryz.prog (mkG [(93,oT)] []):=ar (cgc sa cg0) cg0;refine ay [.o] mixed ak hG (fn:=Tryz.f142) (c:=ae Tryz.f142) kr kr kr kr (bC fun s_=>(bJ (ai ((ai (fun hp=>?_))))));dsimp only[ax]at hp;refine⟨nbl rfl,(fun id st=>bif Nat.beq id 0 then some (LCR (ρ:=Int) (σ:=Unit) 0 [] [] (fun k_0 s_0=>⟨[(0,.rs .claim s_),(1,.fn 93 [] []),(7,.v (.int .i64 (s_.length:Int))),(8,.v (.int .i64 (k_0:Int)))],[]⟩) (dc s_) pT s_.length () (s_.length<=aD) (fun _=>.ret) (fun x_0_0=>⟨[(4,.v (.int .i64 x_0_0))],[]⟩) st)else none),?_,?_⟩
 ·unfold ae Tryz.f142;simp only[am,true_and,and_true]
  ·refine a_ mixed ak hG kr (fun _=>rfl) (s_.length:Int) rfl gA (fun hb0 k_0 s_0 hlt0 _ hw hc=>⟨L0,ag _,?_⟩) (fun hb0 s_0 hc=>?_)
   ·exact bi (jl [])
   ·exact ba (jl [])
 ·unfold ae Tryz.f142;try unfold az
  exact zq1
@[go_sem] noncomputable def dz:List SV->Option Con:=fun l=>(orC (dq l) (fJ l))
theorem jI:FnOk Tryz.prog 142 dz:=(FnOk.or fB jv)
@[go_sem] def aU (l_:List Claim)(k_0:Nat)(s_0:List Claim×Int×Int):(Int×List Claim)⊕(List Claim×Int×Int):=letI q0:=s_0.1.getD (Int.toNat s_0.2.2) default;letI q1:=i64.wrap (s_0.2.2+1);(bif(decide (s_0.2.2< (s_0.1.length:Int)))then(bif(!(ap q0))then .inr ((s_0.1.set (Int.toNat s_0.2.1) q0),(i64.wrap (s_0.2.1+1)),q1)else .inr (s_0.1,s_0.2.1,q1))else .inl (s_0.2.1,s_0.1))
def bb (l_:List Claim)(k_0:Nat)(s_0:List Claim×Int×Int):Prop:=(s_0.1.length<=aD->((decide (s_0.2.2< (s_0.1.length:Int)))=true->((0<=s_0.2.2/\s_0.2.2< (s_0.1.length:Int))/\((!(ap (s_0.1.getD (Int.toNat s_0.2.2) default)))=true->(0<=s_0.2.1/\s_0.2.1< (s_0.1.length:Int))))))
def aH (l_:List Claim):List Claim:=letI q0:=az l_;(bif(q0==(-1))then l_ else(match an (aU l_) (l_.length+1) 0 (l_,q0,(i64.wrap (q0+1)))with| .inl x_0_0=>(((B9 .claim x_0_0.2 x_0_0.1 (x_0_0.2.length:Int)).take (Int.toNat x_0_0.1)).drop 0) | .inr s_0=>default))
def aN (l_:List Claim):Prop:=letI q0:=az l_;letI q1:=aU l_;letI q2:=(l_,q0,(i64.wrap (q0+1)));letI q3:=l_.length+1;((q0==(-1))=false->(okI q1 (bb l_) q3 0 q2/\(∀ z_,an q1 q3 0 q2≠ .inr z_)/\(∀ x_0_0,an q1 q3 0 q2=.inl x_0_0->((0<=x_0_0.1/\x_0_0.1<=(x_0_0.2.length:Int))/\(0<=0/\0<=x_0_0.1/\x_0_0.1<=((B9 .claim x_0_0.2 x_0_0.1 (x_0_0.2.length:Int)).length:Int))))))
noncomputable def dA:List SV->List Ob->Option HCon:=qz (fun x_:(List Claim) =>[.os 0,.fn 93 [] []]) (fun x_=>[.row .claim x_]) (fun x_=>jQ (aN x_) (.os 1) [.dead,.row .claim (aH x_)])
@[go_sem] theorem tA (l_:List Claim):dA ([.os 0,.fn 93 [] []]) ([.row .claim l_])=some (jQ (aN l_) (.os 1) [.dead,.row .claim (aH l_)]):=nT (A:=fun x_:(List Claim) =>[.os 0,.fn 93 [] []]) (H:=fun x_=>[.row .claim x_]) (K:=fun x_=>jQ (aN x_) (.os 1) [.dead,.row .claim (aH x_)]) (x:=l_)
theorem zq58 {l0 l1:List Nat}(a0:JL l0)(a1:JL l1){p:Prop}(h:JL l0->JL l1->p:=by intro ja jb;simp only[go_sem,Nat.reduceBEq,Nat.reduceLeDiff,Nat.reduceLT,decide_true,Nat.reduceAdd,Nat.reduceSub,Nat.reduceMul,Int.reduceLE,Int.reduceLT,Int.reduceToNat,Int.reduceNeg,reduceCtorEq,dz];all_goals exact sR ja jb):p:=h a0 a1
theorem jJ:FnOkO Tryz.prog 92 (dA):=by
 have hG:ConsOk Tryz.prog (mkG [(93,oT),(142,fun l=>dz (bp [.sl .claim,.o] l))] []):=ar (cgc sa (cgc (jI.norm [.sl .claim,.o]) cg0)) cg0;refine py mixed ak hG (fn:=Tryz.f92) (c:=ae Tryz.f92) kr kr kr kr fun l o con h=>?_;obtain⟨l_,rfl,rfl,rfl⟩:=lp h;clear h;try dsimp only
 refine⟨_,_,_,rfl,fun hp=>?_⟩;unfold aN at hp;refine⟨nbl rfl,(fun id st=>bif Nat.beq id 0 then some (LCV (ρ:=(Int×List Claim)) (σ:=(List Claim×Int×Int)) 1 [] [0] (fun k_0 s_0=>⟨[(0,.os 0),(1,.fn 93 [] []),(5,.v (.int .i64 s_0.2.1)),(6,.v (.int .i64 s_0.2.2))],[.row .claim s_0.1]⟩) (aU l_) (bb l_) (l_.length+1) (l_,(az l_),(i64.wrap ((az l_)+1))) (fun _=>.normal) (fun x_0_0=>⟨[(0,.os 0),(5,.v (.int .i64 x_0_0.1))],[.row .claim x_0_0.2]⟩) st)else none),?_,?_⟩
 ·unfold ae Tryz.f92;simp only[am,true_and,and_true,and_assoc]
  ·refine rq mixed ak hG kr (fun _=>rfl) fun k_0 s_0 hq0=>⟨L0,ag _,?_⟩
   ·unfold bb at hq0;exact sS (jl [0])
 ·unfold ae Tryz.f92;try unfold aH
  exact zq58 (jl [0,0]) (jl [0,1])
def bf (l_:List Claim):List Claim:=(srt dO l_)
def aZ (l_:List Claim):Prop:=letI q2:=(l_.length:Int);letI q0:=u64.wrap q2;letI q1:=((Go.Lib.bitLen (Int.toNat q0):Nat):Int);(l_.length<=aD->((0<=q0/\q0<18446744073709551616)/\(0=0/\q2=q2/\0<=q1/\q1<4611686018427387904/\apart dO l_)))
noncomputable def dQ:List SV->List Ob->Option HCon:=qz (fun x_:(List Claim) =>[.os 0,.fn 95 [] []]) (fun x_=>[.row .claim x_]) (fun x_=>jQ (aZ x_) (.tup []) [.row .claim (bf x_)])
@[go_sem] theorem tZ (l_:List Claim):dQ ([.os 0,.fn 95 [] []]) ([.row .claim l_])=some (jQ (aZ l_) (.tup []) [.row .claim (bf l_)]):=nT (A:=fun x_:(List Claim) =>[.os 0,.fn 95 [] []]) (H:=fun x_=>[.row .claim x_]) (K:=fun x_=>jQ (aZ x_) (.tup []) [.row .claim (bf x_)]) (x:=l_)
theorem zq59 {l0:List Nat}(a0:JL l0){p:Prop}(h:JL l0->p:=by intro ja;simp only[go_sem,Nat.reduceBEq,Nat.reduceLeDiff,Nat.reduceLT,decide_true,Nat.reduceAdd,Nat.reduceSub,Nat.reduceMul,Int.reduceLE,Int.reduceLT,Int.reduceToNat,Int.reduceNeg,reduceCtorEq,u4];all_goals exact jA ja):p:=h a0
theorem j5:FnOkO Tryz.prog 94 (dQ):=by
 have hG:ConsOk Tryz.prog (mkG [(144,u4)] [(143,JM)]):=ar (cgc JK cg0) (cgc R_ cg0);refine py mixed ak hG (fn:=Tryz.f94) (c:=ae Tryz.f94) kr kr kr kr fun l o con h=>?_;obtain⟨l_,rfl,rfl,rfl⟩:=lp h;clear h;try dsimp only
 refine⟨_,_,_,rfl,fun hp=>?_⟩;unfold aZ at hp;refine⟨nbl rfl,L0,?_,?_⟩
 ·unfold ae Tryz.f94;simp only[am,and_self,true_and,and_true]
 ·unfold ae Tryz.f94;try unfold bf
  exact zq59 (jl [0])
def du (l_:List Claim):List Claim:=(bf (aH l_))
def cJ (l_:List Claim):Prop:=((aN l_)/\(aZ (aH l_)))
noncomputable def qA:List SV->List Ob->Option HCon:=qz (fun x_:(List Claim) =>[.os 0]) (fun x_=>[.row .claim x_]) (fun x_=>jQ (cJ x_) (.os 1) [.dead,.row .claim (du x_)])
@[go_sem] theorem Ix (l_:List Claim):qA ([.os 0]) ([.row .claim l_])=some (jQ (cJ l_) (.os 1) [.dead,.row .claim (du l_)]):=nT (A:=fun x_:(List Claim) =>[.os 0]) (H:=fun x_=>[.row .claim x_]) (K:=fun x_=>jQ (cJ x_) (.os 1) [.dead,.row .claim (du x_)]) (x:=l_)
theorem zy:FnOkO Tryz.prog 47 (qA):=by
 have hG:ConsOk Tryz.prog (mkG [] [(92,dA),(94,dQ)]):=ar cg0 (cgc jJ (cgc j5 cg0));refine py mixed ak hG (fn:=Tryz.f47) (c:=ae Tryz.f47) kr kr kr kr fun l o con h=>?_;obtain⟨l_,rfl,rfl,rfl⟩:=lp h;clear h;try dsimp only
 refine⟨_,_,_,rfl,fun hp=>?_⟩;unfold cJ at hp;refine⟨nbl rfl,L0,?_,?_⟩
 ·unfold ae Tryz.f47;simp only[am,and_self,true_and,and_true]
 ·unfold ae Tryz.f47;try unfold du
  exact sS (jl [0,1])
@[go_sem] def df (x:Judgement)(l_:List Claim)(k_0:Nat)(s_0:List Claim×Int):Empty⊕(List Claim×Int):=letI q1:=s_0.1.getD k_0 default;letI q0:=s_0.1.set k_0 ({ right:=q1.right,farm:=q1.farm,hour:=q1.hour,litres:=(if s_0.2<q1.litres then s_0.2 else q1.litres),rank:=q1.rank}:Claim);(bif(q1.farm==x.farm)then .inr (q0,(i64.wrap (s_0.2 - (q0.getD k_0 default).litres)))else .inr (s_0.1,s_0.2))
def eY (x:Judgement)(l_:List Claim)(k_0:Nat)(s_0:List Claim×Int):Prop:=letI q0:=s_0.1.getD k_0 default;letI q2:=(k_0:Int);letI q1:=0<=q2/\q2< (s_0.1.length:Int);(q1/\((q0.farm==x.farm)=true->(q1/\(q1/\(0<=q2/\q2< ((s_0.1.set k_0 ({ right:=q0.right,farm:=q0.farm,hour:=q0.hour,litres:=(if s_0.2<q0.litres then s_0.2 else q0.litres),rank:=q0.rank}:Claim)).length:Int))))))
def bY (x:Judgement)(l_:List Claim):List Claim:=(match an (df x l_) l_.length 0 (l_,x.n)with| .inl x=>x.elim| .inr s_0=>s_0.1)
def cG (x:Judgement)(l_:List Claim):Prop:=(l_.length<=aD->okI (df x l_) (eY x l_) l_.length 0 (l_,x.n))
noncomputable def jS:List SV->List Ob->Option HCon:=qz (fun x_:Judgement×(List Claim) =>[.os 0,.agg (cellsOf .judgement x_.1)]) (fun x_=>[.row .claim x_.2]) (fun x_=>jQ (cG x_.1 x_.2) (.os 0) [.row .claim (bY x_.1 x_.2)])
@[go_sem] theorem BL (x:Judgement)(l_:List Claim):jS ([.os 0,.agg [.v (.int .i64 x.no),.v (.int .i64 x.hour),.v (.int .i64 x.kind),.v (.int .i64 x.farm),.v (.int .i64 x.other),.v (.int .i64 x.since),.v (.int .i64 x.to),.v (.int .i64 x.n),.v (.int .i64 x.of_)]]) ([.row .claim l_])=some (jQ (cG x l_) (.os 0) [.row .claim (bY x l_)]):=nT (A:=fun x_:Judgement×(List Claim) =>[.os 0,.agg (cellsOf .judgement x_.1)]) (H:=fun x_=>[.row .claim x_.2]) (K:=fun x_=>jQ (cG x_.1 x_.2) (.os 0) [.row .claim (bY x_.1 x_.2)]) (x:=(x,l_))
theorem tC:FnOkO Tryz.prog 88 (jS):=by
 have hG:ConsOk Tryz.prog (mkG [] []):=ar cg0 cg0;refine py mixed ak hG (fn:=Tryz.f88) (c:=ae Tryz.f88) kr kr kr kr fun l o con h=>?_;obtain⟨⟨x,l_⟩,rfl,rfl,rfl⟩:=lp h;clear h;try dsimp only
 refine⟨_,_,_,rfl,fun hp=>?_⟩;unfold cG at hp;refine⟨nbl rfl,(fun id st=>bif Nat.beq id 0 then some (LCR (ρ:=Empty) (σ:=(List Claim×Int)) 2 [] [0,1] (fun k_0 s_0=>⟨[(0,.os 0),(3,.ptr 1 0),(5,.v (.int .i64 s_0.2)),(10,.v (.int .i64 (l_.length:Int))),(11,.v (.int .i64 (k_0:Int)))],[.row .claim s_0.1,.cells (cellsOf .judgement x)]⟩) (df x l_) (eY x l_) l_.length (l_,x.n) (l_.length<=aD) ((·.elim)) ((·.elim)) st)else none),?_,?_⟩
 ·unfold ae Tryz.f88;simp only[am,true_and,and_true,and_assoc]
  ·refine a_ mixed ak hG kr (fun _=>rfl) (l_.length:Int) rfl gA (fun hb0 k_0 s_0 hlt0 hq0 hw hc=>⟨L0,ag _,?_⟩) (fun hb0 s_0 hc=>?_)
   ·unfold eY at hq0;try simp only[hw,Int.toNat_natCast]at hq0
    exact bi (jl [0,1])
   ·exact ba (jl [0,1])
 ·unfold ae Tryz.f88;try unfold bY
  exact sS (jl [0])
def wl (x:Judgement)(l_:List Claim):Unit:=()
noncomputable def kC:List SV->List Ob->Option HCon:=qz (fun x_:Judgement×(List Claim) =>[.os 0,.agg (cellsOf .judgement x_.1)]) (fun x_=>[.row .claim x_.2]) (fun x_=>jQ True (.os 0) [.row .claim x_.2])
@[go_sem] theorem Dj (x:Judgement)(l_:List Claim):kC ([.os 0,.agg [.v (.int .i64 x.no),.v (.int .i64 x.hour),.v (.int .i64 x.kind),.v (.int .i64 x.farm),.v (.int .i64 x.other),.v (.int .i64 x.since),.v (.int .i64 x.to),.v (.int .i64 x.n),.v (.int .i64 x.of_)]]) ([.row .claim l_])=some (jQ True (.os 0) [.row .claim l_]):=nT (A:=fun x_:Judgement×(List Claim) =>[.os 0,.agg (cellsOf .judgement x_.1)]) (H:=fun x_=>[.row .claim x_.2]) (K:=fun x_=>jQ True (.os 0) [.row .claim x_.2]) (x:=(x,l_))
theorem ut:FnOkO Tryz.prog 90 (kC):=by
 have hG:ConsOk Tryz.prog (mkG [] []):=ar cg0 cg0;refine py mixed ak hG (fn:=Tryz.f90) (c:=ae Tryz.f90) kr kr kr kr fun l o con h=>?_;obtain⟨⟨x,l_⟩,rfl,rfl,rfl⟩:=lp h;clear h;try dsimp only
 refine⟨_,_,_,rfl,fun hp=>?_⟩;refine⟨nbl rfl,L0,?_,?_⟩
 ·unfold ae Tryz.f90;simp only[am,and_self,true_and,and_true]
 ·unfold ae Tryz.f90;try unfold wl
  exact sS (jl [0])
@[go_sem] theorem abt {f:FuncId}:Ae (.fn f [] [])=some [.fn f [] []]:=(rfl)
theorem ME {κ υ:Type}[DecidableEq κ](l:List (κ×υ))(x z:κ)(y:υ):kR (wy l x y) z=if z=x then some y else kR l z:=by
 induction l with
 |nil=>simp[wy,kR]
 |cons a r ih=>
  obtain⟨a,b⟩:=a;unfold wy;by_cases h:x=a
  ·subst h;simp only[if_pos];unfold kR;by_cases hz:z=x <;>simp[hz]
  ·rw[if_neg h];unfold kR;by_cases hz:z=a
   ·subst hz;rw[if_pos rfl,if_neg (fun e=>h e.symm),if_pos rfl]
   ·rw[if_neg hz,ih,if_neg hz]
def fZ:List (Int×(Option Nat)):=(lF .int .fnc (lF .int .fnc (lF .int .fnc (lF .int .fnc ([]) 1 (some 88)) 2 (some 88)) 3 (some 89)) 4 (some 90))
@[go_sem] def t8:List SV->Option Con:=(pE (.det True (.nm .int .fnc (fZ))))
theorem yM:FnOk Tryz.prog 42 t8:=by
 have hG:ConsOk Tryz.prog (mkG [] []):=ar cg0 cg0;refine F5 [] mixed ak hG (fn:=Tryz.f42) (c:=ae Tryz.f42) kr kr kr kr (ai (fun hp=>?_));dsimp only[ax]at hp;refine⟨nbl rfl,L0,ag _,?_⟩
 ·unfold ae Tryz.f42;try unfold fZ
  exact zq1
theorem qB (k:Int):dS .int .fnc fZ k=bif k==1 then some 88 else bif k==2 then some 88 else bif k==3 then some 89 else bif k==4 then some 90 else none:=by
 by_cases h1:k=1
 ·subst h1;rfl
 by_cases h2:k=2
 ·subst h2;rfl
 by_cases h3:k=3
 ·subst h3;rfl
 by_cases h4:k=4
 ·subst h4;rfl
 have e1:(k==1)=false:=by simpa using h1
 have e2:(k==2)=false:=by simpa using h2
 have e3:(k==3)=false:=by simpa using h3
 have e4:(k==4)=false:=by simpa using h4
 rw[e1,e2,e3,e4];simp only[fZ,dS,lF,ME,if_neg h1,if_neg h2,if_neg h3,if_neg h4];rfl
end Go.Sx
end
section
namespace Go.Sx
open Go.RowKit
open IntKind (i64)
abbrev RF:= { r:Nat->Res // ∀ k,(r k).n=k}
def HX (items:List (List SV))(r:RF):List SV->Res->Option YCon:=itY items r.1
@[go_sem] theorem abu {items:List (List SV)}{r:RF}{k:Nat}{args:List SV}:HX items r args (r.1 (k+1))=some (HD (items[k]? =some args) r.1 (k+2)):=N_ r.2 k args
section
variable {ρ σ:Type}
def lcy (pre:Prop)(run:ρ⊕σ)(exE:ρ->Ex)(outE:ρ->St)(outN:σ->St)(stp:St):LCon where
 α:=Option (ρ⊕σ)
 pre:=pre
 post:=fun|none=>True|some r=>r=run
 ex:=fun|none=>.ret|some (.inl x) =>exE x|some (.inr _) =>.normal
 out:=fun|none=>stp|some (.inl x) =>outE x|some (.inr s) =>outN s
def LCY (m:Nat)(ns:List NLoc)(js:List Nat)(D:Nat->σ->St)(step:Nat->σ->ρ⊕σ)(p:Nat->σ->Prop)(n:Nat)(s0:σ)(B:Prop)(exE:ρ->Ex)(outE:ρ->St)(stp:St)(st:St):LCon:=
 lcy (vR m ns js st (D 0 s0)/\B/\okI step p n 0 s0) (an step n 0 s0) exE outE (D n) stp
def Vh (m:Nat)(ns:List NLoc)(js:List Nat)(D:Nat->σ->St)(step:Nat->σ->ρ⊕σ)(p:Nat->σ->Prop)(n:Nat)(s0:σ)(exE:ρ->Ex)(outE:ρ->St)(stp:St)(st:St):LCon:=
 lcy (vR m ns js st (D 0 s0)/\okI step p n 0 s0/\∀ s,an step n 0 s0≠ .inr s) (an step n 0 s0) exE outE (D n) stp
variable {m:Nat}{ns:List NLoc}{js:List Nat}{step:Nat->σ->ρ⊕σ}{p:Nat->σ->Prop}{n:Nat}{s0:σ}{B:Prop}{exE:ρ->Ex}{outE:ρ->St}{stp st:St}{Q:Ex->St->Prop}{D:Nat->σ->St}
theorem EV {pre:Prop}{run:ρ⊕σ}{outN:σ->St}:sL Q (some (lcy pre run exE outE outN stp))=(pre/\(∀ x,run=.inl x->Q (exE x) (outE x))/\(∀ s,run=.inr s->Q .normal (outN s))/\Q .ret stp):=by
 apply propext;constructor
 ·rintro⟨h1,h2⟩;exact⟨h1,fun x hx=>h2 (some (.inl x)) hx.symm,fun s hs=>h2 (some (.inr s)) hs.symm,h2 none trivial⟩
 ·rintro⟨h1,h2,h3,h4⟩;refine⟨h1,fun r hr=>?_⟩;match r,hr with
  |none,_=>exact h4
  |some (.inl x),hr=>exact h2 x hr.symm
  |some (.inr s),hr=>exact h3 s hr.symm
@[go_sem] theorem Xq:sL Q (some (LCY m ns js D step p n s0 B exE outE stp st))=((vR m ns js st (D 0 s0)/\B/\okI step p n 0 s0)/\(∀ x,an step n 0 s0=.inl x->Q (exE x) (outE x))/\(∀ s,an step n 0 s0=.inr s->Q .normal (D n s))/\Q .ret stp):=EV
@[go_sem] theorem Vi:sL Q (some (Vh m ns js D step p n s0 exE outE stp st))=((vR m ns js st (D 0 s0)/\okI step p n 0 s0/\∀ s,an step n 0 s0≠ .inr s)/\(∀ x,an step n 0 s0=.inl x->Q (exE x) (outE x))/\Q .ret stp):=by
 refine EV.trans ?_;apply propext;constructor
 ·rintro⟨h1,h2,_,h4⟩;exact⟨h1,h2,h4⟩
 ·rintro⟨h1,h2,h4⟩;exact⟨h1,h2,fun s hs=>absurd hs (h1.2.2 s),h4⟩
def cY (step:Nat->σ->ρ⊕σ)(exE:ρ->Ex)(outE:ρ->St)(D:Nat->σ->St)(stp:St)(m id k:Nat)(s:σ):Ex->St->Prop
 | .normal,st=>uU D m k st (step k s)
 | .exit j,st=>ou exE outE m (bif Nat.beq j id then .normal else .exit j) st (step k s)
 | .ret,st=>ou exE outE m .ret st (step k s)\/jP stp m st
 | .pan x,st=>ou exE outE m (.pan x) st (step k s)
variable {id k j:Nat}{s:σ}{x:Value}{e e':Ex}
@[go_sem] theorem Xr:cY step exE outE D stp m id k s .normal st=uU D m k st (step k s):=(rfl)
@[go_sem] theorem abv:cY step exE outE D stp m id k s (.exit j) st=ou exE outE m (bif Nat.beq j id then .normal else .exit j) st (step k s):=(rfl)
@[go_sem] theorem acx:cY step exE outE D stp m id k s .ret st=(ou exE outE m .ret st (step k s)\/jP stp m st):=(rfl)
@[go_sem] theorem acy:cY step exE outE D stp m id k s (.pan x) st=ou exE outE m (.pan x) st (step k s):=(rfl)
@[congr] theorem Zs {st':St}(h:st=st')(he:e=e'):cY step exE outE D stp m id k s e st=cY step exE outE D stp m id k s e' st':=by rw[h,he]
end
section
variable {P:Program}{ρ σ:Type}{ts:Tis}{G:Cons}{ro:Option Nat}{N:Nat}{id:Nat}{c:Code}{C:St->Option LCon}{m:Nat}{ns:List NLoc}{js:List Nat}{step:Nat->σ->ρ⊕σ}{p:Nat->σ->Prop}{n:Nat}{s0:σ}{exE:ρ->Ex}{outE:ρ->St}{D:Nat->σ->St}{stp:St}
theorem Pa {n0:Nat}(hn0:n0=m){s:σ}{k:Nat}(hlt:k<n){I:Nat×σ->Prop}{μ:Nat×σ->Nat}{outN:σ->St}{pre:Prop}{run:ρ⊕σ}
  (hI:∀ s',step k s=.inr s'->I (k+1,s')/\μ (k+1,s') <μ (k,s)) (hx:∀ x,step k s=.inl x->run=.inl x):
  ∀ e st',cY step exE outE D stp m id k s e st'->vC (fun x:Nat×σ=>D x.1 x.2) I μ n0 (k,s) id (fun e st'=>∃ r js,(lcy pre run exE outE outN stp).post r/\(lcy pre run exE outE outN stp).ex r=e/\n0<=((lcy pre run exE outE outN stp).out r).h.length/\Sub js n0 st' ((lcy pre run exE outE outN stp).out r)) e st':=by
 subst hn0;have hfin:∀ e st',ou exE outE n0 e st' (step k s)->∃ r js,(lcy pre run exE outE outN stp).post r/\(lcy pre run exE outE outN stp).ex r=e/\n0<=((lcy pre run exE outE outN stp).out r).h.length/\Sub js n0 st' ((lcy pre run exE outE outN stp).out r):=by
  intro e st' q;cases hs:step k s with
  |inr s'=>rw[hs]at q;exact q.elim
  |inl x=>
   rw[hs]at q;obtain⟨q2,js,q3,q4⟩:=q;exact⟨some (.inl x),js,(hx x hs).symm,q2,q3,q4⟩
 intro e st' hq;cases e with
 |normal=>
  change uU D n0 k st' (step k s)at hq;cases hs:step k s with
  |inl x=>rw[hs]at hq;exact hq.elim
  |inr s'=>
   rw[hs]at hq;obtain⟨js,q3,q4⟩:=hq;obtain⟨i1,i2⟩:=hI s' hs;exact⟨(k+1,s'),js,i1,i2,q3,q4⟩
 |exit j=>
  change ou exE outE n0 (bif Nat.beq j id then .normal else .exit j) st' (step k s)at hq;show bif Nat.beq j id then _ else _;cases hb:Nat.beq j id with
  |true=>rw[hb]at hq;exact hfin _ _ hq
  |false=>rw[hb]at hq;exact hfin _ _ hq
 |ret=>
  rcases hq with hq|hq
  ·exact hfin _ _ hq
  ·obtain⟨js,q3,q4⟩:=hq;exact⟨none,js,trivial,rfl,q3,q4⟩
 |pan x=>exact hfin _ _ hq
theorem HY {B:Prop}(hm:P.follows .mixedOrders=true)(hts:ts.ok P)(hG:ConsOk P G)(hc:cp N c=true)(hC:∀ st,C st=some (LCY m ns js D step p n s0 B exE outE stp st))(M:Int)(hn:n=M.toNat)(hB:B->M<9223372036854775808)
  (h:B->∀ k s,k<n->p k s->i64.wrap ((k:Int)+1)=((k+1:Nat):Int)->decide ((k:Int) <M)=true->∃ L,am P ro N L c/\exec ts G L c (D k s) (cY step exE outE D stp m id k s))
  (h2:B->∀ s,decide ((n:Int) <M)=false->exec ts G L0 c (D n s) (cZ (D n s) m id)):mL P ro N id (.loop c) C:=by
 refine wP hm hts hG hc fun st lc hC' hp=>?_;rw[hC st]at hC';cases hC';obtain⟨⟨hlen,hok,hle,hsub⟩,hB',h1⟩:=hp;refine⟨Nat×σ,fun x=>D x.1 x.2,fun x=>x.1<=n/\okI step p (n - x.1) x.1 x.2/\an step (n - x.1) x.1 x.2=an step n 0 s0,fun x=>n - x.1,(0,s0),mkN ns st,js,⟨Nat.zero_le _,by simpa using h1,by simp⟩,yB ns st st (.refl _) hok,by rw[hlen];exact hle,by rw[hlen];exact hsub,?_⟩;rintro⟨k,s⟩ ⟨hk,hJ,hrun⟩;simp only at hk hJ hrun;rcases Nat.lt_or_ge k n with hlt|hge
 ·rw[show n - k=(n - k - 1)+1 by omega]at hrun hJ;obtain⟨L,hl,hex⟩:=h hB' k s hlt hJ.1 (Oc (hn▸hlt) (hB hB')) (decide_eq_true (by omega));have hI:∀ s',step k s=.inr s'->okI step p (n - (k+1)) (k+1) s'/\an step (n - (k+1)) (k+1) s'=an step n 0 s0:=fun s' hs=>by
   have:=hJ.2 s' hs;rw[show n - k - 1=n - (k+1) by omega]at this hrun;simp only[an,hs]at hrun;exact⟨this,hrun⟩
  have hx:∀ x,step k s=.inl x->an step n 0 s0=.inl x:=fun x hs=>by
   simp only[an,hs]at hrun;exact hrun.symm
  exact⟨L,_,hl,fun e st' q=>Pa hlen hlt (fun s' hs=>⟨⟨hlt,hI s' hs⟩,by simp only;omega⟩) hx e st' q,hex⟩
 ·have hkn:k=n:=by omega
  subst hkn;have hex:=h2 hB' s (by rw[decide_eq_false_iff_not];omega);refine⟨L0,_,ag c,fun e st' hq=>?_,hex⟩;simp only[Nat.sub_self,an]at hrun;cases e with
  |exit j=>
   change bif Nat.beq j id then jP (D k s) m st' else False at hq;show bif Nat.beq j id then _ else _;cases hb:Nat.beq j id with
   |true=>
    rw[hb]at hq;obtain⟨js,q3,q4⟩:=hq;exact⟨some (.inr s),js,hrun,rfl,by rw[hlen];exact q3,by rw[hlen];exact q4⟩
   |false=>rw[hb]at hq;exact hq.elim
  |_=>exact hq.elim
theorem MF (hm:P.follows .mixedOrders=true)(hts:ts.ok P)(hG:ConsOk P G)(hc:cp N c=true)(hC:∀ st,C st=some (Vh m ns js D step p n s0 exE outE stp st))
  (h:∀ k s,p k s->∃ L,am P ro N L c/\exec ts G L c (D k s) (cY step exE outE D stp m id k s)):mL P ro N id (.loop c) C:=by
 refine wP hm hts hG hc fun st lc hC' hp=>?_;rw[hC st]at hC';cases hC';obtain⟨⟨hlen,hok,hle,hsub⟩,h1,hno⟩:=hp;refine⟨Nat×σ,fun x=>D x.1 x.2,fun x=>x.1<=n/\okI step p (n - x.1) x.1 x.2/\an step (n - x.1) x.1 x.2=an step n 0 s0,fun x=>n - x.1,(0,s0),mkN ns st,js,⟨Nat.zero_le _,by simpa using h1,by simp⟩,yB ns st st (.refl _) hok,by rw[hlen];exact hle,by rw[hlen];exact hsub,?_⟩;rintro⟨k,s⟩ ⟨hk,hJ,hrun⟩;simp only at hk hJ hrun;rcases Nat.lt_or_ge k n with hlt|hge
 ·rw[show n - k=(n - k - 1)+1 by omega]at hrun hJ;obtain⟨L,hl,hex⟩:=h k s hJ.1;have hI:∀ s',step k s=.inr s'->okI step p (n - (k+1)) (k+1) s'/\an step (n - (k+1)) (k+1) s'=an step n 0 s0:=fun s' hs=>by
   have:=hJ.2 s' hs;rw[show n - k - 1=n - (k+1) by omega]at this hrun;simp only[an,hs]at hrun;exact⟨this,hrun⟩
  have hx:∀ x,step k s=.inl x->an step n 0 s0=.inl x:=fun x hs=>by
   simp only[an,hs]at hrun;exact hrun.symm
  exact⟨L,_,hl,fun e st' q=>Pa hlen hlt (fun s' hs=>⟨⟨hlt,hI s' hs⟩,by simp only;omega⟩) hx e st' q,hex⟩
 ·have hkn:k=n:=by omega
  subst hkn;simp only[Nat.sub_self,an]at hrun;exact absurd hrun.symm (hno s)
end
def rz (n:Nat):List Ob:=List.replicate n .dead
def Pb (items:List (List SV))(r:RF)(n:Nat):Ex->St->Prop
 | .normal,st=>jP ⟨[],.ab (r.1 0)::rz n⟩ (n+1) ⟨[],st.h⟩\/jP ⟨[],.ab (r.1 (items.length+1))::rz n⟩ (n+1) ⟨[],st.h⟩
 | .ret,st=>jP ⟨[],.ab (r.1 0)::rz n⟩ (n+1) ⟨[],st.h⟩\/jP ⟨[],.ab (r.1 (items.length+1))::rz n⟩ (n+1) ⟨[],st.h⟩
 |_,_=>False
section
variable {items:List (List SV)}{r:RF}{n:Nat}{st:St}{e e':Ex}
@[go_sem] theorem Sa:Pb items r n .normal st=(jP ⟨[],.ab (r.1 0)::rz n⟩ (n+1) ⟨[],st.h⟩\/jP ⟨[],.ab (r.1 (items.length+1))::rz n⟩ (n+1) ⟨[],st.h⟩):=(rfl)
@[go_sem] theorem Xs:Pb items r n .ret st=(jP ⟨[],.ab (r.1 0)::rz n⟩ (n+1) ⟨[],st.h⟩\/jP ⟨[],.ab (r.1 (items.length+1))::rz n⟩ (n+1) ⟨[],st.h⟩):=(rfl)
@[go_sem] theorem abw:rz 0=[]:=(rfl)
@[go_sem] theorem abx:rz 1=[.dead]:=(rfl)
@[go_sem] theorem aby:rz 2=[.dead,.dead]:=(rfl)
@[go_sem] theorem abz:rz 3=[.dead,.dead,.dead]:=(rfl)
@[go_sem] theorem abA:rz 4=[.dead,.dead,.dead,.dead]:=(rfl)
end
theorem HZ {js:List Nat}{n0:Nat}{h h':List Ob}(q:Sub js n0 ⟨[],h⟩ ⟨[],h'⟩):Sub js n0 ⟨[(0,.tup [])],h⟩ ⟨[(0,.tup [])],h'⟩:=by
 refine⟨q.1,?_,q.2.2⟩;simp only[LN,lk];exact⟨⟨rfl,rfl⟩,trivial⟩
open Classical in
theorem JN {P:Program} {ts:Tis} {G:RF->Cons} (hm:P.follows .mixedOrders=true) (hts:ts.ok P) {f:FuncId} {fn:Func} {c:Code} (hf:P.funcs[f]? =some fn) (hb:fn.body=some c) (hname:(fn.name== "runtime.NumGoroutine")=false) (hc:cp fn.ntmps c=true) (hr:fn.results.toList=[])
  {items:List (List SV)} {mk:SV->List SV} {hs:List Ob} {n:Nat} (hn:hs.length=n)
  (h:∀ r:RF,YOk P (HX items r)->ConsOk P (G r)/\(mk (.os 0)).length<=fn.ntmps/\∃ L,am P none fn.ntmps L c/\exec ts (G r) L c ⟨mG 0 (mk (.os 0)),.ab (r.1 1)::hs⟩ (Pb items r n))
  (he:∀ (args:Array Value) (w:World),(callFunc f args).run P w=.ok (.enter f args) w):FV P f mk hs items:=by
 refine S8 (fun r0 hr0 hy=>?_) he;obtain⟨hG,h1,L,h2,h3⟩:=h ⟨r0,hr0⟩ hy;refine⟨fun l o=>if l=mk (.os 0)/\o=.ab (r0 1)::hs then some { α:=Bool,pre:=True,post:=fun _=>True,res:=fun b=>.ret (.tup []) (.ab (r0 (if b then items.length+1 else 0))::rz n)}else none,?_,_,if_pos ⟨rfl,rfl⟩,trivial,fun b _=>⟨_,_,_,rfl,by cases b <;>simp⟩⟩;refine CS hm hts hG hf hb hname hc fun l o con hC _=>?_;split at hC
 rotate_left
 ·cases hC
 rename_i hlo;obtain⟨rfl,rfl⟩:=hlo;cases hC;refine⟨h1,L,_,h2,fun e st hq=>?_,h3⟩;have key:∀ st:St,(jP ⟨[],.ab (r0 0)::rz n⟩ (n+1) ⟨[],st.h⟩\/jP ⟨[],.ab (r0 (items.length+1))::rz n⟩ (n+1) ⟨[],st.h⟩)->y6 (Ob.ab (r0 1)::hs).length { α:=Bool,pre:=True,post:=fun _=>True,res:=fun b=>.ret (.tup []) (.ab (r0 (if b then items.length+1 else 0))::rz n)} (lH (km ts st fn.results.toList)) st.h:=fun st q=>by
  rw[hr];show ∃ r s' h' js,_;rcases q with⟨js,q1,q2⟩ | ⟨js,q1,q2⟩
  ·exact⟨false,_,_,js,trivial,rfl,by rw[List.length_cons,hn];exact q1,by rw[List.length_cons,hn];exact HZ q2⟩
  ·exact⟨true,_,_,js,trivial,rfl,by rw[List.length_cons,hn];exact q1,by rw[List.length_cons,hn];exact HZ q2⟩
 cases e with
 |normal=>exact key st hq
 |ret=>exact key st hq
 |exit j=>exact hq.elim
 |pan x=>exact hq.elim
section
variable {ρ σ τ:Type}
variable {m:Nat}{ns:List NLoc}{js:List Nat}{step:τ->σ->ρ⊕σ}{p:τ->σ->Prop}{l:List τ}{s0:σ}{exE:ρ->Ex}{outE:ρ->St}{outN:σ->St}{st:St}{Q:Ex->St->Prop}{D:List Nat->Option Nat->σ->St}
variable {P:Program}{ts:Tis}{G:Cons}{ro:Option Nat}{N id:Nat}{c:Code}{C:St->Option LCon}
end
theorem fkY {st2 st:St}{n0:Nat}{js:List Nat}(_:JL js)(h1:n0<=st2.h.length:=by(first|(show _<=_;decide) |(simp only[*,go_sem,Nat.reduceBEq,Nat.reduceLeDiff,Nat.reduceAdd,Nat.reduceSub,Nat.reduceMul,Int.reduceLE,Int.reduceLT,Int.reduceToNat,Int.reduceNeg,reduceCtorEq];done) |(simp only[*,go_sem,Nat.reduceBEq,Nat.reduceLeDiff,Nat.reduceAdd,Nat.reduceSub,Nat.reduceMul,Int.reduceLE,Int.reduceLT,Int.reduceToNat,Int.reduceNeg,reduceCtorEq];(repeat' (first|with_reducible refine And.intro ?_ ?_|((with_reducible show _≠_);first|assumption|omega|(simp_all [et,fN];done) |grind) |with_reducible intro _)) <;>(first|rfl|decide|assumption|omega|(simp_all [et,fN];done) |fail))))(h2:Sub js n0 st st2:=by(first|(show _<=_;decide) |(simp only[*,go_sem,Nat.reduceBEq,Nat.reduceLeDiff,Nat.reduceAdd,Nat.reduceSub,Nat.reduceMul,Int.reduceLE,Int.reduceLT,Int.reduceToNat,Int.reduceNeg,reduceCtorEq];done) |(simp only[*,go_sem,Nat.reduceBEq,Nat.reduceLeDiff,Nat.reduceAdd,Nat.reduceSub,Nat.reduceMul,Int.reduceLE,Int.reduceLT,Int.reduceToNat,Int.reduceNeg,reduceCtorEq];(repeat' (first|with_reducible refine And.intro ?_ ?_|((with_reducible show _≠_);first|assumption|omega|(simp_all [et,fN];done) |grind) |with_reducible intro _)) <;>(first|rfl|decide|assumption|omega|(simp_all [et,fN];done) |fail)))):jP st2 n0 st:=FX js h1 h2
end Go.Sx
end
section
namespace Go.Sx
@[go_sem ↓] theorem Xt (x:Reach):mkE .reach [.v (.string x.name),.v (.int .i64 x.up),.v (.int .i64 x.delay),.v (.int .i64 x.cap),.v (.int .i64 x.bank),.v (.int .i64 x.siphon),.v (.int .i64 x.evap.lo),.v (.int .i64 x.evap.hi),.v (.int .i64 x.seep.1.n),.v (.int .i64 x.seep.1.d),.v (.int .i64 x.seep.2.n),.v (.int .i64 x.seep.2.d)]=x:=(rfl)
@[go_sem ↓] theorem Xu (x:Claim):mkE .claim [.v (.int .i64 x.right),.v (.int .i64 x.farm),.v (.int .i64 x.hour),.v (.int .i64 x.litres),.v (.int .i64 x.rank)]=x:=(rfl)
@[go_sem ↓] theorem Xv (x:Order):mkE .order [.v (.int .i64 x.hour),.v (.int .i64 x.index),.v (.int .i64 x.litres),.v (.bool x.outlet)]=x:=(rfl)
@[go_sem ↓] theorem Zt (x:Tank):mkE .tank [.v (.int .i64 x.cap),.v (.int .i64 x.start)]=x:=(rfl)
@[go_sem ↓] theorem P7 (x:Judgement):mkE .judgement [.v (.int .i64 x.no),.v (.int .i64 x.hour),.v (.int .i64 x.kind),.v (.int .i64 x.farm),.v (.int .i64 x.other),.v (.int .i64 x.since),.v (.int .i64 x.to),.v (.int .i64 x.n),.v (.int .i64 x.of_)]=x:=(rfl)
@[go_sem ↓] theorem Zu (x:Case):mkE .case [.v (.int .i64 x.no),.v (.int .i64 x.hour),.v (.int .i64 x.winner),.rs .int x.facts,.rs .int x.reason]=x:=(rfl)
@[go_sem ↓] theorem Vj (x:Clause):mkE .clause [.v (.int .i64 x.no),.v (.int .i64 x.then_),.v (.int .i64 x.rank),.v (.bool x.strict),.rs .int x.if_]=x:=(rfl)
@[go_sem ↓] theorem Vk (x:Reason):mkE .reason [.v (.int .i64 x.literal),.v (.int .i64 x.clause),.v (.bool x.proved)]=x:=(rfl)
@[go_sem ↓] theorem Zv (x:Farm):mkE .farm [.v (.string x.name),.v (.int .i64 x.reach),.v (.int .i64 x.area),.v (.int .i64 x.crop)]=x:=(rfl)
@[go_sem ↓] theorem Xw (x:Right):mkE .right [.v (.string x.name),.v (.int .i64 x.kind),.v (.int .i64 x.farm),.v (.int .i64 x.reach),.v (.int .i64 x.rank),.v (.int .i64 x.litres),.v (.int .i64 x.since),.v (.int .i64 x.to),.v (.int .i64 x.every),.v (.int .i64 x.length)]=x:=(rfl)
theorem Dk {p:Pk}{f:FuncId}{a b:List SV}:uh [p] (.fn f a b)=Ab p (.fn f a b):=(rfl)
theorem Dl {f:FuncId}{a b:List SV}:Ab .o (.fn f a b)=.fn f a b:=(rfl)
end Go.Sx
end
section
namespace Go.Sx
open Go.Proofs
theorem Dm {l0:List Nat}(a0:JL l0){p:Prop}(h:JL l0->p:=by intro ja;(first|done|(repeat' (first|with_reducible refine And.intro ?_ ?_|((with_reducible show _≠_);first|assumption|omega|(simp_all [et,fN];done) |grind) |with_reducible intro _)) <;>(first|done|with_reducible exact Empty.elim ‹Empty› |with_reducible assumption|rfl|omega|assumption|decide|exact fk ja|(refine Or.inr ?_;exact fkY ja) |(refine Or.inl ?_;exact fkY ja) |(refine Or.inl ⟨rfl,?_⟩;exact fkY ja) |exact czl|(simp only[*,cond_true,cond_false,Bool.not_true,Bool.not_false,go_sem,Nat.reduceBEq,Nat.reduceLeDiff,Nat.reduceLT,decide_true,Nat.reduceAdd,Nat.reduceSub,Nat.reduceMul,Int.reduceLE,Int.reduceLT,Int.reduceToNat,Int.reduceNeg,reduceCtorEq];(repeat' (first|with_reducible refine And.intro ?_ ?_|((with_reducible show _≠_);first|assumption|omega|(simp_all [et,fN];done) |grind) |with_reducible intro _)) <;>(first|done|assumption|rfl|omega|decide|exact fk ja|(refine Or.inr ?_;exact fkY ja) |(refine Or.inl ?_;exact fkY ja) |(refine Or.inl ⟨rfl,?_⟩;exact fkY ja) |(simp_all [et,fN];done))) |(exfalso;rename_i h1 h2;rw[h1]at h2;cases h2) |(exfalso;rename_i h1 h2;simp only[h1,Bool.not_false,Bool.not_true,Bool.true_or,Bool.or_true,Bool.false_or,Bool.or_false,reduceCtorEq]at h2;done) |(exfalso;clear hy hG;simp_all;done) |(simp only[*,Sum.inr.injEq,forall_eq',true_implies,forall_const,reduceCtorEq,false_implies,and_true,List.length_append,List.length_cons,List.length_nil,Nat.zero_add,go_sem,Nat.reduceBEq,Nat.reduceLeDiff,Nat.reduceLT,decide_true,Nat.reduceAdd,Nat.reduceSub,Nat.reduceMul,Int.reduceLE,Int.reduceLT,Int.reduceToNat,Int.reduceNeg,reduceCtorEq]at hq2;first|exact hq2.1|exact hq2.2.1|exact hq2|exact hq2.2|(simp only[hq2];done)) |(simp only[*,Sum.inr.injEq,forall_eq',true_implies,forall_const,reduceCtorEq,false_implies,and_true,List.length_append,List.length_cons,List.length_nil,Nat.zero_add,go_sem,Nat.reduceBEq,Nat.reduceLeDiff,Nat.reduceLT,decide_true,Nat.reduceAdd,Nat.reduceSub,Nat.reduceMul,Int.reduceLE,Int.reduceLT,Int.reduceToNat,Int.reduceNeg,reduceCtorEq]at hq1;first|exact hq1.1|exact hq1.2.1|exact hq1|exact hq1.2|(simp only[hq1];done)) |(clear hy hG;simp_all only[et,fN,Sum.inr.injEq,forall_eq',true_implies,forall_const,reduceCtorEq,false_implies,and_true,List.length_append,List.length_cons,List.length_nil,Nat.zero_add,go_sem,Nat.reduceBEq,Nat.reduceLeDiff,Nat.reduceLT,decide_true,Nat.reduceAdd,Nat.reduceSub,Nat.reduceMul,Int.reduceLE,Int.reduceLT,Int.reduceToNat,Int.reduceNeg,reduceCtorEq];done) |(simp_all [okI,et,fN];done) |(simp_all [et,fN];(first|done|exact fk2 ja)) |exact fk2 ja))):p:=h a0
theorem H0 {l0:List Nat}(a0:JL l0){p:Prop}(h:JL l0->p:=by intro ja;simp only[go_sem,Nat.reduceBEq,Nat.reduceLeDiff,Nat.reduceLT,decide_true,Nat.reduceAdd,Nat.reduceSub,Nat.reduceMul,Int.reduceLE,Int.reduceLT,Int.reduceToNat,Int.reduceNeg,reduceCtorEq,hc,hw];all_goals exact Dm ja):p:=h a0
theorem H1 {l0:List Nat}(a0:JL l0){p:Prop}(h:JL l0->p:=by intro ja;simp only[go_sem,Nat.reduceBEq,Nat.reduceLeDiff,Nat.reduceLT,decide_true,Nat.reduceAdd,Nat.reduceSub,Nat.reduceMul,Int.reduceLE,Int.reduceLT,Int.reduceToNat,Int.reduceNeg,reduceCtorEq,hc];all_goals exact Dm ja):p:=h a0
@[go_sem] def uu (x:Judgement):List SV:=[.agg (cellsOf .judgement x)]
@[go_sem] def sf:List SV->Option Con:=(pR .judgement fun j=>(pI fun hour=>(pE (.det True (.fn 91 [] [.ep [.rs .judgement j] 0,.ep [.v (.int .i64 hour)] 0])))))
theorem xf:FnOk Tryz.prog 46 sf:=by
 have hG:ConsOk Tryz.prog (mkG [] []):=ar cg0 cg0;refine ay [.o] mixed ak hG (fn:=Tryz.f46) (c:=ae Tryz.f46) kr kr kr kr (bC fun j=>(cI fun hour=>(ai (fun hp=>?_))));refine⟨nbl rfl,L0,ag _,?_⟩;unfold ae Tryz.f46;simp only[go_sem,Dk,Dl,Nat.reduceBEq,Nat.reduceLeDiff,Nat.reduceAdd,Nat.reduceSub,Nat.reduceMul]
@[go_sem] def ew (j:List Judgement)(hour:Int)(k_0:Nat)(s_0:List Judgement):Empty⊕(List Judgement):=letI q0:=j.getD k_0 default;(bif((((q0.of_==0)&&(decide (q0.hour<=hour)))&&(aG hour (q0.since) (q0.to)))&&(!(gZ j q0 hour)))then .inr (s_0++[q0])else .inr s_0)
def fU (j:List Judgement)(hour:Int)(items_:List (List SV))(k_0:Nat)(s_0:List Judgement):Prop:=letI q1:=j.getD k_0 default;letI q0:=(((q1.of_==0)&&(decide (q1.hour<=hour)))&&(aG hour (q1.since) (q1.to)))&&(!(gZ j q1 hour));((q0=true->(items_[s_0.length]? =some (uu q1)))/\(q0=false->(q0=false)))
def aX (j:List Judgement)(hour:Int):List Judgement:=(match an (ew j hour) j.length 0 ([]:List Judgement)with| .inl x=>x.elim| .inr s_0=>s_0)
def ib (j:List Judgement)(hour:Int)(items_:List (List SV)):Prop:=letI q0:=ew j hour;(j.length<=aD->(okI q0 (fU j hour items_) j.length 0 ([]:List Judgement)/\(∀ s_0,an q0 j.length 0 ([]:List Judgement)=.inr s_0->(items_.length=s_0.length))))
theorem Sb {l0:List Nat}(a0:JL l0){p:Prop}(h:JL l0->p:=by intro ja;simp only[go_sem,Nat.reduceBEq,Nat.reduceLeDiff,Nat.reduceLT,decide_true,Nat.reduceAdd,Nat.reduceSub,Nat.reduceMul,Int.reduceLE,Int.reduceLT,Int.reduceToNat,Int.reduceNeg,reduceCtorEq];all_goals exact Dm ja):p:=h a0
theorem vT (j:List Judgement)(hour:Int)(items_:List (List SV))(hp:ib j hour items_):FV Tryz.prog 91 (fun y=>[y,.ep [.rs .judgement j] 0,.ep [.v (.int .i64 hour)] 0]) [] items_:=by
 unfold ib at hp;refine JN mixed ak (fn:=Tryz.f91) (c:=ae Tryz.f91) kr kr kr kr rfl (n:=0) rfl (G:=fun r_=>C0 [(52,gP),(53,fun l=>mr (bp [.sl .judgement,.st .judgement,.o] l))] [] (HX items_ r_)) (fun r_ hy=>?_) (fun args w=>by kernel_rfl);have hG:ConsOk Tryz.prog (C0 [(52,gP),(53,fun l=>mr (bp [.sl .judgement,.st .judgement,.o] l))] [] (HX items_ r_)):=BI (cgc iF (cgc (sX.norm [.sl .judgement,.st .judgement,.o]) cg0)) cg0 hy;refine⟨hG,nbl rfl,(fun id st=>bif Nat.beq id 0 then some (LCY (ρ:=Empty) (σ:=(List Judgement)) 1 [] [0] (fun k_0 s_0=>⟨[(0,.os 0),(1,.ep [.rs .judgement j] 0),(2,.ep [.v (.int .i64 hour)] 0),(6,.rs .judgement j),(7,.v (.int .i64 (j.length:Int))),(8,.v (.int .i64 (k_0:Int)))],[.ab (r_.1 (s_0.length+1))]⟩) (ew j hour) (fU j hour items_) j.length ([]:List Judgement) (j.length<=aD) ((·.elim)) ((·.elim)) ⟨[],[.ab (r_.1 0)]⟩ st)else none),?_,?_⟩
 ·unfold ae Tryz.f91;simp only[am,true_and,and_true]
  ·refine HY mixed ak hG kr (fun _=>rfl) (j.length:Int) rfl gA (fun hb0 k_0 s_0 hlt0 hq0 hw hc=>⟨L0,ag _,?_⟩) (fun hb0 s_0 hc=>?_)
   ·unfold fU at hq0;try simp only[hw,Int.toNat_natCast]at hq0
    exact H0 (jl [0])
   ·exact H1 (jl [0])
 ·unfold ae Tryz.f91;exact Sb (jl [0])
end Go.Sx
end
