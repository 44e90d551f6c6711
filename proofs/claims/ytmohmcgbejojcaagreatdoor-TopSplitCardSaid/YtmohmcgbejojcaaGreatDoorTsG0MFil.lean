/- Parts: MFil, SubA, FilC, MSubB. -/
import Derived.Test.YtmohmcgbejojcaaGreatDoorTsG0MPubB
import Derived.Lib.SplitLaws
import Derived.Shelf.Strings.SplitCore
import Derived.Shelf.Strings.Search3
import Derived.Shelf.Strings.Count
import Derived.Shelf.Strings.Cut
set_option maxRecDepth 10000
set_option maxHeartbeats 8000000
namespace Go.Proofs.YtmohmcgbejojcaaGreatDoor
open Go.RowKit Go.Shelf
open Go.Proofs.Tryz
def lvs(s:abO):List abO:=Lib.splitB ⟨#[47]⟩ 0 (Lib.countB s ⟨#[47]⟩) s
theorem lW(l:List UInt8)(c:UInt8)(j:Nat):Lib.occAt l [c] j=(l[j]? ==some c):=by
 unfold Lib.occAt;rw[<-List.head?_drop];cases l.drop j with
 | nil=>rfl
 | cons b t=>
   rw[eG];simp[List.isPrefixOf];exact eq_comm
theorem ZS{l:List UInt8}{c:UInt8}{i:Nat}(h:l[i]? =some c)(hn:∀j,j<i->l[j]? ≠some c):Lib.index l [c]=i:=by
 refine Lib.index_first ?_ ?_ ?_
 ·have:=(YI.1 h).1;omega
 ·rw[lW,h];simp
 ·intro j a;rw[lW];simpa using hn j a
theorem xc{l:List UInt8}{c:UInt8}(hn:∀j:Nat,l[j]? ≠some c):Lib.index l [c]= -1:=
 Lib.index_none λj _=>by rw[lW];simpa using hn j
theorem Cm{s:abO}(h:∀j:Nat,(ls s)[j]? ≠some 47):lvs s=[s]:=Lib.splitB_miss _ _ _ _ (xc h)
theorem Er{s:abO}{i:Nat}(h:(ls s)[i]? =some 47)(hn:∀j:Nat,j<i->(ls s)[j]? ≠some 47):lvs s=s.extract 0 i :: lvs (s.extract (i+1) s.size):=by
 have a:Lib.indexB s ⟨#[47]⟩=i:=ZS h hn;have b:=Lib.countB_hit s ⟨#[47]⟩ i (by decide) a;unfold lvs;rw[b,Nat.add_comm 1,Lib.splitB_hit _ _ _ _ i a];rfl
theorem Zg(s:abO):(lvs s).length=Lib.countB s ⟨#[47]⟩+1:=Lib.splitB_all _ (by decide) 0 _ s rfl
theorem Eo(s:abO):(lvs s).length<=s.size+1:=by
 have:=Lib.countB_le ⟨#[47]⟩ (by decide) s.size s (ac _);rw[Zg];omega
theorem xk(s:abO):(∀j:Nat,(ls s)[j]? ≠some 47)\/∃i,i<s.size/\(ls s)[i]? =some 47/\∀j:Nat,j<i->(ls s)[j]? ≠some 47:=by
 rcases Lib.index_spec (ls s) [47]with ⟨-,h⟩ | ⟨i,-,-,h,e⟩
 ·left;intro j a;have b:=(YI.1 a).1;have:=h j (by omega);rw[lW,a]at this;simp at this
 ·right;rw[lW]at h;have c:(ls s)[i]? =some 47:=by simpa using h
  have b:=(YI.1 c).1;refine⟨i,by rw[aN]at b;exact b,c,λj a d=>?_⟩;have:=e j a;rw[lW,d]at this;simp at this
theorem Ep{C:abO->Prop}(h1:∀s,(∀j:Nat,(ls s)[j]? ≠some 47)->C s)
  (h2:∀s i,i<s.size->(ls s)[i]? =some 47->(∀j:Nat,j<i->(ls s)[j]? ≠some 47)->C (s.extract (i+1) s.size)->C s)(s:abO):C s:=by
 suffices h:∀n (t:abO),t.size<=n->C t from h s.size s (ac _)
 intro n
 induction n with
 | zero=>
   intro t d;refine h1 t λj b=>?_;have:=(YI.1 b).1;rw[aN]at this;omega
 | succ n ih=>
   intro t d;rcases xk t with h| ⟨i,a,h,c⟩
   ·exact h1 t h
   ·exact h2 t i a h c (ih _ (by rw[aj];omega))
theorem YD(s:abO):∀x∈lvs s,x.size<=s.size:=by
 induction s using Ep with
 | h1 s h=>rw[Cm h];intro x a;simp at a;rw[a];exact ac _
 | h2 s i hi h hn ih=>
   rw[Er h hn];intro x a;rcases ie.1 a with rfl| a
   ·rw[aj];omega
   ·have:=ih x a;rw[aj]at this;omega
theorem P8(s:abO):lvs s≠[]:=λh=>by have:=Zg s;rw[h]at this;simp at this
def mi(x:abO):Bool:=(x.toList==[43]) || (x.toList==[35])
def j8(x:abO)(last:Bool):Bool:=!(((x.toList==[35])&& !last) || (!mi x&&mg x))
def jk(l:List abO):Bool:=(List.range l.length).all λi=>j8 (l.getD i ⟨#[]⟩) (decide (i+1=l.length))
def gj(s:abO):Bool:=jY s&&jk (lvs s)
theorem aa1{l:List abO}(h:∀i x,l[i]? =some x->j8 x (decide (i+1=l.length))=true):jk l=true:=by
 unfold jk;rw[dL];intro i a;have a:=gn.1 a;rw[List.getD_eq_getElem?_getD,List.getElem?_eq_getElem a];exact h i _ (List.getElem?_eq_getElem a)
theorem yA{l:List abO}{i:Nat}{x:abO}(hx:l[i]? =some x)(h:j8 x (decide (i+1=l.length))=false):jk l=false:=by
 unfold jk;rw[List.all_eq_false];have a:=(YI.1 hx).1;refine⟨i,gn.2 a,?_⟩;rw[List.getD_eq_getElem?_getD,hx];simp[h]
def Ju(x:abO)(last:Bool):Bool:=!((Hh (ls x) 43&& !(x.toList==[43])) || (Hh (ls x) 35&&(!(x.toList==[35]) || !last)))
theorem Gc(x:abO):x.toList=ls x:=Lib.toList_data x
theorem KV(x:abO)(last:Bool):Ju x last=j8 x last:=by
 unfold Ju j8 mi;rw[Ky,Gc];generalize ls x=l;by_cases a:l=[43]
 ·subst a;cases last<;>rfl
 ·by_cases b:l=[35]
  ·subst b;cases last<;>rfl
  ·rw[ar.2 a,ar.2 b];cases Hh l 43<;>cases Hh l 35<;>rfl
def jt:List abO->List UInt8
 | []=>[]
 | x :: l=>47 :: (ls x++jt l)
def jn:List abO->List UInt8
 | []=>[]
 | x :: l=>ls x++jt l
theorem Ou:∀l m,jt (l++m)=jt l++jt m
 | [],_=>rfl
 | x :: l,m=>by rw[IJ,jt,jt,Ou l m];simp
theorem PF(l:List abO)(x:abO):jn (l++[x])=if l=[]then ls x else jn l++47 :: ls x:=by
 cases l with
 | nil=>simp[jn,jt]
 | cons y l=>rw[Fl (by simp),IJ,jn,jn,Ou];simp[jt]
theorem On{s:abO}{i:Nat}(h:(ls s)[i]? =some 47):ls s=ls (s.extract 0 i)++47 :: ls (s.extract (i+1) s.size):=by
 have a:ls (s.extract 0 i)=(ls s).take i:=by
  show(s.extract 0 i).data.toList=_;rw[Lib.extract_from_zero];rfl
 have b:ls (s.extract (i+1) s.size)=(ls s).drop (i+1):=by
  show(s.extract (i+1) s.size).data.toList=_;rw[Lib.extract_to_end];rfl
 obtain⟨d,c⟩:=YI.1 h;rw[a,b,<-c,<-bQ d,cg]
theorem Ov(s:abO):jn (lvs s)=ls s:=by
 induction s using Ep with
 | h1 s h=>rw[Cm h];simp[jn,jt]
 | h2 s i hi h hn ih=>
   rw[Er h hn,On h];generalize a:lvs (s.extract (i+1) s.size)=L at*;cases L with
   | nil=>exact absurd a (P8 _)
   | cons y l=>rw[jn,jt];rw[jn]at ih;rw[ih]
end Go.Proofs.YtmohmcgbejojcaaGreatDoor
namespace Go.Proofs.YtmohmcgbejojcaaGreatDoor
open Go.RowKit Go.Shelf
open Go.Proofs.Tryz
theorem Lc(s:abO)(p:Nat):s.get! p=((ls s)[p]?).getD 0:=by
 by_cases h:p<s.size
 ·rw[List.getElem?_eq_getElem (by rw[aN];exact h),Cz s p h];rfl
 ·rw[aG (by rw[aN];omega)];have a:¬p<s.data.size:=h;show s.data[p]! =_;show s.data[p]! =0;rw[Array.getElem!_eq_getD,Jf,Array.getElem?_eq_none (by omega)];rfl
theorem ix(s:abO)(i:Nat):ls (s.extract 0 i)=(ls s).take i:=by
 show(s.extract 0 i).data.toList=_;rw[Lib.extract_from_zero];rfl
theorem Y9(s:abO)(a:Nat):ls (s.extract a s.size)=(ls s).drop a:=by
 show(s.extract a s.size).data.toList=_;rw[Lib.extract_to_end];rfl
theorem II(s:abO)(a p:Nat):(s.extract a s.size).get! p=s.get! (a+p):=by
 rw[Lc,Lc,Y9,List.getElem?_drop]
theorem Jj(s:abO){i p:Nat}(h:p<i):(s.extract 0 i).get! p=s.get! p:=by
 rw[Lc,Lc,ix,List.getElem?_take,if_pos h]
theorem aa7(s:abO)(a p:Nat):Utf8.decode (s.extract a s.size) p=Utf8.decode s (a+p):=by
 rw[Lib.decode_at,Lib.decode_at,II,II,II,II,aj,show min s.size s.size- a- p=s.size- (a+p) by omega];rfl
theorem rJ(s:abO)(a:Nat):(s.extract a s.size).size=s.size- a:=by rw[aj];omega
theorem Js(s:abO){i:Nat}(h:i<=s.size):(s.extract 0 i).size=i:=by rw[aj];omega
theorem Lk(s:abO):∀f f' pos,s.size<=pos+f->s.size<=pos+f'->xD f s pos=xD f' s pos
 | 0,0,_,_,_=>rfl
 | 0,f'+1,pos,h,_=>by rw[xD,xD,Fl (by omega)]
 | f+1,0,pos,_,h=>by rw[xD,xD,Fl (by omega)]
 | f+1,f'+1,pos,h,h'=>by
   rw[xD,xD];by_cases hp:pos<s.size
   ·rw[if_pos hp,if_pos hp];have hw:=Lib.decode_width_pos s pos hp;rw[Lk s f f' _ (by omega) (by omega)]
   ·rw[Fl hp,Fl hp]
theorem Ll(s:abO)(a:Nat):∀f p,(xD f (s.extract a s.size) p= -1↔xD f s (a+p)= -1)
 | 0,_=>Iff.rfl
 | f+1,p=>by
   rw[xD,xD,rJ,aa7];by_cases hp:a+p<s.size
   ·rw[if_pos (by omega),if_pos hp];by_cases hb:(Utf8.decode s (a+p)).1=0\/((Utf8.decode s (a+p)).1=65533/\(Utf8.decode s (a+p)).2=1)
    ·rw[if_pos hb,if_pos hb];omega
    ·rw[Fl hb,Fl hb,Ll s a f,Nat.add_assoc]
   ·rw[Fl (by omega),Fl hp]
theorem JT(s:abO){pos i:Nat}(hlt:pos<i)(h:(s.get! i).toNat<128):pos+(Utf8.decode s pos).2<=i:=by
 rcases tw s pos with ⟨e,-⟩ | ⟨-,-,b⟩
 ·rw[e];exact hlt
 ·by_cases a:pos+(Utf8.decode s pos).2<=i
  ·exact a
  ·have:=b (i- pos) (by omega);rw[show pos+(i- pos)=i by omega]at this;omega
theorem Lj(s:abO)(i:Nat)(hi:i<s.size)(h:(s.get! i).toNat<128):∀f pos,s.size<=pos+f->pos<=i->xD f s pos= -1->∃f',s.size<=i+f'/\xD f' s i= -1
 | 0,pos,hf,hp,_=>by omega
 | f+1,pos,hf,hp,hb=>by
   by_cases he:pos=i
   ·subst he;exact⟨f+1,hf,hb⟩
   ·have hw:=Lib.decode_width_pos s pos (by omega);have a:=JT s (pos:=pos) (by omega) h;rw[xD,if_pos (by omega)]at hb;split at hb
    ·omega
    ·exact Lj s i hi h f _ (by omega) a hb
theorem OE{n n' b0 b1 b2 b3 c1 c2 c3:Nat}(hb:Lib.decodeN n b0 b1 b2 b3≠(65533,1))(hw:(Lib.decodeN n b0 b1 b2 b3).2<=n')
  (h1:1<(Lib.decodeN n b0 b1 b2 b3).2->c1=b1)(h2:2<(Lib.decodeN n b0 b1 b2 b3).2->c2=b2)(h3:3<(Lib.decodeN n b0 b1 b2 b3).2->c3=b3):
  Lib.decodeN n' b0 c1 c2 c3=Lib.decodeN n b0 b1 b2 b3:=by
 rcases Lib.decodeN_shape n b0 b1 b2 b3 with ⟨a,e⟩ | ⟨a,g,b,c,e⟩ | ⟨a,g,b,c,d,f,e⟩ | ⟨a,g,b,c,d,f,h,e⟩ | e
 ·rw[e];unfold Lib.decodeN;rw[if_pos a]
 ·rw[e]at hw h1⊢;rw[h1 (by simp)];exact PY a hw b c
 ·rw[e]at hw h1 h2⊢;rw[h1 (by simp),h2 (by simp)];exact OH a hw b c d f
 ·rw[e]at hw h1 h2 h3⊢;rw[h1 (by simp),h2 (by simp),h3 (by simp)];exact PX a hw b c d f h
 ·exact absurd e hb
theorem NF(s:abO){i p:Nat}(hp:p<i)(hi:i<=s.size)(hb:Utf8.decode s p≠(65533,1))(hw:p+(Utf8.decode s p).2<=i):Utf8.decode (s.extract 0 i) p=Utf8.decode s p:=by
 rw[Lib.decode_at]at hb hw;rw[Lib.decode_at,Lib.decode_at,Js s hi,Jj s hp];refine OE hb (by omega) (λh=>?_) (λh=>?_) (λh=>?_)
 ·rw[Jj s (by omega)]
 ·rw[Jj s (by omega)]
 ·rw[Jj s (by omega)]
theorem Kx(s:abO)(i:Nat)(hi:i<s.size)(h:(s.get! i).toNat<128):∀f pos,s.size<=pos+f->pos<=i->xD f s pos= -1->xD f (s.extract 0 i) pos= -1
 | 0,pos,hf,hp,_=>by omega
 | f+1,pos,hf,hp,hb=>by
   rw[xD,Js s (by omega)];by_cases he:pos=i
   ·rw[Fl (by omega)]
   ·have hw:=Lib.decode_width_pos s pos (by omega);have b:=JT s (pos:=pos) (by omega) h;rw[xD,if_pos (by omega)]at hb;rw[if_pos (by omega)];split at hb
    ·omega
    ·rename_i a;rw[NF s (by omega) (by omega) (λe=>a (.inr (by rw[e];exact⟨rfl,rfl⟩))) b,Fl a];exact Kx s i hi h f _ (by omega) b hb
theorem KA{s:abO}(hv:YF s=true){a i:Nat}(ha:a<s.size)(h1:(s.get! a).toNat<128)(h0:(s.get! a).toNat≠0)(hi:a+1+i<s.size)(h2:(s.get! (a+1+i)).toNat<128):
  YF ((s.extract (a+1) s.size).extract 0 i)=true:=by
 have o:=gL hv;have j:tI s= -1:=by unfold YF at hv;simp at hv;exact hv.2
 obtain⟨f1,m,c⟩:=Lj s a ha h1 s.size 0 (by omega) (by omega) j;obtain⟨b,n,d⟩:∃b,s.size<=a+1+b/\xD b s (a+1)= -1:=by
  cases f1 with
  | zero=>omega
  | succ f1=>
    have k:Utf8.decode s a=((s.get! a).toNat,1):=by
     rcases tw s a with ⟨e,-⟩ | ⟨-,-,l⟩
     ·exact e
     ·have:=Lib.decode_width_pos s a ha;have:=l 0 (by omega);rw[jV]at this;omega
    rw[xD,if_pos ha,k,Fl (by
     rintro (e| ⟨e,-⟩)
     ·exact h0 e
     ·simp only at e;omega)]at c
    exact⟨f1,by omega,c⟩
 have f:xD b (s.extract (a+1) s.size) 0= -1:=(Ll s (a+1) b 0).2 d;have p:=rJ s (a+1);have g:=Kx (s.extract (a+1) s.size) i (by omega) (by rw[II];exact h2) b 0 (by omega) (by omega) f;have h:=Js (s.extract (a+1) s.size) (i:=i) (by omega);unfold YF;rw[h,au (by omega),aL];refine aK.2 ?_;unfold tI;rw[Lk _ _ b 0 (by omega) (by omega),g]
def tt:List UInt8:=[36,115,104,97,114,101,47]
def gV(s:abO):Bool:=tt.isPrefixOf (ls s)
def kY(s:abO):abO:=if gV s then s.extract 7 s.size else s
def ky(s:abO):abO×abO×Bool:=
 if Lib.indexB s ⟨#[47]⟩= -1 then(s,⟨#[]⟩,false)else(s.extract 0 (Lib.indexB s ⟨#[47]⟩).toNat,s.extract ((Lib.indexB s ⟨#[47]⟩).toNat+1) s.size,true)
def fy(s:abO):Bool:=gV s&&((ky (kY s)).2.2&&(YF s&&(fp (ky (kY s)).1&&gj (ky (kY s)).2.1)))
theorem Dc(s:abO):(ky s).1.size<=s.size/\(ky s).2.1.size<=s.size:=by
 unfold ky;split
 ·exact⟨ac _,ag _⟩
 ·simp only[aj];omega
theorem Bd(s:abO):(kY s).size<=s.size:=by
 unfold kY;split
 ·rw[aj];omega
 ·exact ac _
def KU(s:abO):Bool:=
 YF s&&(gV s&&(decide (3<=(lvs s).length)&&((decide (((lvs s).getD 1 ⟨#[]⟩).size≠0)&& !(Hh (ls ((lvs s).getD 1 ⟨#[]⟩)) 43 || Hh (ls ((lvs s).getD 1 ⟨#[]⟩)) 35))&&gj ⟨(jn ((lvs s).drop 2)).toArray⟩)))
theorem vx{s:abO}(h:gV s=true):7<=s.size/\(ls s)[6]? =some 47/\∀j,j<6->(ls s)[j]? ≠some 47:=by
 unfold gV at h;obtain⟨t,a⟩:=List.isPrefixOf_iff_prefix.1 h;have b:(ls s).length=7+t.length:=by rw[<-a];simp[tt];omega
 rw[aN]at b;refine⟨by omega,by rw[<-a];rfl,λj c=>?_⟩;rw[<-a];have:j=0\/j=1\/j=2\/j=3\/j=4\/j=5:=by omega
 rcases this with rfl| rfl| rfl| rfl| rfl| rfl<;>simp[tt]
theorem Na(s:abO):KU s=fy s:=by
 unfold KU fy;cases h:gV s
 ·simp
 cases p:YF s
 ·simp
 simp only[aL];obtain⟨q,g,j⟩:=vx h;have o:kY s=s.extract 7 s.size:=if_pos h;rw[o,Er g j];rcases xk (s.extract 7 s.size)with b| ⟨i,r,c,b⟩
 ·have e:Lib.indexB (s.extract 7 s.size) ⟨#[47]⟩= -1:=xc b;rw[show(6+1:Nat)=7 from rfl,Cm b];unfold ky;rw[if_pos e];rfl
 ·have e:Lib.indexB (s.extract 7 s.size) ⟨#[47]⟩=i:=ZS c b;rw[show(6+1:Nat)=7 from rfl,Er c b];have k:¬Lib.indexB (s.extract 7 s.size) ⟨#[47]⟩= -1:=by omega
  have n:ky (s.extract 7 s.size)=((s.extract 7 s.size).extract 0 i,(s.extract 7 s.size).extract (i+1) (s.extract 7 s.size).size,true):=by
   unfold ky;rw[Fl k,e];rfl
  rw[n];have d:3<=(s.extract 0 6 :: (s.extract 7 s.size).extract 0 i :: lvs ((s.extract 7 s.size).extract (i+1) (s.extract 7 s.size).size)).length:=by
   have:=Zg ((s.extract 7 s.size).extract (i+1) (s.extract 7 s.size).size);simp only[bM];omega
  rw[au d];simp only[aL,ji,Yl,List.getD_cons_succ,List.getD_cons_zero];rw[Ov,Ck]
  congr 1
  have t:=rJ s 7;have f:s.get! 6=47:=by rw[Lc,g];rfl
  have m:s.get! (6+1+i)=47:=by
   rw[<-II,Lc];rw[c];rfl
  have l:YF ((s.extract 7 s.size).extract 0 i)=true:=KA p (a:=6) (by omega) (by rw[f];decide) (by rw[f];decide) (by omega) (by rw[m];decide);unfold fp jY;rw[l,IK,Ky]
end Go.Proofs.YtmohmcgbejojcaaGreatDoor
namespace Go.Proofs.YtmohmcgbejojcaaGreatDoor
open Go.RowKit Go.Proofs.Tryz
def ir(v k:Int):Bool:=decide ((v=4\/v=5)/\8<=k/\k<=11)
def jm(k:Int):Bool:=decide (k=8\/k=10)
def pP(v k:Int):Bool:=decide (k=11/\v=4)
def sbQ(v:Int)(p:Pk):Pk:=
 if jm p.kind=true then {pk0 with kind:=p.kind,id:=p.id,props:=p.props,filters:=p.filters}
 else if pP v p.kind=true then {pk0 with kind:=p.kind,id:=p.id,props:=p.props}
 else {pk0 with kind:=p.kind,id:=p.id,props:=p.props,codes:=p.codes}
def lj(v:Int)(p:Pk):Bool:=if jm p.kind=true then decide (0<p.filters.length)else if pP v p.kind=true then true else decide (0<p.codes.length)
def eH(v:Int)(p:Pk):Bool:=!(decide (p.id<1) || (decide (65535<p.id) || (decide (v=4)&&decide (0<p.props.length))))&&(lj v p&&decide (p=sbQ v p))
def jZ(n:Int):Bool:=decide (0<=n)&&decide (n<3)
def l9(f:Fi):Bool:=decide (f=⟨f.topic,f.qos,false,false,0⟩)
def nT(v k:Int)(f:Fi):Bool:=
 if k=10 then l9 f&&decide (f.qos=0)else if v=4 then l9 f&&jZ f.qos else jZ f.qos&&(jZ f.handling&& !(fy f.topic&&f.noLocal))
def xF(v k c:Int):Bool:=if v=4 then tq c else may k c
def fiE(v k:Int):List Fi->Int
 | []=>0
 | f :: l=>if gj f.topic=false then 10 else if nT v k f=false then 2 else fiE v k l
def cdE(v k:Int):List Int->Int
 | []=>0
 | c :: l=>if xF v k c=false then 2 else cdE v k l
def xY(v:Int)(p:Pk):Bool:=ir v p.kind&&eH v p
def sbE(v:Int)(p:Pk):Int:=
 if xY v p=false then 2 else if(aM p.kind p.props).2≠0 then(aM p.kind p.props).2
 else if fiE v p.kind p.filters≠0 then fiE v p.kind p.filters else cdE v p.kind p.codes
end Go.Proofs.YtmohmcgbejojcaaGreatDoor
namespace Go.Proofs.YtmohmcgbejojcaaGreatDoor
open Go.RowKit Go.Shelf
open Go.Proofs.Tryz
def vg:Ren:=⟨fun| 138=>352| 143=>353| 195=>361| 197=>362| 217=>360| 218=>363| 219=>355| 221=>331| 224=>349| 225=>350| 260=>377| 266=>376| 267=>364| 268=>351| 314=>378| n=>n,fun| 0=>0| 3=>3| 4=>4| 5=>5| 9=>9| 21=>21| 31=>35| 46=>132| 51=>114| 105=>342| 119=>354| 138=>356| 139=>357| 146=>358| n=>n,fun| 1=>0| 3=>1| 4=>2| n=>n⟩
theorem pF:Lays.n221 prog vg where
 mixed:=by kernel_rfl
 f138:=func352.trans (congrArg some (by kernel_rfl))
 f143:=func353.trans (congrArg some (by kernel_rfl))
 f195:=func361.trans (congrArg some (by kernel_rfl))
 f197:=func362.trans (congrArg some (by kernel_rfl))
 f217:=func360.trans (congrArg some (by kernel_rfl))
 f218:=func363.trans (congrArg some (by kernel_rfl))
 f219:=func355.trans (congrArg some (by kernel_rfl))
 f221:=func331.trans (congrArg some (by kernel_rfl))
 f224:=func349.trans (congrArg some (by kernel_rfl))
 f225:=func350.trans (congrArg some (by kernel_rfl))
 f260:=func377.trans (congrArg some (by kernel_rfl))
 f266:=func376.trans (congrArg some (by kernel_rfl))
 f267:=func364.trans (congrArg some (by kernel_rfl))
 f268:=func351.trans (congrArg some (by kernel_rfl))
 f314:=func378.trans (congrArg some (by kernel_rfl))
 t0:=underlying0
 a0:=Tryz.isAgg0
 z0:=Tryz.sizeOf0
 v0:=Tryz.zeroValue0
 t3:=underlying3
 a3:=Tryz.isAgg3
 z3:=Tryz.sizeOf3
 v3:=Tryz.zeroValue3
 t4:=underlying4
 a4:=Tryz.isAgg4
 z4:=Tryz.sizeOf4
 v4:=Tryz.zeroValue4
 t5:=underlying5
 a5:=Tryz.isAgg5
 z5:=Tryz.sizeOf5
 v5:=Tryz.zeroValue5
 t9:=underlying9
 a9:=Tryz.isAgg9
 z9:=Tryz.sizeOf9
 v9:=Tryz.zeroValue9
 t21:=underlying21
 a21:=Tryz.isAgg21
 z21:=Tryz.sizeOf21
 v21:=Tryz.zeroValue21
 t31:=underlying35
 a31:=Tryz.isAgg35
 z31:=Tryz.sizeOf35
 v31:=Tryz.zeroValue35
 t46:=underlying132
 a46:=Tryz.isAgg132
 z46:=Tryz.sizeOf132
 v46:=Tryz.zeroValue132
 t51:=underlying114
 a51:=Tryz.isAgg114
 z51:=Tryz.sizeOf114
 v51:=Tryz.zeroValue114
 t105:=underlying342
 a105:=Tryz.isAgg342
 z105:=Tryz.sizeOf342
 v105:=Tryz.zeroValue342
 t119:=underlying354
 a119:=Tryz.isAgg354
 z119:=Tryz.sizeOf354
 t138:=underlying356
 a138:=Tryz.isAgg356
 z138:=Tryz.sizeOf356
 v138:=Tryz.zeroValue356
 t139:=underlying357
 a139:=Tryz.isAgg357
 z139:=Tryz.sizeOf357
 v139:=Tryz.zeroValue357
 t146:=underlying358
 a146:=Tryz.isAgg358
 z146:=Tryz.sizeOf358
 v146:=Tryz.zeroValue358
 g1:=by kernel_rfl
 g3:=by kernel_rfl
 g4:=by kernel_rfl
theorem vl:(prog.info? 9).map (λi=>(i.zero,i.size,i.bytes))=some (some (.string ByteArray.empty),1,16):=by kernel_rfl
def sv(l:List abO):List Value:=l.map Value.string
theorem aaT(l:List abO):(sv l).length=l.length:=by simp[sv]
theorem EB(x:abO)(w:abP):Calls prog 353 #[.string x,.string ⟨#[47]⟩] w λe w'=>e= .returned (.int .i64 (Lib.indexB x ⟨#[47]⟩))/\w'=w:=by
 have c:Calls prog 353 #[.string x,.string ⟨#[47]⟩] w λe w'=>e= .returned (.int .i64 (Lib.indexByte x.data.toList 47))/\w'=w:=Any.strings_Index_one {pF with} x 47 w;rw[<-Lib.index_one]at c;exact c
theorem vo(x:abO)(w:abP):Calls prog 355 #[.string x,.string ⟨#[47]⟩] w λe w'=>e= .returned (.int .i64 (Lib.indexB x ⟨#[47]⟩))/\w'=w:=by
 have c:Calls prog 355 #[.string x,.string ⟨#[47]⟩] w λe w'=>e= .returned (.int .i64 (Lib.indexByte x.data.toList 47))/\w'=w:=Any.stringslite_Index_one {pF with} x 47 w;rw[<-Lib.index_one]at c;exact c
theorem EN(x:abO)(w:abP):Calls prog 352 #[.string x,.string ⟨#[47]⟩] w λe w'=>e= .returned (.int .i64 (Lib.countB x ⟨#[47]⟩))/\w'=w:=by
 have c:Calls prog 352 #[.string x,.string ⟨#[47]⟩] w λe w'=>e= .returned (.int .i64 (Lib.countByte x.data.toList 47))/\w'=w:=Any.strings_Count_one {pF with} x 47 w;refine c.mono λe w' ⟨a,b⟩=>⟨?_,b⟩;rw[a];show _=Ending.returned (Value.int .i64 ((Lib.count x.data.toList [47]:Nat):Int));rw[Lib.count_one];rfl
theorem aaO(s:abO)(w:abP)(hs:s.size<4294967281):
  Calls prog 302 #[.string s,.string ⟨#[47]⟩] w λe w'=>e= .returned (.slice (some ⟨w.heap.size,0,none⟩) (lvs s).length (lvs s).length)/\w'=w.alloc (.cells (sv (lvs s)).toArray 9):=by
 have d:=Lib.countB_le ⟨#[47]⟩ (by decide) s.size s (ac _);have c:Calls prog 331 #[.string s,.string ⟨#[47]⟩,.int .i64 ((0:Nat):Int),.int .i64 (-1)] w _:=Any.strings_genSplit_core pF vl s ⟨#[47]⟩ 0 (-1) (Lib.countB s ⟨#[47]⟩+1) w hs (by decide) (ag _) (λx c _=>EB x _) (EN s w) (by decide) (by decide) (by rw[if_pos (by decide)];omega);rw[Nat.add_sub_cancel]at c;have a:Lib.cellsOf (Lib.splitB ⟨#[47]⟩ 0 (Lib.countB s ⟨#[47]⟩) s) (Lib.countB s ⟨#[47]⟩+1)=(sv (lvs s)).toArray:=by rw[<-Zg s];exact Lib.cellsOf_full _
 rw[a]at c;have b:(Lib.splitB ⟨#[47]⟩ 0 (Lib.countB s ⟨#[47]⟩) s).length=(lvs s).length:=rfl;rw[b,<-Zg s]at c;clear d a b hs;generalize lvs s=l at*;go_enter func302,ntmps302;go_wp2_with fail;refine c.mono ?_;rintro e f ⟨rfl,rfl⟩;go_wp2;go_ret;exact⟨rfl,rfl⟩
theorem vf(s:abO)(w:abP)(hs:s.size<4294967281):
  Calls prog 272 #[.string s] w λe w'=>e= .returned (.slice (some ⟨w.heap.size,0,none⟩) (lvs s).length (lvs s).length)/\w'=w.alloc (.cells (sv (lvs s)).toArray 9):=by
 have c:=aaO s w hs;generalize lvs s=l at*;go_enter func272,ntmps272;go_wp2_with fail;refine c.mono ?_;rintro e a ⟨rfl,rfl⟩;go_wp2;go_ret;exact⟨rfl,rfl⟩
theorem tS(x:abO)(w:abP):
  abT 301 #[.string x] w (.bool (mi x)):=by
 have b:Hid (mi x=((x.toList==[43]) || (x.toList==[35]))):=aa rfl;go_enter func301,ntmps301;cases c:(x.toList==[43])
 ·have a:Hid (mi x=(x.toList==[35])):=aa (by rw[b.o,c,nB]);go_wp2;go_ret;exact⟨by rw[a.o];rfl,rfl⟩
 ·have a:Hid (mi x=true):=aa (by rw[b.o,c,Bool.true_or]);go_wp2;go_ret;exact⟨by rw[a.o];rfl,rfl⟩
theorem oc{l:List abO}{k:Nat}{x:abO}(hx:l[k]? =some x)(h:j8 x (decide (k+1=l.length))=true)(ha:∀(j:Nat) (y:abO),j<k->l[j]? =some y->j8 y (decide (j+1=l.length))=true):
  ∀(j:Nat) (y:abO),j<k+1->l[j]? =some y->j8 y (decide (j+1=l.length))=true:=by
 intro j y c a;rcases dx.1 c with b| rfl
 ·exact ha j y b a
 ·rw[hx]at a;obtain rfl:=Option.some.inj a;exact h
theorem Cu{l:List abO}(ha:∀(j:Nat) (y:abO),j<l.length->l[j]? =some y->j8 y (decide (j+1=l.length))=true):jk l=true:=
 aa1 λi x a=>ha i x (YI.1 a).1 a
theorem Gd{w:abP}{B n:Nat}{A:Option Addr}{l:List abO}(h:Rd w B 1 A n (sv l)){i:Nat}(hi:i<n):∃b o x,A=some ⟨b,o,none⟩/\b<B/\l[i]? =some x/\w.cell? ⟨b,o+i,none⟩=some (.string x):=by
 obtain⟨b,o,u,e,c,f,d⟩:=h.at1 hi;have a:i<l.length:=by have:=h.len;rw[aaT]at this;omega
 refine⟨b,o,l[i],e,c,List.getElem?_eq_getElem a,?_⟩;have:u= .string l[i]:=by simpa [sv,a]using f.symm
 rw[<-this];exact d
theorem wW(A:Option Addr)(n c:Nat)(l:List abO)(w:abP)(hn:l.length=n)(h:Rd w w.heap.size 1 A n (sv l))(hsz:∀x∈l,x.size<=65535)(hn2:n<=4611686018427387904):
  abR 271 #[.slice A n c] w (.bool (jk l)):=by
 have H:=aa hn;have L:=aa h;have M:=aa hsz
 clear hn h hsz;go_enter func271,ntmps271;go_wp2
 go_loopw [8] (λi wr=>∃k:Nat,k<=n/\i= .int .i64 k/\(∀(j:Nat) (y:abO),j<k->l[j]? =some y->j8 y (decide (j+1=l.length))=true)/\abQ w wr) (λi _=>n- (intOf i).toNat)
 case atStart=>exact⟨0,by omega,rfl,λj x N=>by omega,aq _ _⟩
 case round=>
  obtain⟨k,R,rfl,r,f⟩:=hrel;have s:=aa r;have g:=aa f;clear r
  by_cases J:k<n
  ·obtain⟨b,o,x,rfl,P,G,Q⟩:=Gd (L.o.below f) J;have p:=aa G;have I:=aa (M.o x (iL G));obtain⟨d,F⟩:∃d,decide (k+1=l.length)=d:=⟨_,rfl⟩;have K:((k:Int)+1==(n:Int))=d:=by
    rw[<-F,H.o,eG,aK,cH];omega
   have m:=aa F;have b1:(0:Int)<=(k:Int):=by omega
   have b2:(k:Int)<(n:Int):=by omega
   have E:Hid (j8 x d= !(((x.toList==[35])&& !d) || (!mi x&&mg x))):=aa rfl;clear G F f;cases q:(x.toList==[35])
   ·have z:Hid (j8 x d= !(!mi x&&mg x)):=aa (by rw[E.o,q];rfl);go_wp2_with fail;refine(tS x _).mono ?_;rintro e O ⟨rfl,rfl⟩;cases u:mi x
    ·have B:Hid (j8 x d= !mg x):=aa (by rw[z.o,u];rfl);clear u;go_wp2_with fail;refine Yg (kW x _ I.o) λS D=>?_;have v:=aa (Yf g.o D);clear D
     cases t:mg x
     ·have a:Hid (j8 x (decide (k+1=l.length))=true):=aa (by rw[m.o,B.o,t];rfl);clear t;go_wp2;go_roundw
      case rel=>exact⟨k+1,by omega,by go_num,oc p.o a.o s.o,v.o⟩
      case measure=>simp[intOf];omega
     ·have a:Hid (jk l=false):=aa (yA p.o (by rw[m.o,B.o,t];rfl));clear t;go_wp2;go_ret;exact⟨by rw[a.o];rfl,v.o⟩
    ·have a:Hid (j8 x (decide (k+1=l.length))=true):=aa (by rw[m.o,z.o,u];rfl);clear u;go_wp2;go_roundw
     case rel=>exact⟨k+1,by omega,by go_num,oc p.o a.o s.o,g.o⟩
     case measure=>simp[intOf];omega
   ·cases d
    ·have a:Hid (jk l=false):=aa (yA p.o (by rw[m.o,E.o,q];rfl));go_wp2;go_ret;exact⟨by rw[a.o];rfl,g.o⟩
    ·have C:Hid (mi x=true):=aa (by unfold mi;rw[q,Bool.or_true]);have a:Hid (j8 x (decide (k+1=l.length))=true):=aa (by rw[m.o,E.o,C.o,Ra,ru];rfl);go_wp2_with fail;refine(tS x _).mono ?_;rintro e O ⟨rfl,rfl⟩;rw[C.o];go_wp2;go_roundw
     case rel=>exact⟨k+1,by omega,by go_num,oc p.o a.o s.o,g.o⟩
     case measure=>simp[intOf];omega
  ·obtain rfl:k=n:=by omega
   have a:Hid (jk l=true):=aa (Cu (λj y N=>s.o j y (by have:=H.o;omega)));go_wp2;go_ret;exact⟨by rw[a.o];rfl,f⟩
theorem Ft(w:abP)(l:List abO):Rd (w.alloc (.cells (sv l).toArray 9)) (w.alloc (.cells (sv l).toArray 9)).heap.size 1 (some ⟨w.heap.size,0,none⟩) l.length (sv l):=by
 have h:=Rd.fresh w (sv l).toArray 9;simp only[ey]at h⊢
 simpa [aaT]using h
theorem qB(s:abO)(w:abP)(hs:s.size<=4611686018427387904):
  abR 222 #[.string s] w (.bool (gj s)):=by
 have p:=aa hs;have f:Hid (gj s=(jY s&&jk (lvs s))):=aa rfl;clear hs;go_enter func222,ntmps222;go_wp2_with fail;refine Yg (rH s _ p.o) λj b=>?_;have d:=aa b;clear b
 cases a:jY s
 ·have i:Hid (gj s=false):=aa (by rw[f.o,a];rfl);clear a;go_wp2;go_ret;exact⟨by rw[i.o];rfl,d.o⟩
 have i:Hid (gj s=jk (lvs s)):=aa (by rw[f.o,a,aL]);have h:Hid (s.size<=65535):=aa (gL (by unfold jY at a;rw[eh]at a;exact a.2));clear a f;have n:Hid (∀x∈lvs s,x.size<=65535):=aa λx q=>aC (YD s x q) h.o;have m:Hid ((lvs s).length<=4611686018427387904):=aa (by have:=Eo s;have:=h.o;omega);go_wp2_with fail;refine(vf s _ (by have:=h.o;omega)).mono ?_;rintro e r ⟨rfl,rfl⟩;generalize lvs s=l at*;have o:=aa (Ft j l);have c:=aa (d.o.alloc d.o.size (.cells (sv l).toArray 9));generalize j.alloc (.cells (sv l).toArray 9)=W at*;generalize j.heap.size=g at*;go_wp2_with fail;refine Yg (wW _ _ _ l _ rfl o.o n.o m.o) λt b=>?_;have k:=aa (Yf c.o b);clear b
 go_wp2;go_ret;exact⟨by rw[i.o];rfl,k.o⟩
theorem Zn(s:abO):gV s=(decide (7<=s.size)&&((s.extract 0 7).toList==[36,115,104,97,114,101,47])):=by
 rw[Gc,ix];unfold gV;by_cases h:7<=s.size
 ·rw[au h,aL,eG,List.isPrefixOf_iff_prefix,aK,List.prefix_iff_eq_take];exact eq_comm
 ·rw[ah h,YH,Bool.eq_false_iff];intro a;have:=(List.isPrefixOf_iff_prefix.1 a).length_le;rw[aN]at this;simp[tt]at this;omega
theorem rl(s:abO)(w:abP)(hs:s.size<=4611686018427387904):
  abT 354 #[.string s,.string ⟨#[36,115,104,97,114,101,47]⟩] w (.bool (gV s)):=by
 by_cases h:7<=s.size
 ·have b:(7:Int)<=(s.size:Int):=by omega
  have a:Hid (gV s=((s.extract 0 7).toList==[36,115,104,97,114,101,47])):=aa (by rw[Zn,au h,aL]);clear h;go_enter func354,ntmps354;go_wp2;go_ret;exact⟨by rw[a.o];rfl,rfl⟩
 ·have b:¬(7:Int)<=(s.size:Int):=by omega
  have a:Hid (gV s=false):=aa (by rw[Zn,ah h,YH]);clear h;go_enter func354,ntmps354;go_wp2;go_ret;exact⟨by rw[a.o];rfl,rfl⟩
theorem xh{s:abO}(h:gV s=true):7<=s.size:=(vx h).1
theorem qF(s:abO)(w:abP)(hs:s.size<=4611686018427387904):
  abT 332 #[.string s,.string ⟨#[36,115,104,97,114,101,47]⟩] w (.tuple #[.string (kY s),.bool (gV s)]):=by
 have d:=aa hs;clear hs
 go_enter func332,ntmps332;go_wp2_with fail;refine(rl s _ d.o).mono ?_;rintro e g ⟨rfl,rfl⟩;cases a:gV s
 ·have b:=aa a;have c:Hid (kY s=s):=aa (by unfold kY;rw[a];rfl);clear a;go_wp2;go_ret2;exact⟨by rw[c.o,b.o];rfl,rfl⟩
 ·have b:=aa a;have c:Hid (kY s=s.extract 7 s.size):=aa (by unfold kY;rw[a];rfl);have f:(7:Int)<=(s.size:Int):=by have:=xh a;omega
  clear a;go_wp2;go_ret2;exact⟨by rw[c.o,b.o];rfl,rfl⟩
theorem rq(s:abO)(w:abP)(hs:s.size<=4611686018427387904):
  abT 303 #[.string s,.string ⟨#[36,115,104,97,114,101,47]⟩] w (.tuple #[.string (kY s),.bool (gV s)]):=by
 have a:=aa hs;clear hs
 go_enter func303,ntmps303;go_wp2_with fail;refine(qF s _ a.o).mono ?_;rintro e b ⟨rfl,rfl⟩;go_wp2;go_ret2;exact⟨rfl,rfl⟩
theorem De(s:abO)(w:abP)(hs:s.size<=4611686018427387904):
  abR 333 #[.string s,.string ⟨#[47]⟩] w (.tuple #[.string (ky s).1,.string (ky s).2.1,.bool (ky s).2.2]):=by
 rcases Lib.indexB_cases s ⟨#[47]⟩with a| ⟨i,a,b⟩
 ·have d:Hid (ky s=(s,⟨#[]⟩,false)):=aa (by unfold ky;rw[if_pos a]);have c:=aa a;clear a;go_enter func333,ntmps333;go_wp2_with fail;refine(vo s _).mono ?_;rintro e g ⟨rfl,rfl⟩;rw[c.o];go_wp2;go_ret3;exact⟨by rw[d.o];rfl,aq _ _⟩
 ·have d:Hid (ky s=(s.extract 0 i,s.extract (i+1) s.size,true)):=aa (by
   unfold ky;rw[Fl (by omega),a];rfl)
  have c:=aa a;have f:(⟨#[47]⟩:abO).size=1:=rfl;rw[f]at b;have h:(0:Int)<=(i:Int):=by omega
  have j:(i:Int)<=(s.size:Int):=by omega
  have k:(0:Int)<=(i:Int)+1:=by omega
  have l:(i:Int)+1<=(s.size:Int):=by omega
  clear a f b;go_enter func333,ntmps333;go_wp2_with fail;refine(vo s _).mono ?_;rintro e g ⟨rfl,rfl⟩;rw[c.o];go_wp2;go_region;go_wp2;go_ret3;exact⟨by rw[d.o];rfl,aV (aq _ _) _⟩
theorem EL(s:abO)(w:abP)(hs:s.size<=4611686018427387904):
  abR 304 #[.string s,.string ⟨#[47]⟩] w (.tuple #[.string (ky s).1,.string (ky s).2.1,.bool (ky s).2.2]):=by
 have c:=aa hs;clear hs
 go_enter func304,ntmps304;go_wp2_with fail;refine Yg (De s _ c.o) λd a=>?_;have b:=aa a;clear a
 go_wp2;go_ret3;exact⟨rfl,b.o⟩
def AK(s:abO)(w:abP)(e:Ending)(w':abP):Prop:=(∃a b:abO,e= .returned (.tuple #[.string a,.string b,.bool (fy s)]))/\abQ w w'
theorem wo(s:abO)(w:abP)(hs:s.size<=4611686018427387904):
  Calls prog 274 #[.string s] w (AK s w):=by
 have h:=aa hs;have q:=aa (Bd s);have j:=aa (Dc (kY s));have k:Hid (fy s=(gV s&&((ky (kY s)).2.2&&(YF s&&(fp (ky (kY s)).1&&gj (ky (kY s)).2.1))))):=aa rfl;clear hs;go_enter func274,ntmps274;go_wp2_with fail;refine(rq s _ h.o).mono ?_;rintro e u ⟨rfl,rfl⟩;go_wp2_with fail;refine Yg (EL (kY s) _ (by have:=h.o;have:=q.o;omega)) λu b=>?_;have i:=aa b;clear b
 obtain⟨R,t⟩:∃R,ky (kY s)=R:=⟨_,rfl⟩;rw[t]at j k⊢;clear t;generalize kY s=r at*;obtain⟨x,y,z⟩:=R;simp only at j k⊢;cases l:gV s
 ·have a:Hid (fy s=false):=aa (by rw[k.o,l];rfl);clear l;go_wp2;go_ret3;exact⟨⟨_,_,by rw[a.o];rfl⟩,i.o⟩
 have g:Hid (fy s=(z&&(YF s&&(fp x&&gj y)))):=aa (by rw[k.o,l,aL]);clear l;cases z
 ·have a:Hid (fy s=false):=aa (by rw[g.o];rfl);go_wp2;go_ret3;exact⟨⟨_,_,by rw[a.o];rfl⟩,i.o⟩
 go_wp2_with fail;refine Yg (fk s _ h.o) λv b=>?_;have d:=aa (Yf i.o b);clear b
 cases m:YF s
 ·have a:Hid (fy s=false):=aa (by rw[g.o,m];rfl);clear m;go_wp2;go_ret3;exact⟨⟨_,_,by rw[a.o];rfl⟩,d.o⟩
 have o:Hid (fy s=(fp x&&gj y)):=aa (by rw[g.o,m,aL,aL]);clear m;go_wp2_with fail;refine Yg (lw x _ (by have:=h.o;have:=q.o;have:=j.o.1;omega)) λA b=>?_;have f:=aa (Yf d.o b);clear b
 cases c:fp x
 ·have a:Hid (fy s=false):=aa (by rw[o.o,c];rfl);clear c;go_wp2;go_ret3;exact⟨⟨_,_,by rw[a.o];rfl⟩,f.o⟩
 have p:Hid (fy s=gj y):=aa (by rw[o.o,c,aL]);clear c;go_wp2_with fail;refine Yg (qB y _ (by have:=h.o;have:=q.o;have:=j.o.2;omega)) λB b=>?_;have n:=aa (Yf f.o b);clear b
 cases c:gj y
 ·have a:Hid (fy s=false):=aa (by rw[p.o,c]);clear c;go_wp2;go_ret3;exact⟨⟨_,_,by rw[a.o];rfl⟩,n.o⟩
 have a:Hid (fy s=true):=aa (by rw[p.o,c]);clear c;go_wp2;go_ret3;exact⟨⟨_,_,by rw[a.o];rfl⟩,n.o⟩
end Go.Proofs.YtmohmcgbejojcaaGreatDoor
namespace Go.Proofs.YtmohmcgbejojcaaGreatDoor
open Go.RowKit Go.Proofs.Tryz
section
attribute [local go_sem ↓high] bu sD sE
attribute [local go_sem ↓] wh
attribute [local go_sem] Cv mX uw pU sR yi sQ yh sP yg pC uI pB uH pA uG py uF pu uE pm uy pj ux sY pX sX pW
theorem oI(v k:Int)(w:abP):abT 164 #[.int .i64 v,.int .i64 k] w (.bool (ir v k)):=by
 go_enter func164,ntmps164;go_wp2
 all_goals
  go_ret;refine⟨eT ?_,rfl⟩;unfold ir;by_cases a:v=4<;>by_cases b:v=5<;>simp_all<;>omega
theorem nK(k:Int)(w:abP):abT 228 #[.int .i64 k] w (.bool (jm k)):=by
 go_enter func228,ntmps228;go_wp2
 all_goals
  go_ret;refine⟨eT ?_,rfl⟩;unfold jm;by_cases a:k=8<;>by_cases b:k=10<;>simp_all
theorem zi(v k:Int)(w:abP):abT 270 #[.int .i64 v,.int .i64 k] w (.bool (pP v k)):=by
 go_enter func270,ntmps270;go_wp2
 all_goals
  go_ret;refine⟨eT ?_,rfl⟩;unfold pP;by_cases a:k=11<;>by_cases b:v=4<;>simp_all
theorem nJ(n:Int)(w:abP):abT 273 #[.int .i64 n] w (.bool (jZ n)):=by
 go_enter func273,ntmps273;go_wp2
 all_goals
  go_ret;refine⟨eT ?_,rfl⟩;unfold jZ;by_cases a:0<=n<;>by_cases b:n<3<;>simp_all<;>omega
theorem Dx(v k c:Int)(w:abP):abR 224 #[.int .i64 v,.int .i64 k,.int .i64 c] w (.bool (xF v k c)):=by
 by_cases a:v=4
 ·have g:(v==4)=true:=aK.2 a;have f:Hid (xF v k c=tq c):=aa (if_pos a);clear a;go_enter func224,ntmps224;go_wp2_with fail;refine Yg (Af c _) λh d=>?_;have b:=aa d;clear d
  go_wp2;go_ret;exact⟨by rw[f.o];rfl,by first| exact b.o| exact b.o▸aq _ _⟩
 ·have g:(v==4)=false:=ar.2 a;have f:Hid (xF v k c=may k c):=aa (Fl a);clear a;go_enter func224,ntmps224;go_wp2_with fail;refine Yg (m7 k c _) λh d=>?_;have b:=aa d;clear d
  go_wp2;go_ret;exact⟨by rw[f.o];rfl,by first| exact b.o| exact b.o▸aq _ _⟩
def sbH(v:Int)(p:Pk)(h:Hs):Hs:=
 if jm p.kind=true then {hs0 with props:=h.props,filters:=h.filters}else if pP v p.kind=true then {hs0 with props:=h.props}else {hs0 with props:=h.props,codes:=h.codes}
theorem DN(v:Int){p:Pk}(x:gz p):gz (sbQ v p):=by
 unfold sbQ;split
 ·exact⟨ag _,ag _,x.2.2.1,x.2.2.2⟩
 ·split
  ·exact⟨ag _,ag _,ag _,x.2.2.2⟩
  ·exact⟨ag _,x.2.1,ag _,x.2.2.2⟩
theorem Fp(v:Int){w:abP}{B:Nat}{p:Pk}{h:Hs}(x:PkIn w B p h):PkIn w B (sbQ v p) (sbH v p h):=by
 unfold sbQ sbH;split
 ·exact⟨Rd.nil _ _ _ _,Rd.nil _ _ _ _,x.filters,x.props,ag _,ag _,x.caps.2.2.1,x.caps.2.2.2⟩
 ·split
  ·exact⟨Rd.nil _ _ _ _,Rd.nil _ _ _ _,Rd.nil _ _ _ _,x.props,ag _,ag _,ag _,x.caps.2.2.2⟩
  ·exact⟨Rd.nil _ _ _ _,x.codes,Rd.nil _ _ _ _,x.props,ag _,x.caps.2.1,ag _,x.caps.2.2.2⟩
theorem wu(k i:Int)(l:List Pr)(A:Option Addr)(n:Nat)(w:abP):(qP #[(0,.int .i64 k),(4,.int .i64 i),(20,.slice A l.length n)]).run prog w= .ok (pkV {pk0 with kind:=k,id:=i,props:=l} {hs0 with props:=⟨A,n⟩}) w:=by kernel_rfl
theorem sK(v:Int)(p:Pk)(h:Hs)(Q:Pk)(H:Hs)(x:abP)(hq:sbQ v p=Q)(hh:sbH v p h=H)(hi:PkIn x x.heap.size p h)(hn:gz p):
  abR 214 #[pkV p h,pkV Q H] x (.bool (decide (p=sbQ v p))):=by
 subst hq hh;exact jE p (sbQ v p) h (sbH v p h) x hi (Fp v hi) hn (DN v hn)
theorem sJ(v:Int)(p:Pk)(h:Hs)(w:abP)(ip:PkIn w w.heap.size p h)(ok:PkOk p):
  abR 221 #[.int .i64 v,pkV p h] w (.bool (eH v p)):=by
 have I:=aa ok;have P:=aa ip;have D:Hid (eH v p=(!(decide (p.id<1) || (decide (65535<p.id) || (decide (v=4)&&decide (0<p.props.length))))&&(lj v p&&decide (p=sbQ v p)))):=aa rfl;have H:Hid (lj v p=if jm p.kind=true then decide (0<p.filters.length)else if pP v p.kind=true then true else decide (0<p.codes.length)):=aa rfl;have u:=aa ((aq w.heap.size w).alloc (ac _) (.cells (pkC p h) PkT));have r:=Bk.fresh w PkT (pkC p h);have k0:=(r.cell 0).trans (cI _ _);have k4:=(r.cell 4).trans (dj _ _);have X:=(r.cell 22).trans (bS _ _);have Y:=(r.cell 23).trans (bP _ _);have Z:=(r.cell 24).trans (bR _ _)
 obtain⟨W,A,V⟩:=mF w p {pk0 with kind:=p.kind,id:=p.id,props:=p.props} h {hs0 with props:=⟨h.props.a,h.props.c⟩};have j:=aa A;have U:=A.lt;have j0:=λs=>(A.bk_pw s).cell;have T:∀s,(kZ (.pointer (some ⟨w.heap.size,0,none⟩))).run prog (pw W (w.heap.size+1) s)= .ok (pkV p h) (pw W (w.heap.size+1) s):=λs=>cf (A.bk_pw s);have S:=wu p.kind p.id p.props h.props.a h.props.c;have z:Hid (∀x,abQ w x->PkIn x x.heap.size p h):=aa λx O=>(P.o.below O).wider O.size;clear ip ok A r;go_enter func221,ntmps221;by_cases M:p.id<1
 ·have f:Hid (eH v p=false):=aa (by rw[D.o,au M];rfl);go_wp2;go_ret;exact⟨by rw[f.o];rfl,u.o⟩
 by_cases N:65535<p.id
 ·have f:Hid (eH v p=false):=aa (by rw[D.o,au N,Bool.true_or,Bool.or_true];rfl);go_wp2;go_ret;exact⟨by rw[f.o];rfl,u.o⟩
 have k:=D.o;rw[ah M,ah N,nB,nB]at k
 replace k:=aa k
 have G:∀(_:decide (v=4)=false\/decide (0<p.props.length)=false),eH v p=(lj v p&&decide (p=sbQ v p)):=by
  intro B;rw[k.o];rcases B with B| B
  ·rw[B,YH,Bool.not_false,aL]
  ·rw[B,ru,Bool.not_false,aL]
 have F:=aa G;clear G D;by_cases o:v=4/\0<p.props.length
 ·have f:Hid (eH v p=false):=aa (by rw[k.o,au o.1,au o.2];rfl);have L:(v==4)=true:=aK.2 o.1;have Q:(0:Int)<(p.props.length:Int):=by have:=o.2;omega
  clear o;go_wp2;go_ret;exact⟨by rw[f.o];rfl,u.o⟩
 have m:Hid (eH v p=(lj v p&&decide (p=sbQ v p))):=aa (F.o (by
  by_cases a:v=4
  ·exact .inr (ah λb=>o ⟨a,b⟩)
  ·exact .inl (ah a)))
 have tail:∀(b4:Bool) (_:(v==4)=b4) (_:b4=true->(p.props.length:Int)<=0),True:=λ_ _ _=>trivial;clear tail F k;have K:(v==4)=false\/((v==4)=true/\¬(0:Int)<(p.props.length:Int)):=by
  by_cases a:v=4
  ·exact .inr ⟨aK.2 a,λb=>o ⟨a,by omega⟩⟩
  ·exact .inl (ar.2 a)
 clear o;have R:=aa (nK p.kind);rcases K with L| ⟨L,Q⟩
 all_goals
  go_wp2_with fail;refine Yg (nK p.kind _) λE C=>?_;subst C;cases g:jm p.kind;rotate_left
  ·have i:Hid (lj v p=decide (0<p.filters.length)):=aa (by rw[H.o,if_pos g]);have y:Hid (sbQ v p= {pk0 with kind:=p.kind,id:=p.id,props:=p.props,filters:=p.filters}):=aa (by unfold sbQ;rw[if_pos g]);have n:Hid (sbH v p h= {hs0 with props:=h.props,filters:=h.filters}):=aa (by unfold sbH;rw[if_pos g]);clear g;by_cases l:0<p.filters.length
   ·have J:(0:Int)<(p.filters.length:Int):=by omega
    have f:Hid (eH v p=decide (p=sbQ v p)):=aa (by rw[m.o,i.o,au l,aL]);clear l;go_wp2_with fail;refine Yg (sK v p h _ _ _ (y.o.trans rfl) (n.o.trans rfl) (z.o _ (j.o.kept _)) I.o.len) λE q=>?_;have t:=aa ((j.o.kept _).trans (q.mono (j.o.kept _).size));clear q
    go_wp2;go_ret;exact⟨by rw[f.o];rfl,t.o⟩
   ·have J:¬(0:Int)<(p.filters.length:Int):=by omega
    have f:Hid (eH v p=false):=aa (by rw[m.o,i.o,ah l,YH]);clear l;go_wp2;go_ret;exact⟨by rw[f.o];rfl,j.o.kept _⟩
  ·go_wp2_with fail;refine Yg (zi v p.kind _) λE C=>?_;subst C;cases d:pP v p.kind;rotate_left
   ·have i:Hid (lj v p=true):=aa (by rw[H.o,Fl (by rw[g];decide),if_pos d]);have y:Hid (sbQ v p= {pk0 with kind:=p.kind,id:=p.id,props:=p.props}):=aa (by unfold sbQ;rw[Fl (by rw[g];decide),if_pos d]);have n:Hid (sbH v p h= {hs0 with props:=h.props}):=aa (by unfold sbH;rw[Fl (by rw[g];decide),if_pos d]);have f:Hid (eH v p=decide (p=sbQ v p)):=aa (by rw[m.o,i.o,aL]);clear g d;go_wp2_with fail;refine Yg (sK v p h _ _ _ (y.o.trans rfl) (n.o.trans rfl) (z.o _ (j.o.kept _)) I.o.len) λE q=>?_;have t:=aa ((j.o.kept _).trans (q.mono (j.o.kept _).size));clear q
    go_wp2;go_ret;exact⟨by rw[f.o];rfl,t.o⟩
   ·have i:Hid (lj v p=decide (0<p.codes.length)):=aa (by rw[H.o,Fl (by rw[g];decide),Fl (by rw[d];decide)]);have y:Hid (sbQ v p= {pk0 with kind:=p.kind,id:=p.id,props:=p.props,codes:=p.codes}):=aa (by unfold sbQ;rw[Fl (by rw[g];decide),Fl (by rw[d];decide)]);have n:Hid (sbH v p h= {hs0 with props:=h.props,codes:=h.codes}):=aa (by unfold sbH;rw[Fl (by rw[g];decide),Fl (by rw[d];decide)]);clear g d;by_cases l:0<p.codes.length
    ·have J:(0:Int)<(p.codes.length:Int):=by omega
     have f:Hid (eH v p=decide (p=sbQ v p)):=aa (by rw[m.o,i.o,au l,aL]);clear l;go_wp2_with fail;refine Yg (sK v p h _ _ _ (y.o.trans rfl) (n.o.trans rfl) (z.o _ (j.o.kept _)) I.o.len) λE q=>?_;have t:=aa ((j.o.kept _).trans (q.mono (j.o.kept _).size));clear q
     go_wp2;go_ret;exact⟨by rw[f.o];rfl,t.o⟩
    ·have J:¬(0:Int)<(p.codes.length:Int):=by omega
     have f:Hid (eH v p=false):=aa (by rw[m.o,i.o,ah l,YH]);clear l;go_wp2;go_ret;exact⟨by rw[f.o];rfl,j.o.kept _⟩
theorem BT(v k:Int)(f:Fi)(w:abP)(hs:f.topic.size<=4611686018427387904):
  abR 223 #[.int .i64 v,.int .i64 k,.agg #[.string f.topic,.int .i64 f.qos,.bool f.noLocal,.bool f.asPub,.int .i64 f.handling]] w (.bool (nT v k f)):=by
 have y:=aa hs;have d:=aa ((aq w.heap.size w).alloc (ac _) (.cells #[.string f.topic,.int .i64 f.qos,.bool f.noLocal,.bool f.asPub,.int .i64 f.handling] 112));have q:=aa (Bk.fresh w 112 #[.string f.topic,.int .i64 f.qos,.bool f.noLocal,.bool f.asPub,.int .i64 f.handling]);have n:Hid (nT v k f=if k=10 then l9 f&&decide (f.qos=0)else if v=4 then l9 f&&jZ f.qos else jZ f.qos&&(jZ f.handling&& !(fy f.topic&&f.noLocal))):=aa rfl;have G:=kP;have u:=λW=>mJ f ⟨f.topic,f.qos,false,false,0⟩ W;have t:Hid (l9 f=decide (f=⟨f.topic,f.qos,false,false,0⟩)):=aa rfl;rw[<-t.o]at u;clear t hs;generalize l9 f=pl at*;go_enter func223,ntmps223;by_cases h:k=10
 ·have D:(k==10)=true:=aK.2 h;have c:Hid (nT v k f=(pl&&(f.qos==0))):=aa (by rw[n.o,if_pos h];rfl);clear h;cases pl
  ·go_wp2;go_ret;exact⟨by rw[c.o];rfl,d.o⟩
  ·go_wp2;go_ret;exact⟨by rw[c.o];rfl,d.o⟩
 have D:(k==10)=false:=ar.2 h;by_cases j:v=4
 ·have C:(v==4)=true:=aK.2 j;have c:Hid (nT v k f=(pl&&jZ f.qos)):=aa (by rw[n.o,Fl h,if_pos j]);clear h j;cases pl
  ·go_wp2;go_ret;exact⟨by rw[c.o];rfl,d.o⟩
  ·go_wp2_with fail;refine Yg (nJ f.qos _) λE x=>?_;subst x;go_wp2;go_ret;exact⟨by rw[c.o];rfl,d.o⟩
 have C:(v==4)=false:=ar.2 j;have c:Hid (nT v k f=(jZ f.qos&&(jZ f.handling&& !(fy f.topic&&f.noLocal)))):=aa (by rw[n.o,Fl h,Fl j]);clear h j n;go_wp2_with fail;refine(wo f.topic _ y.o).mono ?_;rintro e E ⟨⟨a,b,rfl⟩,s⟩;have i:=aa (Yf d.o s);have l:=aa (Yh q.o s);clear s;have z:=l.o.cell 1;have A:=l.o.cell 2;have B:=l.o.cell 4
 simp only[ay,aE,aB]at z A B;generalize fy f.topic=sh at*;go_wp2_with fail;refine Yg (nJ f.qos _) λF m=>?_;subst m;cases g:jZ f.qos
 ·have r:Hid (nT v k f=false):=aa (by rw[c.o,g];rfl);clear g;go_wp2;go_ret;exact⟨by rw[r.o];rfl,i.o⟩
 have o:Hid (nT v k f=(jZ f.handling&& !(sh&&f.noLocal))):=aa (by rw[c.o,g,aL]);clear g;go_wp2_with fail;refine Yg (nJ f.handling _) λF m=>?_;subst m;cases g:jZ f.handling
 ·have r:Hid (nT v k f=false):=aa (by rw[o.o,g];rfl);clear g;go_wp2;go_ret;exact⟨by rw[r.o];rfl,i.o⟩
 have p:Hid (nT v k f= !(sh&&f.noLocal)):=aa (by rw[o.o,g,aL]);clear g;cases sh
 ·go_wp2;go_ret;exact⟨by rw[p.o];rfl,i.o⟩
 ·go_wp2;go_ret;exact⟨by rw[p.o];rfl,i.o⟩
end
section
theorem Yz{v k:Int}{l:List Fi}{i:Nat}(hi:i<l.length):fiE v k (l.drop i)=if gj l[i].topic=false then 10 else if nT v k l[i]=false then 2 else fiE v k (l.drop (i+1)):=by
 rw[bQ hi];rfl
theorem F8{v k:Int}{l:List Int}{i:Nat}(hi:i<l.length):cdE v k (l.drop i)=if xF v k l[i]=false then 2 else cdE v k (l.drop (i+1)):=by
 rw[bQ hi];rfl
theorem lg(v:Int)(p:Pk)(h:Hs)(w:abP)(ip:PkIn w w.heap.size p h)(ok:PkOk p):
  abR 161 #[.int .i64 v,pkV p h] w (.int .i64 (sbE v p)):=by
 have H:=aa ok;have M:=aa ((St.start w).push ip);have R:Hid (sbE v p=if xY v p=false then 2 else if(aM p.kind p.props).2≠0 then(aM p.kind p.props).2
  else if fiE v p.kind p.filters≠0 then fiE v p.kind p.filters else cdE v p.kind p.codes):=aa rfl
 have HA:Hid (xY v p=(ir v p.kind&&eH v p)):=aa rfl;have t:=M.o.cell 0 rfl;have l0:=M.o.ld 0 rfl;clear ip ok;go_enter func161,ntmps161;go_wp2_with fail;refine Yg (oI v p.kind _) λw1 aJ=>?_;subst aJ;cases Q:ir v p.kind
 ·have d:Hid (sbE v p=2):=aa (by rw[R.o,if_pos (by rw[HA.o,Q];rfl)]);clear Q;go_wp2;go_ret;exact⟨by rw[d.o];rfl,M.o.kept⟩
 have J:Hid (xY v p=eH v p):=aa (by rw[HA.o,Q,aL]);clear Q HA;go_wp2_with fail;refine Yg (sJ v p h _ (M.o.into 0 rfl) H.o) λw1 B=>?_;have S:=aa (M.o.below B);clear B t l0
 have t:=S.o.cell 0 rfl;cases Y:eH v p
 ·have d:Hid (sbE v p=2):=aa (by rw[R.o,if_pos (by rw[J.o,Y])]);clear Y;go_wp2;go_ret;exact⟨by rw[d.o];rfl,S.o.kept⟩
 have D:Hid (sbE v p=if(aM p.kind p.props).2≠0 then(aM p.kind p.props).2 else if fiE v p.kind p.filters≠0 then fiE v p.kind p.filters else cdE v p.kind p.codes):=aa (by
  rw[R.o,Fl (by rw[J.o,Y];decide)])
 clear Y R J;go_wp2_with fail;refine Yg (gu p.kind p.props _ rfl H.o.props h.props.a h.props.c _ (S.o.into 0 rfl).props H.o.len.2.2.2) λw2 B=>?_;have S2:=aa (S.o.below B);clear B t
 have t:=S2.o.cell 0 rfl;obtain⟨x,r⟩:∃x,(aM p.kind p.props).2=x:=⟨_,rfl⟩;rw[r]at D⊢;clear r;by_cases r:x=0;rotate_left
 ·have d:Hid (sbE v p=x):=aa (by rw[D.o,if_pos r]);have e0:(x !=0)=true:=aA.2 r;clear r;go_wp2;go_ret;exact⟨by rw[d.o];rfl,S2.o.kept⟩
 have E:Hid (sbE v p=if fiE v p.kind p.filters≠0 then fiE v p.kind p.filters else cdE v p.kind p.codes):=aa (by rw[D.o,Fl (λy=>y r)]);have e0:(x !=0)=false:=by rw[r];rfl
 have aD:=aa H.o.len.2.2.1;have aC:=aa H.o.len.2.1;clear r D;obtain⟨n,hn⟩:∃n,p.filters.length=n:=⟨_,rfl⟩;obtain⟨m,hm⟩:∃m,p.codes.length=m:=⟨_,rfl⟩;have aj:=t 23;have u:=t 22
 rw[bP,hn]at aj;rw[bS,hm]at u;have A:=(t 0).trans (cI _ _);have HN:=aa hn;have HM:=aa hm
 have aV:n<=4611686018427387904:=by have:=aD.o;omega
 have aU:m<=4611686018427387904:=by have:=aC.o;omega
 clear hn hm t;go_wp2
 go_loopw [32] (λi wr=>∃k:Nat,k<=n/\i= .int .i64 k/\fiE v p.kind p.filters=fiE v p.kind (p.filters.drop k)/\abQ w2 wr) (λi _=>n- (intOf i).toNat)
 case atStart=>exact⟨0,by omega,rfl,by rw[Yl],aq _ _⟩
 case round=>
  obtain⟨k,Q,rfl,ah,P⟩:=hrel;have N:=aa (S2.o.below P);have HF:=aa ah;have ac:=aa P
  clear ah A u aj;have A:=(N.o.cell 0 rfl 0).trans (cI _ _);have u:=N.o.cell 0 rfl 22;rw[bS,HM.o]at u;by_cases aI:k<n
  ·have q:k<p.filters.length:=by rw[HN.o];exact aI
   obtain⟨b,o,hA,B,T,U,V,W,X⟩:=((N.o.into 0 rfl).filters).atF q;have ai:=H.o.topics p.filters[k] (iY q);have Z:=aa (HF.o.trans (Yz (v:=v) (k:=p.kind) q));generalize p.filters[k]=f at*;have ae:=aa ai;have b1:(0:Int)<=(k:Int):=by omega
   have b2:(k:Int)<(n:Int):=by omega
   clear q ai;have I:=aa (N.o.alloc (.cells #[.string f.topic,.int .i64 f.qos,.bool f.noLocal,.bool f.asPub,.int .i64 f.handling] 112));have ab:=aa (ac.o.alloc ac.o.size (.cells #[.string f.topic,.int .i64 f.qos,.bool f.noLocal,.bool f.asPub,.int .i64 f.handling] 112));have K4:=aa (Bk.fresh wr 112 #[.string f.topic,.int .i64 f.qos,.bool f.noLocal,.bool f.asPub,.int .i64 f.handling]);go_wp2_with fail;refine Yg (qB f.topic _ (by have:=ae.o;omega)) λw4 F=>?_;have O:=aa (I.o.below F);have C:=aa (Yf ab.o F);have L:=aa (Yh K4.o F);clear F A T U V W X;have A:=(O.o.cell 0 rfl 0).trans (cI _ _);cases G:gj f.topic
   ·have d:Hid (sbE v p=10):=aa (by
     have e:fiE v p.kind p.filters=10:=by rw[Z.o,if_pos G]
     rw[E.o,e,if_pos (by decide)])
    clear G;go_wp2;go_ret;exact⟨by rw[d.o];rfl,O.o.kept⟩
   have K:Hid (fiE v p.kind p.filters=if nT v p.kind f=false then 2 else fiE v p.kind (p.filters.drop (k+1))):=aa (by rw[Z.o,Fl (by rw[G];decide)]);clear G;have T:=L.o.cell 0;have U:=L.o.cell 1;have V:=L.o.cell 2;have W:=L.o.cell 3;have X:=L.o.cell 4
   simp only[ay,aE,aB]at T U V W X;go_wp2_with fail;refine Yg (BT v p.kind f _ (by have:=ae.o;omega)) λw5 l=>?_;have S6:=aa (O.o.below l);have ax:=aa (Yf C.o l);clear l T U V W X A;cases g:nT v p.kind f
   ·have d:Hid (sbE v p=2):=aa (by
     have e:fiE v p.kind p.filters=2:=by rw[K.o,if_pos g]
     rw[E.o,e,if_pos (by decide)])
    clear g;go_wp2;go_ret;exact⟨by rw[d.o];rfl,S6.o.kept⟩
   have d:Hid (fiE v p.kind p.filters=fiE v p.kind (p.filters.drop (k+1))):=aa (by rw[K.o,Fl (by rw[g];decide)]);clear g;go_wp2;go_roundw
   case rel=>
    simp only[hA]
    (repeat apply Exists.intro)
    refine⟨?_,rfl⟩;exact⟨k+1,by omega,by go_num,d.o,ax.o⟩
   case measure=>simp[intOf];omega
  ·obtain rfl:k=n:=by omega
   have d:Hid (sbE v p=cdE v p.kind p.codes):=aa (by
    have e:fiE v p.kind p.filters=0:=by rw[HF.o,<-HN.o,ox];rfl
    rw[E.o,e,Fl (λy=>y rfl)])
   clear E HF;go_wp2
   go_loopw [50] (λi wq=>∃k:Nat,k<=m/\i= .int .i64 k/\cdE v p.kind p.codes=cdE v p.kind (p.codes.drop k)/\abQ wr wq) (λi _=>m- (intOf i).toNat)
   case atStart=>exact⟨0,by omega,rfl,by rw[Yl],aq _ _⟩
   case round=>
    obtain⟨j,hj,rfl,ag,af⟩:=hrel;have I:=aa (N.o.below af);have HC:=aa ag;have ad:=aa af
    clear ag A u;have A:=(I.o.cell 0 rfl 0).trans (cI _ _);by_cases ar:j<m
    ·have q:j<p.codes.length:=by rw[HM.o];exact ar
     obtain⟨b,o,z,hA,B,hz,hc⟩:=((I.o.into 0 rfl).codes).atI q;have HZ:Hid (cdE v p.kind p.codes=if xF v p.kind z=false then 2 else cdE v p.kind (p.codes.drop (j+1))):=aa (by
      rw[HC.o,F8 q];rw[List.getElem?_eq_getElem q]at hz;rw[Option.some.inj hz])
     have b1:(0:Int)<=(j:Int):=by omega
     have b2:(j:Int)<(m:Int):=by omega
     clear q hz;go_wp2_with fail;refine Yg (Dx v p.kind z _) λw5 l=>?_;have O:=aa (I.o.below l);have C:=aa (Yf ad.o l);clear l hc A;cases g:xF v p.kind z
     ·have s:Hid (sbE v p=2):=aa (by rw[d.o,HZ.o,if_pos g]);clear g;go_wp2;go_ret;exact⟨by rw[s.o];rfl,O.o.kept⟩
     have s:Hid (cdE v p.kind p.codes=cdE v p.kind (p.codes.drop (j+1))):=aa (by rw[HZ.o,Fl (by rw[g];decide)]);clear g;go_wp2;go_roundw
     case rel=>
      simp only[hA]
      (repeat apply Exists.intro)
      refine⟨?_,rfl⟩;exact⟨j+1,by omega,by go_num,s.o,C.o⟩
     case measure=>simp[intOf];omega
    ·obtain rfl:j=m:=by omega
     have s:Hid (sbE v p=0):=aa (by rw[d.o,HC.o,<-HM.o,ox];rfl);go_wp2;go_ret;exact⟨by rw[s.o];rfl,I.o.kept⟩
end
