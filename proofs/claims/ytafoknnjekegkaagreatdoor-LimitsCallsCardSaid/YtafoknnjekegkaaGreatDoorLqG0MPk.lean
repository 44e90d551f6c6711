/- Parts: MPk. -/
import Derived.Test.YtafoknnjekegkaaGreatDoorLqG0MPrp
import Derived.Lib.QuietBelow
import Derived.Deep.MidRow
import Derived.Laws.NewBlocks
set_option maxRecDepth 10000
set_option maxHeartbeats 8000000
namespace Go.Proofs.YtafoknnjekegkaaGreatDoor
open Go.RowKit Go.Proofs.Tryz
variable {w W:abP}{g:Nat}{A:Option Addr}
section
structure Fi where
 topic:abO
 qos:Int
 noLocal:Bool
 asPub:Bool
 handling:Int
instance:Inhabited Fi:=⟨⟨⟨#[]⟩,0,false,false,0⟩⟩
theorem so(a b:Fi):a=b↔a.topic=b.topic/\a.qos=b.qos/\a.noLocal=b.noLocal/\a.asPub=b.asPub/\a.handling=b.handling:=by cases a;cases b;simp
instance:DecidableEq Fi:=λa b=>decidable_of_iff _ (so a b).symm
def fiC(f:Fi):List Value:=[.string f.topic,.int .i64 f.qos,.bool f.noLocal,.bool f.asPub,.int .i64 f.handling]
def fis(l:List Fi):List Value:=l.flatMap fiC
theorem yH(f:Fi):(fiC f).length=5:=rfl
theorem EH(l:List Fi):(fis l).length=l.length*5:=iA yH l
structure Wl where
 topic:abO
 payload:abO
 qos:Int
 retain:Bool
 props:List Pr
theorem nC(a b:Wl):a=b↔a.topic=b.topic/\a.payload=b.payload/\a.qos=b.qos/\a.retain=b.retain/\a.props=b.props:=by cases a;cases b;simp
instance:DecidableEq Wl:=λa b=>decidable_of_iff _ (nC a b).symm
structure Pk where
 kind:Int
 dup:Bool
 retain:Bool
 qos:Int
 id:Int
 topic:abO
 payload:abO
 clean:Bool
 alive:Int
 client:abO
 hasUser:Bool
 user:abO
 hasPass:Bool
 pass:abO
 hasWill:Bool
 will:Wl
 session:Bool
 code:Int
 codes:List Int
 filters:List Fi
 props:List Pr
theorem nQ(a b:Pk):a=b↔a.kind=b.kind/\a.dup=b.dup/\a.retain=b.retain/\a.qos=b.qos/\a.id=b.id/\a.topic=b.topic/\a.payload=b.payload/\a.clean=b.clean/\a.alive=b.alive/\a.client=b.client/\
  a.hasUser=b.hasUser/\a.user=b.user/\a.hasPass=b.hasPass/\a.pass=b.pass/\a.hasWill=b.hasWill/\a.will=b.will/\a.session=b.session/\a.code=b.code/\a.codes=b.codes/\a.filters=b.filters/\a.props=b.props:=by cases a;cases b;simp
instance:DecidableEq Pk:=λa b=>decidable_of_iff _ (nQ a b).symm
structure Hd where
 a:Option Addr
 c:Nat
structure Hs where
 wp:Hd
 codes:Hd
 filters:Hd
 props:Hd
def hd0:Hd:=⟨none,0⟩
def hs0:Hs:=⟨hd0,hd0,hd0,hd0⟩
abbrev WlT:TypeId:=26
abbrev PkT:TypeId:=30
def wlC(x:Wl)(h:Hd):Array Value:=#[.string x.topic,.string x.payload,.int .i64 x.qos,.bool x.retain,.slice h.a x.props.length h.c]
def pkC(p:Pk)(h:Hs):Array Value:=#[.int .i64 p.kind,.bool p.dup,.bool p.retain,.int .i64 p.qos,.int .i64 p.id,.string p.topic,.string p.payload,.bool p.clean,.int .i64 p.alive,.string p.client,.bool p.hasUser,.string p.user,.bool p.hasPass,.string p.pass,.bool p.hasWill,
 .string p.will.topic,.string p.will.payload,.int .i64 p.will.qos,.bool p.will.retain,.slice h.wp.a p.will.props.length h.wp.c,.bool p.session,.int .i64 p.code,.slice h.codes.a p.codes.length h.codes.c,.slice h.filters.a p.filters.length h.filters.c,.slice h.props.a p.props.length h.props.c]
def wlV(x:Wl)(h:Hd):Value:=.agg (wlC x h)
def pkV(p:Pk)(h:Hs):Value:=.agg (pkC p h)
structure PkIn (w:abP) (B:Nat) (p:Pk) (h:Hs):Prop where
 wp:Rd w B 4 h.wp.a p.will.props.length (prs p.will.props)
 codes:Rd w B 1 h.codes.a p.codes.length (iv p.codes)
 filters:Rd w B 5 h.filters.a p.filters.length (fis p.filters)
 props:Rd w B 4 h.props.a p.props.length (prs p.props)
 caps:p.will.props.length<=h.wp.c/\p.codes.length<=h.codes.c/\p.filters.length<=h.filters.c/\p.props.length<=h.props.c
section
variable {w w':abP} {B:Nat} {p:Pk} {h:Hs}
theorem PkIn.below(x:PkIn w B p h)(hb:Below B w w'):PkIn w' B p h:=⟨x.wp.below hb,x.codes.below hb,x.filters.below hb,x.props.below hb,x.caps⟩
theorem PkIn.wider{B':Nat}(x:PkIn w B p h)(hB:B<=B'):PkIn w B' p h:=⟨x.wp.wider hB,x.codes.wider hB,x.filters.wider hB,x.props.wider hB,x.caps⟩
theorem PkIn.next(x:PkIn w w.heap.size p h)(hb:abQ w w'):PkIn w' w'.heap.size p h:=(x.below hb).wider hb.size
theorem PkIn.drewN(x:PkIn w B p h)(n:Nat):PkIn (w.drewN n) B p h:=⟨x.wp,x.codes,x.filters,x.props,x.caps⟩
end
structure PkOk (p:Pk):Prop where
 wp:∀q∈p.will.props,qc q
 props:∀q∈p.props,qc q
 topics:∀f∈p.filters,f.topic.size<=140737488351232
 texts:p.topic.size<=140737488351232/\p.payload.size<=140737488351232/\p.client.size<=140737488351232/\p.user.size<=140737488351232/\p.pass.size<=140737488351232/\p.will.topic.size<=140737488351232/\p.will.payload.size<=140737488351232
 lens:p.will.props.length<=140737488351232/\p.codes.length<=140737488351232/\p.filters.length<=140737488351232/\p.props.length<=140737488351232
theorem Rd.atF{B:Nat}{l:List Fi}(h:Rd w B 5 A l.length (fis l)){i:Nat}(hi:i<l.length):∃b o,A=some ⟨b,o,none⟩/\b<B/\
  w.cell? ⟨b,o+i*5,none⟩=some (.string l[i].topic)/\w.cell? ⟨b,o+i*5+1,none⟩=some (.int .i64 l[i].qos)/\w.cell? ⟨b,o+i*5+2,none⟩=some (.bool l[i].noLocal)/\w.cell? ⟨b,o+i*5+3,none⟩=some (.bool l[i].asPub)/\w.cell? ⟨b,o+i*5+4,none⟩=some (.int .i64 l[i].handling):=by
 rcases h.2 with d| ⟨b,o,rfl,e,c⟩
 ·have:=EH l;rw[d]at this;simp at this;omega
 ·have a:=λj f=>kQ yH l i j hi f;refine⟨b,o,rfl,e,?_,?_,?_,?_,?_⟩
  ·exact c (i*5+0) _ (a 0 (by omega))
  ·rw[Nat.add_assoc];exact c (i*5+1) _ (a 1 (by omega))
  ·rw[Nat.add_assoc];exact c (i*5+2) _ (a 2 (by omega))
  ·rw[Nat.add_assoc];exact c (i*5+3) _ (a 3 (by omega))
  ·rw[Nat.add_assoc];exact c (i*5+4) _ (a 4 (by omega))
theorem kP:prog.eqGuardType prog.depth 49=false:=by kernel_rfl
theorem mJ(p q:Fi)(w:abP):(binOp .eql 49 (.agg #[.string p.topic,.int .i64 p.qos,.bool p.noLocal,.bool p.asPub,.int .i64 p.handling]) (.agg #[.string q.topic,.int .i64 q.qos,.bool q.noLocal,.bool q.asPub,.int .i64 q.handling])).run prog w= .ok (.bool (decide (p=q))) w:=by
 have u1:=underlying3;have u2:=underlying4;have u3:=underlying9;have f:prog.underlying 49=some (.struct (prog.fieldsOf 49)):=by kernel_rfl
 have g:prog.stoodInHeld 49=false:=by kernel_rfl
 rw[run_eql_struct,show(10000:Nat)=9999+1 from rfl,run_equalIn_agg w 9999 49 _ _ f g];simp only[Program.fieldsOf,underlying49];go_simp;by_cases a:p.topic=q.topic<;>by_cases b:p.qos=q.qos<;>by_cases c:p.noLocal=q.noLocal<;>by_cases d:p.asPub=q.asPub<;>by_cases e:p.handling=q.handling<;>simp[so,a,b,c,d,e,toList_inj]
theorem wP{P:Program}{t:TypeId}{x y:Array Value}{b:Bool}(h:(binOp .eql t (.agg x) (.agg y)).run P w= .ok (.bool b) w):(binOp .neq t (.agg x) (.agg y)).run P w= .ok (.bool (!b)) w:=by
 rw[run_eql_struct]at h;rw[run_neq_struct];generalize (Op.equalIn 10000 _ _ _).run P w=r at h⊢;cases r with
 | ok b w'=>simp[Result.andThen]at h⊢;obtain⟨rfl,rfl⟩:=h;simp
 | halt x w'=>simp[Result.andThen]at h
theorem wQ(p q:Fi)(w:abP):(binOp .neq 49 (.agg #[.string p.topic,.int .i64 p.qos,.bool p.noLocal,.bool p.asPub,.int .i64 p.handling]) (.agg #[.string q.topic,.int .i64 q.qos,.bool q.noLocal,.bool q.asPub,.int .i64 q.handling])).run prog w= .ok (.bool (!decide (p=q))) w:=
 wP (mJ p q w)
end
theorem zk(A A':Option Addr)(n m c c':Nat)(l l':List Fi)(w:abP)(e1:l.length=n)(e2:l'.length=m)(hl:Rd w w.heap.size 5 A n (fis l))(hm:Rd w w.heap.size 5 A' m (fis l'))(hn:n<=4611686018427387904)(hn':m<=4611686018427387904):
  abR 35 #[.slice A n c,.slice A' m c'] w (.bool (decide (l=l'))):=by
 have G:=kP;by_cases g:n=m
 ·subst g;have d:=aa e1;have f:=aa e2;clear e1 e2
  have B:=aa hl;have C:=aa hm;clear hl hm
  go_enter func35,ntmps35;go_wp2
  go_loopw [5] (λi wr=>∃k:Nat,k<=n/\i= .int .i64 k/\(∀j,j<k->l[j]? =l'[j]?)/\abQ w wr) (λi _=>n- (intOf i).toNat)
  case atStart=>exact⟨0,by omega,rfl,λj t=>by omega,aq _ _⟩
  case round=>
   obtain⟨k,V,rfl,o,a⟩:=hrel;have x:=aa o;clear o
   by_cases b:k<n
   ·obtain⟨I,X,rfl,U,J,K,L,M,N⟩:=(show Rd w w.heap.size 5 A l.length (fis l) by rw[d.o];exact B.o).below a |>.atF (show k<l.length by rw[d.o];exact b);obtain⟨E,H,rfl,F,O,P,Q,R,S⟩:=(show Rd w w.heap.size 5 A' l'.length (fis l') by rw[f.o];exact C.o).below a |>.atF (show k<l'.length by rw[f.o];exact b);have y:Hid (l[k]? =some (l[k]'(by rw[d.o];exact b))):=aa (List.getElem?_eq_getElem _);have u:Hid (l'[k]? =some (l'[k]'(by rw[f.o];exact b))):=aa (List.getElem?_eq_getElem _);generalize l[k]'(by rw[d.o];exact b)=p at*;generalize l'[k]'(by rw[f.o];exact b)=q at*;have b1:(0:Int)<=(k:Int):=by omega
    have b2:(k:Int)<(n:Int):=by omega
    have v:=λW=>wQ p q W;by_cases s:p=q
    ·subst s;have r:decide (p=p)=true:=by simp
     rw[r]at v;clear r;go_wp2;go_quiet (fail);go_wp2;go_roundw
     case rel=>
      refine⟨k+1,by omega,by go_num,λj t=>?_,aV a _⟩;rcases dx.1 t with h| rfl
      ·exact x.o j h
      ·rw[y.o,u.o]
     case measure=>simp[intOf];omega
    ·have r:decide (p=q)=false:=ah s;rw[r]at v;have z:=aa s;clear s r
     go_wp2;go_quiet (fail);go_wp2;go_ret;refine⟨?_,aV a _⟩;have:l≠l':=by
      rintro rfl;have:=y.o.symm.trans u.o;exact z.o (by simpa using this)
     simp[this]
   ·go_wp2;go_ret;refine⟨?_,a⟩;have:l=l':=by
     apply dM;intro j;by_cases t:j<k
     ·exact x.o j t
     ·rw[aG (by have:=d.o;omega),aG (by have:=f.o;omega)]
    simp[this]
 ·have T:((n:Int) != (m:Int))=true:=by simpa using (by omega:¬(n:Int)=(m:Int))
  have D:=aa g;have d:=aa e1;have f:=aa e2;clear g e1 e2 hl hm
  go_enter func35,ntmps35;go_wp2;go_ret;refine⟨?_,aq _ _⟩;have:l≠l':=by
   rintro rfl;exact D.o (d.o.symm.trans f.o)
  simp[this]
theorem xm(p q:Pr)(w:abP):abR 310 #[.agg #[.int .i64 p.id,.int .u32 p.n,.string p.text,.string p.value],.agg #[.int .i64 q.id,.int .u32 q.n,.string q.text,.string q.value]] w (.bool (decide (p=q))):=by
 have c:=uc;have d:=λW=>vC p q W;generalize decide (p=q)=b at*;have a:=aa (((aq w.heap.size w).alloc (ac _) (.cells #[.int .i64 p.id,.int .u32 p.n,.string p.text,.string p.value] 71)).alloc (by simp) (.cells #[.int .i64 q.id,.int .u32 q.n,.string q.text,.string q.value] 71));go_enter func310,ntmps310;go_wp2;go_ret;exact⟨rfl,a.o⟩
theorem xo(p q:Fi)(w:abP):abR 308 #[.agg #[.string p.topic,.int .i64 p.qos,.bool p.noLocal,.bool p.asPub,.int .i64 p.handling],.agg #[.string q.topic,.int .i64 q.qos,.bool q.noLocal,.bool q.asPub,.int .i64 q.handling]] w (.bool (decide (p=q))):=by
 have c:=kP;have d:=λW=>mJ p q W;generalize decide (p=q)=b at*;have a:=aa (((aq w.heap.size w).alloc (ac _) (.cells #[.string p.topic,.int .i64 p.qos,.bool p.noLocal,.bool p.asPub,.int .i64 p.handling] 49)).alloc (by simp) (.cells #[.string q.topic,.int .i64 q.qos,.bool q.noLocal,.bool q.asPub,.int .i64 q.handling] 49));go_enter func308,ntmps308;go_wp2;go_ret;exact⟨rfl,a.o⟩
theorem xn(p q:Int)(w:abP):abR 306 #[.int .i64 p,.int .i64 q] w (.bool (decide (p=q))):=by
 go_enter func306,ntmps306;go_wp2;go_ret;refine⟨?_,aq _ _⟩;by_cases h:p=q<;>simp[h]
theorem aa5(A A':Option Addr)(n m c c':Nat)(l l':List Pr)(w:abP)(e1:l.length=n)(e2:l'.length=m)(hl:Rd w w.heap.size 4 A n (prs l))(hm:Rd w w.heap.size 4 A' m (prs l'))(hn:n<=4611686018427387904)(hn':m<=4611686018427387904):
  abR 309 #[.slice A n c,.slice A' m c',.func (.func 310) #[] #[]] w (.bool (decide (l=l'))):=by
 by_cases g:n=m
 ·subst g;have d:=aa e1;have f:=aa e2;clear e1 e2
  have D:=aa hl;have E:=aa hm;clear hl hm
  go_enter func309,ntmps309;go_wp2
  go_loopw [17] (λi wr=>∃k:Nat,k<=n/\i= .int .i64 k/\(∀j,j<k->l[j]? =l'[j]?)/\abQ w wr) (λi _=>n- (intOf i).toNat)
  case atStart=>exact⟨0,by omega,rfl,λj s=>by omega,aq _ _⟩
  case round=>
   obtain⟨k,W,rfl,r,a⟩:=hrel;have z:=aa r;clear r
   by_cases b:k<n
   ·obtain⟨G,X,rfl,V,M,N,O,P⟩:=(show Rd w w.heap.size 4 A l.length (prs l) by rw[d.o];exact D.o).below a |>.atP (show k<l.length by rw[d.o];exact b);obtain⟨C,L,rfl,J,Q,R,S,T⟩:=(show Rd w w.heap.size 4 A' l'.length (prs l') by rw[f.o];exact E.o).below a |>.atP (show k<l'.length by rw[f.o];exact b);have B:Hid (l[k]? =some (l[k]'(by rw[d.o];exact b))):=aa (List.getElem?_eq_getElem _);have v:Hid (l'[k]? =some (l'[k]'(by rw[f.o];exact b))):=aa (List.getElem?_eq_getElem _);generalize l[k]'(by rw[d.o];exact b)=p at*;generalize l'[k]'(by rw[f.o];exact b)=q at*;have b1:(0:Int)<=(k:Int):=by omega
    have b2:(k:Int)<(n:Int):=by omega
    have I:=a.size;have K:G<wr.heap.size:=by omega
    have H:C<wr.heap.size:=by omega
    have t:=aa ((a.alloc I (.cells #[.int .i64 p.id,.int .u32 p.n,.string p.text,.string p.value] 71)).alloc (by simp;omega) (.cells #[.int .i64 q.id,.int .u32 q.n,.string q.text,.string q.value] 71));go_wp2_with fail;refine Yg (xm p q _) λY x=>?_;have u:=aa (Yf t.o x);clear x
    by_cases o:p=q
    ·rw[au o];have y:=aa o;clear o
     go_wp2;go_roundw
     case rel=>
      refine⟨k+1,by omega,by go_num,λj s=>?_,u.o⟩;rcases dx.1 s with h| rfl
      ·exact z.o j h
      ·rw[B.o,v.o];rw[y.o]
     case measure=>simp[intOf];omega
    ·rw[ah o];have y:=aa o;clear o
     go_wp2;go_ret;refine⟨?_,u.o⟩;have:l≠l':=by
      rintro rfl;have:=B.o.symm.trans v.o;exact y.o (by simpa using this)
     simp[this]
   ·go_wp2;go_ret;refine⟨?_,a⟩;have:l=l':=by
     apply dM;intro j;by_cases s:j<k
     ·exact z.o j s
     ·rw[aG (by have:=d.o;omega),aG (by have:=f.o;omega)]
    simp[this]
 ·have U:((n:Int) != (m:Int))=true:=by simpa using (by omega:¬(n:Int)=(m:Int))
  have F:=aa g;have d:=aa e1;have f:=aa e2;clear g e1 e2 hl hm
  go_enter func309,ntmps309;go_wp2;go_ret;refine⟨?_,aq _ _⟩;have:l≠l':=by
   rintro rfl;exact F.o (d.o.symm.trans f.o)
  simp[this]
theorem CU(A A':Option Addr)(n m c c':Nat)(l l':List Fi)(w:abP)(e1:l.length=n)(e2:l'.length=m)(hl:Rd w w.heap.size 5 A n (fis l))(hm:Rd w w.heap.size 5 A' m (fis l'))(hn:n<=4611686018427387904)(hn':m<=4611686018427387904):
  abR 307 #[.slice A n c,.slice A' m c',.func (.func 308) #[] #[]] w (.bool (decide (l=l'))):=by
 by_cases g:n=m
 ·subst g;have d:=aa e1;have f:=aa e2;clear e1 e2
  have D:=aa hl;have E:=aa hm;clear hl hm
  go_enter func307,ntmps307;go_wp2
  go_loopw [17] (λi wr=>∃k:Nat,k<=n/\i= .int .i64 k/\(∀j,j<k->l[j]? =l'[j]?)/\abQ w wr) (λi _=>n- (intOf i).toNat)
  case atStart=>exact⟨0,by omega,rfl,λj s=>by omega,aq _ _⟩
  case round=>
   obtain⟨k,Y,rfl,r,a⟩:=hrel;have z:=aa r;clear r
   by_cases b:k<n
   ·obtain⟨G,Z,rfl,X,M,N,O,P,Q⟩:=(show Rd w w.heap.size 5 A l.length (fis l) by rw[d.o];exact D.o).below a |>.atF (show k<l.length by rw[d.o];exact b);obtain⟨C,L,rfl,J,R,S,T,U,V⟩:=(show Rd w w.heap.size 5 A' l'.length (fis l') by rw[f.o];exact E.o).below a |>.atF (show k<l'.length by rw[f.o];exact b);have B:Hid (l[k]? =some (l[k]'(by rw[d.o];exact b))):=aa (List.getElem?_eq_getElem _);have v:Hid (l'[k]? =some (l'[k]'(by rw[f.o];exact b))):=aa (List.getElem?_eq_getElem _);generalize l[k]'(by rw[d.o];exact b)=p at*;generalize l'[k]'(by rw[f.o];exact b)=q at*;have b1:(0:Int)<=(k:Int):=by omega
    have b2:(k:Int)<(n:Int):=by omega
    have I:=a.size;have K:G<wr.heap.size:=by omega
    have H:C<wr.heap.size:=by omega
    have t:=aa ((a.alloc I (.cells #[.string p.topic,.int .i64 p.qos,.bool p.noLocal,.bool p.asPub,.int .i64 p.handling] 49)).alloc (by simp;omega) (.cells #[.string q.topic,.int .i64 q.qos,.bool q.noLocal,.bool q.asPub,.int .i64 q.handling] 49));go_wp2_with fail;refine Yg (xo p q _) λw2 x=>?_;have u:=aa (Yf t.o x);clear x
    by_cases o:p=q
    ·rw[au o];have y:=aa o;clear o
     go_wp2;go_roundw
     case rel=>
      refine⟨k+1,by omega,by go_num,λj s=>?_,u.o⟩;rcases dx.1 s with h| rfl
      ·exact z.o j h
      ·rw[B.o,v.o];rw[y.o]
     case measure=>simp[intOf];omega
    ·rw[ah o];have y:=aa o;clear o
     go_wp2;go_ret;refine⟨?_,u.o⟩;have:l≠l':=by
      rintro rfl;have:=B.o.symm.trans v.o;exact y.o (by simpa using this)
     simp[this]
   ·go_wp2;go_ret;refine⟨?_,a⟩;have:l=l':=by
     apply dM;intro j;by_cases s:j<k
     ·exact z.o j s
     ·rw[aG (by have:=d.o;omega),aG (by have:=f.o;omega)]
    simp[this]
 ·have W:((n:Int) != (m:Int))=true:=by simpa using (by omega:¬(n:Int)=(m:Int))
  have F:=aa g;have d:=aa e1;have f:=aa e2;clear g e1 e2 hl hm
  go_enter func307,ntmps307;go_wp2;go_ret;refine⟨?_,aq _ _⟩;have:l≠l':=by
   rintro rfl;exact F.o (d.o.symm.trans f.o)
  simp[this]
theorem CP(A A':Option Addr)(n m c c':Nat)(l l':List Int)(w:abP)(e1:l.length=n)(e2:l'.length=m)(hl:Rd w w.heap.size 1 A n (iv l))(hm:Rd w w.heap.size 1 A' m (iv l'))(hn:n<=4611686018427387904)(hn':m<=4611686018427387904):
  abR 305 #[.slice A n c,.slice A' m c',.func (.func 306) #[] #[]] w (.bool (decide (l=l'))):=by
 by_cases b:n=m
 ·subst b;have x:=aa e1;have y:=aa e2;clear e1 e2
  have D:=aa hl;have E:=aa hm;clear hl hm
  go_enter func305,ntmps305;go_wp2
  go_loopw [17] (λi wr=>∃k:Nat,k<=n/\i= .int .i64 k/\(∀j,j<k->l[j]? =l'[j]?)/\abQ w wr) (λi _=>n- (intOf i).toNat)
  case atStart=>exact⟨0,by omega,rfl,λj g=>by omega,aq _ _⟩
  case round=>
   obtain⟨k,O,rfl,f,a⟩:=hrel;have B:=aa f;clear f
   by_cases t:k<n
   ·obtain⟨J,P,p,rfl,N,u,K⟩:=(D.o.below a).atI t;obtain⟨G,I,q,rfl,H,v,L⟩:=(E.o.below a).atI t;have C:=aa u;have r:=aa v;clear u v
    have b1:(0:Int)<=(k:Int):=by omega
    have b2:(k:Int)<(n:Int):=by omega
    go_wp2_with fail;refine Yg (xn p q _) λQ s=>?_;have o:=aa (Yf a s);clear s
    by_cases d:p=q
    ·rw[au d];have z:=aa d;clear d
     go_wp2;go_roundw
     case rel=>
      refine⟨k+1,by omega,by go_num,λj g=>?_,o.o⟩;rcases dx.1 g with h| rfl
      ·exact B.o j h
      ·rw[C.o,r.o];rw[z.o]
     case measure=>simp[intOf];omega
    ·rw[ah d];have z:=aa d;clear d
     go_wp2;go_ret;refine⟨?_,o.o⟩;have:l≠l':=by
      rintro rfl;have:=C.o.symm.trans r.o;exact z.o (by simpa using this)
     simp[this]
   ·go_wp2;go_ret;refine⟨?_,a⟩;have:l=l':=by
     apply dM;intro j;by_cases g:j<k
     ·exact B.o j g
     ·rw[aG (by have:=x.o;omega),aG (by have:=y.o;omega)]
    simp[this]
 ·have M:((n:Int) != (m:Int))=true:=by simpa using (by omega:¬(n:Int)=(m:Int))
  have F:=aa b;have x:=aa e1;have y:=aa e2;clear b e1 e2 hl hm
  go_enter func305,ntmps305;go_wp2;go_ret;refine⟨?_,aq _ _⟩;have:l≠l':=by
   rintro rfl;exact F.o (x.o.symm.trans y.o)
  simp[this]
theorem zU(A A':Option Addr)(n m c c':Nat)(l l':List Int)(w:abP)(e1:l.length=n)(e2:l'.length=m)(hl:Rd w w.heap.size 1 A n (iv l))(hm:Rd w w.heap.size 1 A' m (iv l'))(hn:n<=4611686018427387904)(hn':m<=4611686018427387904):
  abR 277 #[.slice A n c,.slice A' m c'] w (.bool (decide (l=l'))):=by
 have H:=aa (CP A A' n m c c' l l' w e1 e2 hl hm hn hn');clear e1 e2 hl hm;go_enter func277,ntmps277;go_wp2_with fail;refine H.o.mono ?_;rintro e b ⟨rfl,a⟩;go_wp2;go_ret;exact⟨rfl,a⟩
theorem zV(A A':Option Addr)(n m c c':Nat)(l l':List Fi)(w:abP)(e1:l.length=n)(e2:l'.length=m)(hl:Rd w w.heap.size 5 A n (fis l))(hm:Rd w w.heap.size 5 A' m (fis l'))(hn:n<=4611686018427387904)(hn':m<=4611686018427387904):
  abR 278 #[.slice A n c,.slice A' m c'] w (.bool (decide (l=l'))):=by
 have H:=aa (CU A A' n m c c' l l' w e1 e2 hl hm hn hn');clear e1 e2 hl hm;go_enter func278,ntmps278;go_wp2_with fail;refine H.o.mono ?_;rintro e b ⟨rfl,a⟩;go_wp2;go_ret;exact⟨rfl,a⟩
theorem se(A A':Option Addr)(n m c c':Nat)(l l':List Pr)(w:abP)(e1:l.length=n)(e2:l'.length=m)(hl:Rd w w.heap.size 4 A n (prs l))(hm:Rd w w.heap.size 4 A' m (prs l'))(hn:n<=4611686018427387904)(hn':m<=4611686018427387904):
  abR 279 #[.slice A n c,.slice A' m c'] w (.bool (decide (l=l'))):=by
 have H:=aa (aa5 A A' n m c c' l l' w e1 e2 hl hm hn hn');clear e1 e2 hl hm;go_enter func279,ntmps279;go_wp2_with fail;refine H.o.mono ?_;rintro e b ⟨rfl,a⟩;go_wp2;go_ret;exact⟨rfl,a⟩
def sA(p:Pk):Array Value:=#[.int .i64 p.kind,.int .i64 p.qos,.int .i64 p.id,.int .i64 p.alive,.int .i64 p.code,.bool p.dup,.bool p.retain,.bool p.clean,.bool p.hasUser,.bool p.hasPass,.bool p.hasWill,.bool p.session,.string p.topic,.string p.payload,.string p.client,.string p.user,.string p.pass]
def vN(a b:Pk):Bool:=decide (a.kind=b.kind/\a.qos=b.qos/\a.id=b.id/\a.alive=b.alive/\a.code=b.code/\a.dup=b.dup/\a.retain=b.retain/\a.clean=b.clean/\a.hasUser=b.hasUser/\a.hasPass=b.hasPass/\a.hasWill=b.hasWill/\a.session=b.session/\
 a.topic=b.topic/\a.payload=b.payload/\a.client=b.client/\a.user=b.user/\a.pass=b.pass)
theorem Bh(a b:Pk):a=b↔vN a b=true/\a.will=b.will/\a.codes=b.codes/\a.filters=b.filters/\a.props=b.props:=by
 rw[nQ];unfold vN;rw[cH];constructor
 ·rintro ⟨o,p,q,r,s,t,u,v,w,c,d,e,f,g,h,i,j,k,l,m,n⟩;exact⟨⟨o,r,s,w,k,p,q,v,d,f,h,j,t,u,c,e,g⟩,i,l,m,n⟩
 ·rintro ⟨⟨o,r,s,w,k,p,q,v,d,f,h,j,t,u,c,e,g⟩,i,l,m,n⟩;exact⟨o,p,q,r,s,t,u,v,w,c,d,e,f,g,h,i,j,k,l,m,n⟩
theorem xe:prog.eqGuardType prog.depth 236=false:=by kernel_rfl
theorem rI(p:Pk)(h:Hs)(w:abP):abR 275 #[pkV p h] w (.agg (sA p)):=by
 have a:=aa ((aq w.heap.size w).alloc (ac _) (.cells (pkC p h) PkT));simp only[pkV,pkC];go_enter func275,ntmps275;go_wp2;exact abZ (v:=.agg (sA p)) (by simp[results,Tryz.results275,go_sem,sA]) rfl ⟨rfl,a.o.alloc (by simp) _⟩
theorem eT{a b:Bool}(h:a=b):Ending.returned (.bool a)= .returned (.bool b):=by rw[h]
theorem ic(w:abP)(a b:Obj):abQ w ((w.alloc a).alloc b):=((aq _ _).alloc (ac _) a).alloc (by simp) b
theorem lN{w':abP}{a b:Obj}(h:Below ((w.alloc a).alloc b).heap.size ((w.alloc a).alloc b) w'):abQ w w':=(ic w a b).trans (h.mono (ic w a b).size)
theorem Rd.two{k n:Nat}{xs:List Value}(h:Rd w w.heap.size k A n xs)(a b:Obj):Rd ((w.alloc a).alloc b) ((w.alloc a).alloc b).heap.size k A n xs:=(h.below (ic w a b)).wider (ic w a b).size
theorem sL(x y:Wl)(hx hy:Hd)(w:abP)(rx:Rd w w.heap.size 4 hx.a x.props.length (prs x.props))(ry:Rd w w.heap.size 4 hy.a y.props.length (prs y.props))(lx:x.props.length<=4611686018427387904)(ly:y.props.length<=4611686018427387904):
  abR 276 #[wlV x hx,wlV y hy] w (.bool (decide (x=y))):=by
 obtain⟨t,l,q,r,g⟩:=x;obtain⟨k,h,i,j,c⟩:=y;simp only at rx ry lx ly;simp only[wlV,wlC];have d:=aa rx;have f:=aa ry;clear rx ry
 go_enter func276,ntmps276;go_wp2_with (first| (refine(se _ _ _ _ _ _ g c _ rfl rfl (d.o.two _ _) (f.o.two _ _) lx ly).mono ?_;rintro e m ⟨rfl,b⟩))
 all_goals
  go_ret;refine⟨eT (by simp_all[nC,toList_inj]),?_⟩
  first| exact lN b| exact ic _ _ _
def kZ(v:Value):Sem Value:=Instr.loadAt PkT v
def F9(v:Value):Sem Value:=Instr.box PkT v
theorem bD(v:Value):Instr.loadAt PkT v=kZ v:=rfl
theorem bF(v:Value):Instr.box PkT v=F9 v:=rfl
theorem bo(p:Pk)(h:Hs):(pkC p h).size=25:=rfl
theorem bc(p:Pk)(h:Hs)(w:abP):(F9 (pkV p h)).run prog w= .ok (.pointer (some ⟨w.heap.size,0,none⟩)) (w.alloc (.cells (pkC p h) PkT)):=rfl
theorem aD(cs:Array Value)(w:abP):(F9 (.agg cs)).run prog w= .ok (.pointer (some ⟨w.heap.size,0,none⟩)) (w.alloc (.cells cs PkT)):=rfl
theorem tk:(prog.info? PkT).map (·.size)=some 25:=by kernel_rfl
theorem cf{p:Pk}{h:Hs}(hb:Bk w g PkT (pkC p h)):(kZ (.pointer (some ⟨g,0,none⟩))).run prog w= .ok (pkV p h) w:=by
 unfold kZ;have a:w.rangeAt g 0 (pkC p h).toList:=λj v b=>by
  rw[bV,hb.cell]
  simpa using b
 exact run_loadAt_mid w g 0 PkT (pkC p h).toList _ a underlying30 rfl (by rw[fT,bo];exact tk)
theorem bh(p:Pk)(h:Hs)(w:abP):(kZ (.pointer (some ⟨w.heap.size,0,none⟩))).run prog (w.alloc (.cells (pkC p h) PkT))= .ok (pkV p h) (w.alloc (.cells (pkC p h) PkT)):=cf (Bk.fresh w PkT (pkC p h))
theorem cI(p:Pk)(h:Hs):(pkC p h)[0]? =some (.int .i64 p.kind):=rfl
theorem dC(p:Pk)(h:Hs):(pkC p h)[1]? =some (.bool p.dup):=rfl
theorem dB(p:Pk)(h:Hs):(pkC p h)[2]? =some (.bool p.retain):=rfl
theorem dt(p:Pk)(h:Hs):(pkC p h)[3]? =some (.int .i64 p.qos):=rfl
theorem dj(p:Pk)(h:Hs):(pkC p h)[4]? =some (.int .i64 p.id):=rfl
theorem di(p:Pk)(h:Hs):(pkC p h)[5]? =some (.string p.topic):=rfl
theorem dA(p:Pk)(h:Hs):(pkC p h)[6]? =some (.string p.payload):=rfl
theorem dr(p:Pk)(h:Hs):(pkC p h)[7]? =some (.bool p.clean):=rfl
theorem dp(p:Pk)(h:Hs):(pkC p h)[8]? =some (.int .i64 p.alive):=rfl
theorem dn(p:Pk)(h:Hs):(pkC p h)[9]? =some (.string p.client):=rfl
theorem bW(p:Pk)(h:Hs):(pkC p h)[10]? =some (.bool p.hasUser):=rfl
theorem co(p:Pk)(h:Hs):(pkC p h)[11]? =some (.string p.user):=rfl
theorem YK(p:Pk)(h:Hs):(pkC p h)[12]? =some (.bool p.hasPass):=rfl
theorem bZ(p:Pk)(h:Hs):(pkC p h)[13]? =some (.string p.pass):=rfl
theorem YM(p:Pk)(h:Hs):(pkC p h)[14]? =some (.bool p.hasWill):=rfl
theorem cz(p:Pk)(h:Hs):(pkC p h)[15]? =some (.string p.will.topic):=rfl
theorem cy(p:Pk)(h:Hs):(pkC p h)[16]? =some (.string p.will.payload):=rfl
theorem cw(p:Pk)(h:Hs):(pkC p h)[17]? =some (.int .i64 p.will.qos):=rfl
theorem cu(p:Pk)(h:Hs):(pkC p h)[18]? =some (.bool p.will.retain):=rfl
theorem YL(p:Pk)(h:Hs):(pkC p h)[19]? =some (.slice h.wp.a p.will.props.length h.wp.c):=rfl
theorem YP(p:Pk)(h:Hs):(pkC p h)[20]? =some (.bool p.session):=rfl
theorem YB(p:Pk)(h:Hs):(pkC p h)[21]? =some (.int .i64 p.code):=rfl
theorem bS(p:Pk)(h:Hs):(pkC p h)[22]? =some (.slice h.codes.a p.codes.length h.codes.c):=rfl
theorem bP(p:Pk)(h:Hs):(pkC p h)[23]? =some (.slice h.filters.a p.filters.length h.filters.c):=rfl
theorem bR(p:Pk)(h:Hs):(pkC p h)[24]? =some (.slice h.props.a p.props.length h.props.c):=rfl
theorem qO{t:TypeId}{cs:Array Value}(h:Bk W g t cs):∀(d:Nat) (os:Array Obj) (i:Nat),(Sort.grow (redrawn W d) os).cell? ⟨g,i,none⟩=cs[i]? :=λd os i=>(h.below (below_regrown W d os) h.lt).cell i
theorem qp{p:Pk}{h:Hs}(hb:Bk W g PkT (pkC p h)):∀(d:Nat) (os:Array Obj),(kZ (.pointer (some ⟨g,0,none⟩))).run prog (Sort.grow (redrawn W d) os)= .ok (pkV p h) (Sort.grow (redrawn W d) os):=λd os=>cf (hb.below (below_regrown W d os) hb.lt)
theorem jw{P:Program}{f:FuncId}{args:Array Value}{v:Value}(h:∀x,abQ W x->Calls P f args x λe w'=>e= .returned v/\abQ x w'):
  ∀(d:Nat) (os:Array Obj),Calls P f args (Sort.grow (redrawn W d) os) λe w''=>e= .returned v/\∃p:Regrown,w''=Sort.grow (redrawn W p.d) p.os:=λd os=>Calls.regrown_of (h _ (below_regrown W d os))
section
attribute [local go_sem ↓] bD bF
attribute [local go_sem] bc aD cI dC dB dt dj di dA dr dp dn bW co YK bZ YM cz cy cw cu YL YP YB bS bP bR
theorem CN(a b:Pk)(w:abP):(binOp .eql 236 (.agg (sA a)) (.agg (sA b))).run prog w= .ok (.bool (vN a b)) w:=by
 have u1:=underlying3;have u2:=underlying4;have u3:=underlying9;have t:prog.underlying 236=some (.struct (prog.fieldsOf 236)):=by kernel_rfl
 have u:prog.stoodInHeld 236=false:=by kernel_rfl
 rw[run_eql_struct,show(10000:Nat)=9999+1 from rfl,run_equalIn_agg w 9999 236 _ _ t u];simp only[Program.fieldsOf,underlying236];unfold sA vN;go_simp;simp only[toList_inj];by_cases j:a.kind=b.kind
 ·rw[if_pos j,au j,aL];by_cases k:a.qos=b.qos
  ·rw[if_pos k,au k,aL];by_cases l:a.id=b.id
   ·rw[if_pos l,au l,aL];by_cases m:a.alive=b.alive
    ·rw[if_pos m,au m,aL];by_cases n:a.code=b.code
     ·rw[if_pos n,au n,aL];by_cases o:a.dup=b.dup
      ·rw[if_pos o,au o,aL];by_cases p:a.retain=b.retain
       ·rw[if_pos p,au p,aL];by_cases q:a.clean=b.clean
        ·rw[if_pos q,au q,aL];by_cases r:a.hasUser=b.hasUser
         ·rw[if_pos r,au r,aL];by_cases s:a.hasPass=b.hasPass
          ·rw[if_pos s,au s,aL];by_cases c:a.hasWill=b.hasWill
           ·rw[if_pos c,au c,aL];by_cases d:a.session=b.session
            ·rw[if_pos d,au d,aL];by_cases e:a.topic=b.topic
             ·rw[if_pos e,au e,aL];by_cases f:a.payload=b.payload
              ·rw[if_pos f,au f,aL];by_cases g:a.client=b.client
               ·rw[if_pos g,au g,aL];by_cases h:a.user=b.user
                ·rw[if_pos h,au h,aL];by_cases i:a.pass=b.pass
                 ·rw[if_pos i,au i]
                 ·rw[Fl i,ah i]
                ·rw[Fl h,ah h,YH]
               ·rw[Fl g,ah g,YH]
              ·rw[Fl f,ah f,YH]
             ·rw[Fl e,ah e,YH]
            ·rw[Fl d,ah d,YH]
           ·rw[Fl c,ah c,YH]
          ·rw[Fl s,ah s,YH]
         ·rw[Fl r,ah r,YH]
        ·rw[Fl q,ah q,YH]
       ·rw[Fl p,ah p,YH]
      ·rw[Fl o,ah o,YH]
     ·rw[Fl n,ah n,YH]
    ·rw[Fl m,ah m,YH]
   ·rw[Fl l,ah l,YH]
  ·rw[Fl k,ah k,YH]
 ·rw[Fl j,ah j,YH]
def gz(p:Pk):Prop:=p.will.props.length<=4611686018427387904/\p.codes.length<=4611686018427387904/\p.filters.length<=4611686018427387904/\p.props.length<=4611686018427387904
theorem jE(p q:Pk)(h k:Hs)(w:abP)(ip:PkIn w w.heap.size p h)(iq:PkIn w w.heap.size q k)(lp:gz p)(lq:gz q):
  abR 218 #[pkV p h,pkV q k] w (.bool (decide (p=q))):=by
 have y:=ic w (.cells (pkC p h) PkT) (.cells (pkC q k) PkT);have L:Bk ((w.alloc (.cells (pkC p h) PkT)).alloc (.cells (pkC q k) PkT)) w.heap.size PkT (pkC p h):=(Bk.fresh w PkT (pkC p h)).alloc _;have M:Bk ((w.alloc (.cells (pkC p h) PkT)).alloc (.cells (pkC q k) PkT)) (w.heap.size+1) PkT (pkC q k):=by
  simpa using Bk.fresh (w.alloc (.cells (pkC p h) PkT)) PkT (pkC q k)
 have z:=ip.next y;have A:=iq.next y;have g:=jw (W:=(w.alloc (.cells (pkC p h) PkT)).alloc (.cells (pkC q k) PkT)) (λx _=>rI p h x);have i:=jw (W:=(w.alloc (.cells (pkC p h) PkT)).alloc (.cells (pkC q k) PkT)) (λx _=>rI q k x);have b:=jw (W:=(w.alloc (.cells (pkC p h) PkT)).alloc (.cells (pkC q k) PkT)) (λx o=>sL p.will q.will h.wp k.wp x ((z.next o).wp) ((A.next o).wp) lp.1 lq.1);have m:=jw (W:=(w.alloc (.cells (pkC p h) PkT)).alloc (.cells (pkC q k) PkT)) (λx o=>zU h.codes.a k.codes.a p.codes.length q.codes.length h.codes.c k.codes.c p.codes q.codes x rfl rfl ((z.next o).codes) ((A.next o).codes) lp.2.1 lq.2.1);have r:=jw (W:=(w.alloc (.cells (pkC p h) PkT)).alloc (.cells (pkC q k) PkT)) (λx o=>zV h.filters.a k.filters.a p.filters.length q.filters.length h.filters.c k.filters.c p.filters q.filters x rfl rfl ((z.next o).filters) ((A.next o).filters) lp.2.2.1 lq.2.2.1);have F:=jw (W:=(w.alloc (.cells (pkC p h) PkT)).alloc (.cells (pkC q k) PkT)) (λx o=>se h.props.a k.props.a p.props.length q.props.length h.props.c k.props.c p.props q.props x rfl rfl ((z.next o).props) ((A.next o).props) lp.2.2.2 lq.2.2.2);simp only[wlV,wlC]at b;have G:=qO L;have H:=qO M;have I:=qp L;have J:=qp M;have B:=λW=>CN p q W;have O:=xe;have l:=aa (λd N=>y.trans ((below_regrown ((w.alloc (.cells (pkC p h) PkT)).alloc (.cells (pkC q k) PkT)) d N).mono y.size));have K:=aa (Bh p q);have j:=aa (And.intro g (And.intro i (And.intro b (And.intro m (And.intro r F)))));clear L M ip iq z A y lp lq g i b m r F;cases u:vN p q
 focus
  have D:Hid (decide (p=q)=false):=aa (ah (λx=>by have:=(K.o.1 x).1;rw[u]at this;cases this));rw[u]at B;obtain⟨g,i,-⟩:=j.o;clear u;go_enter func218,ntmps218;go_wp2_with fail;refine wp_region_quiet_below (by as_aux_lemma=>kernel_rfl) (by as_aux_lemma=>kernel_rfl) ?_
  repeat (go_big_quiet_step (first| with_reducible exact g _ _| with_reducible exact i _ _))
  refine kE ?_;intro _ n;obtain⟨⟨s,osq⟩,f⟩:=n;subst f;have E:=aa (l.o s osq);clear G H I J B g i l j
 rotate_left
 focus
  rw[u]at B;by_cases t:p.will=q.will;rotate_left
  focus
   have D:Hid (decide (p=q)=false):=aa (ah (λx=>t (by rw[x])));obtain⟨g,i,b,-⟩:=j.o;rw[ah t]at b;clear u t;go_enter func218,ntmps218;go_wp2_with fail;refine wp_region_quiet_below (by as_aux_lemma=>kernel_rfl) (by as_aux_lemma=>kernel_rfl) ?_
   repeat (go_big_quiet_step (first| with_reducible exact g _ _| with_reducible exact i _ _| with_reducible exact b _ _))
   refine kE ?_;intro _ n;obtain⟨⟨s,osq⟩,f⟩:=n;subst f;have E:=aa (l.o s osq);clear G H I J B g i b l j
  rotate_left;by_cases v:p.codes=q.codes;rotate_left
  focus
   have D:Hid (decide (p=q)=false):=aa (ah (λx=>v (by rw[x])));obtain⟨g,i,b,m,-⟩:=j.o;rw[au t]at b;rw[ah v]at m;clear u t v;go_enter func218,ntmps218;go_wp2_with fail;refine wp_region_quiet_below (by as_aux_lemma=>kernel_rfl) (by as_aux_lemma=>kernel_rfl) ?_
   repeat (go_big_quiet_step (first| with_reducible exact g _ _| with_reducible exact i _ _| with_reducible exact b _ _| with_reducible exact m _ _))
   refine kE ?_;intro _ n;obtain⟨⟨s,osq⟩,f⟩:=n;subst f;have E:=aa (l.o s osq);clear G H I J B g i b m l j
  rotate_left 2;by_cases C:p.filters=q.filters;rotate_left
  focus
   have D:Hid (decide (p=q)=false):=aa (ah (λx=>C (by rw[x])));obtain⟨g,i,b,m,r,-⟩:=j.o;rw[au t]at b;rw[au v]at m;rw[ah C]at r;clear u t v C;go_enter func218,ntmps218;go_wp2_with fail;refine wp_region_quiet_below (by as_aux_lemma=>kernel_rfl) (by as_aux_lemma=>kernel_rfl) ?_
   repeat (go_big_quiet_step (first| with_reducible exact g _ _| with_reducible exact i _ _| with_reducible exact b _ _| with_reducible exact m _ _| with_reducible exact r _ _))
   refine kE ?_;intro _ n;obtain⟨⟨s,osq⟩,f⟩:=n;subst f;have E:=aa (l.o s osq);clear G H I J B g i b m r l j
  rotate_left 3;have D:Hid (decide (p=q)=decide (p.props=q.props)):=aa (by rw[eG,cH,cH,K.o];exact⟨λx=>x.2.2.2.2,λx=>⟨u,t,v,C,x⟩⟩);obtain⟨g,i,b,m,r,F⟩:=j.o;rw[au t]at b;rw[au v]at m;rw[au C]at r;clear u t v C;generalize decide (p.props=q.props)=b6 at*;go_enter func218,ntmps218;go_wp2_with fail;refine wp_region_quiet_below (by as_aux_lemma=>kernel_rfl) (by as_aux_lemma=>kernel_rfl) ?_
  repeat (go_big_quiet_step (first| with_reducible exact g _ _| with_reducible exact i _ _| with_reducible exact b _ _| with_reducible exact m _ _| with_reducible exact r _ _| with_reducible exact F _ _))
  refine kE ?_;intro _ n;obtain⟨⟨s,osq⟩,f⟩:=n;subst f;have E:=aa (l.o s osq);clear G H I J B g i b m r F l j
 rotate_left 4
 all_goals
  generalize Sort.grow (redrawn _ s) osq=wq at*;go_wp2;go_ret;exact⟨by rw[D.o];rfl,E.o⟩
def wl0:Wl:=⟨⟨#[]⟩,⟨#[]⟩,0,false,[]⟩
def pk0:Pk:=⟨0,false,false,0,0,⟨#[]⟩,⟨#[]⟩,false,0,⟨#[]⟩,false,⟨#[]⟩,false,⟨#[]⟩,false,wl0,false,0,[],[],[]⟩
def qP(v:Array (Nat×Value)):Sem Value:=Instr.build PkT v
def Gr(b:Bool)(v:Value):Sem Value:=Instr.alloc PkT b v
def zc(a v:Value):Sem Unit:=Instr.storeAt PkT a v
theorem bH(v:Array (Nat×Value)):Instr.build PkT v=qP v:=rfl
theorem bI(b:Bool)(v:Value):Instr.alloc PkT b v=Gr b v:=rfl
theorem bu(a v:Value):Instr.storeAt PkT a v=zc a v:=rfl
theorem bg(w:abP):(Gr true (.tuple #[])).run prog w= .ok (.pointer (some ⟨w.heap.size,0,none⟩)) (w.alloc (.cells (pkC pk0 hs0) PkT)):=by kernel_rfl
theorem bK(w:abP):(qP #[]).run prog w= .ok (pkV pk0 hs0) w:=by kernel_rfl
theorem bJ(k:Int)(w:abP):(qP #[(0,.int .i64 k)]).run prog w= .ok (pkV {pk0 with kind:=k} hs0) w:=by kernel_rfl
theorem bd(k i:Int)(w:abP):(qP #[(0,.int .i64 k),(4,.int .i64 i)]).run prog w= .ok (pkV {pk0 with kind:=k,id:=i} hs0) w:=by kernel_rfl
theorem aO(k i c:Int)(l:List Pr)(A:Option Addr)(n:Nat)(w:abP):(qP #[(0,.int .i64 k),(4,.int .i64 i),(17,.int .i64 c),(20,.slice A l.length n)]).run prog w= .ok (pkV {pk0 with kind:=k,id:=i,code:=c,props:=l} {hs0 with props:=⟨A,n⟩}) w:=by kernel_rfl
theorem AU{p:Pk}{h:Hs}(hb:Bk w g PkT (pkC p h)):w.there g 0 25:=λj a=>by
 rw[bV,hb.cell,hb.free];refine⟨?_,rfl⟩;rw[eL (by rw[bo];exact a)];rfl
theorem yy(p:Pk)(h:Hs):(pkC p h).all (·.oneCell')=true:=by simp[pkC,Value.oneCell']
def dE(w:abP)(g:Nat)(q:Pk)(k:Hs):abP:=w.setCells g 0 (pkC q k).toList
theorem aW{p:Pk}{h:Hs}(hb:Bk w g PkT (pkC p h))(q:Pk)(k:Hs):(zc (.pointer (some ⟨g,0,none⟩)) (pkV q k)).run prog w= .ok () (dE w g q k):=by
 unfold zc;exact run_storeAt_mid w g 0 PkT (pkC q k) (by rw[bo];exact AU hb) (by rw[bo];exact tk) (yy q k)
def nP(cs:Array Value):Nat->List Value->Array Value
 | _,[]=>cs
 | o,v :: vs=>nP (cs.setIfInBounds o v) (o+1) vs
theorem rS:∀(vs:List Value) (o:Nat) (cs:Array Value),(nP cs o vs).size=cs.size
 | [],_,_=>rfl
 | v :: vs,o,cs=>by rw[nP,rS vs];simp
theorem yr:∀(vs:List Value) (o:Nat) (cs:Array Value) (i:Nat),i<cs.size->(nP cs o vs)[i]? =if o<=i/\i<o+vs.length then vs[i- o]? else cs[i]?
 | [],o,cs,i,_=>by rw[nP,Fl (by simp<;>omega)]
 | v :: vs,o,cs,i,hi=>by
   rw[nP,yr vs (o+1) _ i (by simpa using hi)];by_cases h:i=o
   ·subst h;rw[Fl (by omega),if_pos (by simp)];simp[hi]
   ·by_cases h2:o+1<=i/\i<o+1+vs.length
    ·rw[if_pos h2,if_pos (by simp;omega)];rw[show i- o=(i- (o+1))+1 by omega];simp
    ·rw[Fl h2,Fl (by simp;omega)];rw[eK (λe=>h e.symm)]
theorem qa{cs ds:Array Value}(h:ds.size=cs.size):nP cs 0 ds.toList=ds:=by
 apply Il;intro i;by_cases a:i<cs.size
 ·rw[yr _ _ _ _ a,if_pos (by simp;omega)];simp
 ·rw[Array.getElem?_eq_none (by rw[rS];omega),Array.getElem?_eq_none (by omega)]
theorem oH:∀(vs:List Value) (o:Nat) {w:abP} {g:Nat} {t:TypeId} {cs:Array Value},Bk w g t cs->Bk (w.setCells g o vs) g t (nP cs o vs)
 | [],_,_,_,_,_,h=>h
 | v :: vs,o,_,_,_,_,h=>oH vs (o+1) (h.put o v)
theorem cO{p:Pk}{h0:Hs}(h:Bk w g PkT (pkC p h0))(q:Pk)(k:Hs):Bk (dE w g q k) g PkT (pkC q k):=by
 have:=oH (pkC q k).toList 0 h;rw[qa (by rw[bo,bo])]at this;exact this
theorem cJ(w:abP)(g:Nat)(q:Pk)(k:Hs):w.grownBy (dE w g q k) (some g):=by
 have:∀(a:List Value) (o:Nat) (x:abP),w.grownBy x (some g)->w.grownBy (x.setCells g o a) (some g):=by
  intro a
  induction a with
  | nil=>intro o x b;exact b
  | cons v a ih=>intro o x b;exact ih (o+1) _ (b.trans (YR x g o v))
 exact this _ 0 w (jy w _)
theorem io(w:abP)(t:TypeId):∀(vs:List Value) (o:Nat) (cs:Array Value),(w.alloc (.cells cs t)).setCells w.heap.size o vs=w.alloc (.cells (nP cs o vs) t)
 | [],_,_=>rfl
 | v :: vs,o,cs=>by
   rw[World.setCells,nP,<-io w t vs (o+1) (cs.setIfInBounds o v)];rw[World.setCell_alloc_at _ _ _ _ _ rfl]
theorem uK(w:abP)(p q:Pk)(h k:Hs):dE (w.alloc (.cells (pkC p h) PkT)) w.heap.size q k=w.alloc (.cells (pkC q k) PkT):=by
 unfold dE;rw[io,qa (by rw[bo,bo])]
theorem ax(w:abP)(p q:Pk)(h k:Hs):(zc (.pointer (some ⟨w.heap.size,0,none⟩)) (pkV q k)).run prog (w.alloc (.cells (pkC p h) PkT))= .ok () (w.alloc (.cells (pkC q k) PkT)):=by
 rw[aW (Bk.fresh w PkT (pkC p h)),uK]
end
section
structure St (w:abP) (l:List (Nat×Pk×Hs)) (x:abP):Prop where
 kept:abQ w x
 pks:∀(i g:Nat) (p:Pk) (h:Hs),l[i]? =some (g,p,h)->w.heap.size<=g/\Bk x g PkT (pkC p h)/\PkIn x x.heap.size p h
section
variable {w x y:abP} {l:List (Nat×Pk×Hs)} {g:Nat} {p:Pk} {h:Hs}
theorem St.start(w:abP):St w [] w:=⟨aq _ _,λi g p h e=>by simp at e⟩
theorem St.below(s:St w l x)(hb:abQ x y):St w l y:=
 ⟨Yf s.kept hb,λi g p h e=>by obtain⟨b,a,c⟩:=s.pks i g p h e;exact⟨b,Yh a hb,c.next hb⟩⟩
theorem St.alloc(s:St w l x)(o:Obj):St w l (x.alloc o):=s.below ((aq _ _).alloc (ac _) o)
theorem St.drewN(s:St w l x)(n:Nat):St w l (x.drewN n):=s.below (aV (aq _ _) n)
theorem St.drew(s:St w l x):St w l x.drew:=s.drewN 1
theorem St.push(s:St w l x)(ip:PkIn x x.heap.size p h):St w (l++[(x.heap.size,p,h)]) (x.alloc (.cells (pkC p h) PkT)):=by
 have d:=s.alloc (.cells (pkC p h) PkT);refine⟨d.kept,λi g q k e=>?_⟩;rcases fj i l.length with a| a
 ·rw[jd a]at e;exact d.pks i g q k e
 ·rw[iM a]at e;have c:i- l.length=0:=by
   rcases dh (i- l.length)with b| b
   ·exact b
   ·rw[aG (by simp;omega)]at e;cases e
  rw[c]at e;simp only[aB,aX,bG]at e;obtain⟨rfl,rfl,rfl⟩:=e;exact⟨s.kept.size,Bk.fresh _ _ _,ip.next ((aq _ _).alloc (ac _) _)⟩
theorem St.bk(s:St w l x)(i:Nat)(e:l[i]? =some (g,p,h)):Bk x g PkT (pkC p h):=(s.pks i g p h e).2.1
theorem St.into(s:St w l x)(i:Nat)(e:l[i]? =some (g,p,h)):PkIn x x.heap.size p h:=(s.pks i g p h e).2.2
theorem St.cell(s:St w l x)(i:Nat)(e:l[i]? =some (g,p,h))(j:Nat):x.cell? ⟨g,j,none⟩=(pkC p h)[j]? :=(s.bk i e).cell j
theorem St.ld(s:St w l x)(i:Nat)(e:l[i]? =some (g,p,h)):(kZ (.pointer (some ⟨g,0,none⟩))).run prog x= .ok (pkV p h) x:=cf (s.bk i e)
theorem Rd.grown{B k n:Nat}{xs:List Value}{w':abP}(hr:Rd w B k A n xs)(hm:w.grownBy w' (some g))(hB:B<=w.heap.size)(hg:∀b o,A=some ⟨b,o,none⟩->xs≠[]->b≠g):Rd w' B k A n xs:=by
 refine⟨hr.1,?_⟩;rcases hr.2 with f| ⟨b,o,rfl,h,i⟩
 ·exact .inl f
 ·by_cases d:xs=[]
  ·exact .inl d
  ·have c:=hg b o rfl d;have a:w'.heap[b]? =w.heap[b]? :=hm.block b (by omega) (λe=>by cases e;exact c rfl);refine .inr ⟨b,o,rfl,h,λj u l=>?_⟩;rw[<-i j u l];simp only[World.cell?,a]
end
end
