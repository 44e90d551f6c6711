/- Parts: MCnu. -/
import Derived.Test.YtafoknnjekegkaaGreatDoorLqG0PubK
set_option maxRecDepth 10000
set_option maxHeartbeats 8000000
namespace Go.Proofs.YtafoknnjekegkaaGreatDoor
open Go.RowKit Go.Proofs.Tryz
variable {v k e:Int}{t s:abO}{x w:abP}{p:Pk}{r:Pk×Nat×Int}{gc a g gr:Nat}{h:Hs}
section
abbrev lP:TypeId:=153
structure BX (w:abP) (gr gc:Nat) (v:Int) (t:abO) (a:Nat) (e:Int) (x:abP):Prop where
 mods:w.grownBy x (some gc)
 box:Bk x gr lP #[.pointer (some ⟨gc,0,none⟩),.int .i64 v]
 cur:Cur x gc t a e
 ne:gr≠gc
section
variable {w x y:abP} {gr gc:Nat} {v:Int} {t:abO} {a a':Nat} {e e':Int}
theorem BX.start(h:Cur w gc t a e)(v:Int):BX w w.heap.size gc v t a e (w.alloc (.cells #[.pointer (some ⟨gc,0,none⟩),.int .i64 v] lP)):=
 ⟨Y7 ((aq _ _).alloc (ac _) _) _,Bk.fresh _ _ _,h.below ((aq _ _).alloc (ac _) _),by have:=h.lt;omega⟩
theorem BX.below(h:BX w gr gc v t a e x)(hb:abQ x y):BX w gr gc v t a e y:=
 ⟨h.mods.trans (Y7 hb _),Yh h.box hb,h.cur.below hb,h.ne⟩
theorem BX.turn(h:BX w gr gc v t a e x)(hc:Cur y gc t a' e')(hm:x.grownBy y (some gc)):BX w gr gc v t a' e' y:=
 ⟨h.mods.trans hm,h.box.mods (S:=λz=>z=gc) (qb hm rfl) h.ne,hc,h.ne⟩
theorem BX.drewN(h:BX w gr gc v t a e x)(n:Nat):BX w gr gc v t a e (x.drewN n):=h.below (aV (aq _ _) n)
end
abbrev SB(gr gc:Nat)(v:Int)(w0 x:abP):Prop:=x.cell? ⟨gr,0,none⟩=some (.pointer (some ⟨gc,0,none⟩))/\x.cell? ⟨gr,1,none⟩=some (.int .i64 v)/\w0.grownBy x (some gc)
theorem SB.below{w0 y:abP}(h:SB gr gc v w0 x)(hb:abQ x y):SB gr gc v w0 y:=
 ⟨(hb.cell (p:=⟨gr,0,none⟩) (eY _ _ h.1)).trans h.1,(hb.cell (p:=⟨gr,1,none⟩) (eY _ _ h.2.1)).trans h.2.1,h.2.2.trans (Y7 hb _)⟩
theorem SB.turn{w0 y:abP}(h:SB gr gc v w0 x)(hm:x.grownBy y (some gc))(hne:gr≠gc):SB gr gc v w0 y:=by
 have c:=eY _ _ h.1;have b:y.heap[gr]? =x.heap[gr]? :=(qb (S:=λz=>z=gc) hm rfl).block gr c hne;exact⟨(iG (a:=⟨gr,0,none⟩) b).trans h.1,(iG (a:=⟨gr,1,none⟩) b).trans h.2.1,h.2.2.trans hm⟩
theorem BX.sb(h:BX w gr gc v t a e x):SB gr gc v x x:=⟨h.box.cell 0,h.box.cell 1,Yn _ _⟩
theorem gM(gc a:Nat)(t:abO)(e v:Int)(b:Bool)(n:Int)(w:abP)(h:Cur w gc t a e):
  Calls prog 151 #[.agg #[.pointer (some ⟨gc,0,none⟩),.int .i64 v],.bool b,.int .i64 n] w λe' w'=>e'= .returned (.tuple #[])/\Cur w' gc t a (if b=true then e else fh e n)/\w.grownBy w' (some gc):=by
 have c:=aa (BX.start h v);clear h;go_enter func151,ntmps151;cases b
 ·go_wp2_with fail;refine(cB gc a t e n _ c.o.cur).mono ?_;rintro e' i ⟨rfl,f,g⟩;have d:=aa (c.o.turn f g);clear f g;go_wp2
  go_end0
  exact⟨rfl,d.o.cur,d.o.mods⟩
 ·go_wp2
  go_end0
  exact⟨rfl,c.o.cur,c.o.mods⟩
theorem jB(gc a:Nat)(t:abO)(e v:Int)(w:abP)(h:Cur w gc t a e):
  Calls prog 216 #[.agg #[.pointer (some ⟨gc,0,none⟩),.int .i64 v]] w λe' w'=>e'= .returned (.string (Y3 t a e).1)/\Cur w' gc t (Y3 t a e).2.1 (Y3 t a e).2.2/\w.grownBy w' (some gc):=by
 have f:=aa (BX.start h v);have i:=gU t a e h.at_most.1;have j:Hid (Y3 t a e=aH t (aH t a e 2).2.1 (aH t a e 2).2.2 (br t a e 2:Nat)):=aa rfl;clear h;go_enter func216,ntmps216;go_wp2_with fail;refine(dR gc a t e 2 _ f.o.cur (by decide)).mono ?_;rintro e' k ⟨rfl,b,c⟩;have d:=aa (f.o.turn b c);clear b c;generalize br t a e 2=n at*;generalize (aH t a e 2).2.1=a1 at*;generalize (aH t a e 2).2.2=e1 at*;have l:IntKind.i64.wrap (n:Int)=(n:Int):=by rw[aQ];omega
 have m:k.cell? ⟨w.heap.size,0,none⟩=some (.pointer (some ⟨gc,0,none⟩)):=d.o.box.cell 0;clear i;go_wp2_with fail;refine(eo gc a1 t e1 n _ d.o.cur).mono ?_;rintro e' o ⟨rfl,b,c⟩;have g:=aa (d.o.turn b c);clear b c;go_wp2;go_ret;rw[j.o];exact⟨rfl,g.o.cur,g.o.mods⟩
theorem ph(gc a:Nat)(t:abO)(e v:Int)(w:abP)(h:Cur w gc t a e):
  Calls prog 215 #[.agg #[.pointer (some ⟨gc,0,none⟩),.int .i64 v]] w λe' w'=>e'= .returned (.string (fX t a e).1)/\Cur w' gc t (fX t a e).2.1 (fX t a e).2.2/\w.grownBy w' (some gc):=by
 have o:=aa (BX.start h v);have m:=aa (nw t a e h.at_most.1);have k:Hid (fX t a e=((Y3 t a e).1,(Y3 t a e).2.1,if YF (Y3 t a e).1=true then(Y3 t a e).2.2 else fh (Y3 t a e).2.2 6)):=aa rfl;clear h;go_enter func215,ntmps215;go_wp2_with fail;refine(jB gc a t e v _ o.o.cur).mono ?_;rintro e' j ⟨rfl,p,q⟩;have b:=aa (o.o.turn p q);clear p q;generalize Y3 t a e=r at*;obtain⟨s,y,z⟩:=r;simp only at b m k⊢;have g:w.heap.size≠gc:=b.o.ne;have i:=b.o.sb;go_wp2_with fail
 go_region_held3 (λx=>x.cell? ⟨w.heap.size,0,none⟩=some (.pointer (some ⟨gc,0,none⟩))/\x.cell? ⟨w.heap.size,1,none⟩=some (.int .i64 v)/\j.grownBy x (some gc))
  (first| exact(SB.below i (aV (aq _ _) _)) | exact SB.below (by assumption) c| exact SB.turn (by assumption) f g| go_keep)
  (first| (go_at_call 208;refine(fk s _ (by have:=m.o;omega)).mono ?_;rintro e A ⟨rfl,c⟩)
        | (go_at_call 151;refine(gM gc y t z v _ 6 _ ((b.o.drewN 1).cur.below c)).mono ?_;rintro e u ⟨rfl,d,f⟩))
 have n:j.grownBy u (some gc):=(show SB w.heap.size gc v j u by assumption).2.2;have l:=aa (And.intro d (b.o.mods.trans n));clear d n f c i g;go_wp2;go_ret;rw[k.o];exact⟨rfl,l.o.1,l.o.2⟩
def abl(g:Nat)(t:abO)(r:List Pr×Nat×Int)(w:abP)(e:Ending)(w':abP):Prop:=
 ∃A c,e= .returned (.slice A r.1.length c)/\r.1.length<=c/\Rd w' w'.heap.size 4 A r.1.length (prs r.1)/\Cur w' g t r.2.1 r.2.2/\w.grownBy w' (some g)
theorem ur(k:Int)(s:abO):(aZ k s).2.1<=s.size:=by
 by_cases a:(aZ k s).2.2=0
 ·exact(fd (kind:=k) (s:=s) (l:=(aZ k s).1) (n:=(aZ k s).2.1) (by rw[<-a])).2.2
 ·rw[fZ a];exact ag _
theorem qh(gc a:Nat)(t:abO)(e v kind:Int)(w:abP)(h:Cur w gc t a e)(ht:t.size<=140737488351232):
  Calls prog 214 #[.agg #[.pointer (some ⟨gc,0,none⟩),.int .i64 v],.int .i64 kind] w (abl gc t (fv v kind t a e) w):=by
 have d:=aa (BX.start h v);have N:=aa ht;have E:Hid (fv v kind t a e=if v=4\/e≠0 then([],a,e)else((aZ kind (t.extract a t.size)).1,a+(aZ kind (t.extract a t.size)).2.1,(aZ kind (t.extract a t.size)).2.2)):=aa rfl;have J:=aa h.at_most;clear h ht;go_enter func214,ntmps214;by_cases f:v=4
 ·have P:(v==4)=true:=aK.2 f;have i:Hid (fv v kind t a e=([],a,e)):=aa (by rw[E.o,if_pos (.inl f)]);clear f;go_wp2;go_ret;rw[i.o];exact⟨none,0,rfl,ac _,Rd.nil _ _ _ _,d.o.cur,d.o.mods⟩
 have P:(v==4)=false:=ar.2 f;go_wp2_with fail;refine(dG gc a t e _ d.o.cur).mono ?_;rintro z R ⟨rfl,rfl⟩;by_cases q:e=0;rotate_left
 ·have U:(e !=0)=true:=aA.2 q;have i:Hid (fv v kind t a e=([],a,e)):=aa (by rw[E.o,if_pos (.inr q)]);clear f q;go_wp2;go_ret;rw[i.o];exact⟨none,0,rfl,ac _,Rd.nil _ _ _ _,d.o.cur,d.o.mods⟩
 have i:Hid (fv v kind t a e=((aZ kind (t.extract a t.size)).1,a+(aZ kind (t.extract a t.size)).2.1,(aZ kind (t.extract a t.size)).2.2)):=aa (by rw[E.o,Fl (λx=>x.elim f (λy=>y q))]);subst q;clear f;go_wp2_with fail;refine Yg (jG gc a t 0 _ d.o.cur) λR o=>?_;have O:=aa (d.o.below o);clear o
 have M:Hid ((t.extract a t.size).size<=140737488351232):=aa (by rw[aj];have:=N.o;omega);go_wp2_with fail;refine(Zf kind _ _ M.o).mono ?_;rintro z S ⟨A,c,rfl,p,D,o⟩;have s:=aa (O.o.below o);clear o
 have m:=aa (ur kind (t.extract a t.size));have j:Hid ((aZ kind (t.extract a t.size)).2.2≠0->(aZ kind (t.extract a t.size)).2.1=0):=aa λQ=>by rw[fZ Q]
 have C:Hid ((t.extract a t.size).size=t.size- a):=aa (by rw[aj];omega);rw[C.o]at m;have k:=aa p;have B:=aa D
 clear p D M C;generalize aZ kind (t.extract a t.size)=r at*;obtain⟨l,n,x⟩:=r;simp only at i m j k B⊢;have I:S.cell? ⟨w.heap.size,0,none⟩=some (.pointer (some ⟨gc,0,none⟩)):=s.o.box.cell 0;go_wp2_with fail;refine(cB gc a t 0 x _ s.o.cur).mono ?_;rintro z T ⟨rfl,g,b⟩;rw[if_pos rfl]at g;have u:=aa (s.o.turn g b);have F:=aa ((B.o.other s.o.cur.1 (Yo _ _ _) b (ac _)).wider b.size);clear g b I;have I:T.cell? ⟨w.heap.size,0,none⟩=some (.pointer (some ⟨gc,0,none⟩)):=u.o.box.cell 0;go_wp2_with fail;refine(eo gc a t x n _ u.o.cur).mono ?_;rintro z V ⟨rfl,g,b⟩;have K:Hid ((aH t a x n).2=(a+n,x)):=aa (by
  by_cases H:x=0
  ·subst H;rw[dZ (by have:=m.o;have:=J.o;omega)]
  ·rw[fY H,j.o H];rfl)
 rw[K.o]at g;have L:=aa (u.o.turn g b);have G:=aa ((F.o.other u.o.cur.1 (Yo _ _ _) b (ac _)).wider b.size);clear g b I;go_wp2;go_ret;rw[i.o];exact⟨A,c,rfl,k.o,G.o,L.o.cur,L.o.mods⟩
theorem vy:∀f:Fin 256,(bits BinOp.and IntKind.i64 (f.1:Int) 1 !=0)=decide (f.1% 2=1)/\(bits BinOp.and IntKind.i64 (f.1:Int) 2 !=0)=decide (f.1/ 2% 2=1)/\
  (bits BinOp.and IntKind.i64 (f.1:Int) 4 !=0)=decide (f.1/ 4% 2=1)/\(bits BinOp.and IntKind.i64 (f.1:Int) 4==0)= !decide (f.1/ 4% 2=1)/\
  (bits BinOp.and IntKind.i64 ((f.1:Int) / 8) 3==3)=decide (f.1/ 8% 4=3)/\bits BinOp.and IntKind.i64 ((f.1:Int) / 8) 3=((f.1/ 8% 4:Nat):Int)/\(bits BinOp.and IntKind.i64 ((f.1:Int) / 8) 7 !=0)=decide (f.1/ 8% 8≠0)/\
  (bits BinOp.and IntKind.i64 (f.1:Int) 32 !=0)=decide (f.1/ 32% 2=1)/\(bits BinOp.and IntKind.i64 (f.1:Int) 64 !=0)=decide (f.1/ 64% 2=1)/\(bits BinOp.and IntKind.i64 (f.1:Int) 64==0)= !decide (f.1/ 64% 2=1)/\
  (bits BinOp.and IntKind.i64 (f.1:Int) 128 !=0)=decide (f.1/ 128% 2=1):=by decide+kernel
theorem CI(gc:Nat)(v:Int)(f:Nat)(hf:f<256)(w:abP):
  abR 213 #[.agg #[.pointer (some ⟨gc,0,none⟩),.int .i64 v],.int .i64 f] w (.bool (tu v f)):=by
 obtain⟨l,c,d,m,n,g,o,h,i,a,b⟩:=vy ⟨f,hf⟩;simp only at l c d m n g o h i a b;have k:Hid (tu v f=(!(decide (f% 2=1) || decide (f/ 8% 4=3) || (!decide (f/ 4% 2=1)&&decide (f/ 8% 8≠0)))&&(decide (v=5) || !decide (f/ 64% 2=1) || decide (f/ 128% 2=1)))):=aa rfl;have j:=aa ((aq w.heap.size w).alloc (ac _) (.cells #[.pointer (some ⟨gc,0,none⟩),.int .i64 v] 153));clear c d g h i;have q:(v==5)=decide (v=5):=rfl;generalize decide (f% 2=1)=b1 at*;generalize decide (f/ 8% 4=3)=b2 at*;generalize decide (f/ 4% 2=1)=b3 at*;generalize decide (f/ 8% 8≠0)=b4 at*;generalize decide (v=5)=b5 at*;generalize decide (f/ 64% 2=1)=b6 at*;generalize decide (f/ 128% 2=1)=b7 at*;generalize tu v f=R at*;have p:(0:Int)<=(f:Int):=by omega
 go_enter func213,ntmps213;cases b1
 focus
  cases b2
  focus
   cases b3
   focus
    cases b4
    focus
     cases b5
     focus
      cases b6;rotate_left;rotate_left
     rotate_left 2;rotate_left
    rotate_left 3;rotate_left
   rotate_left 4
   focus
    cases b5
    focus
     cases b6;rotate_left;rotate_left
    rotate_left 2;rotate_left
   rotate_left 3
  rotate_left 7;rotate_left
 rotate_left 8;rotate_left
 all_goals
  go_wp2;go_ret;exact⟨by rw[k.o];rfl,j.o⟩
end
section
theorem xf(h:Mods (λz=>z=g) w x):w.grownBy x (some g):=⟨h.os,h.tape,h.output,h.size,λi a b=>h.block i a (λe=>b (by rw[e]))⟩
theorem Ae(h:w.grownBy x (some g)){b:Nat}(hb:w.heap.size<=b)(i:Nat)(u:Value):w.grownBy (x.setCell ⟨b,i,none⟩ u) (some g):=
 xf ((qb (S:=λz=>z=g) h rfl).set b i (.inr hb) u)
theorem PkIn.blk{w':abP}{t:TypeId}{cs:Array Value}(hi:PkIn w w.heap.size p h)(h1:p.codes=[])(h2:p.filters=[])(hb:Bk w g t cs)(hcs:∀(i:Nat) (n:Int),cs[i]? ≠some (Value.int IntKind.u32 n))(hm:w.grownBy w' (some g)):PkIn w' w'.heap.size p h:=
 ⟨(hi.wp.other hb hcs hm (ac _)).wider hm.size,(hi.codes.grown hm (ac _) (λ_ _ _ a=>absurd (by rw[h1];rfl) a)).wider hm.size,
   (hi.filters.grown hm (ac _) (λ_ _ _ a=>absurd (by rw[h2];rfl) a)).wider hm.size,(hi.props.other hb hcs hm (ac _)).wider hm.size,hi.caps⟩
structure CR (w:abP) (gc:Nat) (v:Int) (p:Pk) (h:Hs) (t:abO) (a:Nat) (e:Int) (x:abP):Prop where
 bx:BX w w.heap.size gc v t a e x
 res:Bk x (w.heap.size+1) PkT (pkC pk0 hs0)
 pk:Bk x (w.heap.size+1+1) PkT (pkC p h)
 into:PkIn x x.heap.size p h
 flat:p.codes=[]/\p.filters=[]
 lt:gc<w.heap.size
section
variable {w x y:abP} {gc:Nat} {v:Int} {p p':Pk} {h h':Hs} {t:abO} {a a':Nat} {e e':Int}
theorem CR.below(c:CR w gc v p h t a e x)(hb:abQ x y):CR w gc v p h t a e y:=
 ⟨c.bx.below hb,Yh c.res hb,Yh c.pk hb,c.into.next hb,c.flat,c.lt⟩
theorem CR.drewN(c:CR w gc v p h t a e x)(n:Nat):CR w gc v p h t a e (x.drewN n):=c.below (aV (aq _ _) n)
theorem CR.turn(c:CR w gc v p h t a e x)(hc:Cur y gc t a' e')(hm:x.grownBy y (some gc)):CR w gc v p h t a' e' y:=
 ⟨c.bx.turn hc hm,c.res.mods (S:=λz=>z=gc) (qb hm rfl) (by have:=c.lt;omega),c.pk.mods (S:=λz=>z=gc) (qb hm rfl) (by have:=c.lt;omega),
  c.into.blk c.flat.1 c.flat.2 c.bx.cur.1 (Yo _ _ _) hm,c.flat,c.lt⟩
theorem CR.put(c:CR w gc v p h t a e x)(i:Nat)(u:Value)(he:(pkC p h).setIfInBounds i u=pkC p' h')(hf:p'.codes=[]/\p'.filters=[])
  (hi:PkIn (x.setCell ⟨w.heap.size+1+1,i,none⟩ u) (x.setCell ⟨w.heap.size+1+1,i,none⟩ u).heap.size p' h'):CR w gc v p' h' t a e (x.setCell ⟨w.heap.size+1+1,i,none⟩ u):=
 ⟨⟨Ae c.bx.mods (by omega) i u,c.bx.box.other (by simp;omega) u,⟨c.bx.cur.1.other (by have:=c.lt;simp;omega) u,c.bx.cur.2⟩,c.bx.ne⟩,c.res.other (by simp) u,c.pk.upd i u he,hi,hf,c.lt⟩
theorem CR.set(c:CR w gc v p h t a e x)(i:Nat)(u:Value)(he:(pkC p h).setIfInBounds i u=pkC p' h)(hl:p'.will.props=p.will.props/\p'.codes=p.codes/\p'.filters=p.filters/\p'.props=p.props):
  CR w gc v p' h t a e (x.setCell ⟨w.heap.size+1+1,i,none⟩ u):=by
 refine c.put i u he ⟨hl.2.1.trans c.flat.1,hl.2.2.1.trans c.flat.2⟩ ?_;have:=c.into.blk c.flat.1 c.flat.2 c.pk (dY _ _) (YR x (w.heap.size+1+1) i u);obtain⟨b,d,f,g⟩:=hl;exact⟨by rw[b];exact this.wp,by rw[d];exact this.codes,by rw[f];exact this.filters,by rw[g];exact this.props,by rw[b,d,f,g];exact this.caps⟩
theorem CR.setP(c:CR w gc v p h t a e x){A:Option Addr}{n:Nat}{l:List Pr}(hr:Rd x x.heap.size 4 A l.length (prs l))(hn:l.length<=n):
  CR w gc v {p with props:=l} {h with props:=⟨A,n⟩} t a e (x.setCell ⟨w.heap.size+1+1,24,none⟩ (.slice A l.length n)):=by
 refine c.put 24 _ rfl c.flat ?_;have b:=YR x (w.heap.size+1+1) 24 (.slice A l.length n);have:=c.into.blk c.flat.1 c.flat.2 c.pk (dY _ _) b;exact⟨this.wp,this.codes,this.filters,(hr.other c.pk (dY _ _) b (ac _)).wider b.size,this.caps.1,this.caps.2.1,this.caps.2.2.1,hn⟩
theorem CR.setW(c:CR w gc v p h t a e x){A:Option Addr}{n:Nat}{l:List Pr}(hr:Rd x x.heap.size 4 A l.length (prs l))(hn:l.length<=n):
  CR w gc v {p with will:={p.will with props:=l}} {h with wp:=⟨A,n⟩} t a e (x.setCell ⟨w.heap.size+1+1,19,none⟩ (.slice A l.length n)):=by
 refine c.put 19 _ rfl c.flat ?_;have b:=YR x (w.heap.size+1+1) 19 (.slice A l.length n);have:=c.into.blk c.flat.1 c.flat.2 c.pk (dY _ _) b;exact⟨(hr.other c.pk (dY _ _) b (ac _)).wider b.size,this.codes,this.filters,this.props,hn,this.caps.2⟩
end
theorem fz{fn:Func}{p:Tmp}(hr:fn.results= #[.cell p PkT])(tmps:Array Value){q:Pk}(hp:tmps.getD p undef= .pointer (some ⟨g,0,none⟩))(hb:Bk w g PkT (pkC q h)):
  (results fn tmps).run prog w= .ok (pkV q h) w:=by
 have b:=Cn hb;have e:(results fn tmps).run prog w=((asAddr (tmps.getD p undef)).run prog w).andThen λa c=>(loadVar PkT a).run prog c:=by
  simp only[results,hr];simp[Sem.run_bind,Result.andThen]
 rw[e,hp];generalize pkV q h=V at b⊢;exact kG _ (⟨g,0,none⟩:Addr) w _ rfl |>.trans b
def xM(g:Nat)(t:abO)(r:Pk×Nat×Int)(w:abP)(e:Ending)(w':abP):Prop:=
 ∃k,e= .returned (pkV r.1 k)/\PkIn w' w'.heap.size r.1 k/\(r.1.codes=[]/\r.1.filters=[])/\Cur w' g t r.2.1 r.2.2/\w.grownBy w' (some g)
theorem CR.fin(c:CR w gc v p h t a e x):xM gc t (p,a,e) w (.returned (pkV p h)) (dE x (w.heap.size+1) p h):=by
 have b:=cJ x (w.heap.size+1) p h;exact⟨h,rfl,c.into.blk c.flat.1 c.flat.2 c.res (dY _ _) b,c.flat,⟨c.bx.cur.1.mods (S:=λz=>z=w.heap.size+1) (qb b rfl) (by have:=c.lt;omega),c.bx.cur.2⟩,
  ⟨b.os.trans c.bx.mods.os,b.tape.trans c.bx.mods.tape,b.output.trans c.bx.mods.output,aC c.bx.mods.size b.size,λi d f=>(b.block i (by have:=c.bx.mods.size;omega) (λe=>by cases e;omega)).trans (c.bx.mods.block i d f)⟩⟩
def CnM(F:Pk×Nat×Int->Pk×Nat×Int)(RR:Pk×Nat×Int)(w:abP)(gc:Nat)(v:Int)(t:abO)(x:abP):Prop:=
 ∃p h a e,RR=F (p,a,e)/\CR w gc v p h t a e x
theorem xu(gc:Nat)(t:abO)(v:Int)(w:abP)(h:Cur w gc t 0 0)(ht:t.size<=140737488351232)(hv:v=4\/v=5):
  Calls prog 149 #[.agg #[.pointer (some ⟨gc,0,none⟩),.int .i64 v]] w (xM gc t (jS v t) w):=by
 have HX:=aa (BX.start h v);have HT:=aa ht;have HV:=aa hv;have b9:=aa h.lt;have ad:w.heap.size≠gc:=by have:=h.lt;omega
 have aN:Hid (stN t=((aH t 0 0 6).2.1,if(aH t 0 0 6).1=i8 then(aH t 0 0 6).2.2 else fh (aH t 0 0 6).2.2 5)):=aa rfl;have bA:Hid (cnV v t=stV v t (stN t).1 (stN t).2):=aa rfl;have bt:Hid (cnF v t=stG v t (cnV v t).1 (cnV v t).2):=aa rfl;have bu:Hid (cnK v t=stK t (cnF v t).2.1 (cnF v t).2.2):=aa rfl;have bw:Hid (cnP v t=fv v 1 t (cnK v t).2.1 (cnK v t).2.2):=aa rfl;have aS:Hid (cnT v t=fX t (cnP v t).2.1 (cnP v t).2.2):=aa rfl;have O:Hid (cn1 v t=(xz (cnF v t).1 (cnK v t).1 (cnT v t).1 (cnP v t).1,(cnT v t).2.1,(cnT v t).2.2)):=aa rfl;have bz:Hid (jS v t=cn4 t (cn3 t (cn2 v t (cn1 v t)))):=aa rfl;generalize jS v t=RR at*;have b1:∀q k,(zc (.pointer (some ⟨w.heap.size+1+1,0,none⟩)) (pkV q k)).run prog (((w.alloc (.cells #[.pointer (some ⟨gc,0,none⟩),.int .i64 v] lP)).alloc (.cells (pkC pk0 hs0) PkT)).alloc (.cells (pkC pk0 hs0) PkT))=
   .ok () (((w.alloc (.cells #[.pointer (some ⟨gc,0,none⟩),.int .i64 v] lP)).alloc (.cells (pkC pk0 hs0) PkT)).alloc (.cells (pkC q k) PkT)):=λq k=>by
  have h2:((w.alloc (.cells #[.pointer (some ⟨gc,0,none⟩),.int .i64 v] lP)).alloc (.cells (pkC pk0 hs0) PkT)).heap.size=w.heap.size+1+1:=by simp
  have:=ax ((w.alloc (.cells #[.pointer (some ⟨gc,0,none⟩),.int .i64 v] lP)).alloc (.cells (pkC pk0 hs0) PkT)) pk0 q hs0 k;rw[h2]at this;exact this
 clear h ht hv;go_enter func149,ntmps149;have C0:Hid (CR w gc v {pk0 with kind:=1} hs0 t 0 0 (((w.alloc (.cells #[.pointer (some ⟨gc,0,none⟩),.int .i64 v] lP)).alloc (.cells (pkC pk0 hs0) PkT)).alloc (.cells (pkC {pk0 with kind:=1} hs0) PkT))):=aa
  ⟨(HX.o.below ((aq _ _).alloc (ac _) _)).below ((aq _ _).alloc (ac _) _),(by simpa using Bk.fresh (w.alloc (.cells #[.pointer (some ⟨gc,0,none⟩),.int .i64 v] lP)) PkT (pkC pk0 hs0):Bk _ (w.heap.size+1) PkT (pkC pk0 hs0)).alloc _,
    by simpa using Bk.fresh ((w.alloc (.cells #[.pointer (some ⟨gc,0,none⟩),.int .i64 v] lP)).alloc (.cells (pkC pk0 hs0) PkT)) PkT (pkC {pk0 with kind:=1} hs0),PkIn.zero _ _ 1 0 0,⟨rfl,rfl⟩,b9.o⟩
 go_wp2_with fail;clear b1 HX;generalize (((w.alloc (.cells #[.pointer (some ⟨gc,0,none⟩),.int .i64 v] lP)).alloc (.cells (pkC pk0 hs0) PkT)).alloc (.cells (pkC {pk0 with kind:=1} hs0) PkT))=x0 at*;obtain⟨s,be⟩:∃q,{pk0 with kind:=1}=q:=⟨_,rfl⟩;have aP:=aa be.symm;rw[be]at C0;clear be;have K0:=aa (fun(x:abP) (d:Cur x gc t 0 0)=>eo gc 0 t 0 6 x d);generalize aH t 0 0 6=T0 at*;obtain⟨b6,M,e6⟩:=T0;simp only at aN K0;obtain⟨bn,bc⟩:∃bn,(b6.toList==[0,4,77,81,84,84])=bn:=⟨_,rfl⟩;have HN:Hid (stN t=(M,if bn=true then e6 else fh e6 5)):=aa (by
  rw[aN.o];have av:i8.toList=[0,4,77,81,84,84]:=by decide+kernel
  by_cases i:b6=i8
  ·have:bn=true:=by rw[<-bc,i,av];rfl
   rw[if_pos i,this,if_pos rfl]
  ·have:bn=false:=by
    rw[<-bc];refine ar.2 λx=>i ?_;rw[<-av]at x;exact(toList_inj _ _).1 x
   rw[Fl i,this,Fl (by decide)])
 clear aN;have D:=C0.o.bx.sb;go_wp2_with fail
 go_region_held3 (λx=>x.cell? ⟨w.heap.size,0,none⟩=some (.pointer (some ⟨gc,0,none⟩))/\x.cell? ⟨w.heap.size,1,none⟩=some (.int .i64 v)/\x0.grownBy x (some gc))
  (first| exact SB.below D (aV (aq _ _) _) | exact SB.turn (by assumption) o ad| exact SB.turn (by assumption) B ad| go_keep)
  (first| (go_at_call 166;refine(K0.o _ (C0.o.drewN 1).bx.cur).mono ?_;rintro e x1 ⟨rfl,ab,o⟩)
        | (go_at_call 151;refine(gM gc _ t _ v _ 5 _ ab).mono ?_;rintro e x2 ⟨rfl,z,B⟩))
 have Z:=aa (show SB w.heap.size gc v x0 x2 by assumption).2.2;clear D B o ab;have C1:=aa (C0.o.turn z Z.o);clear z Z bc K0 C0;generalize (if bn=true then e6 else fh e6 5)=e0 at*;have cE:IntKind.u64.wrap v=v:=by rw[iZ];have:=HV.o;omega
 have K1:=aa (fun(x:abP) (d:Cur x gc t M e0)=>dR gc M t e0 1 x d (by decide));obtain⟨bv,bd⟩:∃bv,(((br t M e0 1:Nat):Int)==v)=bv:=⟨_,rfl⟩;have HW:Hid (cnV v t=((aH t M e0 1).2.1,if bv=true then(aH t M e0 1).2.2 else fh (aH t M e0 1).2.2 5)):=aa (by
  rw[bA.o,HN.o];unfold stV;by_cases i:((br t M e0 1:Nat):Int)=v
  ·have:bv=true:=by rw[<-bd];exact aK.2 i
   simp only;rw[if_pos i,this,if_pos rfl]
  ·have:bv=false:=by rw[<-bd];exact ar.2 i
   simp only;rw[Fl i,this,Fl (by decide)])
 generalize br t M e0 1=n1 at*;generalize (aH t M e0 1).2.1=a1 at*;generalize (aH t M e0 1).2.2=f1 at*;clear bA HN;have D:=C1.o.bx.sb;go_wp2_with fail
 go_region_held3 (λx=>x.cell? ⟨w.heap.size,0,none⟩=some (.pointer (some ⟨gc,0,none⟩))/\x.cell? ⟨w.heap.size,1,none⟩=some (.int .i64 v)/\x2.grownBy x (some gc))
  (first| exact SB.below D (aV (aq _ _) _) | exact SB.turn (by assumption) o ad| exact SB.turn (by assumption) B ad| go_keep)
  (first| (go_at_call 157;refine(K1.o _ (C1.o.drewN 1).bx.cur).mono ?_;rintro e x3 ⟨rfl,ab,o⟩)
        | (go_at_call 151;refine(gM gc _ t _ v _ 5 _ ab).mono ?_;rintro e x4 ⟨rfl,z,B⟩))
 have Z:=aa (show SB w.heap.size gc v x2 x4 by assumption).2.2;clear D B o ab;have C2:=aa (C1.o.turn z Z.o);clear z Z bd K1 C1 cE;generalize (if bv=true then f1 else fh f1 5)=e1 at*;have j:x4.cell? ⟨w.heap.size,0,none⟩=some (.pointer (some ⟨gc,0,none⟩)):=C2.o.bx.box.cell 0;go_wp2_with fail;refine(dR gc a1 t e1 1 _ C2.o.bx.cur (by decide)).mono ?_;rintro e x5 ⟨rfl,d,f⟩;have C3:=aa (C2.o.turn d f);clear d f j
 have am:=aa (iV t a1 e1);have ak:Hid (cnF v t=(br t a1 e1 1,(aH t a1 e1 1).2.1,if tu v (br t a1 e1 1)=true then(aH t a1 e1 1).2.2 else fh (aH t a1 e1 1).2.2 7)):=aa (by rw[bt.o,HW.o];rfl);generalize br t a1 e1 1=fn at*;generalize (aH t a1 e1 1).2.1=a2 at*;generalize (aH t a1 e1 1).2.2=f2 at*;have cC:IntKind.i64.wrap (fn:Int)=(fn:Int):=by rw[aQ];have:=am.o;omega
 clear C2 bt HW;have KF:=aa (λx:abP=>CI gc v fn am.o x);obtain⟨bf,bI⟩:∃bf,tu v fn=bf:=⟨_,rfl⟩;rw[bI]at ak KF;clear bI;have D:=C3.o.bx.sb;go_wp2_with fail
 go_region_held3 (λx=>x.cell? ⟨w.heap.size,0,none⟩=some (.pointer (some ⟨gc,0,none⟩))/\x.cell? ⟨w.heap.size,1,none⟩=some (.int .i64 v)/\x5.grownBy x (some gc))
  (first| exact SB.below D (aV (aq _ _) _) | exact SB.below (by assumption) o| exact SB.turn (by assumption) B ad| go_keep)
  (first| (go_at_call 213;refine(KF.o _).mono ?_;rintro e x6 ⟨rfl,o⟩)
        | (go_at_call 151;refine(gM gc a2 t f2 v _ 7 _ ((C3.o.drewN 1).below o).bx.cur).mono ?_;rintro e x7 ⟨rfl,z,B⟩))
 have Z:=aa (show SB w.heap.size gc v x5 x7 by assumption).2.2;clear D B o;have g:=aa (C3.o.turn z Z.o);clear z Z KF C3 cC;generalize (if bf=true then f2 else fh f2 7)=e2 at*;have f7:=g.o.pk.free 7;have p7:=(g.o.pk.cell 7).trans (dr _ _)
 have cs:=g.o.pk.free 14;have bh:=(g.o.pk.cell 14).trans (YM _ _)
 have cr:=g.o.pk.free 12;have cG:=(g.o.pk.cell 12).trans (YK _ _)
 have cq:=g.o.pk.free 10;have cF:=(g.o.pk.cell 10).trans (bW _ _)
 have cv:=g.o.pk.free 18;have cJ:=(g.o.pk.cell 18).trans (cu _ _)
 have ct:=g.o.pk.free 17;have cH:=(g.o.pk.cell 17).trans (cw _ _)
 have j:x7.cell? ⟨w.heap.size,0,none⟩=some (.pointer (some ⟨gc,0,none⟩)):=g.o.bx.box.cell 0;obtain⟨-,g2,g4,-,-,g8,-,aY,aZ,-,af⟩:=vy ⟨fn,am.o⟩;simp only at g2 g4 g8 aY aZ af;obtain⟨b2,ba⟩:∃b,decide (fn/ 2% 2=1)=b:=⟨_,rfl⟩;obtain⟨F,bb⟩:∃b,decide (fn/ 4% 2=1)=b:=⟨_,rfl⟩;obtain⟨Q,ah⟩:∃b,decide (fn/ 32% 2=1)=b:=⟨_,rfl⟩;obtain⟨u,ai⟩:∃b,decide (fn/ 64% 2=1)=b:=⟨_,rfl⟩;obtain⟨m,W⟩:∃b,decide (fn/ 128% 2=1)=b:=⟨_,rfl⟩;obtain⟨qq,bg⟩:∃q:Int,((fn/ 8% 4:Nat):Int)=q:=⟨_,rfl⟩;rw[ba]at g2;rw[bb]at g4;rw[ah]at aY;rw[ai]at aZ;rw[W]at af;rw[bg]at g8;have aO:Hid (∀(k:Nat) c l,({s with clean:=b2,hasWill:=F,hasPass:=u,hasUser:=m,will:={s.will with retain:=Q,qos:=qq},alive:=((k:Nat):Int),props:=l,client:=c}:Pk)=xz fn k c l):=aa (by
  intro k c l;rw[<-ba,<-bb,<-ah,<-ai,<-W,<-bg,aP.o];rfl)
 clear ba bb ah ai W bg;have cA:(0:Int)<=(fn:Int):=by omega
 have bp:=aa (gU t a2 e2 g.o.bx.cur.at_most.1);have E:=aa ((((((g.o.set 7 (.bool b2) (p':={s with clean:=b2}) rfl ⟨rfl,rfl,rfl,rfl⟩).set 14 (.bool F) (p':={s with clean:=b2,hasWill:=F}) rfl ⟨rfl,rfl,rfl,rfl⟩).set 12 (.bool u) (p':={s with clean:=b2,hasWill:=F,hasPass:=u}) rfl ⟨rfl,rfl,rfl,rfl⟩).set 10 (.bool m) (p':={s with clean:=b2,hasWill:=F,hasPass:=u,hasUser:=m}) rfl ⟨rfl,rfl,rfl,rfl⟩).set 18 (.bool Q) (p':={s with clean:=b2,hasWill:=F,hasPass:=u,hasUser:=m,will:={s.will with retain:=Q}}) rfl ⟨rfl,rfl,rfl,rfl⟩).set 17 (.int .i64 qq) (p':={s with clean:=b2,hasWill:=F,hasPass:=u,hasUser:=m,will:={s.will with retain:=Q,qos:=qq}}) rfl ⟨rfl,rfl,rfl,rfl⟩);clear g;go_wp2_with fail;refine(dR gc a2 t e2 2 _ E.o.bx.cur (by decide)).mono ?_;rintro e x8 ⟨rfl,d,f⟩;have C6:=aa (E.o.turn d f);clear d f E f7 p7 cs bh cr cG cq cF cv cJ ct cH g2 g4 g8 aY aZ af cA j;have aM:Hid (cnK v t=(br t a2 e2 2,(aH t a2 e2 2).2.1,(aH t a2 e2 2).2.2)):=aa (by rw[bu.o,ak.o];rfl);generalize br t a2 e2 2=kn at*;generalize (aH t a2 e2 2).2.1=a3 at*;generalize (aH t a2 e2 2).2.2=e3 at*;have cD:IntKind.i64.wrap (kn:Int)=(kn:Int):=by rw[aQ];have:=bp.o;omega
 have f8:=C6.o.pk.free 8;have p8:=(C6.o.pk.cell 8).trans (dp _ _)
 have p0:x8.cell? ⟨w.heap.size+1+1,0,none⟩=some (.int .i64 1):=((C6.o.pk.cell 0).trans (cI _ _)).trans (by rw[aP.o]);have j:x8.cell? ⟨w.heap.size,0,none⟩=some (.pointer (some ⟨gc,0,none⟩)):=C6.o.bx.box.cell 0;have G:x8.cell? ⟨w.heap.size,1,none⟩=some (.int .i64 v):=C6.o.bx.box.cell 1;have C7:=aa (C6.o.set 8 (.int .i64 (kn:Int)) (p':={s with clean:=b2,hasWill:=F,hasPass:=u,hasUser:=m,will:={s.will with retain:=Q,qos:=qq},alive:=(kn:Int)}) rfl ⟨rfl,rfl,rfl,rfl⟩);have bq:Hid (cnP v t=fv v 1 t a3 e3):=aa (by rw[bw.o,aM.o]);clear C6 bu bw;go_wp2_with fail;refine(qh gc a3 t e3 v 1 _ C7.o.bx.cur HT.o).mono ?_;rintro e x9 ⟨A,c,rfl,n,X,d,f⟩;rw[<-bq.o]at n X d⊢;clear bq f8 p8 p0 j G cD;generalize cnP v t=r at*;obtain⟨l,a4,e4⟩:=r;simp only at n X d aS O⊢;have C8:=aa (C7.o.turn d f);have C9:=aa (C8.o.setP X n);have cx:=C8.o.pk.free 24;have cK:=(C8.o.pk.cell 24).trans (bR _ _)
 have j:x9.cell? ⟨w.heap.size,0,none⟩=some (.pointer (some ⟨gc,0,none⟩)):=C8.o.bx.box.cell 0;have G:x9.cell? ⟨w.heap.size,1,none⟩=some (.int .i64 v):=C8.o.bx.box.cell 1;clear n X d f C7;go_wp2_with fail;refine(ph gc a4 t e4 v _ C9.o.bx.cur).mono ?_;rintro e y0 ⟨rfl,d,f⟩;rw[<-aS.o]at d⊢;clear aS cx cK j G C8;generalize cnT v t=r at*;obtain⟨cl,a5,e5⟩:=r;simp only at d O⊢;rw[ak.o,aM.o]at O;simp only at O;have aj:=aa (C9.o.turn d f);clear d f C9 ak aM;have R:=aa (aj.o.set 9 (.string cl) (p':={s with clean:=b2,hasWill:=F,hasPass:=u,hasUser:=m,will:={s.will with retain:=Q,qos:=qq},alive:=(kn:Int),props:=l,client:=cl}) rfl ⟨rfl,rfl,rfl,rfl⟩);have f9:=aj.o.pk.free 9;have p9:=(aj.o.pk.cell 9).trans (dn _ _)
 have aL:Hid ((xz fn kn cl l).hasWill=F):=aa (by rw[<-aO.o]);rw[aO.o]at R;generalize xz fn kn cl l=P1 at*;clear aj aO aP bp am;obtain⟨H1,bE⟩:∃H:Hs,{hs0 with props:=⟨A,c⟩}=H:=⟨_,rfl⟩;rw[bE]at R;clear bE;obtain⟨Y1,bG⟩:∃Y,y0.setCell ⟨w.heap.size+1+1,9,none⟩ (.string cl)=Y:=⟨_,rfl⟩;have K:=R;rw[bG]at K;have j:Y1.cell? ⟨w.heap.size,0,none⟩=some (.pointer (some ⟨gc,0,none⟩)):=K.o.bx.box.cell 0;have G:Y1.cell? ⟨w.heap.size,1,none⟩=some (.int .i64 v):=K.o.bx.box.cell 1;have bs:Hid (RR=cn4 t (cn3 t (cn2 v t (P1,a5,e5)))):=aa (by rw[bz.o,O.o]);clear R bz O;have bh:=((K.o.pk.cell 14).trans (YM _ _)).trans (show _=some (Value.bool F) by rw[aL.o])
 go_upto_if 70 with fail
 clear bh f9 p9 bG;go_cut [] (λwx=>CnM (λr=>cn4 t (cn3 t r)) RR w gc v t wx)
 case first=>
  cases F
  ·go_wp2;go_meet
   case rel=>exact⟨P1,_,_,_,by rw[bs.o,cn2,Fl (by rw[aL.o];decide)],K.o⟩
  ·go_wp2_with fail;refine(qh gc a5 t e5 v 16 _ K.o.bx.cur HT.o).mono ?_;rintro e yw ⟨A',c',rfl,n,X,d,f⟩;obtain⟨wl,aw,ew,au⟩:∃(l:List Pr) (a:Nat) (e:Int),fv v 16 t a5 e5=(l,a,e):=⟨_,_,_,rfl⟩;rw[au]at n X d⊢;simp only at n X d⊢
   replace au:=aa au
   have aI:=aa (K.o.turn d f);have L:=aa (aI.o.setW X n);have fx:=aI.o.pk.free 19;have px:=(aI.o.pk.cell 19).trans (YL _ _)
   clear n X d f;obtain⟨Yw,bH⟩:∃Y,yw.setCell ⟨w.heap.size+1+1,19,none⟩ (.slice A' wl.length c')=Y:=⟨_,rfl⟩;rw[bH]at L;obtain⟨HW,bF⟩:∃H:Hs,{H1 with wp:=⟨A',c'⟩}=H:=⟨_,rfl⟩;rw[bF]at L;obtain⟨PW,ap⟩:∃P:Pk,{P1 with will:={P1.will with props:=wl}}=P:=⟨_,rfl⟩;rw[ap]at L
   replace ap:=aa ap
   clear bF;have j:Yw.cell? ⟨w.heap.size,0,none⟩=some (.pointer (some ⟨gc,0,none⟩)):=L.o.bx.box.cell 0;have G:Yw.cell? ⟨w.heap.size,1,none⟩=some (.int .i64 v):=L.o.bx.box.cell 1;go_wp2_with fail;clear fx px bH;refine(ph gc aw t ew v _ L.o.bx.cur).mono ?_;rintro e cQ ⟨rfl,d,f⟩;obtain⟨an,bC,bD,T⟩:∃(S:abO) (a:Nat) (e:Int),fX t aw ew=(S,a,e):=⟨_,_,_,rfl⟩;rw[T]at d⊢;simp only at d⊢
   replace T:=aa T
   have aE:=aa (L.o.turn d f);have N:=aa (aE.o.set 15 (.string an) (p':={(PW:Pk)with will:={(PW:Pk).will with topic:=an}}) rfl ⟨rfl,rfl,rfl,rfl⟩);have fx:=aE.o.pk.free 15;have px:=(aE.o.pk.cell 15).trans (cz _ _)
   clear d f j G;obtain⟨bB,a9⟩:∃Y,cQ.setCell ⟨w.heap.size+1+1,15,none⟩ (.string an)=Y:=⟨_,rfl⟩;rw[a9]at N;obtain⟨V,I⟩:∃P:Pk,{(PW:Pk)with will:={(PW:Pk).will with topic:=an}}=P:=⟨_,rfl⟩;rw[I]at N
   replace I:=aa I
   have j:bB.cell? ⟨w.heap.size,0,none⟩=some (.pointer (some ⟨gc,0,none⟩)):=N.o.bx.box.cell 0;have G:bB.cell? ⟨w.heap.size,1,none⟩=some (.int .i64 v):=N.o.bx.box.cell 1;go_wp2_with fail;clear fx px a9;refine(jB gc bC t bD v _ N.o.bx.cur).mono ?_;rintro e cR ⟨rfl,d,f⟩;obtain⟨ao,ci,cn,U⟩:∃(S:abO) (a:Nat) (e:Int),Y3 t bC bD=(S,a,e):=⟨_,_,_,rfl⟩;rw[U]at d⊢;simp only at d⊢
   replace U:=aa U
   have aF:=aa (N.o.turn d f);have aG:=aa (aF.o.set 16 (.string ao) (p':={(V:Pk)with will:={(V:Pk).will with payload:=ao}}) rfl ⟨rfl,rfl,rfl,rfl⟩);have fx:=aF.o.pk.free 16;have px:=(aF.o.pk.cell 16).trans (cy _ _)
   clear d f j G;obtain⟨c7,b0⟩:∃Y,cR.setCell ⟨w.heap.size+1+1,16,none⟩ (.string ao)=Y:=⟨_,rfl⟩;rw[b0]at aG;obtain⟨bP,J⟩:∃P:Pk,{(V:Pk)with will:={(V:Pk).will with payload:=ao}}=P:=⟨_,rfl⟩;rw[J]at aG
   replace J:=aa J
   have cb:Hid (RR=cn4 t (cn3 t (bP,ci,cn))):=aa (by
    rw[bs.o];unfold cn2;rw[if_pos aL.o]
    unfold Aw rz ZK;simp only;rw[au.out];simp only;rw[T.o];simp only;rw[U.o,<-J.out,<-I.out,<-ap.out])
   go_wp2;go_meet
   case rel=>exact⟨_,_,_,_,cb.o,aG.o⟩
 obtain⟨P,H,a,e,hR,hC⟩:=hcut;have HR:=aa hR;have C:=aa hC;clear hR hC;obtain⟨b,i⟩:∃b,P.hasUser=b:=⟨_,rfl⟩;have HB:=aa i;have p:=((C.o.pk.cell 10).trans (bW _ _)).trans (show _=some (Value.bool b) by rw[i]);clear i
 go_upto_if 84 with fail
 clear p;go_cut [] (λwx=>CnM (cn4 t) RR w gc v t wx)
 case first=>
  cases b
  ·go_wp2;go_meet
   case rel=>exact⟨P,_,_,_,by rw[HR.o,cn3,Fl (by rw[HB.o];decide)],C.o⟩
  ·have j:wc.cell? ⟨w.heap.size,0,none⟩=some (.pointer (some ⟨gc,0,none⟩)):=C.o.bx.box.cell 0;have G:wc.cell? ⟨w.heap.size,1,none⟩=some (.int .i64 v):=C.o.bx.box.cell 1;go_wp2_with fail;refine(ph gc a t e v _ C.o.bx.cur).mono ?_;rintro e y ⟨rfl,d,f⟩;obtain⟨S,a7,e7,hS⟩:∃(S:abO) (a7:Nat) (e7:Int),fX t a e=(S,a7,e7):=⟨_,_,_,rfl⟩;rw[hS]at d⊢;simp only at d⊢;have HS:=aa hS;have g:=aa (C.o.turn d f);have E:=aa (g.o.set 11 (.string S) (p':={P with user:=S}) rfl ⟨rfl,rfl,rfl,rfl⟩);have fx:=g.o.pk.free 11;have px:=(g.o.pk.cell 11).trans (co _ _)
   clear d f j G hS;obtain⟨Y,hY⟩:∃Y,y.setCell ⟨w.heap.size+1+1,11,none⟩ (.string S)=Y:=⟨_,rfl⟩;rw[hY]at E;go_wp2;go_meet
   case rel=>exact⟨_,_,_,_,by rw[HR.o,cn3,if_pos HB.o,HS.o],E.o⟩
 obtain⟨P,H,a,e,hR,hC⟩:=hcut;have HR:=aa hR;have C:=aa hC;clear hR hC;obtain⟨b,i⟩:∃b,P.hasPass=b:=⟨_,rfl⟩;have HB:=aa i;have p:=((C.o.pk.cell 12).trans (YK _ _)).trans (show _=some (Value.bool b) by rw[i]);clear i;cases b
 ·have hl:=cf C.o.pk;have cB:=aW C.o.res;go_wp2;refine abZ (fz rfl _ rfl (cO C.o.res _ _)) rfl ?_;rw[show RR=(P,_,_) by rw[HR.o,cn4,Fl (by rw[HB.o];decide)]];exact C.o.fin
 ·have j:wc.cell? ⟨w.heap.size,0,none⟩=some (.pointer (some ⟨gc,0,none⟩)):=C.o.bx.box.cell 0;have G:wc.cell? ⟨w.heap.size,1,none⟩=some (.int .i64 v):=C.o.bx.box.cell 1;go_wp2_with fail;refine(jB gc a t e v _ C.o.bx.cur).mono ?_;rintro e y ⟨rfl,d,f⟩;obtain⟨S,a7,e7,hS⟩:∃(S:abO) (a7:Nat) (e7:Int),Y3 t a e=(S,a7,e7):=⟨_,_,_,rfl⟩;rw[hS]at d⊢;simp only at d⊢;have HS:=aa hS;have g:=aa (C.o.turn d f);have E:=aa (g.o.set 13 (.string S) (p':={P with pass:=S}) rfl ⟨rfl,rfl,rfl,rfl⟩);have fx:=g.o.pk.free 13;have px:=(g.o.pk.cell 13).trans (bZ _ _)
  clear d f j G hS;obtain⟨Y,hY⟩:∃Y,y.setCell ⟨w.heap.size+1+1,13,none⟩ (.string S)=Y:=⟨_,rfl⟩;rw[hY]at E;have hl:=cf E.o.pk;have cB:=aW E.o.res;go_wp2;refine abZ (fz rfl _ rfl (cO E.o.res _ _)) rfl ?_;rw[show RR=(_,_,_) by rw[HR.o,cn4,if_pos HB.o,HS.o]];exact E.o.fin
theorem Bn(b:Bool)(c:Int)(l:List Pr)(A:Option Addr)(n:Nat)(w:abP):(qP #[(0,.int .i64 2),(16,.bool b),(17,.int .i64 c),(20,.slice A l.length n)]).run prog w= .ok (pkV {pk0 with kind:=2,session:=b,code:=c,props:=l} {hs0 with props:=⟨A,n⟩}) w:=by kernel_rfl
theorem acl(gc:Nat)(t:abO)(v:Int)(w:abP)(h:Cur w gc t 0 0)(ht:t.size<=140737488351232):
  Calls prog 150 #[.agg #[.pointer (some ⟨gc,0,none⟩),.int .i64 v]] w (xM gc t (lL v t) w):=by
 have X:=aa (BX.start h v);have HT:=aa ht;have f:=aa h.lt;have ay:w.heap.size≠gc:=by have:=h.lt;omega
 have F:Hid (caF t=(br t 0 0 1,(aH t 0 0 1).2.1,if br t 0 0 1<=1 then(aH t 0 0 1).2.2 else fh (aH t 0 0 1).2.2 7)):=aa rfl;have E:Hid (caC t=(br t (caF t).2.1 (caF t).2.2 1,(aH t (caF t).2.1 (caF t).2.2 1).2.1,(aH t (caF t).2.1 (caF t).2.2 1).2.2)):=aa rfl;have G:Hid (caP v t=fv v 2 t (caC t).2.1 (caC t).2.2):=aa rfl;have o:Hid (lL v t=(Ds (caF t).1 (caC t).1 (caP v t).1,(caP v t).2.1,(caP v t).2.2)):=aa rfl;generalize lL v t=RR at*;clear h ht;go_enter func150,ntmps150;have L:=aa (X.o.below ((aq _ _).alloc (ac _) (.cells (pkC pk0 hs0) PkT)));have Y:Hid (Bk ((w.alloc (.cells #[.pointer (some ⟨gc,0,none⟩),.int .i64 v] lP)).alloc (.cells (pkC pk0 hs0) PkT)) (w.heap.size+1) PkT (pkC pk0 hs0)):=aa (by simpa using Bk.fresh (w.alloc (.cells #[.pointer (some ⟨gc,0,none⟩),.int .i64 v] lP)) PkT (pkC pk0 hs0));go_wp2_with fail;refine(dR gc 0 t 0 1 _ L.o.cur (by decide)).mono ?_;rintro e x0 ⟨rfl,d,a⟩;have k:=aa (L.o.turn d a);have R1:=aa (Y.o.mods (S:=λz=>z=gc) (qb a rfl) (by have:=f.o;omega));have ax:=aa (iV t 0 0);clear d a X L Y;generalize br t 0 0 1=n1 at*;generalize (aH t 0 0 1).2.1=a1 at*;generalize (aH t 0 0 1).2.2=f1 at*;obtain⟨bl,q⟩:∃b,decide ((n1:Int)<=1)=b:=⟨_,rfl⟩;have O:Hid (caF t=(n1,a1,if bl=true then f1 else fh f1 7)):=aa (by
  rw[F.o];by_cases hb:n1<=1
  ·rw[if_pos hb,<-q,if_pos (au (by omega))]
  ·rw[Fl hb,<-q,Fl (by rw[ah (by omega)];decide)])
 clear F;have s:x0.cell? ⟨w.heap.size,0,none⟩=some (.pointer (some ⟨gc,0,none⟩)):=k.o.box.cell 0;have U:x0.cell? ⟨w.heap.size,1,none⟩=some (.int .i64 v):=k.o.box.cell 1;go_wp2_with fail;refine(gM gc _ t _ v _ 7 _ k.o.cur).mono ?_;rintro e x2 ⟨rfl,J,K⟩;have Q:=aa K;clear K s U;have u:=aa (k.o.turn J Q.o);have Z:=aa (R1.o.mods (S:=λz=>z=gc) (qb Q.o rfl) (by have:=f.o;omega));clear J Q k R1 q;generalize (if bl=true then f1 else fh f1 7)=e1 at*;have s:x2.cell? ⟨w.heap.size,0,none⟩=some (.pointer (some ⟨gc,0,none⟩)):=u.o.box.cell 0;go_wp2_with fail;refine(dR gc a1 t e1 1 _ u.o.cur (by decide)).mono ?_;rintro e x3 ⟨rfl,d,a⟩;have m:=aa (u.o.turn d a);have R3:=aa (Z.o.mods (S:=λz=>z=gc) (qb a rfl) (by have:=f.o;omega));have W:=aa (iV t a1 e1);have N:Hid (caC t=(br t a1 e1 1,(aH t a1 e1 1).2.1,(aH t a1 e1 1).2.2)):=aa (by rw[E.o,O.o]);clear d a u Z E s;generalize br t a1 e1 1=n2 at*;generalize (aH t a1 e1 1).2.1=a2 at*;generalize (aH t a1 e1 1).2.2=e2 at*;have aA:IntKind.i64.wrap (n2:Int)=(n2:Int):=by rw[aQ];have:=W.o;omega
 have s:x3.cell? ⟨w.heap.size,0,none⟩=some (.pointer (some ⟨gc,0,none⟩)):=m.o.box.cell 0;have U:x3.cell? ⟨w.heap.size,1,none⟩=some (.int .i64 v):=m.o.box.cell 1;obtain⟨b1,I⟩:∃b,((n1:Int)==1)=b:=⟨_,rfl⟩;have y:Hid (decide (n1=1)=b1):=aa (by rw[<-I];rw[eG,cH,aK];omega);have C:Hid (caP v t=fv v 2 t a2 e2):=aa (by rw[G.o,N.o]);go_wp2_with fail;refine(qh gc a2 t e2 v 2 _ m.o.cur HT.o).mono ?_;rintro e V ⟨A,c,rfl,g,x,d,a⟩;rw[<-C.o]at g x d⊢;generalize caP v t=r at*;obtain⟨l,a3,e3⟩:=r;simp only at g x d o⊢;have M:=aa (m.o.turn d a);have R:=aa (R3.o.mods (S:=λz=>z=gc) (qb a rfl) (by have:=f.o;omega));have B:=aa g;have D:=aa x
 clear g x d a m R3 G C I s U;have af:=Bn b1 (n2:Int) l A c;have az:=aW R.o;obtain⟨P,p⟩:∃P:Pk,{pk0 with kind:=2,session:=b1,code:=(n2:Int),props:=l}=P:=⟨_,rfl⟩;obtain⟨H,T⟩:∃H:Hs,{hs0 with props:=⟨A,c⟩}=H:=⟨_,rfl⟩;rw[p,T]at af;have HZ:Hid (RR=(P,a3,e3)):=aa (by
  rw[o.o,O.o,N.o,<-p];unfold Ds;simp only;rw[y.o])
 have HI:Hid (PkIn V V.heap.size P H):=aa (by
  rw[<-p,<-T];exact⟨Rd.nil _ _ _ _,Rd.nil _ _ _ _,Rd.nil _ _ _ _,D.o,ag _,ag _,ag _,B.o⟩)
 have n:Hid (P.codes=[]/\P.filters=[]):=aa (by rw[<-p];exact⟨rfl,rfl⟩);clear p T o O N y D B;go_wp2;refine abZ (fz rfl _ rfl (cO R.o _ _)) rfl ?_;rw[HZ.o];have a:=cJ V (w.heap.size+1) P H;have j:=M.o.mods;exact⟨H,rfl,HI.o.blk n.o.1 n.o.2 R.o (dY _ _) a,n.o,⟨M.o.cur.1.mods (S:=λz=>z=w.heap.size+1) (qb a rfl) (by have:=f.o;omega),M.o.cur.2⟩,
  ⟨a.os.trans j.os,a.tape.trans j.tape,a.output.trans j.output,aC j.size a.size,λi hi hn=>(a.block i (by have:=j.size;omega) (λe=>by cases e;omega)).trans (j.block i hi hn)⟩⟩
theorem qg(ht:t.size<=140737488351232):(∀p∈(fv v k t a e).1,qc p)/\(fv v k t a e).1.length<=1000:=by
 unfold fv;split
 ·exact⟨λ_ h=>(nomatch h),ag _⟩
 ·refine⟨iT (by rw[aj];omega),?_⟩;show(aZ k (t.extract a t.size)).1.length<=1000;by_cases h:(aZ k (t.extract a t.size)).2.2=0
  ·exact kj h
  ·rw[fZ h];exact ag _
theorem qe(h:a<=t.size):(fv v k t a e).2.1<=t.size:=by
 unfold fv;split
 ·exact h
 ·have:=ur k (t.extract a t.size);rw[aj]at this;show a+(aZ k (t.extract a t.size)).2.1<=t.size;omega
theorem nD(t:abO)(a:Nat)(e:Int)(ha:a<=t.size):(fX t a e).1.size<=65535/\(fX t a e).2.1<=t.size:=⟨nw t a e ha,pH t a e ha⟩
structure RdOk (t:abO) (r:Pk×Nat×Int):Prop where
 ok:PkOk r.1
 le:r.2.1<=t.size
theorem F6(ht:t.size<=140737488351232):RdOk t (cn1 v t):=by
 have c:(aH t 0 0 6).2.1<=t.size:=dy (ag _) _ _;have d:(cnV v t).1<=t.size:=dy c _ _;have e:(cnF v t).2.1<=t.size:=dy d _ _;have f:(cnK v t).2.1<=t.size:=dy e _ _;have g:(cnP v t).2.1<=t.size:=qe f;have a:=nD t (cnP v t).2.1 (cnP v t).2.2 g;have b:(∀p∈(cnP v t).1,qc p)/\(cnP v t).1.length<=1000:=qg ht;have i:(cnT v t).1.size<=65535:=a.1;exact⟨⟨λ_ h=>(nomatch h),b.1,λ_ h=>(nomatch h),⟨ag _,ag _,aC i (by decide),ag _,ag _,ag _,ag _⟩,ag _,ag _,ag _,aC b.2 (by decide)⟩,a.2⟩
theorem F5(ht:t.size<=140737488351232)(g:RdOk t r):RdOk t (cn2 v t r):=by
 unfold cn2;split
 ·have d:(ZK v t r.2.1 r.2.2).2.1<=t.size:=qe g.le;have b:=nD t _ (ZK v t r.2.1 r.2.2).2.2 d;have e:(Aw v t r.2.1 r.2.2).1.size<=65535:=nw t _ _ b.2;have f:(Aw v t r.2.1 r.2.2).2.1<=t.size:=pH t _ _ b.2;have c:(∀p∈(ZK v t r.2.1 r.2.2).1,qc p)/\(ZK v t r.2.1 r.2.2).1.length<=1000:=qg ht;have h:(rz v t r.2.1 r.2.2).1.size<=65535:=b.1;have a:=g.ok.texts;exact⟨⟨c.1,g.ok.props,g.ok.topics,⟨a.1,a.2.1,a.2.2.1,a.2.2.2.1,a.2.2.2.2.1,aC h (by decide),aC e (by decide)⟩,aC c.2 (by decide),g.ok.lens.2⟩,f⟩
 ·exact g
theorem F4(g:RdOk t r):RdOk t (cn3 t r):=by
 unfold cn3;split
 ·have b:=nD t r.2.1 r.2.2 g.le;have a:=g.ok.texts;exact⟨⟨g.ok.wp,g.ok.props,g.ok.topics,⟨a.1,a.2.1,a.2.2.1,aC b.1 (by decide),a.2.2.2.2.1,a.2.2.2.2.2⟩,g.ok.lens⟩,b.2⟩
 ·exact g
theorem FZ(g:RdOk t r):RdOk t (cn4 t r):=by
 unfold cn4;split
 ·have b:=nw t r.2.1 r.2.2 g.le;have a:=g.ok.texts;exact⟨⟨g.ok.wp,g.ok.props,g.ok.topics,⟨a.1,a.2.1,a.2.2.1,a.2.2.2.1,aC b (by decide),a.2.2.2.2.2⟩,g.ok.lens⟩,pH t _ _ g.le⟩
 ·exact g
theorem yL(ht:t.size<=140737488351232):RdOk t (jS v t):=FZ (F4 (F5 ht (F6 ht)))
theorem yM(ht:t.size<=140737488351232):RdOk t (lL v t):=by
 have b:(caF t).2.1<=t.size:=dy (ag _) _ _;have c:(caC t).2.1<=t.size:=dy b _ _;have a:(∀p∈(caP v t).1,qc p)/\(caP v t).1.length<=1000:=qg ht;exact⟨⟨λ_ h=>(nomatch h),a.1,λ_ h=>(nomatch h),⟨ag _,ag _,ag _,ag _,ag _,ag _,ag _⟩,ag _,ag _,ag _,aC a.2 (by decide)⟩,qe c⟩
structure RS (w:abP) (gc gr gp:Nat) (v:Int) (p:Pk) (h:Hs) (t:abO) (a:Nat) (e:Int) (x:abP):Prop where
 kept:abQ w x
 res:Bk x w.heap.size PkT (pkC pk0 hs0)
 box:Bk x gr lP #[.pointer (some ⟨gc,0,none⟩),.int .i64 v]
 pk:Bk x gp PkT (pkC p h)
 into:PkIn x x.heap.size p h
 flat:p.codes=[]/\p.filters=[]
 cur:Cur x gc t a e
 ne:w.heap.size<gc/\gc<gr/\gr<gp
section
variable {w x y:abP} {gc gr gp:Nat} {v:Int} {p p':Pk} {h h':Hs} {t:abO} {a a':Nat} {e e':Int}
theorem RS.below(c:RS w gc gr gp v p h t a e x)(hb:abQ x y):RS w gc gr gp v p h t a e y:=
 ⟨Yf c.kept hb,Yh c.res hb,Yh c.box hb,Yh c.pk hb,c.into.next hb,c.flat,c.cur.below hb,c.ne⟩
theorem RS.drewN(c:RS w gc gr gp v p h t a e x)(n:Nat):RS w gc gr gp v p h t a e (x.drewN n):=c.below (aV (aq _ _) n)
theorem RS.turn(c:RS w gc gr gp v p h t a e x)(hc:Cur y gc t a' e')(hm:x.grownBy y (some gc)):RS w gc gr gp v p h t a' e' y:=
 ⟨dw c.kept hm c.kept.size (pf c.ne.1),c.res.mods (S:=λz=>z=gc) (qb hm rfl) (by have:=c.ne;omega),c.box.mods (S:=λz=>z=gc) (qb hm rfl) (by have:=c.ne;omega),
  c.pk.mods (S:=λz=>z=gc) (qb hm rfl) (by have:=c.ne;omega),c.into.blk c.flat.1 c.flat.2 c.cur.1 (Yo _ _ _) hm,c.flat,hc,c.ne⟩
theorem RS.put(c:RS w gc gr gp v p h t a e x)(hi:PkIn x x.heap.size p' h')(hf:p'.codes=[]/\p'.filters=[]):RS w gc gr gp v p' h' t a e (dE x gp p' h'):=by
 have b:=cJ x gp p' h';exact⟨YQ c.kept c.kept.size (by have:=c.ne;omega) _ _,c.res.mods (S:=λz=>z=gp) (qb b rfl) (by have:=c.ne;omega),c.box.mods (S:=λz=>z=gp) (qb b rfl) (by have:=c.ne;omega),
  cO c.pk _ _,hi.blk hf.1 hf.2 c.pk (dY _ _) b,hf,⟨c.cur.1.mods (S:=λz=>z=gp) (qb b rfl) (by have:=c.ne;omega),c.cur.2⟩,c.ne⟩
theorem RS.bad(c:RS w gc gr gp v p h t a e x){r:Pk×Int}{n:Int}(hr:r=(pk0,n)):mu r w (.returned (.tuple #[pkV pk0 hs0,.int .i64 n])) (dE x w.heap.size pk0 hs0):=
 YY hr (YQ c.kept c.kept.size (ac _) _ _)
theorem RS.good(c:RS w gc gr gp v p h t a e x){r:Pk×Int}(hr:r=(p,0)):mu r w (.returned (.tuple #[pkV p h,.int .i64 0])) (dE x w.heap.size p h):=
 fo hr (c.into.blk c.flat.1 c.flat.2 c.res (dY _ _) (cJ _ _ _ _)) (YQ c.kept c.kept.size (ac _) _ _)
end
theorem vI(v k:Int)(s:abO)(w:abP)(hs:s.size<=140737488351232):
  Calls prog 101 #[.int .i64 v,.int .i64 k,.string s] w (mu (iB v k s) w):=by
 have z:=aa hs;have c:=aa ((aq w.heap.size w).alloc (ac _) (.cells (pkC pk0 hs0) PkT));have g:=aa (Bk.fresh w PkT (pkC pk0 hs0));have V:=aW g.o;have C:Hid (iB v k s=if YG v=false\/gm k=false then(pk0,2)else jT v s (if k=1 then jS v s else lL v s)):=aa rfl;clear hs;go_enter func101,ntmps101;go_wp2_with fail;refine(np v _).mono ?_;rintro e d ⟨rfl,rfl⟩;cases t:YG v
 ·have i:Hid (iB v k s=(pk0,2)):=aa (by rw[C.o,if_pos (.inl t)]);clear t;go_wp2;refine abZ (aI rfl _ rfl (cO g.o _ _)) rfl ?_;exact YY i.o (YQ c.o c.o.size (ac _) _ _)
 go_wp2_with fail;refine(oU k _).mono ?_;rintro e d ⟨rfl,rfl⟩;cases I:gm k
 ·have i:Hid (iB v k s=(pk0,2)):=aa (by rw[C.o,if_pos (.inr I)]);clear t I;go_wp2;refine abZ (aI rfl _ rfl (cO g.o _ _)) rfl ?_;exact YY i.o (YQ c.o c.o.size (ac _) _ _)
 have HV:Hid (v=4\/v=5):=aa (aR (show decide (v=4\/v=5)=true from t));have X:Hid (iB v k s=jT v s (if k=1 then jS v s else lL v s)):=aa (by rw[C.o,Fl (λx=>x.elim (λy=>by rw[t]at y;cases y) (λy=>by rw[I]at y;cases y))]);clear t I V C;go_wp2_with fail;refine(jL s _ (by have:=z.o;omega)).mono ?_;rintro e d ⟨rfl,f,m⟩;have M:(w.alloc (.cells (pkC pk0 hs0) PkT)).heap.size=w.heap.size+1:=by simp
 rw[M]at f⊢;have HZ:=aa f.lt;have D:Hid (RS w (w.heap.size+1) d.heap.size (d.heap.size+1) v pk0 hs0 s 0 0 ((d.alloc (.cells #[.pointer (some ⟨w.heap.size+1,0,none⟩),.int .i64 v] lP)).alloc (.cells (pkC pk0 hs0) PkT))):=aa
  ⟨((Yf c.o m).alloc (Yf c.o m).size _).alloc (by have:=(Yf c.o m).size;simp;omega) _,((Yh g.o m).alloc _).alloc _,(Bk.fresh d lP _).alloc _,
    (by simpa using Bk.fresh (d.alloc (.cells #[.pointer (some ⟨w.heap.size+1,0,none⟩),.int .i64 v] lP)) PkT (pkC pk0 hs0)),wM _ _,⟨rfl,rfl⟩,⟨(f.1.alloc _).alloc _,f.2⟩,by omega,HZ.o,by omega⟩
 have T:=Bk.fresh d lP #[.pointer (some ⟨w.heap.size+1,0,none⟩),.int .i64 v];clear f m M c g HZ;by_cases h:k=1
 focus
  have e1:(k==1)=true:=aK.2 h;have R:Hid (iB v k s=jT v s (jS v s)):=aa (by rw[X.o,if_pos h]);have u:=aa (yL (v:=v) z.o).ok;clear h;go_wp2_with fail;refine(xu (w.heap.size+1) s v _ D.o.cur z.o HV.o).mono ?_;rintro e y ⟨W,rfl,H,G,F,U⟩;generalize jS v s=r at*
 rotate_left
 focus
  have e1:(k==1)=false:=ar.2 h;have R:Hid (iB v k s=jT v s (lL v s)):=aa (by rw[X.o,Fl h]);have u:=aa (yM (v:=v) z.o).ok;clear h;go_wp2_with fail;refine(acl (w.heap.size+1) s v _ D.o.cur z.o).mono ?_;rintro e y ⟨W,rfl,H,G,F,U⟩;generalize lL v s=r at*
 rotate_left
 all_goals
  obtain⟨P,a,e⟩:=r;simp only at H G F u⊢;have S:=aa (D.o.turn F U);have j:=aa (S.o.put H G);have n:=aW S.o.pk;clear H G F U T;obtain⟨Y,hY⟩:∃Y,dE y (d.heap.size+1) P W=Y:=⟨_,rfl⟩;rw[hY]at j;obtain⟨bz,A⟩:∃b,(((s.size- a:Nat):Int)==0)=b:=⟨_,rfl⟩;have K:Hid (oV s (P,a,e)=if bz=true then e else fh e 5):=aa (by
   unfold oV;simp only;by_cases J:s.size- a=0
   ·rw[if_pos J,<-A,if_pos (by rw[J];rfl)]
   ·rw[Fl J,<-A,Fl (by intro x;exact J (by have:=aK.1 x;omega))])
  have Q:SB d.heap.size (w.heap.size+1) v Y Y:=⟨j.o.box.cell 0,j.o.box.cell 1,Yn _ _⟩;have O:d.heap.size≠w.heap.size+1:=by have:=j.o.ne;omega
  go_wp2_with fail;clear n hY
  go_region_held3 (λx=>x.cell? ⟨d.heap.size,0,none⟩=some (.pointer (some ⟨w.heap.size+1,0,none⟩))/\x.cell? ⟨d.heap.size,1,none⟩=some (.int .i64 v)/\Y.grownBy x (some (w.heap.size+1)))
   (first| exact SB.below Q (aV (aq _ _) _) | exact SB.below (by assumption) B| exact SB.turn (by assumption) N O| go_keep)
   (first| (go_at_call 152;refine(eI (w.heap.size+1) a s e _ (j.o.drewN 1).cur).mono ?_;rintro e x1 ⟨rfl,B⟩)
         | (go_at_call 151;refine(gM (w.heap.size+1) a s e v _ 5 _ ((j.o.drewN 1).below B).cur).mono ?_;rintro e x2 ⟨rfl,f,N⟩))
  have Z:=aa (show SB d.heap.size (w.heap.size+1) v Y x2 by assumption).2.2;clear Q N B O A;have l:=aa (j.o.turn f Z.o);clear f Z j S D;generalize (if bz=true then e else fh e 5)=e3 at*;have k0:x2.cell? ⟨d.heap.size,0,none⟩=some (.pointer (some ⟨w.heap.size+1,0,none⟩)):=l.o.box.cell 0;go_wp2_with fail;refine(dG (w.heap.size+1) a s e3 _ l.o.cur).mono ?_;rintro e' w2 ⟨rfl,rfl⟩;have n:=aW l.o.res;by_cases p:e3=0;rotate_left
  ·have b3:(e3 !=0)=true:=aA.2 p;have i:Hid (iB v k s=(pk0,e3)):=aa (by rw[R.o];unfold jT;rw[K.o,if_pos p]);clear p;go_wp2;refine abZ (aI rfl _ rfl (cO l.o.res _ _)) rfl ?_;exact l.o.bad i.o
  have L:Hid (iB v k s=if eR v P≠0 then(pk0,eR v P)else(P,0)):=aa (by rw[R.o];unfold jT;rw[K.o,Fl (λx=>x p)]);have b3:(e3 !=0)=false:=by rw[p];rfl
  have hl:=cf l.o.pk;clear p n;go_wp2_with fail;refine Yg (Zh v P W _ l.o.into u.o) λx3 m=>?_;have o:=aa (l.o.below m);have n:=aW o.o.res;have hl:=cf o.o.pk;clear m k0;generalize eR v P=E at*;by_cases q:E=0
  ·have i:Hid (iB v k s=(P,0)):=aa (by rw[L.o,Fl (λx=>x q)]);have bE:(E !=0)=false:=by rw[q];rfl
   clear q;go_wp2;refine abZ (aI rfl _ rfl (cO o.o.res _ _)) rfl ?_;exact o.o.good i.o
  ·have i:Hid (iB v k s=(pk0,E)):=aa (by rw[L.o,if_pos q]);have bE:(E !=0)=true:=aA.2 q;clear q;go_wp2;refine abZ (aI rfl _ rfl (cO o.o.res _ _)) rfl ?_;exact o.o.bad i.o
end
theorem EG:∀f:Fin 256,f.1% 2=0->pc (decide (f.1/ 128% 2=1)) 128+pc (decide (f.1/ 64% 2=1)) 64+pc (decide (f.1/ 32% 2=1)) 32+((f.1/ 8% 4:Nat):Int) % 4*8+pc (decide (f.1/ 4% 2=1)) 4+pc (decide (f.1/ 2% 2=1)) 2=(f.1:Int):=by decide+kernel
theorem su(x:eR v p=0)(h1:p.kind=1):CnGood v p:=by
 obtain⟨l,-,m,a⟩:=nq x;obtain⟨-,⟨e,f⟩,g,⟨h,i⟩,j,k⟩:=mM x;have o:v=4\/v=5:=aR (show decide (v=4\/v=5)=true from l);unfold dU at a;split at a
 ·cases a
 ·next hp=>
  rw[Fl (by omega)]at a;split at a
  ·cases a
  ·next hq=>
   have b:=aR a;refine⟨o,h1,m,λc=>?_,⟨b.1,b.2.1⟩,⟨b.2.2.1,b.2.2.2⟩,λc d=>?_,e,f,λq=>uV (g q),h,i,by rw[<-h1];exact j,k⟩
   ·have:¬0<p.props.length+p.will.props.length:=λy=>hp ⟨c,y⟩;exact⟨aF (by omega),aF (by omega)⟩
   ·cases n:p.hasUser
    ·exact absurd ⟨c,.inr ⟨d,n⟩⟩ hq
    ·rfl
theorem Dn(hr:r.2.1<=t.size)(h:(cn4 t r).2.2=0):r.2.2=0/\(cn4 t r).2.1<=t.size/\(∃x,(cn4 t r).1= {r.1 with pass:=x})/\(ls t).drop r.2.1=fS (cn4 t r).1 ((ls t).drop (cn4 t r).2.1):=by
 unfold cn4 at h⊢;cases a:r.1.hasPass
 ·rw[a,Fl (by decide)]at h;rw[Fl (by decide)];refine⟨h,hr,⟨r.1.pass,rfl⟩,?_⟩;unfold fS;rw[a,Fl (by decide)]
 ·rw[a,if_pos rfl]at h;rw[if_pos rfl];obtain⟨b,c,-,d⟩:=xC h;refine⟨b,c,⟨_,rfl⟩,?_⟩;unfold fS;simp only;rw[a,if_pos rfl];exact d
theorem Dp(hr:r.2.1<=t.size)(h:(cn3 t r).2.2=0):r.2.2=0/\(cn3 t r).2.1<=t.size/\(∃x,(cn3 t r).1= {r.1 with user:=x})/\(ls t).drop r.2.1=fU (cn3 t r).1 ((ls t).drop (cn3 t r).2.1):=by
 unfold cn3 at h⊢;cases a:r.1.hasUser
 ·rw[a,Fl (by decide)]at h;rw[Fl (by decide)];refine⟨h,hr,⟨r.1.user,rfl⟩,?_⟩;unfold fU;rw[a,Fl (by decide)]
 ·rw[a,if_pos rfl]at h;rw[if_pos rfl];obtain⟨b,c,-,-,d⟩:=sC h;refine⟨b,c,⟨_,rfl⟩,?_⟩;unfold fU;simp only;rw[a,if_pos rfl];exact d
theorem vK(hr:r.2.1<=t.size)(h:(cn2 v t r).2.2=0):
  r.2.2=0/\(cn2 v t r).2.1<=t.size/\(∃x y z,(cn2 v t r).1= {r.1 with will:={r.1.will with props:=x,topic:=y,payload:=z}})/\(ls t).drop r.2.1=fW v (cn2 v t r).1 ((ls t).drop (cn2 v t r).2.1):=by
 unfold cn2 at h⊢;cases b:r.1.hasWill
 ·rw[b,Fl (by decide)]at h;rw[Fl (by decide)];refine⟨h,hr,⟨r.1.will.props,r.1.will.topic,r.1.will.payload,rfl⟩,?_⟩;unfold fW;rw[b,Fl (by decide)]
 ·rw[b,if_pos rfl]at h;rw[if_pos rfl];obtain⟨b1,b2,-,c⟩:=xC (t:=t) (a:=(rz v t r.2.1 r.2.2).2.1) (e:=(rz v t r.2.1 r.2.2).2.2) h;obtain⟨d,-,-,-,f⟩:=sC (t:=t) (a:=(ZK v t r.2.1 r.2.2).2.1) (e:=(ZK v t r.2.1 r.2.2).2.2) b1;obtain⟨g,-,-,-,i⟩:=yv (v:=v) (k:=16) hr d;refine⟨g,b2,⟨_,_,_,rfl⟩,?_⟩;unfold fW;simp only;rw[b,if_pos rfl];refine i.trans ?_
  congr 1
  refine f.trans ?_;show Yk (rz v t r.2.1 r.2.2).1.size 2++(ls (rz v t r.2.1 r.2.2).1++(ls t).drop (rz v t r.2.1 r.2.2).2.1)=_;rw[c];rfl
theorem Dq(h:(cn1 v t).2.2=0):(cn1 v t).2.1<=t.size/\(∃f k l c,f<256/\k<65536/\tu v f=true/\(cn1 v t).1=xz f k c l)/\ls t=f1 v (cn1 v t).1 ((ls t).drop (cn1 v t).2.1):=by
 have Q:(stN t).1<=t.size:=dy (ag _) _ _;have R:(cnV v t).1<=t.size:=dy Q _ _;have S:(cnF v t).2.1<=t.size:=dy R _ _;have T:(cnK v t).2.1<=t.size:=dy S _ _;obtain⟨X,Y,-,-,Z⟩:=sC (t:=t) (a:=(cnP v t).2.1) (e:=(cnP v t).2.2) h;obtain⟨V,-,-,-,W⟩:=yv (v:=v) (k:=1) T X;obtain⟨P,o,F⟩:=i7 (t:=t) (a:=(cnF v t).2.1) (e:=(cnF v t).2.2) (k:=2) V;have hF:(cnF v t).2.2=0:=P;unfold cnF stG at hF;simp only at hF;by_cases b:tu v (br t (cnV v t).1 (cnV v t).2 1)=true;rotate_left
 ·rw[Fl b]at hF;exact(gW hF (by decide)).elim
 rw[if_pos b]at hF;obtain⟨D,i,q⟩:=i7 (k:=1) hF;have m:(cnV v t).2=0:=D;unfold cnV stV at m;simp only at m;by_cases d:((br t (stN t).1 (stN t).2 1:Nat):Int)=v;rotate_left
 ·rw[Fl d]at m;exact(gW m (by decide)).elim
 rw[if_pos d]at m;obtain⟨v1,p,I⟩:=i7 (k:=1) m;have j:(stN t).2=0:=v1;unfold stN at j;simp only at j;by_cases g:(aH t 0 0 6).1=i8;rotate_left
 ·rw[Fl g]at j;exact(gW j (by decide)).elim
 rw[if_pos g]at j;obtain⟨-,U,G⟩:=i7 (k:=6) j;have s:stN t=(6,0):=by
  have x:aH t 0 0 6=(t.extract 0 (0+6),0+6,0):=G;unfold stN;rw[if_pos g,x]
 have u:cnV v t=(7,0):=by
  rw[s]at d p I;have N:aH t 6 0 1=(t.extract 6 (6+1),6+1,0):=I;unfold cnV stV;rw[s];simp only at d⊢;rw[if_pos d,N]
 have n:cnF v t=(br t 7 0 1,8,0):=by
  rw[u]at b i q;have y:aH t 7 0 1=(t.extract 7 (7+1),7+1,0):=q;unfold cnF stG;rw[u];simp only at b⊢;rw[if_pos b,y]
 have w:cnK v t=(br t 8 0 2,10,0):=by
  rw[n]at o F;have y:aH t 8 0 2=(t.extract 8 (8+2),8+2,0):=F;unfold cnK stK;rw[n];simp only;rw[y]
 rw[n]at o;rw[u]at b i;rw[s]at d p;simp only at o b i d p;have r:br t 7 0 1<256:=iV _ _ _;have E:br t 8 0 2<65536:=gU _ _ _ (by omega);have z:(cn1 v t).1=xz (br t 7 0 1) (br t 8 0 2) (cnT v t).1 (cnP v t).1:=by unfold cn1;rw[n,w]
 refine⟨Y,⟨_,_,_,_,r,E,b,z⟩,?_⟩;have A:flN (cn1 v t).1=((br t 7 0 1:Nat):Int):=by
  rw[z];refine EG ⟨_,r⟩ ?_;have B:decide (br t 7 0 1% 2=1)=false:=by
   cases O:decide (br t 7 0 1% 2=1)
   ·rfl
   ·unfold tu at b;rw[O]at b;simp at b
  have:=Gy B;show br t 7 0 1% 2=0;omega
 have J:ls t=ls i8++(ls t).drop 6:=by
  have x:aH t 0 0 6=(t.extract 0 (0+6),0+6,0):=G;rw[x]at g;have:=xU (t:=t) (a:=0) (k:=6) U;rw[show t.extract 0 (0+6)=i8 from g]at this;exact this
 have K:=abX (t:=t) (a:=6) p;have L:=abX (t:=t) (a:=7) i;have C:=lY (t:=t) (a:=8) o;have M:(ls t).drop 10=gP v 1 (cnP v t).1++(ls t).drop (cnP v t).2.1:=by
  have:=W;rw[w]at this;exact this.trans (by show _=gP v 1 (fv v 1 t (cnK v t).2.1 (cnK v t).2.2).1++(ls t).drop (fv v 1 t (cnK v t).2.1 (cnK v t).2.2).2.1;rw[w])
 unfold f1;rw[A,z];show ls t=ls i8++(Yk v.toNat 1++(Yk ((br t 7 0 1:Nat):Int).toNat 1++(Yk ((br t 8 0 2:Nat):Int).toNat 2++(gP v 1 (cnP v t).1++(Yk (cnT v t).1.size 2++(ls (cnT v t).1++(ls t).drop (cnT v t).2.1))))));rw[dN,dN,<-show br t 6 0 1=v.toNat from by have:((br t 6 0 1:Nat):Int)=v:=d;omega];have H:(ls t).drop (cnP v t).2.1=Yk (cnT v t).1.size 2++(ls (cnT v t).1++(ls t).drop (cnT v t).2.1):=Z;rw[<-H,<-M,<-C,<-L,<-K];exact J
theorem Ax(h:(jS v t).2.2=0):(jS v t).2.1<=t.size/\(jS v t).1.kind=1/\ls t=f1 v (jS v t).1 (fW v (jS v t).1 (fU (jS v t).1 (fS (jS v t).1 ((ls t).drop (jS v t).2.1)))):=by
 have Q:(cn1 v t).2.1<=t.size->(cn2 v t (cn1 v t)).2.2=0->(cn2 v t (cn1 v t)).2.1<=t.size:=λa b=>(vK a b).2.1;have w:(cn4 t (cn3 t (cn2 v t (cn1 v t)))).2.2=0:=h;have d:(cn1 v t).2.1<=t.size:=by
  have x:(stN t).1<=t.size:=dy (ag _) _ _;have d:(cnV v t).1<=t.size:=dy x _ _;have e:(cnF v t).2.1<=t.size:=dy d _ _;have i:(cnK v t).2.1<=t.size:=dy e _ _;exact(nD t _ _ (qe i)).2
 have e:(cn2 v t (cn1 v t)).2.1<=t.size:=by
  unfold cn2;split
  ·exact pH _ _ _ (nD t _ _ (qe d)).2
  ·exact d
 have i:(cn3 t (cn2 v t (cn1 v t))).2.1<=t.size:=by
  unfold cn3;split
  ·exact(nD t _ _ e).2
  ·exact e
 obtain⟨I,y,⟨E,A⟩,q⟩:=Dn i w;obtain⟨H,P,⟨D,m⟩,p⟩:=Dp e I;obtain⟨G,O,⟨C,F,B,j⟩,o⟩:=vK d H;obtain⟨N,⟨f,k,l,c,L,M,J,z⟩,n⟩:=Dq G;have g:(jS v t).1= {(cn1 v t).1 with will:={(cn1 v t).1.will with props:=C,topic:=F,payload:=B},user:=D,pass:=E}:=by
  show(cn4 t (cn3 t (cn2 v t (cn1 v t)))).1=_;rw[A,m,j]
 refine⟨y,?_,?_⟩
 ·rw[g,z];rfl
 have K:fS (cn4 t (cn3 t (cn2 v t (cn1 v t)))).1=fS (jS v t).1:=rfl;have u:∀R,fU (cn3 t (cn2 v t (cn1 v t))).1 R=fU (jS v t).1 R:=λR=>by
  rw[g,m,j];rfl
 have s:∀R,fW v (cn2 v t (cn1 v t)).1 R=fW v (jS v t).1 R:=λR=>by
  rw[g,j];rfl
 have r:∀R,f1 v (cn1 v t).1 R=f1 v (jS v t).1 R:=λR=>by
  rw[g];rfl
 refine n.trans ?_;rw[r,o,s,p,u,q];rfl
structure CaGood (v:Int) (p:Pk):Prop where
 ver:v=4\/v=5
 kind:p.kind=2
 same:p= {pk0 with kind:=p.kind,props:=p.props,session:=p.session,code:=p.code}
 old:v=4->p.props=[]
 code:0<=p.code/\p.code<256
 props:(aM 2 p.props).2=0
theorem Az(x:eR v p=0)(h2:p.kind=2):CaGood v p:=by
 obtain⟨c,-,d,a⟩:=nq x;obtain⟨-,-,-,-,b,-⟩:=mM x;have f:v=4\/v=5:=aR (show decide (v=4\/v=5)=true from c);refine⟨f,h2,by rw[<-qI h2];exact d,λe=>?_,Av x h2,by rw[<-h2];exact b⟩;unfold dU at a;split at a
 ·cases a
 ·next hp=>
  have:¬0<p.props.length+p.will.props.length:=λy=>hp ⟨e,y⟩;exact aF (by omega)
theorem Gl(v:Int)(p:Pk)(h:p.kind=2)(R:List UInt8):ls (vP v p)++R=[(if p.session=true then(1:UInt8)else 0)]++(Yk p.code.toNat 1++(gP v 2 p.props++R)):=by
 unfold vP;rw[h];simp only[lK,nt,jo,pL,List.append_assoc,dX]
theorem Ay(h:(lL v t).2.2=0):(lL v t).2.1<=t.size/\(lL v t).1.kind=2/\ls t=ls (vP v (lL v t).1)++(ls t).drop (lL v t).2.1:=by
 have s:(caF t).2.1<=t.size:=dy (ag _) _ _;have u:(caC t).2.1<=t.size:=dy s _ _;obtain⟨w,x,-,-,y⟩:=yv (v:=v) (k:=2) u h;obtain⟨l,c,i⟩:=i7 (t:=t) (a:=(caF t).2.1) (e:=(caF t).2.2) (k:=1) w;have hF:(caF t).2.2=0:=l;unfold caF at hF;simp only at hF;by_cases g:br t 0 0 1<=1;rotate_left
 ·rw[Fl g]at hF;exact(gW hF (by decide)).elim
 rw[if_pos g]at hF;obtain⟨-,z,q⟩:=i7 (k:=1) hF;have b:caF t=(br t 0 0 1,1,0):=by
  have f:aH t 0 0 1=(t.extract 0 (0+1),0+1,0):=q;unfold caF;rw[if_pos g,f]
 have d:caC t=(br t 1 0 1,2,0):=by
  rw[b]at c i;have f:aH t 1 0 1=(t.extract 1 (1+1),1+1,0):=i;unfold caC;rw[b];simp only;rw[f]
 rw[b]at c;have m:=abX (t:=t) (a:=0) (by omega);have o:=abX (t:=t) (a:=1) c;have p:(ls t).drop 2=gP v 2 (caP v t).1++(ls t).drop (caP v t).2.1:=by
  have:=y;rw[d]at this;exact this.trans (by show _=gP v 2 (fv v 2 t (caC t).2.1 (caC t).2.2).1++(ls t).drop (fv v 2 t (caC t).2.1 (caC t).2.2).2.1;rw[d])
 have j:(lL v t).1=Ds (br t 0 0 1) (br t 1 0 1) (caP v t).1:=by unfold lL;rw[b,d]
 refine⟨x,by rw[j];rfl,?_⟩;rw[j,Gl v _ rfl];have r:Yk (br t 0 0 1) 1=[(if(Ds (br t 0 0 1) (br t 1 0 1) (caP v t).1).session=true then(1:UInt8)else 0)]:=by
  show _=[(if decide (br t 0 0 1=1)=true then(1:UInt8)else 0)];generalize br t 0 0 1=n at*;have:n=0\/n=1:=by omega
  rcases this with rfl| rfl<;>rfl
 rw[<-r];show ls t=Yk (br t 0 0 1) 1++(Yk ((br t 1 0 1:Nat):Int).toNat 1++(gP v 2 (caP v t).1++(ls t).drop (caP v t).2.1));rw[dN,<-p,<-o];exact m
def rdK(v k:Int)(t:abO):Pk×Nat×Int:=if k=1 then jS v t else lL v t
theorem Dk(x:eR v p=0):p.kind=1\/p.kind=2:=by
 obtain⟨-,a,-,-⟩:=nq x;exact aR (show decide (p.kind=1\/p.kind=2)=true from a)
theorem og(x:eR v p=0):Dm v p=((if p.kind=2 then vP v p else EY v p),0):=by
 unfold Dm Fg;by_cases h:p.kind=2
 ·rw[if_pos h,if_pos x,if_pos h]
 ·rw[Fl h,if_pos x,Fl h]
theorem aaX(hk:k=1\/k=2)(h:(rdK v k t).2.2=0):
  (rdK v k t).2.1<=t.size/\(rdK v k t).1.kind=k/\(eR v (rdK v k t).1=0->ls t=ls (Dm v (rdK v k t).1).1++(ls t).drop (rdK v k t).2.1):=by
 unfold rdK at h⊢;rcases hk with rfl| rfl
 ·rw[if_pos rfl]at h⊢;obtain⟨b,a,c⟩:=Ax h;refine⟨b,a,λx=>?_⟩;rw[og x,Fl (by omega)];exact c.trans (Gk (su x a) _).symm
 ·rw[Fl (by decide)]at h⊢;obtain⟨b,a,c⟩:=Ay h;refine⟨b,a,λx=>?_⟩;rw[og x,if_pos a];exact c
theorem E0(hv:YG v=true)(hk:gm k=true):iB v k s=jT v s (rdK v k s):=by
 unfold iB;rw[Fl (λx=>x.elim (λy=>by rw[hv]at y;cases y) (λy=>by rw[hk]at y;cases y))];rfl
theorem oe:((iB v k s).2≠0/\(iB v k s).1=pk0)\/(YG v=true/\gm k=true/\(rdK v k s).2.2=0/\s.size- (rdK v k s).2.1=0/\eR v (rdK v k s).1=0/\iB v k s=((rdK v k s).1,0)):=by
 cases d:YG v
 ·left;unfold iB;rw[if_pos (.inl d)];exact⟨by decide,rfl⟩
 cases c:gm k
 ·left;unfold iB;rw[if_pos (.inr c)];exact⟨by decide,rfl⟩
 rw[E0 d c];unfold jT;by_cases a:oV s (rdK v k s)=0
 ·rw[Fl (λx=>x a)];by_cases b:eR v (rdK v k s).1=0
  ·rw[Fl (λx=>x b)];right;unfold oV at a;split at a
   ·next hz=>exact⟨rfl,rfl,a,hz,b,rfl⟩
   ·exact(gW a (by decide)).elim
  ·rw[if_pos b];exact .inl ⟨b,rfl⟩
 ·rw[if_pos a];exact .inl ⟨a,rfl⟩
theorem Au{q:Pk}(h:iB v k s=(q,0)):eR v q=0/\Dm v q=(s,0)/\q.kind=k:=by
 rcases oe (v:=v) (k:=k) (s:=s)with ⟨b,-⟩ | ⟨-,d,e,l,a,f⟩
 ·rw[h]at b;exact absurd rfl b
 ·have g:q=(rdK v k s).1:=congrArg Prod.fst (h.symm.trans f);obtain⟨m,i,j⟩:=aaX (aR (show decide (k=1\/k=2)=true from d)) e;rw[g];refine⟨a,?_,i⟩;have c:=og a;rw[c];have:=j a;rw[gF (by rw[aN];omega),YO,c]at this;exact Prod.ext (eX this).symm rfl
theorem EZ(hs:s.size<=140737488351232):PkOk (iB v k s).1:=by
 rcases oe (v:=v) (k:=k) (s:=s)with ⟨-,a⟩ | ⟨-,-,-,-,-,b⟩
 ·rw[a];exact PkOk.zero 0 0 0
 ·rw[b];unfold rdK;split
  ·exact(yL hs).ok
  ·exact(yM hs).ok
def SV(v:Int)(c:Nat):Bool:=decide (c% 2=1) || decide (c/ 8% 4=3) || (!decide (c/ 4% 2=1)&&decide (c/ 8% 8≠0)) || (decide (v=4)&&decide (c/ 64=1))
theorem TG:∀c:Fin 256,(!decide (c.1/ 64% 2=1) || decide (c.1/ 128% 2=1))= !decide (c.1/ 64=1):=by decide+kernel
theorem abH(hv:v=4\/v=5){c:Nat}(hc:c<256):SV v c= !tu v c:=by
 have:=TG ⟨c,hc⟩;simp only at this;unfold SV tu;rcases hv with rfl| rfl
 ·rw[Bool.or_assoc (decide ((4:Int)=5)),this];simp only[decide_true,show decide ((4:Int)=5)=false from rfl,nB,aL];generalize (decide (c% 2=1) || decide (c/ 8% 4=3) || (!decide (c/ 4% 2=1)&&decide (c/ 8% 8≠0)))=x;generalize decide (c/ 64=1)=y;cases x<;>cases y<;>rfl
 ·simp only[decide_true,show decide ((5:Int)=4)=false from rfl,YH,Bool.or_false,Bool.true_or,IK,Bool.not_not]
