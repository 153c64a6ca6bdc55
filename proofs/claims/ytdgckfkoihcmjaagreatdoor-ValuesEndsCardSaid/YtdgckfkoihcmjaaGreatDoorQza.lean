/- What the proof of the statement leans on (part 27). -/
import Derived.Shelf.Small.Utf8
import Derived.Shelf.Small.Strs
import Derived.Shelf.Small.Wraps
import Derived.Shelf.Strconv.Itoa0
import Derived.Shelf.Strconv.Itoa1
import Derived.Shelf.LaysM
import Derived.Shelf.Strconv.Itoa2
import Derived.Shelf.Strconv.Itoa3
import Derived.Shelf.Strconv.Itoa4
import Derived.Shelf.Strconv.ParseIntEmpty
import Derived.Shelf.Strconv.Clone
import Derived.Shelf.Strconv.SyntaxError
import Derived.Shelf.LaysC
import Derived.Shelf.Strconv.ToError
import Derived.Shelf.Strconv.Lower
import Derived.Shelf.Strconv.ParseUint10
import Derived.Shelf.Strconv.ParseUint10Empty
import Derived.Shelf.Strconv.ParseUint10Any
import Derived.Shelf.Strconv.ParseInt10
import Derived.Shelf.Strconv.RangeError
import Derived.Shelf.Strconv.ToErrorRange
import Derived.Shelf.Strconv.ParseUintEmpty
import Derived.Shelf.Strconv.ParseUint10b64
import Derived.Shelf.Strconv.ParseUint10b32
import Derived.Shelf.Strconv.ParseUint10b16
import Derived.Shelf.Strconv.ParseUint10b8
import Derived.Shelf.Strconv.ParseUint10At
import Derived.Shelf.Strconv.ParseInt10At64
import Derived.Shelf.Strconv.ParseInt10At32
import Derived.Shelf.Strconv.ParseInt10At16
import Derived.Shelf.Strconv.ParseInt10At8
import Derived.Shelf.Strconv.ParseInt10All
import Derived.Shelf.Strconv.ParseIntPublic10
import Derived.Shelf.Strconv.ErrVarParseInt
import Derived.Shelf.Strings.Search1
import Derived.Shelf.Strings.Search2
import Derived.Shelf.Strings.Search3
import Derived.Shelf.Strings.Shaped
import Derived.Shelf.Strings.Prefix
import Derived.Shelf.Strings.Runes
import Derived.Shelf.Strings.AsciiSet
import Derived.Shelf.Unicode.DecodeSlow
import Derived.Shelf.Unicode.DecodeAny
import Derived.Test.YtdgckfkoihcmjaaGreatDoorProg
import Derived.Below
import Derived.KernelRfl
import Derived.Test.YtdgckfkoihcmjaaGreatDoorQz

namespace Go.Proofs.YtdgckfkoihcmjaaGreatDoor
open Go.Proofs.Tryz
open Go Go.Lw
set_option maxRecDepth 20000 set_option maxHeartbeats 4000000
section
variable {x:Tr}{h h' hb:ai}{O O':Nat->Prop}{v ev nv:Value}{l:List Tr}{i rb B m d:Nat}{k:Int}{t:By}{env:List Bd}
def alone (x:Tr):Bool:=decide (x.kind≠7) ||decide (x.kids.length=2)
def IJ (k:Int) (i:Nat) (x:Tr):Bool:=decide (k≠6) ||(decide (i=0) ||(decide (x.kind=10) ||(decide (i≠1) && decide (x.kind=6))))
theorem IA (k:Int) (i:Nat) (x:Tr):gJ k i x=((decide (k=10) ||alone x) && IJ k i x):=by cases x;rfl
theorem II (k:Int) (i:Nat) (x:Tr):(!IJ k i x)=decide (k=6/\0<i/\x.kind≠10/\(i=1\/x.kind≠6)):=by
 unfold IJ;rw[Bool.eq_iff_iff,Bool.not_eq_true',Bool.eq_false_iff];simp only[ne_eq,Bool.or_eq_true,Bool.and_eq_true,decide_eq_true_eq];omega
def LB (x:Tr):Prop:=∀(h:ai) (O:Nat->Prop) (v:Value),GR h->eK h O v x->au Tryz.prog 37 #[v] h (bL fun r h'=>r= .bool (bq aW x)/\aj h h')
theorem Bs (hs:LB x) (hg:GR h) (hv:eK h O v x):au Tryz.prog 81 #[v] h (bL fun r h'=>r= .bool (bq aW x && alone x)/\aj h h'):=by
 cases x with
 |mk k t l =>
  obtain⟨w,rfl,hw⟩:=id hv.open;obtain⟨a,n,c,rfl,hws⟩:=id hw.open;have hn:l.length=n:=hws.len;refine b9 ?_;refine af ?_;refine xo rfl (kH) ?_;rintro _ h1 ⟨rfl,k1,e1,z1⟩;have k1:aD h1 h.size 27 (zF k t a n c):=k1;have hcall:=hs h1 O _ (hg.ah e1) (hv.mv (Mv.ah e1));refine bz ?_;refine dH ?_;refine bl ?_;refine MY (fun(u:Unit) (h':ai)=>aj h1 h') (fun(u:Unit)=>[(2,.bool (bq aW (.mk k t l) && alone (.mk k t l)))]) rfl ?_ ?_
  · refine xp rfl (b7 rfl k1.row) ?_;refine xo rfl (aF rfl hcall) ?_;rintro _ h2 ⟨rfl,e2⟩;refine af ?_;refine dV 5 (fun a=>?_) (fun a=>?_)
    · refine af ?_;refine xp rfl (aA rfl ((k1.ah e2).cell (i:=0) rfl)) ?_;refine af ?_;refine dV 9 (fun b=>?_) (fun b=>?_)
      · have b:¬k=7:=by simpa using b
        refine af ?_;exact uD () e2 ⟨av rfl (by rw[a];unfold alone;rw[decide_eq_true (show Tr.kind (.mk k t l)≠7 from b)];rfl),sb rfl⟩
      · have b:k=7:=by simpa using b
        refine af ?_;refine xp rfl (aA rfl ((k1.ah e2).cell (i:=2) rfl)) ?_;refine af ?_;exact uD () e2 ⟨av rfl (by rw[a,Bool.true_and];unfold alone;rw[decide_eq_false (show ¬Tr.kind (.mk k t l)≠7 from fun q=>q b),Bool.false_or,<-hn,decide_eq_decide];show _↔l.length=2;omega),sb rfl⟩
    · refine af ?_;exact uD () e2 ⟨av rfl (by rw[a];rfl),sb rfl⟩
  · rintro u h2 e2;refine bw ?_;exact⟨_,rfl,rfl,e1.trans e2⟩
theorem sW (word:By->Bool) (k:Int) (i:Nat) (x:Tr) (l:List Tr):gq word k i (x::l)=((bq word x && gJ k i x) && gq word k (i+1) l):=by rw[gq]
theorem rN (word:By->Bool) (k:Int) (t:By) (l:List Tr):bq word (.mk k t l)=(eH word k t l.length && gq word k 0 l):=by rw[bq]
theorem Dk:∀(d:Nat) (x:Tr),x.dep<=d->x.wt<=1000000->LB x:=by
 intro d
 induction d with
 |zero=>intro x hx;cases x with|mk k t l=>simp[Tr.dep] at hx
 |succ d ih =>
 intro x hd hwt h O v hg hv;cases x with
 |mk k t l =>
  obtain⟨w,rfl,hw⟩:=id hv.open;obtain⟨a,n,c,rfl,hws⟩:=id hw.open;have hn:l.length=n:=hws.len;subst hn;have hcap:=hws.cap;have hle:=hws.le;simp only[maxLen] at hcap;have htl:=Eo k t l;rw[rN];refine b9 ?_;refine af ?_;refine xo rfl (kH) ?_;rintro _ h1 ⟨rfl,k1,e1,z1⟩;have k1:aD h1 h.size 27 (zF k t a l.length c):=k1;refine af ?_;refine xp rfl (b7 rfl k1.row) ?_;refine xo rfl (aF rfl (BM (hg.ah e1) k t a l.length c (by omega))) ?_;rintro _ h2 ⟨rfl,e2⟩;have e02:=e1.trans e2;have k2:=k1.ah e2;refine af ?_;refine jo (fun hs=>?_) (fun hs=>?_)
  · have hs:eH aW k t l.length=false:=by simpa using hs
    refine af ?_;refine bw ?_;exact⟨_,rfl,by rw[hs];rfl,e02⟩
  · have hs:eH aW k t l.length=true:=by simpa using hs
    rw[hs,Bool.true_and];refine af ?_;refine xp rfl (aA rfl (k2.cell (i:=2) rfl)) ?_;refine af ?_;refine jd (σ:=Nat) (fun i=>[(11,.int .i64 (i:Nat))]) (fun i g=>i<=l.length/\aj h2 g/\gq aW k i (l.drop i)=gq aW k 0 l) (fun i=>l.length-i) (0) ⟨Nat.zero_le _,Ext.refl _ _,rfl⟩ rfl ?_;rintro i g ⟨hi,eg,hq⟩ ihL;have kg:=k2.ah eg;have e0g:=e02.trans eg;refine af ?_;refine aX (fun hlt=>?_) (fun hlt=>?_)
    · have hil:i<l.length:=by omega
      have hwsg:=hws.mv (Mv.ah e0g);obtain⟨b,o,x,cs,ha,hob,hx,hrow,hR⟩:=Sl.nd hwsg hil;have hxm:x∈l:=List.mem_of_getElem? hx;have hxw:=rM (k:=k) (t:=t) hxm
      have hdr:l.drop i=x::l.drop (i+1):=by
       obtain⟨h1,h2⟩:=List.getElem?_eq_some_iff.1 hx;rw[List.drop_eq_getElem_cons h1,h2]
      rw[hdr,sW,IA] at hq;obtain⟨xk,xt,xa,xn,xc,hcs,hR'⟩:=(eK.of hR).get;obtain rfl:cs=[.int .i64 xk,.string (bs xt),.slice xa xn xc]:=by have:=congrArg (fun v=>match v with|Value.agg cs=>cs.toList|_=>[]) hcs;simpa using this
      have hxk:xk=x.kind:=by cases x with|mk k' t' l'=>obtain⟨v',hv1,_⟩:=mw hR;cases hv1;rfl
      have hst:=ih x (by have:=E6 (k:=k) (t:=t) hxm;omega) (by omega)
      iterate 4 refine bl ?_
      refine cW ?_;refine bz ?_;refine xp rfl (cM rfl rfl i rfl ha) ?_;refine xp rfl (b7 rfl hrow) ?_;refine xo rfl (cH) ?_;rintro _ g1 ⟨rfl,kn,e3,z3⟩;refine af ?_;refine aN rfl (aV rfl rfl kn kW) ?_;rintro _ g2 ⟨rfl,kx,x2,z2⟩;have kx:aD g2 g.size 27 [.int .i64 xk,.string (bs xt),.slice xa xn xc]:=kx;have eg2:aj g g2:=aj.only e3 x2 (Nat.le_refl _);have kg2:=kg.ah eg2;have hg2:=hg.ah (e0g.trans eg2);have hnx:=(eK.of hR).mv (Mv.ah eg2);have hcs:=hst g2 O _ hg2 hnx;have hcv:=Bs hst hg2 hnx;refine dH ?_
      iterate 2 refine bl ?_
      refine MY (fun(u:Unit) (h':ai)=>aj g2 h') (fun(u:Unit)=>[(33,.bool (!(bq aW x && (decide (k=10) ||alone x))))]) rfl ?_ ?_
      · refine af ?_;refine xp rfl (aA rfl (kg2.cell (i:=0) rfl)) ?_;refine af ?_;refine dV 19 (fun p=>?_) (fun p=>?_)
        · have p:=of_decide_eq_true p;refine xp rfl (b7 rfl kx.row) ?_;refine xo rfl (aF rfl hcs) ?_;rintro _ g3 ⟨rfl,e4⟩;refine af ?_;refine dV 24 (fun q=>?_) (fun q=>?_)
          · refine af ?_;exact uD () e4 ⟨av rfl (by have q:bq aW x=false:=by { simpa using q };rw[q];rfl),sb rfl⟩
          · have q:bq aW x=true:=by simpa using q
            refine af ?_;refine xp rfl (aA rfl ((kg2.ah e4).cell (i:=0) rfl)) ?_;refine af ?_;refine RW.cy (d:=28) (b':=false) rfl ((by rw[p];rfl)) ?_;refine af ?_;exact uD () e4 ⟨av rfl (by rw[q,decide_eq_true p];rfl),sb rfl⟩
        · have p:=of_decide_eq_false p;refine af ?_;refine RW.cy (d:=24) (b':=false) rfl (rfl) ?_;refine xp rfl (aA rfl (kg2.cell (i:=0) rfl)) ?_;refine af ?_;refine RW.cy (d:=28) (b':=true) rfl ((by simpa using p)) ?_;refine xp rfl (b7 rfl kx.row) ?_;refine xo rfl (aF rfl hcv) ?_;rintro _ g3 ⟨rfl,e4⟩;refine af ?_;exact uD () e4 ⟨av rfl (by rw[decide_eq_false p,Bool.false_or]),sb rfl⟩
      · rintro u g3 e4;have kg3:=kg2.ah e4;have kx3:=kx.ah e4;refine jo (fun hb=>?_) (fun hb=>?_)
        · have hb:(bq aW x && (decide (k=10) ||alone x))=false:=by rw[Bool.not_eq_true'] at hb;exact hb
          refine af ?_;refine bw ?_;refine⟨_,rfl,?_,(e0g.trans eg2).trans e4⟩;rw[<-hq,<-Bool.and_assoc,hb];rfl
        · have hb:(bq aW x && (decide (k=10) ||alone x))=true:=by rw[Bool.not_eq_false'] at hb;exact hb
          rw[<-Bool.and_assoc,hb,Bool.true_and] at hq
          iterate 2 refine bl ?_
          refine gG [(54,.bool (decide (k=6/\0<i/\xk≠10/\(i=1\/xk≠6))))] rfl ?_ ?_
          · refine af ?_;refine xp rfl (aA rfl (kg3.cell (i:=0) rfl)) ?_;refine af ?_;refine dV 37 (fun p=>?_) (fun p=>?_)
            · have p:=of_decide_eq_true p;refine af ?_;refine dV 41 (fun q=>?_) (fun q=>?_)
              · have q:=of_decide_eq_true q;refine af ?_;refine xp rfl (aA rfl (kx3.cell (i:=0) rfl)) ?_;refine af ?_;refine dV 46 (fun r=>?_) (fun r=>?_)
                · have r:¬xk=10:=by simpa using r
                  refine af ?_;refine dV 49 (fun s=>?_) (fun s=>?_)
                  · have s:=of_decide_eq_true s;refine af ?_;exact aH rfl ⟨av rfl (by rw[decide_eq_true (by omega)]),sb rfl⟩
                  · have s:=of_decide_eq_false s;refine af ?_;refine xp rfl (aA rfl (kx3.cell (i:=0) rfl)) ?_;refine af ?_;exact aH rfl ⟨av rfl (by rw[decide_eq_decide];omega),sb rfl⟩
                · have r:xk=10:=by simpa using r
                  refine af ?_;exact aH rfl ⟨av rfl (by rw[decide_eq_false (by omega)]),sb rfl⟩
              · have q:=of_decide_eq_false q;refine af ?_;exact aH rfl ⟨av rfl (by rw[decide_eq_false (by omega)]),sb rfl⟩
            · have p:=of_decide_eq_false p;refine af ?_;exact aH rfl ⟨av rfl (by rw[decide_eq_false (by omega)]),sb rfl⟩
          · rw[hxk,<-II];refine jo (fun hb2=>?_) (fun hb2=>?_)
            · have hb2:IJ k i x=false:=by simpa using hb2
              refine af ?_;refine bw ?_;exact⟨_,rfl,by rw[<-hq,hb2];rfl,(e0g.trans eg2).trans e4⟩
            · have hb2:IJ k i x=true:=by simpa using hb2
              rw[hb2,Bool.true_and] at hq;refine af ?_;exact ihL (i+1) ⟨hil,(eg.trans eg2).trans e4,hq⟩
    · obtain rfl:i=l.length:=by omega
      rw[List.drop_length] at hq;refine af ?_;refine bw ?_;exact⟨_,rfl,by rw[<-hq];rfl,e0g⟩
theorem mT (hw:x.wt<=1000000) (hg:GR h) (hv:eK h O v x):au Tryz.prog 19 #[v] h (bL fun r h'=>r= .bool (bq aW x)/\aj h h'):=by
 obtain⟨k,t,a,n,c,rfl,hR⟩:=id hv.get;refine b9 ?_;refine af ?_;refine xo rfl (kH) ?_;rintro _ h1 ⟨rfl,k1,e1,z1⟩;have hcall:=Dk _ x (Nat.le_refl _) hw h1 O _ (hg.ah e1) (hv.mv (Mv.ah e1));refine af ?_;refine xp rfl (b7 rfl k1.row) ?_;refine xo rfl (aF rfl hcall) ?_;rintro _ h2 ⟨rfl,e2⟩;refine af ?_;refine bw ?_;exact⟨_,rfl,rfl,e1.trans e2⟩
theorem si {a:Option Addr}{n c:Nat}(hws:Sl eN h O a n c l) (hi:i<n) :
 ∃b o x xk xt xa xn xc,a=some ⟨b,o,none⟩/\l[i]? =some x/\Lw.rowAt h b (o+i*3) (zF xk xt xa xn xc)/\eK h O (.agg #[.int .i64 xk,.string (bs xt),.slice xa xn xc]) x/\xk=x.kind/\¬O b:=by
 obtain⟨b,o,x,cs,ha,hob,hx,hrow,hR⟩:=Sl.nd hws hi;cases x with
 |mk k t m =>
  obtain⟨v,rfl,hs⟩:=mw hR;obtain⟨xa,xn,xc,rfl,_⟩:=id hs.open;exact⟨b,o,_,k,t,xa,xn,xc,ha,hx,hrow,eK.of hR,rfl,hob⟩
theorem yA {word:By->Bool}{k:Int}:∀{l:List Tr}{i:Nat}{x:Tr},gq word k i l=true->x∈l->bq word x=true
 | [],_,_,_,h=>by cases h
 |y::l,i,x,q,h=>by
  rw[sW,Bool.and_eq_true,Bool.and_eq_true] at q
  rcases List.mem_cons.1 h with rfl|h
  · exact q.1.1
  · exact yA q.2 h
theorem rR:∀(l:List Tr) (i:Nat),gQ false i l=l.map (bh false)
 | [],_=>by rw[gQ];rfl
 |x::l,i=>by rw[gQ,rR l,Bool.false_and];rfl
theorem uV (b:Bool) (k:Int) (t:By) (l:List Tr):bh b (.mk k t l)=if k=6/\b=true then tQ (gQ (decide (k=6)) 0 l) else uW k t (gQ (decide (k=6)) 0 l):=by rw[bh]
theorem ir (h:k≠6) (b:Bool) (t:By) (l:List Tr):bh b (.mk k t l)=uW k t (l.map (bh false)):=by
 rw[uV,if_neg (fun q=>h q.1),decide_eq_false h,rR]
theorem Dq (h:x.kind≠6) (b:Bool):bh b x=bh false x:=by
 cases x with
 |mk k t l=>have h:k≠6:=h;rw[ir h,ir h]
theorem JS (t:By) (a b c:Tr):bh false (.mk 6 t [a,b,c])=[40]++tQ [bh false a,bh false b,bh true c]++[41]:=by
 rw[uV,if_neg (fun q=>by cases q.2)];simp[gQ,uW]
theorem BK (t:By) (a b c:Tr):bh true (.mk 6 t [a,b,c])=tQ [bh false a,bh false b,bh true c]:=by
 rw[uV,if_pos ⟨rfl,rfl⟩];simp[gQ]
def xu (x:Tr):Prop:=∀(h:ai) (O:Nat->Prop) (v:Value),GR h->eK h O v x->au Tryz.prog 79 #[v] h (bL fun r h'=>r= .string (bs (bh false x))/\aj h h')
def zx (x:Tr):Prop:=∀(h:ai) (O:Nat->Prop) (v:Value),GR h->eK h O v x->au Tryz.prog 121 #[v] h (bL fun r h'=>r= .string (bs (bh true x))/\aj h h')
theorem GB {y z:Tr}(hw:(Tr.mk 6 t [x,y,z]).wt<=1000000) (hx:xu x) (hy:xu y) (hz:xu z) (hz2:z.kind=6->zx z):zx (.mk 6 t [x,y,z]):=by
 intro h O v hg hv;have w1:=rM (k:=6) (t:=t) (l:=[x,y,z]) (x:=x) (by simp);have w2:=rM (k:=6) (t:=t) (l:=[x,y,z]) (x:=y) (by simp);have w3:=rM (k:=6) (t:=t) (l:=[x,y,z]) (x:=z) (by simp);have p1:=jA x false;have p2:=jA y false;have p3:=jA z false;have p4:=jA z true;have q1:=aK (bh false x);have q2:=aK (bh false y);have q3:=aK (bh false z);have q4:=aK (bh true z);obtain⟨w,rfl,hw0⟩:=id hv.open;obtain⟨a,n,c,rfl,hws⟩:=id hw0.open;have hn:3=n:=hws.len;subst hn;rw[BK];refine b9 ?_;refine af ?_;refine xo rfl (kH) ?_;rintro _ h1 ⟨rfl,k1,e1,z1⟩;have k1:aD h1 h.size 27 (zF 6 t a 3 c):=k1;have hws1:=hws.mv (Mv.ah e1);obtain⟨b0,o0,x0,k0,t0,a0,n0,c0,ha0,hx0,hr0,hv0,_,_⟩:=si hws1 (show 0<3 by decide);obtain⟨b0',o1,x1,kk1,t1,a1,n1,c1,ha1,hx1,hr1,hv1,_,_⟩:=si hws1 (show 1<3 by decide);obtain rfl:x0=x:=by cases hx0;rfl
 obtain rfl:x1=y:=by cases hx1;rfl
 have hc0:=hx h1 O _ (hg.ah e1) hv0;refine af ?_;refine lO 15 (fun _=>False) (fun i=>Nat.blt i 15) ?_;refine aG 0 ?_;refine bJ 1 rfl (fun h' e=>aA rfl (e.cell (fun k=>k) (k1.cell (i:=2) rfl))) ?_;refine bJ 2 rfl (fun h' e=>cM rfl rfl 0 rfl ha0 (by decide)) ?_;refine bJ 3 rfl (fun h' e=>b7 rfl (e.rowAt (fun k=>k) hr0)) ?_;refine aG 7 ?_;refine bJ 8 rfl (fun h' e=>aA rfl (e.cell (fun k=>k) (k1.cell (i:=2) rfl))) ?_;refine bJ 9 rfl (fun h' e=>cM rfl rfl 1 rfl ha1 (by decide)) ?_;refine bJ 10 rfl (fun h' e=>b7 rfl (e.rowAt (fun k=>k) hr1)) ?_;refine dR 4 rfl (aF rfl hc0) ?_;rintro _ h2 ⟨rfl,e2⟩;refine⟨fun _=>e2,?_⟩;have l3:(⟨#[105,102,32]⟩:ByteArray).size=3:=rfl;have l1:(⟨#[32]⟩:ByteArray).size=1:=rfl;have l6:(⟨#[32,101,108,115,101,32]⟩:ByteArray).size=6:=rfl;have hc1:=hy h2 O _ ((hg.ah e1).ah e2) (hv1.mv (Mv.ah e2));refine bJ 5 rfl (fun h' e=>az.bK rfl rfl (by simp only[ByteArray.size_append,l3,l1,l6,q1,q2,q3,q4];omega)) ?_;refine bJ 6 rfl (fun h' e=>az.bK rfl rfl (by simp only[ByteArray.size_append,l3,l1,l6,q1,q2,q3,q4];omega)) ?_;refine dR 11 rfl (aF rfl hc1) ?_;rintro _ h3 ⟨rfl,e3⟩;refine⟨fun _=>e3,?_⟩;refine bJ 12 rfl (fun h' e=>az.bK rfl rfl (by simp only[ByteArray.size_append,l3,l1,l6,q1,q2,q3,q4];omega)) ?_;refine bJ 13 rfl (fun h' e=>az.bK rfl rfl (by simp only[ByteArray.size_append,l3,l1,l6,q1,q2,q3,q4];omega)) ?_;have e23:=e2.trans e3;have e03:=e1.trans e23;have k3:=k1.ah e23;have hws3:=hws1.mv (Mv.ah e23);obtain⟨b2',o2,x2,kk2,t2,a2,n2,c2,ha2,hx2,hr2,hv2,hk2,_⟩:=si hws3 (show 2<3 by decide);obtain rfl:x2=z:=by cases hx2;rfl
 have hg3:=hg.ah e03;refine aG 14 ?_;refine iO ?_;refine af ?_;refine xp rfl (aA rfl (k3.cell (i:=2) rfl)) ?_;refine xp rfl (cM rfl rfl 2 rfl ha2 (by decide)) ?_;refine af ?_;refine xp rfl (aA rfl (hr2 0 _ rfl)) ?_;refine af ?_;refine aX (fun c6=>?_) (fun c6=>?_)
 · have hch:=hz2 (by rw[<-hk2];exact c6) h3 O _ hg3 hv2;refine af ?_;refine xp rfl (aA rfl (k3.cell (i:=2) rfl)) ?_;refine xp rfl (cM rfl rfl 2 rfl ha2 (by decide)) ?_;refine xp rfl (b7 rfl hr2) ?_;refine xo rfl (aF rfl hch) ?_;rintro _ h4 ⟨rfl,e4⟩;refine xp rfl (az.bK rfl rfl (by simp only[ByteArray.size_append,l3,l1,l6,q1,q2,q3,q4];omega)) ?_;refine af ?_;refine bw ?_;refine⟨_,rfl,?_,e03.trans e4⟩
   show Value.string (((((bs [105,102,32]++bs (bh false x0))++bs [32])++bs (bh false x1))++bs [32,101,108,115,101,32])++bs (bh true x2))=_
   simp only[cL];rfl
 · have hch:=hz h3 O _ hg3 hv2;refine af ?_;refine xp rfl (aA rfl (k3.cell (i:=2) rfl)) ?_;refine xp rfl (cM rfl rfl 2 rfl ha2 (by decide)) ?_;refine xp rfl (b7 rfl hr2) ?_;refine xo rfl (aF rfl hch) ?_;rintro _ h4 ⟨rfl,e4⟩;refine xp rfl (az.bK rfl rfl (by simp only[ByteArray.size_append,l3,l1,l6,q1,q2,q3,q4];omega)) ?_;refine af ?_;refine bw ?_;refine⟨_,rfl,?_,e03.trans e4⟩;rw[Dq (show x2.kind≠6 from fun q=>c6 (by rw[hk2];exact q)) true]
   show Value.string (((((bs [105,102,32]++bs (bh false x0))++bs [32])++bs (bh false x1))++bs [32,101,108,115,101,32])++bs (bh false x2))=_
   simp only[cL];rfl
structure ql (hb:ai) (rb B:Nat) (O:Nat->Prop) (h:ai) (m:Nat) (ev:Value) (env:List Bd):Prop where
 ext:aj hb h
 blk:aD h rb 67 [.int .i64 (2000-(m:Int))]
 lt:∀b,O b->b<h.size
 own:O rb
 en:aZ eB h O ev env
 ok:vf (B-2*m) env
 mB:2*m<=B
 mL:m<=2000
 hB:B<=1000000
 hrb:hb.size<=rb
def LF (rb:Nat) (O:Nat->Prop) (h:ai) (o:Out) (r:Value) (h':ai):Prop:=∃v,r=packed [v,.int .i64 o.2.1]/\cQ h' O v o.1/\aD h' rb 67 [.int .i64 (2000-(o.2.2:Int))]/\Ext (fun b=>b=rb) h h'
def MG (hb:ai) (rb B d:Nat):Prop:=∀{O:Nat->Prop}{h:ai}{m:Nat}{ev nv:Value}{env:List Bd}{n:Tr},ql hb rb B O h m ev env->m<=d->eK h O nv n->Cl aW n->n.wt<=1000000 ->
 au Tryz.prog 20 #[.pointer (some ⟨rb,0,none⟩),ev,nv] h (bL fun r h'=>LF rb O h (aI d m env n) r h')
def jm (h:ai) (O O':Nat->Prop):Prop:=(∀b,O b->O' b)/\∀b,O' b->O b\/h.size<=b
theorem jm.mv (k:jm h O O') (ho:O rb) (e:Ext (fun b=>b=rb) h h'):Mv O O' h h' :=
 Mv.cu e fun b hb hn=>⟨fun q=>hn (q▸ho),fun q=>(k.2 b q).elim hn (fun q=>by omega)⟩
theorem jm.tj (k:jm h O O') (e:aj h h'):Mv O O' h h' :=
 ⟨e.size,fun b hb hn=>⟨e.block b hb (fun k=>k),fun q=>(k.2 b q).elim hn (fun q=>by omega)⟩⟩
theorem GP {h:ai}(k:∀b,O b->O' b) (g:ai):Mv O' O g g:=⟨Nat.le_refl _,fun b _ hn=>⟨rfl,fun q=>hn (k b q)⟩⟩
theorem ql.next {m':Nat}(I:ql hb rb B O h m ev env) (k:jm h O O') (hm:m'<=m) (e:Ext (fun b=>b=rb) h h') (b:aD h' rb 67 [.int .i64 (2000-(m':Int))])
 (hl:∀b,O' b->b<h'.size):ql hb rb B O' h' m' ev env :=
 ⟨⟨by have:=I.ext.size;have:=e.size;omega,fun b hb _=>(e.block b (by have:=I.ext.size;omega) (by have:=I.hrb;omega)).trans (I.ext.block b hb (fun k=>k))⟩,b,hl,k.1 _ I.own,I.en.mv (k.mv I.own e),iJ I.ok hm,by have:=I.mB;omega,by have:=I.mL;omega,I.hB,I.hrb⟩
theorem ql.yN (I:ql hb rb B O h m ev env) (k:jm h O O') (e:aj h h') (hl:∀b,O' b->b<h'.size):ql hb rb B O' h' m ev env :=
 I.next k (Nat.le_refl _) (e.mono fun _ _ q=>q.elim) (I.blk.ah e) hl
theorem ql.CW (I:ql hb rb B O h m ev env):rb<h.size:=I.blk.lt
abbrev upTo (O:Nat->Prop) (h h':ai):Nat->Prop:=fun b=>O b\/(h.size<=b/\b<h'.size)
theorem cI (O:Nat->Prop) (h h':ai):jm h O (upTo O h h'):=⟨fun _ q=>.inl q,fun _ q=>q.imp id And.left⟩
theorem je (hl:∀b,O b->b<h.size) (hz:h.size<=h'.size):∀b,upTo O h h' b->b<h'.size:=fun b q=>by
 rcases q with q|q
 · have:=hl b q;omega
 · exact q.2
theorem ny (q:eK h O v (.mk k t l)):∃a n c,v= .agg #[.int .i64 k,.string (bs t),.slice a n c]/\eN.R h O [.int .i64 k,.string (bs t),.slice a n c] (.mk k t l)/\Sl eN h O a n c l:=by
 obtain⟨cs,rfl,hR⟩:=q;obtain⟨w,rfl,hs⟩:=mw hR;obtain⟨a,n,c,rfl,hk⟩:=hs.open;exact⟨a,n,c,rfl,hR,hk⟩
theorem getD_at (h:l[i]? =some x):l.getD i bG=x:=by rw[List.getD_eq_getElem?_getD,h];rfl
theorem wL (h:Cl aW (.mk k t l)) (hk:k≠0):(cw k).1<=l.length/\l.length<=(cw k).2:=by
 rcases h with h|h
 · rw[V,bq,Bool.and_eq_true] at h;have h1:=h.1;unfold eH at h1;simp only[Bool.and_eq_true,decide_eq_true_eq] at h1;exact⟨h1.1,h1.2.1⟩
 · cases h;exact absurd rfl hk
theorem cK {O3:Nat->Prop}{g g':ai}{b6:Nat}(hO:∀b,O b->O3 b) (h6:O3 b6) (x:Ext (fun b=>b=b6) g g'):Mv O3 O g g':=Mv.cu x fun b _ hn=>⟨fun q=>hn (q▸h6),fun q=>hn (hO b q)⟩
theorem iB {a:Option Addr}{n c:Nat}(hws:Sl eN h O a n c l) (hi:i<n) :
 ∃b o xk xt xa xn xc,a=some ⟨b,o,none⟩/\(¬O b/\b<h.size)/\Lw.rowAt h b (o+i*3) (zF xk xt xa xn xc)/\eK h O (.agg #[.int .i64 xk,.string (bs xt),.slice xa xn xc]) (l.getD i bG):=by
 obtain⟨b,o,x,xk,xt,xa,xn,xc,ha,hx,hr,hR,_,hO⟩:=si hws hi;exact⟨b,o,xk,xt,xa,xn,xc,ha,⟨hO,dL hr (by simp)⟩,hr,by rw[getD_at hx];exact hR⟩
theorem Gc (ih:MG hb rb B d) (I:ql hb rb B O h m ev env) (hm:m<=d) (hn:eK h O nv (.mk 7 t l)) (hc:Cl aW (.mk 7 t l)) (hw:(Tr.mk 7 t l).wt<=1000000) :
 au Tryz.prog 43 #[.pointer (some ⟨rb,0,none⟩),ev,nv] h (bL fun r h'=>LF rb O h (DH (aI d) m env t l) r h'):=by
 obtain⟨na,nn,nc,rfl,hR,hks⟩:=ny hn;have hkn:=hks.len;subst hkn;obtain⟨hl1,hl2⟩:=wL hc (by decide);have hl1:1<=l.length:=hl1;have hl2:l.length<=2:=hl2;obtain⟨b0,o0,k0,t0,a0,n0,c0,ha0,hb0,hr0,hk0⟩:=iB hks (i:=0) (by omega);have hrl:=I.CW;refine b9 ?_;refine af ?_;refine xo rfl (kH) ?_;rintro _ h1 ⟨rfl,k5,e1,z1⟩;refine xo rfl (cH) ?_;rintro _ h2 ⟨rfl,k6,e2,z2⟩;have e12:=e1.trans e2;have k5:aD h2 h.size 27 [.int .i64 7,.string (bs t),.slice na l.length nc]:=k5.ah e2;have m2:=cI O h h2;have I2:=I.yN m2 e12 (je I.lt e12.size);have o1:=iH B d m env (l.getD 0 bG) I.mB I.ok (cR hw 0);have hih:=ih I2 hm (hk0.mv (m2.tj e12)) (hc.jW 0) (cR hw 0);unfold DH;generalize aI d m env (l.getD 0 bG)=o at hih o1 ⊢;obtain⟨v,e,m'⟩:=o;obtain⟨hm',hvk,hlt⟩:=o1;dsimp only at hm' hvk hlt ⊢;refine af ?_;refine xp rfl (aA rfl (k5.cell (i:=2) rfl)) ?_;refine xp rfl (cM rfl rfl 0 rfl ha0) ?_;refine xp rfl (b7 rfl (e12.rowAt (fun k=>k) hr0)) ?_;refine xo rfl (aF rfl hih) ?_;rintro _ h3 ⟨v3,rfl,hv3,b3,e3⟩;dsimp only at hv3 b3;obtain⟨nk,nt,xa,xn,xc,ea,en,ec,rfl,_,hR3,_⟩:=cQ.get hv3;refine af ?_;refine xo rfl (cH) ?_;rintro _ h4 ⟨rfl,k8,e4,z4⟩;refine aN rfl (aV rfl rfl k8 fT) ?_;rintro _ h5 ⟨rfl,k85,x5,z5⟩;have k85:aD h5 h3.size 30 (jV v.kind v.num v.gr v.self nk nt xa xn xc ea en ec):=k85;have e35:aj h3 h5:=aj.only e4 x5 (Nat.le_refl _);have E25:Ext (fun b=>b=rb) h2 h5:=e3.trans (e35.mono fun _ _ q=>q.elim);have E05:Ext (fun b=>b=rb) h h5:=(e12.mono fun _ _ q=>q.elim).trans E25;have zz:=And.intro e3.size (And.intro e35.size e12.size);have m23:=cI (upTo O h h2) h3 h5;obtain⟨O3,hO3⟩:∃O3,O3=upTo (upTo O h h2) h3 h5:=⟨_,rfl⟩
 have l3:∀b,O3 b->b<h5.size:=fun b q=>by
  rw[hO3] at q
  rcases q with (q|q)|q
  · have:=I.lt b q;omega
  · omega
  · omega
 have m3:jm h O O3:=by
  rw[hO3]
  exact⟨fun b q=>.inl (.inl q),fun b q=>by
   rcases q with (q|q)|q
   · exact .inl q
   · exact .inr q.1
   · exact .inr (by omega)⟩
 have b5:=b3.ah e35;have hR5:=eV.mv hR3 (m23.tj e35);rw[<-hO3] at hR5;have o6:O3 h1.size:=by rw[hO3];exact .inl (.inr (by omega))
 have k55:=k5.ext E25 (by omega);have k65:=k6.ext E25 (by omega);refine bz ?_;refine dH ?_
 iterate 2 refine bl ?_
 refine gG [(27,.bool (decide (e≠0\/l.length=1)))] rfl ?_ ?_
 · refine af ?_;refine dV 22 (fun p=>?_) (fun p=>?_)
   · have p:=of_decide_eq_true p;refine af ?_;exact aH rfl ⟨av rfl (by rw[decide_eq_true (.inl p)]),sb rfl⟩
   · have p:=of_decide_eq_false p;refine af ?_;refine xp rfl (aA rfl (k55.cell (i:=2) rfl)) ?_;refine af ?_;exact aH rfl ⟨av rfl (by rw[decide_eq_decide];exact⟨fun q=>.inr (by omega),fun q=>by have:=q.resolve_left p;omega⟩),sb rfl⟩
 · refine jo (fun hx=>?_) (fun hx=>?_)
   · have hx:=of_decide_eq_true hx;refine af ?_;refine xp rfl (b7 rfl k85.row) ?_;refine af ?_;refine aN rfl (aV rfl rfl k65 fT) ?_;rintro _ h6 ⟨rfl,k66,x6,z6⟩;refine af ?_;refine cn (cg rfl k66.row (eD cm)) ?_;rw[if_pos hx];exact⟨_,rfl,_,rfl,cQ.of (eV.mv hR5 (cK m3.1 o6 x6)),b5.ext x6 (by omega),E05.bH x6 (fun b hb q=>by omega)⟩
   · have hx:=of_decide_eq_false hx;rw[if_neg hx];have he0:e=0:=Classical.byContradiction fun q=>hx (.inl q)
     obtain⟨b1,o1',k1,t1,a1,n1,c1,ha1,hb1,hr1,hk1⟩:=iB hks (i:=1) (by omega);have hb1r:b1≠rb:=fun q=>hb1.1 (q▸I.own)
     have hMk:¬(h.size=rb\/h5.size<=h.size):=by omega
     have hM8:¬(h3.size=rb\/h5.size<=h3.size):=by have:=I2.CW;omega
     have hM1:¬(b1=rb\/h5.size<=b1):=by omega
     have hr1':=E05.rowAt hb1r hr1;refine af ?_;refine lO 18 (fun b=>b=rb\/h5.size<=b) (fun i=>Nat.blt i 16) ?_;refine aG 0 ?_;refine aG 1 ?_;refine aG 2 ?_;refine bJ 3 rfl (fun h' e=>aA rfl (e.cell hMk (k55.cell (i:=1) rfl))) ?_;refine bJ 4 rfl (fun h' e=>b7 rfl (e.rowAt hM8 k85.row)) ?_;refine aG 5 ?_;refine bJ 6 rfl (fun h' e=>aA rfl (e.cell hMk (k55.cell (i:=1) rfl))) ?_;refine aG 9 ?_;refine bJ 10 rfl (fun h' e=>aA rfl (e.cell hMk (k55.cell (i:=2) rfl))) ?_;refine bJ 11 rfl (fun h' e=>cM rfl rfl 1 rfl ha1) ?_;refine bJ 12 rfl (fun h' e=>b7 rfl (e.rowAt hM1 hr1')) ?_;refine dR 7 rfl (aF rfl (yL (cQ.of hR5) t)) ?_;rintro r6 h6 ⟨hv6,e6⟩;refine⟨fun _=>e6.of,?_⟩;have hen6:aZ eB h6 O3 ev env:=I.en.mv (m3.mv I.own (E05.trans (e6.mono fun _ _ q=>q.elim)));have hel:env.length<=1000000:=by have:=I.ok.1;have:=I.hB;omega
     refine dR 8 rfl (aF rfl (jr hen6 hel t hv6)) ?_;rintro r7 h7 ⟨ho7,e7⟩;refine⟨fun _=>e7.of,?_⟩;have e57:=e6.trans e7;have E07:=E05.trans (e57.mono fun _ _ q=>q.elim);have zy:=And.intro e6.size e7.size
     have I7:ql hb rb B O3 h7 m' r7 (env++[(t,jg v t)]):=⟨⟨by have:=I.ext.size;omega,fun b hb _=>(E07.block b (by have:=I.ext.size;omega) (by have:=I.hrb;omega)).trans (I.ext.block b hb (fun k=>k))⟩,b5.ah e57,fun b q=>by have:=l3 b q;omega,m3.1 _ I.own,
      ho7.read (fun b hb q=>by have:=l3 b q;omega) (fun _ _ q=>q),lq I.ok (hlt he0) I.mB (om hvk t) t,by have:=I.mB;omega,by have:=I.mL;omega,I.hB,I.hrb⟩
     refine dR 13 rfl (aF rfl ((ih I7 (by omega) (hk1.mv (m3.mv I.own E07)) (hc.jW 1) (cR hw 1)))) ?_;rintro _ h8 ⟨v8,rfl,hv8,b8,e8⟩;refine⟨fun _=>e8.mono (fun b _ q=>.inl q),?_⟩;obtain⟨nk',nt',xa',xn',xc',ea',en',ec',rfl,_,hR8,_⟩:=cQ.get hv8;have E58:=(e57.mono fun _ _ q=>q.elim).trans e8;refine aG 14 ?_;refine aG 15 ?_;refine jZ 16 rfl (aV rfl rfl ((k65.ext E58 (by omega))) fT) ?_;rintro _ h9 ⟨rfl,k9,x9,z9⟩;refine⟨nofun,?_⟩;refine aG 17 ?_;refine iO ?_;refine cn (cg rfl k9.row (eD cm)) ?_;exact⟨_,rfl,_,rfl,cQ.of (eV.mv hR8 (cK m3.1 o6 x9)),b8.ext x9 (by omega),(E07.trans e8).bH x9 (fun b hb q=>by omega)⟩
theorem AU (ih:MG hb rb B d) (I:ql hb rb B O h m ev env) (hm:m<=d) (hn:eK h O nv (.mk 6 t l)) (hc:Cl aW (.mk 6 t l)) (hw:(Tr.mk 6 t l).wt<=1000000) :
 au Tryz.prog 44 #[.pointer (some ⟨rb,0,none⟩),ev,nv] h (bL fun r h'=>LF rb O h (Mf (aI d) m env l) r h'):=by
 obtain⟨na,nn,nc,rfl,hR,hks⟩:=ny hn;have hkn:=hks.len;subst hkn;obtain⟨hl1,hl2⟩:=wL hc (by decide);have hl1:3<=l.length:=hl1;obtain⟨b0,o0,k0,t0,a0,n0,c0,ha0,hb0,hr0,hk0⟩:=iB hks (i:=0) (by omega);have hrl:=I.CW;refine b9 ?_;refine af ?_;refine xo rfl (kH) ?_;rintro _ h1 ⟨rfl,k5,e1,z1⟩;refine xo rfl (cH) ?_;rintro _ h2 ⟨rfl,k6,e2,z2⟩;have e12:=e1.trans e2;have k5:aD h2 h.size 27 [.int .i64 6,.string (bs t),.slice na l.length nc]:=k5.ah e2;have m2:=cI O h h2;have I2:=I.yN m2 e12 (je I.lt e12.size);have o1:=iH B d m env (l.getD 0 bG) I.mB I.ok (cR hw 0);have hih:=ih I2 hm (hk0.mv (m2.tj e12)) (hc.jW 0) (cR hw 0);unfold Mf;generalize aI d m env (l.getD 0 bG)=o at hih o1 ⊢;obtain⟨v,e,m'⟩:=o;obtain⟨hm',hvk,hlt⟩:=o1;dsimp only at hm' hvk hlt ⊢;refine af ?_;refine xp rfl (aA rfl (k5.cell (i:=2) rfl)) ?_;refine xp rfl (cM rfl rfl 0 rfl ha0) ?_;refine xp rfl (b7 rfl (e12.rowAt (fun k=>k) hr0)) ?_;refine xo rfl (aF rfl hih) ?_;rintro _ h3 ⟨v3,rfl,hv3,b3,e3⟩;dsimp only at hv3 b3;obtain⟨nk,nt,xa,xn,xc,ea,en,ec,rfl,hbd3,hR3,hen3⟩:=cQ.get hv3;refine af ?_;refine xo rfl (cH) ?_;rintro _ h4 ⟨rfl,k8,e4,z4⟩;refine aN rfl (aV rfl rfl k8 fT) ?_;rintro _ h5 ⟨rfl,k85,x5,z5⟩;have k85:aD h5 h3.size 30 (jV v.kind v.num v.gr v.self nk nt xa xn xc ea en ec):=k85;have e35:aj h3 h5:=aj.only e4 x5 (Nat.le_refl _);have E25:Ext (fun b=>b=rb) h2 h5:=e3.trans (e35.mono fun _ _ q=>q.elim);have E05:Ext (fun b=>b=rb) h h5:=(e12.mono fun _ _ q=>q.elim).trans E25;have zz:=And.intro e3.size (And.intro e35.size e12.size);have m23:=cI (upTo O h h2) h3 h5;obtain⟨O3,hO3⟩:∃O3,O3=upTo (upTo O h h2) h3 h5:=⟨_,rfl⟩
 have l3:∀b,O3 b->b<h5.size:=fun b q=>by
  rw[hO3] at q
  rcases q with (q|q)|q
  · have:=I.lt b q;omega
  · omega
  · omega
 have m3:jm h O O3:=by
  rw[hO3]
  exact⟨fun b q=>.inl (.inl q),fun b q=>by
   rcases q with (q|q)|q
   · exact .inl q
   · exact .inr q.1
   · exact .inr (by omega)⟩
 have b5:=b3.ah e35;have hR5:=eV.mv hR3 (m23.tj e35);rw[<-hO3] at hR5;have hbd5:=eN.mv hbd3 (m23.tj e35);rw[<-hO3] at hbd5;have hen5:=hen3.mv (m23.tj e35);rw[<-hO3] at hen5;have o6:O3 h1.size:=by rw[hO3];exact .inl (.inr (by omega))
 have k55:=k5.ext E25 (by omega);have k65:=k6.ext E25 (by omega);have I5:ql hb rb B O3 h5 m' ev env:=I.next m3 hm' E05 b5 l3
 refine af ?_;refine aX (fun he=>?_) (fun he=>?_)
 · rw[if_pos he];refine af ?_;refine xp rfl (aq (H.dU ) rfl) ?_;refine af ?_;refine aN rfl (aV rfl rfl k65) ?_;rintro _ h6 ⟨rfl,k66,x6,z6⟩;refine af ?_;refine cn (cg rfl k66.row (eD cm)) ?_;exact⟨_,rfl,_,rfl,gX _ _,b5.ext x6 (by omega),E05.bH x6 (fun b hb q=>by omega)⟩
 · rw[if_neg he];refine af ?_;refine xp rfl (aA rfl (k85.cell (i:=0) rfl)) ?_;refine af ?_;refine aX (fun hk=>?_) (fun hk=>?_)
   · rw[if_pos hk];refine af ?_;refine xp rfl (aq (H.dU ) rfl) ?_;refine aN rfl (aV rfl rfl k65) ?_;rintro _ h6 ⟨rfl,k66,x6,z6⟩;refine af ?_;refine cn (cg rfl k66.row (eD cm)) ?_;exact⟨_,rfl,_,rfl,gX _ _,b5.ext x6 (by omega),E05.bH x6 (fun b hb q=>by omega)⟩
   · rw[if_neg hk];refine af ?_;refine xp rfl (aA rfl (k85.cell (i:=1) rfl)) ?_;refine af ?_;refine aX (fun hz=>?_) (fun hz=>?_)
     · rw[if_pos hz];obtain⟨b1,o1',k1,t1,a1,n1,c1,ha1,hb1,hr1,hk1⟩:=iB hks (i:=1) (by omega);have hb1r:b1≠rb:=fun q=>hb1.1 (q▸I.own)
       have hr1':=E05.rowAt hb1r hr1;have hk1':=hk1.mv (m3.mv I.own E05);refine af ?_;refine xp rfl (aA rfl (k55.cell (i:=2) rfl)) ?_;refine xp rfl (cM rfl rfl 1 rfl ha1) ?_;refine xp rfl (b7 rfl hr1') ?_;refine xo rfl (aF rfl ((ih I5 (by omega) hk1' (hc.jW 1) (cR hw 1)))) ?_;rintro _ h8 ⟨v8,rfl,hv8,b8,e8⟩;obtain⟨nk',nt',xa',xn',xc',ea',en',ec',rfl,_,hR8,_⟩:=cQ.get hv8;refine af ?_;refine aN rfl (aV rfl rfl ((k65.ext e8 (by omega))) fT) ?_;rintro _ h9 ⟨rfl,k9,x9,z9⟩;refine af ?_;refine cn (cg rfl k9.row (eD cm)) ?_;exact⟨_,rfl,_,rfl,cQ.of (eV.mv hR8 (cK m3.1 o6 x9)),b8.ext x9 (by omega),(E05.trans e8).bH x9 (fun b hb q=>by omega)⟩
     · rw[if_neg hz];obtain⟨b1,o1',k1,t1,a1,n1,c1,ha1,hb1,hr1,hk1⟩:=iB hks (i:=2) (by omega);have hb1r:b1≠rb:=fun q=>hb1.1 (q▸I.own)
       have hr1':=E05.rowAt hb1r hr1;have hk1':=hk1.mv (m3.mv I.own E05);refine af ?_;refine xp rfl (aA rfl (k55.cell (i:=2) rfl)) ?_;refine xp rfl (cM rfl rfl 2 rfl ha1) ?_;refine xp rfl (b7 rfl hr1') ?_;refine xo rfl (aF rfl ((ih I5 (by omega) hk1' (hc.jW 2) (cR hw 2)))) ?_;rintro _ h8 ⟨v8,rfl,hv8,b8,e8⟩;obtain⟨nk',nt',xa',xn',xc',ea',en',ec',rfl,_,hR8,_⟩:=cQ.get hv8;refine af ?_;refine aN rfl (aV rfl rfl ((k65.ext e8 (by omega))) fT) ?_;rintro _ h9 ⟨rfl,k9,x9,z9⟩;refine af ?_;refine cn (cg rfl k9.row (eD cm)) ?_;exact⟨_,rfl,_,rfl,cQ.of (eV.mv hR8 (cK m3.1 o6 x9)),b8.ext x9 (by omega),(E05.trans e8).bH x9 (fun b hb q=>by omega)⟩
theorem uz {b:Nat}{t:TypeId}{a c m:List Value}(k:aD h b t (a++(m++c))):Lw.rowAt h b a.length m:=fun j v hv=>k.cell (i:=a.length+j) (by
 rw[List.getElem?_append_right (by omega),Nat.add_sub_cancel_left,List.getElem?_append_left (List.getElem?_eq_some_iff.1 hv).1];exact hv)
theorem Jf {m1 m2:Nat}{f x:Vl}(a2:okV (B-2*m1) f) (b2:okV (B-2*m2) x) (h1:m1<m) (h2:m2<m1) (hB:2*m<=B):vf (B-2*m2) ((if f.self≠[] then f.env++[(f.self,f)] else f.env)++[(f.gr,x)]):=by
 obtain⟨_,f2,f3⟩:=a2.get;split
 · refine⟨?_,fun p hp=>?_⟩
   · rw[List.length_append,List.length_append];have:=f3.1;simp;omega
   · rcases List.mem_append.1 hp with hp|hp
     · rcases List.mem_append.1 hp with hp|hp
       · exact(f3.2 p hp).le (by omega)
       · simp at hp;subst hp;exact a2.le (by omega)
     · simp at hp;subst hp;exact b2
 · exact lq f3 h2 (by omega) b2 f.gr
theorem D1 (hg:GR hb) (ih:MG hb rb B d) (I:ql hb rb B O h m ev env) (hm:m<=d) (hn:eK h O nv (.mk 9 t l)) (hc:Cl aW (.mk 9 t l)) (hw:(Tr.mk 9 t l).wt<=1000000) :
 au Tryz.prog 45 #[.pointer (some ⟨rb,0,none⟩),ev,nv] h (bL fun r h'=>LF rb O h (wM (aI d) m env l) r h'):=by
 obtain⟨na,nn,nc,rfl,hR,hks⟩:=ny hn;have hkn:=hks.len;subst hkn;obtain⟨hl1,hl2⟩:=wL hc (by decide);have hl1:2<=l.length:=hl1;obtain⟨b0,o0,k0,t0,a0,n0,c0,ha0,hb0,hr0,hk0⟩:=iB hks (i:=0) (by omega);have hrl:=I.CW;refine b9 ?_;refine af ?_;refine xo rfl (kH) ?_;rintro _ h1 ⟨rfl,k5,e1,z1⟩;refine xo rfl (cH) ?_;rintro _ h2 ⟨rfl,k6,e2,z2⟩;have e12:=e1.trans e2;have k5:aD h2 h.size 27 [.int .i64 9,.string (bs t),.slice na l.length nc]:=k5.ah e2;have m2:=cI O h h2;have I2:=I.yN m2 e12 (je I.lt e12.size);have o1:=iH B d m env (l.getD 0 bG) I.mB I.ok (cR hw 0);have hih:=ih I2 hm (hk0.mv (m2.tj e12)) (hc.jW 0) (cR hw 0);unfold wM;generalize aI d m env (l.getD 0 bG)=o at hih o1 ⊢;obtain⟨v,e,m'⟩:=o;obtain⟨hm',hvk,hlt⟩:=o1;dsimp only at hm' hvk hlt ⊢;refine af ?_;refine xp rfl (aA rfl (k5.cell (i:=2) rfl)) ?_;refine xp rfl (cM rfl rfl 0 rfl ha0) ?_;refine xp rfl (b7 rfl (e12.rowAt (fun k=>k) hr0)) ?_;refine xo rfl (aF rfl hih) ?_;rintro _ h3 ⟨v3,rfl,hv3,b3,e3⟩;dsimp only at hv3 b3;obtain⟨nk,nt,xa,xn,xc,ea,en,ec,rfl,hbd3,hR3,hen3⟩:=cQ.get hv3;refine af ?_;refine xo rfl (cH) ?_;rintro _ h4 ⟨rfl,k8,e4,z4⟩;refine aN rfl (aV rfl rfl k8 fT) ?_;rintro _ h5 ⟨rfl,k85,x5,z5⟩;have k85:aD h5 h3.size 30 (jV v.kind v.num v.gr v.self nk nt xa xn xc ea en ec):=k85;have e35:aj h3 h5:=aj.only e4 x5 (Nat.le_refl _);have E25:Ext (fun b=>b=rb) h2 h5:=e3.trans (e35.mono fun _ _ q=>q.elim);have E05:Ext (fun b=>b=rb) h h5:=(e12.mono fun _ _ q=>q.elim).trans E25;have zz:=And.intro e3.size (And.intro e35.size e12.size);have m23:=cI (upTo O h h2) h3 h5;obtain⟨O3,hO3⟩:∃O3,O3=upTo (upTo O h h2) h3 h5:=⟨_,rfl⟩
 have l3:∀b,O3 b->b<h5.size:=fun b q=>by
  rw[hO3] at q
  rcases q with (q|q)|q
  · have:=I.lt b q;omega
  · omega
  · omega
 have m3:jm h O O3:=by
  rw[hO3]
  exact⟨fun b q=>.inl (.inl q),fun b q=>by
   rcases q with (q|q)|q
   · exact .inl q
   · exact .inr q.1
   · exact .inr (by omega)⟩
 have b5:=b3.ah e35;have hR5:=eV.mv hR3 (m23.tj e35);rw[<-hO3] at hR5;have hbd5:=eN.mv hbd3 (m23.tj e35);rw[<-hO3] at hbd5;have hen5:=hen3.mv (m23.tj e35);rw[<-hO3] at hen5;have o6:O3 h1.size:=by rw[hO3];exact .inl (.inr (by omega))
 have k55:=k5.ext E25 (by omega);have k65:=k6.ext E25 (by omega);have I5:ql hb rb B O3 h5 m' ev env:=I.next m3 hm' E05 b5 l3
 refine af ?_;refine aX (fun he=>?_) (fun he=>?_)
 · rw[if_pos he];refine af ?_;refine xp rfl (aq (H.dU ) rfl) ?_;refine af ?_;refine aN rfl (aV rfl rfl k65) ?_;rintro _ h6 ⟨rfl,k66,x6,z6⟩;refine af ?_;refine cn (cg rfl k66.row (eD cm)) ?_;exact⟨_,rfl,_,rfl,gX _ _,b5.ext x6 (by omega),E05.bH x6 (fun b hb q=>by omega)⟩
 · rw[if_neg he];have hlt:=hlt (Classical.not_not.1 he);obtain⟨b1,o1',k1,t1,a1,n1,c1,ha1,hb1,hr1,hk1⟩:=iB hks (i:=1) (by omega);have hb1r:b1≠rb:=fun q=>hb1.1 (q▸I.own)
   have hr1':=E05.rowAt hb1r hr1;have hk1':=hk1.mv (m3.mv I.own E05);have o2:=iH B d m' env (l.getD 1 bG) I5.mB I5.ok (cR hw 1);have hih2:=ih I5 (by omega) hk1' (hc.jW 1) (cR hw 1);generalize aI d m' env (l.getD 1 bG)=p at hih2 o2 ⊢;obtain⟨v2,e2',m2'⟩:=p;obtain⟨hm2,hvk2,hlt2⟩:=o2;dsimp only at hm2 hvk2 hlt2 ⊢;refine af ?_;refine xp rfl (aA rfl (k55.cell (i:=2) rfl)) ?_;refine xp rfl (cM rfl rfl 1 rfl ha1) ?_;refine xp rfl (b7 rfl hr1') ?_;refine xo rfl (aF rfl hih2) ?_;rintro _ h6 ⟨v6,rfl,hv6,b6,e6⟩;dsimp only at hv6 b6;obtain⟨nk2,nt2,ya,yn,yc,fa,fm,fc,rfl,_,hR6,_⟩:=cQ.get hv6;refine af ?_;refine xo rfl (cH) ?_;rintro _ h7 ⟨rfl,k10,e7,z7⟩;refine aN rfl (aV rfl rfl k10 fT) ?_;rintro _ h8 ⟨rfl,k10',x8,z8⟩;have k10':aD h8 h6.size 30 (jV v2.kind v2.num v2.gr v2.self nk2 nt2 ya yn yc fa fm fc):=k10';have e68:aj h6 h8:=aj.only e7 x8 (Nat.le_refl _);have E58:Ext (fun b=>b=rb) h5 h8:=e6.trans (e68.mono fun _ _ q=>q.elim);have E08:=E05.trans E58;have zw:=And.intro e6.size e68.size;obtain⟨O6,hO6⟩:∃O6,O6=upTo O3 h6 h8:=⟨_,rfl⟩
   have l6:∀b,O6 b->b<h8.size:=fun b q=>by
    rw[hO6] at q
    rcases q with q|q
    · have:=l3 b q;omega
    · omega
   have m56:jm h5 O3 O6:=by rw[hO6];exact⟨fun b q=>.inl q,fun b q=>q.imp id (fun q=>by omega)⟩
   have m6:jm h O O6:=⟨fun b q=>m56.1 b (m3.1 b q),fun b q=>(m56.2 b q).elim (m3.2 b) (fun q=>.inr (by omega))⟩
   have b8:=b6.ah e68;have hR8:=eV.mv hR6 ((cI O3 h6 h8).tj e68);rw[<-hO6] at hR8;have hr3:=m3.1 _ I.own;have hR58:=eV.mv hR5 (m56.mv hr3 E58);have o66:=m56.1 _ o6;have k58:=k55.ext E58 (by omega);have k68:=k65.ext E58 (by omega);have k88:=k85.ext E58 (by have:=I2.CW;omega);have I8:ql hb rb B O6 h8 m2' ev env:=I5.next m56 hm2 E58 b8 l6
   refine af ?_;refine aX (fun he2=>?_) (fun he2=>?_)
   · rw[if_pos he2];refine af ?_;refine xp rfl (aq (H.dU ) rfl) ?_;refine af ?_;refine aN rfl (aV rfl rfl k68) ?_;rintro _ h9 ⟨rfl,k66,x9,z9⟩;refine af ?_;refine cn (cg rfl k66.row (eD cm)) ?_;exact⟨_,rfl,_,rfl,gX _ _,b8.ext x9 (by omega),E08.bH x9 (fun b hb q=>by omega)⟩
   · rw[if_neg he2];have hlt2:=hlt2 (Classical.not_not.1 he2);refine af ?_;refine xp rfl (aA rfl (k88.cell (i:=0) rfl)) ?_;refine af ?_;refine aX (fun hk=>?_) (fun hk=>?_)
     · rw[if_pos hk];refine af ?_;refine xp rfl (aq (H.dU ) rfl) ?_;refine aN rfl (aV rfl rfl k68) ?_;rintro _ h9 ⟨rfl,k66,x9,z9⟩;refine af ?_;refine cn (cg rfl k66.row (eD cm)) ?_;exact⟨_,rfl,_,rfl,gX _ _,b8.ext x9 (by omega),E08.bH x9 (fun b hb q=>by omega)⟩
     · rw[if_neg hk];obtain⟨f1,f2,f3⟩:=hvk.get;have hbd8:=eN.mv hbd5 (m56.mv hr3 E58);have hen8:=hen5.mv (m56.mv hr3 E58);have r4:Lw.rowAt h8 h3.size 4 [.int .i64 nk,.string (bs nt),.slice xa xn xc]:=uz (a:=[_,_,_,_]) (m:=[_,_,_]) (c:=[_]) k88;refine af ?_;refine xp rfl (b7 rfl r4) ?_;refine xo rfl (aF rfl (mT f2 (hg.ah I8.ext) (eK.of hbd8))) ?_;rintro _ h9 ⟨rfl,e9⟩;have k69:=k68.ah e9;have k89:=k88.ah e9;have E09:=E08.trans (e9.mono fun _ _ q=>q.elim);have z9:=e9.size;refine af ?_;refine jo (fun hq=>?_) (fun hq=>?_)
       · have hq:bq aW v.body=false:=by simpa using hq
         rw[if_pos hq];refine af ?_;refine xp rfl (aq (H.dU ) rfl) ?_;refine aN rfl (aV rfl rfl k69) ?_;rintro _ h10 ⟨rfl,k66,x10,z10⟩;refine af ?_;refine cn (cg rfl k66.row (eD cm)) ?_;exact⟨_,rfl,_,rfl,gX _ _,(b8.ah e9).ext x10 (by omega),E09.bH x10 (fun b hb q=>by omega)⟩
       · have hq:bq aW v.body=true:=by simpa using hq
         rw[if_neg (by rw[hq];decide)];have hce:=Jf hvk hvk2 hlt hlt2 I.mB;have m69:jm h8 O6 O6:=⟨fun _ q=>q,fun _ q=>.inl q⟩
         have hen9:=hen8.mv (Mv.ah e9);have hbd9:=eN.mv hbd8 (Mv.ah e9);have hRf9:=eV.mv hR58 (Mv.ah e9);have hRx9:=eV.mv hR8 (Mv.ah e9);have hB:=I.hB;have hvl:=f3.1;have h3r:h3.size≠rb:=by have:=I2.CW;omega
         have h6r:h6.size≠rb:=by have:=I5.CW;omega
         refine af ?_;refine xp rfl (aA rfl (k89.cell (i:=7) rfl)) ?_;refine af ?_;refine xp rfl (aA rfl (k89.cell (i:=3) rfl)) ?_;refine af ?_;refine aX (fun hs=>?_) (fun hs=>?_)
         · have hs:v.self≠[]:=fun q=>hs (by rw[q];rfl)
           rw[if_pos hs] at hce ⊢;refine af ?_;refine xp rfl (aA rfl (k89.cell (i:=3) rfl)) ?_;refine xp rfl (b7 rfl k89.row) ?_;refine xo rfl (aF rfl (jr hen9 (by omega) v.self (cQ.of hRf9))) ?_;rintro r10 h10 ⟨ho10,e10⟩;have hen10:=ho10.read (O':=O6) (fun b hb q=>by have:=l6 b q;omega) (fun _ _ q=>q);have hM8:¬(h3.size=rb\/h10.size<=h3.size):=by have:=e10.size;omega
           have hM6:¬(h6.size=rb\/h10.size<=h6.size):=by have:=e10.size;omega
           have k8x:=k89.ah e10;have k10x:=(k10'.ah e9).ah e10;have r4x:Lw.rowAt h10 h3.size 4 [.int .i64 nk,.string (bs nt),.slice xa xn xc]:=uz (a:=[_,_,_,_]) (m:=[_,_,_]) (c:=[_]) k8x;refine af ?_;refine lO 13 (fun b=>b=rb\/h10.size<=b) (fun i=>Nat.blt i 11) ?_;refine aG 0 ?_;refine aG 1 ?_;refine aG 2 ?_;refine bJ 3 rfl (fun h' e=>aA rfl (e.cell hM8 (k8x.cell (i:=2) rfl))) ?_;refine bJ 4 rfl (fun h' e=>b7 rfl (e.rowAt hM6 k10x.row)) ?_;refine aG 6 ?_;refine bJ 7 rfl (fun h' e=>b7 rfl (e.rowAt hM8 r4x)) ?_;refine dR 5 rfl (aF rfl (jr hen10 (by rw[List.length_append,List.length_singleton];omega) v.gr (cQ.of (eV.mv hRx9 (Mv.ah e10))))) ?_;rintro r11 h11 ⟨ho11,e11⟩;refine⟨fun _=>e11.of,?_⟩;have zv:=And.intro (e10).size (e11).size;have E9x:aj h9 h11:=(e10).trans e11;have E0x:=E09.trans (E9x.mono fun _ _ q=>q.elim);have Ix:ql hb rb B O6 h11 m2' r11 (_++[(v.gr,v2)]):=⟨(I8.ext.trans e9).trans E9x,(b8.ah e9).ah E9x,fun b q=>by have:=l6 b q;omega,m56.1 _ hr3,(ho11).read (fun b hb q=>by have:=l6 b q;omega) (fun _ _ q=>q),hce,by have:=I.mB;omega,by have:=I.mL;omega,I.hB,I.hrb⟩
           refine dR 8 rfl (aF rfl ((ih Ix (by omega) (eK.of (eN.mv hbd9 (Mv.ah E9x))) (.inl hq) f2))) ?_;rintro _ h12 ⟨v12,rfl,hv12,b12,e12'⟩;refine⟨fun _=>e12'.mono (fun b _ q=>.inl q),?_⟩;obtain⟨nk',nt',xa',xn',xc',ea',en',ec',rfl,_,hR12,_⟩:=cQ.get hv12;refine aG 9 ?_;refine aG 10 ?_;refine jZ 11 rfl (aV rfl rfl (((k69.ah E9x).ext e12' (by omega))) fT) ?_;rintro _ h13 ⟨rfl,k13,x13,z13⟩;refine⟨nofun,?_⟩;refine aG 12 ?_;refine iO ?_;refine cn (cg rfl k13.row (eD cm)) ?_;exact⟨_,rfl,_,rfl,cQ.of (eV.mv hR12 (cK m6.1 o66 x13)),b12.ext x13 (by omega),(E0x.trans e12').bH x13 (fun b hb q=>by omega)⟩
         · have hs:¬v.self≠[]:=fun q=>hs (fun e=>q (bu (m:=[]) e))
           rw[if_neg hs] at hce ⊢;have hM8:¬(h3.size=rb\/h9.size<=h3.size):=by omega
           have hM6:¬(h6.size=rb\/h9.size<=h6.size):=by omega
           have k10x:=k10'.ah e9;have r4x:Lw.rowAt h9 h3.size 4 [.int .i64 nk,.string (bs nt),.slice xa xn xc]:=uz (a:=[_,_,_,_]) (m:=[_,_,_]) (c:=[_]) k89;refine af ?_;refine lO 13 (fun b=>b=rb\/h9.size<=b) (fun i=>Nat.blt i 11) ?_;refine aG 0 ?_;refine aG 1 ?_;refine aG 2 ?_;refine bJ 3 rfl (fun h' e=>aA rfl (e.cell hM8 (k89.cell (i:=2) rfl))) ?_;refine bJ 4 rfl (fun h' e=>b7 rfl (e.rowAt hM6 k10x.row)) ?_;refine aG 6 ?_;refine bJ 7 rfl (fun h' e=>b7 rfl (e.rowAt hM8 r4x)) ?_;refine dR 5 rfl (aF rfl (jr hen9 (by omega) v.gr (cQ.of hRx9))) ?_;rintro r11 h11 ⟨ho11,e11⟩;refine⟨fun _=>e11.of,?_⟩;have zv:=And.intro (Ext.refl (fun _=>False) h9).size (e11).size;have E9x:aj h9 h11:=(Ext.refl (fun _=>False) h9).trans e11;have E0x:=E09.trans (E9x.mono fun _ _ q=>q.elim);have Ix:ql hb rb B O6 h11 m2' r11 (_++[(v.gr,v2)]):=⟨(I8.ext.trans e9).trans E9x,(b8.ah e9).ah E9x,fun b q=>by have:=l6 b q;omega,m56.1 _ hr3,(ho11).read (fun b hb q=>by have:=l6 b q;omega) (fun _ _ q=>q),hce,by have:=I.mB;omega,by have:=I.mL;omega,I.hB,I.hrb⟩
           refine dR 8 rfl (aF rfl ((ih Ix (by omega) (eK.of (eN.mv hbd9 (Mv.ah E9x))) (.inl hq) f2))) ?_;rintro _ h12 ⟨v12,rfl,hv12,b12,e12'⟩;refine⟨fun _=>e12'.mono (fun b _ q=>.inl q),?_⟩;obtain⟨nk',nt',xa',xn',xc',ea',en',ec',rfl,_,hR12,_⟩:=cQ.get hv12;refine aG 9 ?_;refine aG 10 ?_;refine jZ 11 rfl (aV rfl rfl (((k69.ah E9x).ext e12' (by omega))) fT) ?_;rintro _ h13 ⟨rfl,k13,x13,z13⟩;refine⟨nofun,?_⟩;refine aG 12 ?_;refine iO ?_;refine cn (cg rfl k13.row (eD cm)) ?_;exact⟨_,rfl,_,rfl,cQ.of (eV.mv hR12 (cK m6.1 o66 x13)),b12.ext x13 (by omega),(E0x.trans e12').bH x13 (fun b hb q=>by omega)⟩
end
end Go.Proofs.YtdgckfkoihcmjaaGreatDoor
namespace Go.Proofs
open Go.Shelf
def Tryz.Cn:Go.Shelf.Ren:=⟨fun| 106=>89| 213=>133| 265=>165|n=>n,fun| 9=>9| 3=>3|n=>n,fun|n=>n⟩
theorem Tryz.Kj:Go.Proofs.Lays.n106 Tryz.prog Tryz.Cn:= {
  mixed:=by kernel_rfl
  f106:=Tryz.func89.trans (congrArg some (by kernel_rfl))
  f213:=Tryz.func133.trans (congrArg some (by kernel_rfl))
  f265:=Tryz.func165.trans (congrArg some (by kernel_rfl))
  t3:=underlying3
  a3:=Tryz.isAgg3
  z3:=Tryz.sizeOf3
  v3:=Tryz.zeroValue3
  t9:=underlying9
  a9:=Tryz.isAgg9
  z9:=Tryz.sizeOf9
  v9:=Tryz.zeroValue9 }
def Tryz.Cm:Go.Shelf.Ren:=⟨fun| 121=>35| 214=>78|n=>n,fun| 4=>4| 9=>9|n=>n,fun|n=>n⟩
theorem Tryz.Ki:Go.Proofs.Lays.n121 Tryz.prog Tryz.Cm:= {
  mixed:=by kernel_rfl
  f121:=Tryz.func35.trans (congrArg some (by kernel_rfl))
  f214:=Tryz.func78.trans (congrArg some (by kernel_rfl))
  t4:=underlying4
  a4:=Tryz.isAgg4
  z4:=Tryz.sizeOf4
  v4:=Tryz.zeroValue4
  t9:=underlying9
  a9:=Tryz.isAgg9
  z9:=Tryz.sizeOf9
  v9:=Tryz.zeroValue9 }
def Tryz.Ay:Go.Shelf.Ren:=⟨fun| 173=>34| 246=>77| 283=>116| 284=>117| 285=>118| 286=>119| 129=>149| 317=>148| 318=>150| 319=>151| 320=>152| 337=>170| 338=>171|n=>n,fun| 2=>2| 3=>3| 9=>9| 4=>4| 171=>218| 0=>0| 53=>130| 37=>106| 5=>5| 173=>221| 212=>244| 51=>245| 20=>20| 213=>246| 46=>230| 232=>274| 233=>275|n=>n,fun| 17=>4| 18=>11| 19=>12|n=>n⟩
theorem Tryz.Ir:Go.Proofs.LaysM.n173 Tryz.prog Tryz.Ay:= {
  mixed:=by kernel_rfl
  f129:=Tryz.func149.trans (congrArg some (by kernel_rfl))
  f173:=Tryz.func34.trans (congrArg some (by kernel_rfl))
  f246:=Tryz.func77.trans (congrArg some (by kernel_rfl))
  f283:=Tryz.func116.trans (congrArg some (by kernel_rfl))
  f284:=Tryz.func117.trans (congrArg some (by kernel_rfl))
  f285:=Tryz.func118.trans (congrArg some (by kernel_rfl))
  f286:=Tryz.func119.trans (congrArg some (by kernel_rfl))
  f317:=Tryz.func148.trans (congrArg some (by kernel_rfl))
  f318:=Tryz.func150.trans (congrArg some (by kernel_rfl))
  f319:=Tryz.func151.trans (congrArg some (by kernel_rfl))
  f320:=Tryz.func152.trans (congrArg some (by kernel_rfl))
  f337:=Tryz.func170.trans (congrArg some (by kernel_rfl))
  f338:=Tryz.func171.trans (congrArg some (by kernel_rfl))
  t0:=underlying0
  a0:=Tryz.isAgg0
  z0:=Tryz.sizeOf0
  v0:=Tryz.zeroValue0
  t2:=underlying2
  a2:=Tryz.isAgg2
  z2:=Tryz.sizeOf2
  v2:=Tryz.zeroValue2
  t3:=underlying3
  a3:=Tryz.isAgg3
  z3:=Tryz.sizeOf3
  v3:=Tryz.zeroValue3
  t4:=underlying4
  a4:=Tryz.isAgg4
  z4:=Tryz.sizeOf4
  v4:=Tryz.zeroValue4
  t5:=underlying5
  a5:=Tryz.isAgg5
  z5:=Tryz.sizeOf5
  v5:=Tryz.zeroValue5
  t9:=underlying9
  a9:=Tryz.isAgg9
  z9:=Tryz.sizeOf9
  v9:=Tryz.zeroValue9
  t20:=underlying20
  a20:=Tryz.isAgg20
  z20:=Tryz.sizeOf20
  v20:=Tryz.zeroValue20
  t37:=underlying106
  a37:=Tryz.isAgg106
  z37:=Tryz.sizeOf106
  v37:=Tryz.zeroValue106
  t46:=underlying230
  a46:=Tryz.isAgg230
  z46:=Tryz.sizeOf230
  v46:=Tryz.zeroValue230
  t51:=underlying245
  a51:=Tryz.isAgg245
  z51:=Tryz.sizeOf245
  v51:=Tryz.zeroValue245
  t53:=underlying130
  a53:=Tryz.isAgg130
  z53:=Tryz.sizeOf130
  v53:=Tryz.zeroValue130
  t171:=underlying218
  a171:=Tryz.isAgg218
  z171:=Tryz.sizeOf218
  v171:=Tryz.zeroValue218
  t173:=underlying221
  a173:=Tryz.isAgg221
  z173:=Tryz.sizeOf221
  v173:=Tryz.zeroValue221
  t212:=underlying244
  a212:=Tryz.isAgg244
  z212:=Tryz.sizeOf244
  v212:=Tryz.zeroValue244
  t213:=underlying246
  a213:=Tryz.isAgg246
  z213:=Tryz.sizeOf246
  t232:=underlying274
  a232:=Tryz.isAgg274
  z232:=Tryz.sizeOf274
  v232:=Tryz.zeroValue274
  t233:=underlying275
  a233:=Tryz.isAgg275
  z233:=Tryz.sizeOf275
  v233:=Tryz.zeroValue275
  g17:=by kernel_rfl
  g18:=by kernel_rfl
  g19:=by kernel_rfl
  i0:=by kernel_rfl
  i2:=by kernel_rfl
  i3:=by kernel_rfl
  i4:=by kernel_rfl
  i5:=by kernel_rfl
  i9:=by kernel_rfl
  i20:=by kernel_rfl
  i37:=by kernel_rfl
  i46:=by kernel_rfl
  i51:=by kernel_rfl
  i53:=by kernel_rfl
  i171:=by kernel_rfl
  i173:=by kernel_rfl
  i212:=by kernel_rfl
  i232:=by kernel_rfl
  i233:=by kernel_rfl
  m17:=by kernel_rfl
  m18:=by kernel_rfl
  m19:=by kernel_rfl }
def Tryz.AB:Go.Shelf.Ren:=⟨fun| 174=>38| 247=>82| 245=>83| 287=>126| 279=>127| 280=>128| 281=>129| 282=>130| 321=>160| 322=>161| 316=>162| 171=>100| 205=>163| 243=>141| 246=>77| 283=>116| 284=>117| 285=>118| 286=>119| 129=>149| 317=>148| 318=>150| 319=>151| 320=>152| 337=>170| 338=>171|n=>n,fun| 9=>9| 3=>3| 2=>2| 75=>111| 85=>112| 4=>4| 167=>227| 5=>5| 53=>130| 175=>228| 46=>230| 168=>231| 37=>106| 0=>0| 210=>257| 21=>21| 127=>240| 145=>270| 143=>268| 171=>218| 173=>221| 212=>244| 51=>245| 20=>20| 213=>246| 232=>274| 233=>275| 80=>205|n=>n,fun| 15=>5| 16=>6| 17=>4| 18=>11| 19=>12|n=>n⟩
theorem Tryz.vM:Go.Proofs.LaysC.n174 Tryz.prog Tryz.AB:= {
  mixed:=by kernel_rfl
  f129:=Tryz.func149.trans (congrArg some (by kernel_rfl))
  f171:=Tryz.func100.trans (congrArg some (by kernel_rfl))
  f174:=Tryz.func38.trans (congrArg some (by kernel_rfl))
  f205:=Tryz.func163.trans (congrArg some (by kernel_rfl))
  f243:=Tryz.func141.trans (congrArg some (by kernel_rfl))
  f245:=Tryz.func83.trans (congrArg some (by kernel_rfl))
  f246:=Tryz.func77.trans (congrArg some (by kernel_rfl))
  f247:=Tryz.func82.trans (congrArg some (by kernel_rfl))
  f279:=Tryz.func127.trans (congrArg some (by kernel_rfl))
  f280:=Tryz.func128.trans (congrArg some (by kernel_rfl))
  f281:=Tryz.func129.trans (congrArg some (by kernel_rfl))
  f282:=Tryz.func130.trans (congrArg some (by kernel_rfl))
  f283:=Tryz.func116.trans (congrArg some (by kernel_rfl))
  f284:=Tryz.func117.trans (congrArg some (by kernel_rfl))
  f285:=Tryz.func118.trans (congrArg some (by kernel_rfl))
  f286:=Tryz.func119.trans (congrArg some (by kernel_rfl))
  f287:=Tryz.func126.trans (congrArg some (by kernel_rfl))
  f316:=Tryz.func162.trans (congrArg some (by kernel_rfl))
  f317:=Tryz.func148.trans (congrArg some (by kernel_rfl))
  f318:=Tryz.func150.trans (congrArg some (by kernel_rfl))
  f319:=Tryz.func151.trans (congrArg some (by kernel_rfl))
  f320:=Tryz.func152.trans (congrArg some (by kernel_rfl))
  f321:=Tryz.func160.trans (congrArg some (by kernel_rfl))
  f322:=Tryz.func161.trans (congrArg some (by kernel_rfl))
  f337:=Tryz.func170.trans (congrArg some (by kernel_rfl))
  f338:=Tryz.func171.trans (congrArg some (by kernel_rfl))
  t0:=underlying0
  a0:=Tryz.isAgg0
  z0:=Tryz.sizeOf0
  v0:=Tryz.zeroValue0
  t2:=underlying2
  a2:=Tryz.isAgg2
  z2:=Tryz.sizeOf2
  v2:=Tryz.zeroValue2
  t3:=underlying3
  a3:=Tryz.isAgg3
  z3:=Tryz.sizeOf3
  v3:=Tryz.zeroValue3
  t4:=underlying4
  a4:=Tryz.isAgg4
  z4:=Tryz.sizeOf4
  v4:=Tryz.zeroValue4
  t5:=underlying5
  a5:=Tryz.isAgg5
  z5:=Tryz.sizeOf5
  v5:=Tryz.zeroValue5
  t9:=underlying9
  a9:=Tryz.isAgg9
  z9:=Tryz.sizeOf9
  v9:=Tryz.zeroValue9
  t20:=underlying20
  a20:=Tryz.isAgg20
  z20:=Tryz.sizeOf20
  v20:=Tryz.zeroValue20
  t21:=underlying21
  a21:=Tryz.isAgg21
  z21:=Tryz.sizeOf21
  v21:=Tryz.zeroValue21
  t37:=underlying106
  a37:=Tryz.isAgg106
  z37:=Tryz.sizeOf106
  v37:=Tryz.zeroValue106
  t46:=underlying230
  a46:=Tryz.isAgg230
  z46:=Tryz.sizeOf230
  v46:=Tryz.zeroValue230
  t51:=underlying245
  a51:=Tryz.isAgg245
  z51:=Tryz.sizeOf245
  v51:=Tryz.zeroValue245
  t53:=underlying130
  a53:=Tryz.isAgg130
  z53:=Tryz.sizeOf130
  v53:=Tryz.zeroValue130
  t75:=underlying111
  a75:=Tryz.isAgg111
  z75:=Tryz.sizeOf111
  v75:=Tryz.zeroValue111
  t85:=underlying112
  a85:=Tryz.isAgg112
  z85:=Tryz.sizeOf112
  v85:=Tryz.zeroValue112
  t127:=underlying240
  a127:=Tryz.isAgg240
  z127:=Tryz.sizeOf240
  v127:=Tryz.zeroValue240
  t143:=underlying268
  a143:=Tryz.isAgg268
  z143:=Tryz.sizeOf268
  v143:=Tryz.zeroValue268
  t145:=underlying270
  a145:=Tryz.isAgg270
  z145:=Tryz.sizeOf270
  v145:=Tryz.zeroValue270
  t167:=underlying227
  a167:=Tryz.isAgg227
  z167:=Tryz.sizeOf227
  v167:=Tryz.zeroValue227
  t168:=underlying231
  a168:=Tryz.isAgg231
  z168:=Tryz.sizeOf231
  v168:=Tryz.zeroValue231
  t171:=underlying218
  a171:=Tryz.isAgg218
  z171:=Tryz.sizeOf218
  v171:=Tryz.zeroValue218
  t173:=underlying221
  a173:=Tryz.isAgg221
  z173:=Tryz.sizeOf221
  v173:=Tryz.zeroValue221
  t175:=underlying228
  a175:=Tryz.isAgg228
  z175:=Tryz.sizeOf228
  v175:=Tryz.zeroValue228
  t210:=underlying257
  a210:=Tryz.isAgg257
  z210:=Tryz.sizeOf257
  v210:=Tryz.zeroValue257
  t212:=underlying244
  a212:=Tryz.isAgg244
  z212:=Tryz.sizeOf244
  v212:=Tryz.zeroValue244
  t213:=underlying246
  a213:=Tryz.isAgg246
  z213:=Tryz.sizeOf246
  t232:=underlying274
  a232:=Tryz.isAgg274
  z232:=Tryz.sizeOf274
  v232:=Tryz.zeroValue274
  t233:=underlying275
  a233:=Tryz.isAgg275
  z233:=Tryz.sizeOf275
  v233:=Tryz.zeroValue275
  g15:=by kernel_rfl
  g16:=by kernel_rfl
  g17:=by kernel_rfl
  g18:=by kernel_rfl
  g19:=by kernel_rfl
  t80:=underlying205
  a80:=Tryz.isAgg205
  z80:=Tryz.sizeOf205
  v80:=Tryz.zeroValue205
  i0:=by kernel_rfl
  i2:=by kernel_rfl
  i3:=by kernel_rfl
  i4:=by kernel_rfl
  i5:=by kernel_rfl
  i9:=by kernel_rfl
  i20:=by kernel_rfl
  i21:=by kernel_rfl
  i37:=by kernel_rfl
  i46:=by kernel_rfl
  i51:=by kernel_rfl
  i53:=by kernel_rfl
  i75:=by kernel_rfl
  i80:=by kernel_rfl
  i85:=by kernel_rfl
  i127:=by kernel_rfl
  i143:=by kernel_rfl
  i145:=by kernel_rfl
  i167:=by kernel_rfl
  i168:=by kernel_rfl
  i171:=by kernel_rfl
  i173:=by kernel_rfl
  i175:=by kernel_rfl
  i210:=by kernel_rfl
  i212:=by kernel_rfl
  i232:=by kernel_rfl
  i233:=by kernel_rfl
  m15:=by kernel_rfl
  m16:=by kernel_rfl
  m17:=by kernel_rfl
  m18:=by kernel_rfl
  m19:=by kernel_rfl
  c0:=by kernel_rfl
  c2:=by kernel_rfl
  c3:=by kernel_rfl
  c4:=by kernel_rfl
  c5:=by kernel_rfl
  c9:=by kernel_rfl
  c20:=by kernel_rfl
  c21:=by kernel_rfl
  c37:=by kernel_rfl
  c46:=by kernel_rfl
  c51:=by kernel_rfl
  c53:=by kernel_rfl
  c75:=by kernel_rfl
  c80:=by kernel_rfl
  c85:=by kernel_rfl
  c127:=by kernel_rfl
  c143:=by kernel_rfl
  c145:=by kernel_rfl
  c167:=by kernel_rfl
  c168:=by kernel_rfl
  c171:=by kernel_rfl
  c173:=by kernel_rfl
  c175:=by kernel_rfl
  c210:=by kernel_rfl
  c212:=by kernel_rfl
  c213:=by kernel_rfl
  c232:=by kernel_rfl
  c233:=by kernel_rfl }
open Go.RowKit in
theorem Tryz.strings_Compare (a b:ByteArray) (w:World) :
    Calls Tryz.prog 89 #[.string a,.string b] w fun e w'=>e= .returned (.int .i64 (Lib.compareBytes a.data.toList b.data.toList))/\w'=w:=Any.strings_Compare Tryz.Kj a b w
open Go.RowKit in
theorem Tryz.strconv_FormatBool (b:Bool) (w:World) :
    Calls Tryz.prog 35 #[.bool b] w fun e w'=>e= .returned (.string ⟨(Lib.formatBool b).toArray⟩)/\w'=w:=Any.strconv_FormatBool Tryz.Ki b w
open Go.RowKit Go.Sort Go.Lib in
theorem Tryz.strconv_FormatInt_10 (n:Int) (h0 : -9223372036854775808<=n) (h1:n<=9223372036854775807) (w:World) (htab:Lib.TabIs Tryz.prog w "internal/strconv.uint64pow10" .u64 Lib.pow10Tab) :
    Calls Tryz.prog 34 #[.int .i64 n,.int .i64 10] w fun e w'=>e= .returned (.string ⟨(Lib.itoa n).toArray⟩)/\∃k os,w'=grow (w.drewN k) os:=Any.strconv_FormatInt_10 Tryz.Ir n h0 h1 w htab
open Go.RowKit in
theorem Tryz.strconv_ParseInt_10_at64_ok (s:ByteArray) (hmax:s.size<=9223372036854775806) (v:Int) (h:Lib.parseIntB 64 s.data.toList= .ok v) (w:World) :
    Calls Tryz.prog 38 #[.string s,.int .i64 10,.int .i64 64] w fun e w'=>e= .returned (.tuple #[.int .i64 v,.nilIface])/\(w'=w\/∃t,w'=Lib.bytesWorld w 5 t):=Any.strconv_ParseInt_10_at64_ok Tryz.vM s hmax v h w
open Go.RowKit in
theorem Tryz.strconv_ParseInt_10_at64_syntax_var (s:ByteArray) (hlim:s.size<=281474976710656) (h:Lib.parseIntB 64 s.data.toList= .syntax) (tp:TypeId) (p:Value) (w:World) (hvar:w.var? Tryz.prog "strconv.ErrSyntax" =some #[.iface tp p]) :
    Calls Tryz.prog 38 #[.string s,.int .i64 10,.int .i64 64] w fun e w'=>∃N,e= .returned (.tuple #[.int .i64 (0),.iface 231 (.pointer (some ⟨N,0,none⟩))])/\w.heap.size<=N/\w'.heap[N]? =some (.cells #[.string ⟨#[80,97,114,115,101,73,110,116]⟩,.string s,.iface tp p] 257 (0,0))/\Below w.heap.size w w':=Any.strconv_ParseInt_10_at64_syntax_var Tryz.vM s hlim h tp p w hvar
open Go.RowKit in
theorem Tryz.strconv_ParseInt_10_at64_range_var (s:ByteArray) (hlim:s.size<=281474976710656) (h:Lib.parseIntB 64 s.data.toList= .range) (tp:TypeId) (p:Value) (w:World) (hvar:w.var? Tryz.prog "strconv.ErrRange" =some #[.iface tp p]) :
    Calls Tryz.prog 38 #[.string s,.int .i64 10,.int .i64 64] w fun e w'=>∃N,e= .returned (.tuple #[.int .i64 (Lib.intSat 64 s.data.toList),.iface 231 (.pointer (some ⟨N,0,none⟩))])/\w.heap.size<=N/\w'.heap[N]? =some (.cells #[.string ⟨#[80,97,114,115,101,73,110,116]⟩,.string s,.iface tp p] 257 (0,0))/\Below w.heap.size w w':=Any.strconv_ParseInt_10_at64_range_var Tryz.vM s hlim h tp p w hvar
end Go.Proofs
namespace Go.Proofs.YtdgckfkoihcmjaaGreatDoor
open Go.Proofs.Tryz
open Go Go.Lw
set_option maxRecDepth 20000 set_option maxHeartbeats 4000000
section
variable {h hb:ai}{rb B d m:Nat}{O:Nat->Prop}{ev nv:Value}{env:List Bd}{t:By}{l:List Tr}
theorem zS (a b:By):au Tryz.prog 89 #[.string (bs a),.string (bs b)] h (bL fun r h'=>r= .int .i64 (Lib.compareBytes a b)/\h'=h) :=
 au.uo fun w=>Tryz.strings_Compare (bs a) (bs b) w
theorem AY (ih:MG hb rb B d) (I:ql hb rb B O h m ev env) (hm:m<=d) (hn:eK h O nv (.mk 5 t l)) (hc:Cl aW (.mk 5 t l)) (hw:(Tr.mk 5 t l).wt<=1000000) :
 au Tryz.prog 47 #[.pointer (some ⟨rb,0,none⟩),ev,nv] h (bL fun r h'=>LF rb O h (Dd (aI d) m env t l) r h'):=by
 obtain⟨na,nn,nc,rfl,hR,hks⟩:=ny hn;have hkn:=hks.len;subst hkn;obtain⟨hl1,hl2⟩:=wL hc (by decide);have hl1:2<=l.length:=hl1;obtain⟨b0,o0,k0,t0,a0,n0,c0,ha0,hb0,hr0,hk0⟩:=iB hks (i:=0) (by omega);have hrl:=I.CW;refine b9 ?_;refine af ?_;refine xo rfl (kH) ?_;rintro _ h1 ⟨rfl,k5,e1,z1⟩;refine xo rfl (cH) ?_;rintro _ h2 ⟨rfl,k6,e2,z2⟩;have e12:=e1.trans e2;have k5:aD h2 h.size 27 [.int .i64 5,.string (bs t),.slice na l.length nc]:=k5.ah e2;have m2:=cI O h h2;have I2:=I.yN m2 e12 (je I.lt e12.size);have o1:=iH B d m env (l.getD 0 bG) I.mB I.ok (cR hw 0);have hih:=ih I2 hm (hk0.mv (m2.tj e12)) (hc.jW 0) (cR hw 0);unfold Dd;generalize aI d m env (l.getD 0 bG)=o at hih o1 ⊢;obtain⟨v,e,m'⟩:=o;obtain⟨hm',hvk,hlt⟩:=o1;dsimp only at hm' hvk hlt ⊢;refine af ?_;refine xp rfl (aA rfl (k5.cell (i:=2) rfl)) ?_;refine xp rfl (cM rfl rfl 0 rfl ha0) ?_;refine xp rfl (b7 rfl (e12.rowAt (fun k=>k) hr0)) ?_;refine xo rfl (aF rfl hih) ?_;rintro _ h3 ⟨v3,rfl,hv3,b3,e3⟩;dsimp only at hv3 b3;obtain⟨nk,nt,xa,xn,xc,ea,en,ec,rfl,hbd3,hR3,hen3⟩:=cQ.get hv3;refine af ?_;refine xo rfl (cH) ?_;rintro _ h4 ⟨rfl,k8,e4,z4⟩;refine aN rfl (aV rfl rfl k8 fT) ?_;rintro _ h5 ⟨rfl,k85,x5,z5⟩;have k85:aD h5 h3.size 30 (jV v.kind v.num v.gr v.self nk nt xa xn xc ea en ec):=k85;have e35:aj h3 h5:=aj.only e4 x5 (Nat.le_refl _);have E25:Ext (fun b=>b=rb) h2 h5:=e3.trans (e35.mono fun _ _ q=>q.elim);have E05:Ext (fun b=>b=rb) h h5:=(e12.mono fun _ _ q=>q.elim).trans E25;have zz:=And.intro e3.size (And.intro e35.size e12.size);have m23:=cI (upTo O h h2) h3 h5;obtain⟨O3,hO3⟩:∃O3,O3=upTo (upTo O h h2) h3 h5:=⟨_,rfl⟩
 have l3:∀b,O3 b->b<h5.size:=fun b q=>by
  rw[hO3] at q
  rcases q with (q|q)|q
  · have:=I.lt b q;omega
  · omega
  · omega
 have m3:jm h O O3:=by
  rw[hO3]
  exact⟨fun b q=>.inl (.inl q),fun b q=>by
   rcases q with (q|q)|q
   · exact .inl q
   · exact .inr q.1
   · exact .inr (by omega)⟩
 have b5:=b3.ah e35;have hR5:=eV.mv hR3 (m23.tj e35);rw[<-hO3] at hR5;have hbd5:=eN.mv hbd3 (m23.tj e35);rw[<-hO3] at hbd5;have hen5:=hen3.mv (m23.tj e35);rw[<-hO3] at hen5;have o6:O3 h1.size:=by rw[hO3];exact .inl (.inr (by omega))
 have k55:=k5.ext E25 (by omega);have k65:=k6.ext E25 (by omega);have I5:ql hb rb B O3 h5 m' ev env:=I.next m3 hm' E05 b5 l3
 refine af ?_;refine aX (fun he=>?_) (fun he=>?_)
 · rw[if_pos he];refine af ?_;refine xp rfl (aq (H.dU ) rfl) ?_;refine af ?_;refine aN rfl (aV rfl rfl k65) ?_;rintro _ h6 ⟨rfl,k66,x6,z6⟩;refine af ?_;refine cn (cg rfl k66.row (eD cm)) ?_;exact⟨_,rfl,_,rfl,gX _ _,b5.ext x6 (by omega),E05.bH x6 (fun b hb q=>by omega)⟩
 · rw[if_neg he]
   iterate 3 refine bl ?_
   refine gG [(34,.bool (decide (t=rO\/t=kJ)))] rfl ?_ ?_
   · refine af ?_;refine xp rfl (aA rfl (k55.cell (i:=1) rfl)) ?_;refine af ?_;refine dV 30 (fun p=>?_) (fun p=>?_)
     · have p:t=rO:=bu (of_decide_eq_true p);refine af ?_;exact aH rfl ⟨av rfl (by rw[decide_eq_true (.inl p)]),sb rfl⟩
     · have p:¬t=rO:=fun q=>of_decide_eq_false p (by rw[q];rfl)
       refine af ?_;refine xp rfl (aA rfl (k55.cell (i:=1) rfl)) ?_;refine af ?_;exact aH rfl ⟨av rfl (by rw[decide_eq_decide];exact⟨fun q=>.inr (bu q),fun q=>by rw[q.resolve_left p];rfl⟩),sb rfl⟩
   · refine jo (fun hoa=>?_) (fun hoa=>?_)
     · have hoa:=of_decide_eq_true hoa;rw[if_pos hoa];refine af ?_;refine xp rfl (aA rfl (k85.cell (i:=0) rfl)) ?_;refine af ?_;refine aX (fun hk=>?_) (fun hk=>?_)
       · rw[if_pos hk];refine af ?_;refine xp rfl (aq (H.dU ) rfl) ?_;refine aN rfl (aV rfl rfl k65) ?_;rintro _ h6 ⟨rfl,k66,x6,z6⟩;refine af ?_;refine cn (cg rfl k66.row (eD cm)) ?_;exact⟨_,rfl,_,rfl,gX _ _,b5.ext x6 (by omega),E05.bH x6 (fun b hb q=>by omega)⟩
       · rw[if_neg hk];have hor:decide (bs t=⟨#[111,114]⟩)=decide (t=rO):=by rw[decide_eq_decide];exact⟨fun q=>bu q,fun q=>by rw[q];rfl⟩
         refine af ?_;refine xp rfl (aA rfl (k85.cell (i:=1) rfl)) ?_;refine af ?_;refine xp rfl (aA rfl (k55.cell (i:=1) rfl)) ?_;refine af ?_;refine jo (fun hq=>?_) (fun hq=>?_)
         · have hq:decide (v.num≠0)=decide (t=rO):=by rw[<-hor];simpa using hq
           rw[if_pos hq];refine af ?_;refine xp rfl (b7 rfl k85.row) ?_;refine aN rfl (aV rfl rfl k65 fT) ?_;rintro _ h6 ⟨rfl,k66,x6,z6⟩;refine af ?_;refine cn (cg rfl k66.row (eD cm)) ?_;exact⟨_,rfl,_,rfl,cQ.of (eV.mv hR5 (cK m3.1 o6 x6)),b5.ext x6 (by omega),E05.bH x6 (fun b hb q=>by omega)⟩
         · have hq:¬decide (v.num≠0)=decide (t=rO):=by rw[<-hor];simpa using hq
           rw[if_neg hq];obtain⟨b1,o1',k1,t1,a1,n1,c1,ha1,hb1,hr1,hk1⟩:=iB hks (i:=1) (by omega);have hb1r:b1≠rb:=fun q=>hb1.1 (q▸I.own)
           have hr1':=E05.rowAt hb1r hr1;have hk1':=hk1.mv (m3.mv I.own E05);have o2:=iH B d m' env (l.getD 1 bG) I5.mB I5.ok (cR hw 1);have hih2:=ih I5 (by omega) hk1' (hc.jW 1) (cR hw 1);generalize aI d m' env (l.getD 1 bG)=p at hih2 o2 ⊢;obtain⟨v2,e2',m2'⟩:=p;obtain⟨hm2,hvk2,hlt2⟩:=o2;dsimp only at hm2 hvk2 hlt2 ⊢;refine af ?_;refine xp rfl (aA rfl (k55.cell (i:=2) rfl)) ?_;refine xp rfl (cM rfl rfl 1 rfl ha1) ?_;refine xp rfl (b7 rfl hr1') ?_;refine xo rfl (aF rfl hih2) ?_;rintro _ h6 ⟨v6,rfl,hv6,b6,e6⟩;dsimp only at hv6 b6;obtain⟨nk2,nt2,ya,yn,yc,fa,fm,fc,rfl,_,hR6,_⟩:=cQ.get hv6;refine af ?_;refine xo rfl (cH) ?_;rintro _ h7 ⟨rfl,k10,e7,z7⟩;refine aN rfl (aV rfl rfl k10 fT) ?_;rintro _ h8 ⟨rfl,k10',x8,z8⟩;have k10':aD h8 h6.size 30 (jV v2.kind v2.num v2.gr v2.self nk2 nt2 ya yn yc fa fm fc):=k10';have e68:aj h6 h8:=aj.only e7 x8 (Nat.le_refl _);have E58:Ext (fun b=>b=rb) h5 h8:=e6.trans (e68.mono fun _ _ q=>q.elim);have E08:=E05.trans E58;have zw:=And.intro e6.size e68.size;obtain⟨O6,hO6⟩:∃O6,O6=upTo O3 h6 h8:=⟨_,rfl⟩
           have l6:∀b,O6 b->b<h8.size:=fun b q=>by
            rw[hO6] at q
            rcases q with q|q
            · have:=l3 b q;omega
            · omega
           have m56:jm h5 O3 O6:=by rw[hO6];exact⟨fun b q=>.inl q,fun b q=>q.imp id (fun q=>by omega)⟩
           have m6:jm h O O6:=⟨fun b q=>m56.1 b (m3.1 b q),fun b q=>(m56.2 b q).elim (m3.2 b) (fun q=>.inr (by omega))⟩
           have b8:=b6.ah e68;have hR8:=eV.mv hR6 ((cI O3 h6 h8).tj e68);rw[<-hO6] at hR8;have hr3:=m3.1 _ I.own;have hR58:=eV.mv hR5 (m56.mv hr3 E58);have o66:=m56.1 _ o6;have k58:=k55.ext E58 (by omega);have k68:=k65.ext E58 (by omega);have k88:=k85.ext E58 (by have:=I2.CW;omega);have I8:ql hb rb B O6 h8 m2' ev env:=I5.next m56 hm2 E58 b8 l6
           refine bz ?_;refine dH ?_
           iterate 2 refine bl ?_
           refine gG [(63,.bool (decide (e2'=0/\v2.kind≠2)))] rfl ?_ ?_
           · refine af ?_;refine dV 59 (fun p=>?_) (fun p=>?_)
             · have p:=of_decide_eq_true p;refine af ?_;refine xp rfl (aA rfl (k10'.cell (i:=0) rfl)) ?_;refine af ?_;exact aH rfl ⟨av rfl (by rw[decide_eq_decide];exact⟨fun q=>⟨p,q⟩,fun q=>q.2⟩),sb rfl⟩
             · have p:=of_decide_eq_false p;refine af ?_;exact aH rfl ⟨av rfl (by rw[decide_eq_false (fun q=>p q.1)]),sb rfl⟩
           · refine jo (fun hp=>?_) (fun hp=>?_)
             · have hp:=of_decide_eq_true hp;rw[if_pos hp];refine af ?_;refine xp rfl (aq (H.dU ) rfl) ?_;refine aN rfl (aV rfl rfl k68) ?_;rintro _ h9 ⟨rfl,k66,x9,z9⟩;refine af ?_;refine cn (cg rfl k66.row (eD cm)) ?_;exact⟨_,rfl,_,rfl,gX _ _,b8.ext x9 (by omega),E08.bH x9 (fun b hb q=>by omega)⟩
             · have hp:=of_decide_eq_false hp;rw[if_neg hp];refine af ?_;refine xp rfl (b7 rfl k10'.row) ?_;refine af ?_;refine aN rfl (aV rfl rfl k68 fT) ?_;rintro _ h9 ⟨rfl,k66,x9,z9⟩;refine af ?_;refine cn (cg rfl k66.row (eD cm)) ?_;exact⟨_,rfl,_,rfl,cQ.of (eV.mv hR8 (cK m6.1 o66 x9)),(b8).ext x9 (by omega),(E08).bH x9 (fun b hb q=>by omega)⟩
     · have hoa:=of_decide_eq_false hoa;rw[if_neg hoa];obtain⟨b1,o1',k1,t1,a1,n1,c1,ha1,hb1,hr1,hk1⟩:=iB hks (i:=1) (by omega);have hb1r:b1≠rb:=fun q=>hb1.1 (q▸I.own)
       have hr1':=E05.rowAt hb1r hr1;have hk1':=hk1.mv (m3.mv I.own E05);have o2:=iH B d m' env (l.getD 1 bG) I5.mB I5.ok (cR hw 1);have hih2:=ih I5 (by omega) hk1' (hc.jW 1) (cR hw 1);generalize aI d m' env (l.getD 1 bG)=p at hih2 o2 ⊢;obtain⟨v2,e2',m2'⟩:=p;obtain⟨hm2,hvk2,hlt2⟩:=o2;dsimp only at hm2 hvk2 hlt2 ⊢;refine af ?_;refine xp rfl (aA rfl (k55.cell (i:=2) rfl)) ?_;refine xp rfl (cM rfl rfl 1 rfl ha1) ?_;refine xp rfl (b7 rfl hr1') ?_;refine xo rfl (aF rfl hih2) ?_;rintro _ h6 ⟨v6,rfl,hv6,b6,e6⟩;dsimp only at hv6 b6;obtain⟨nk2,nt2,ya,yn,yc,fa,fm,fc,rfl,_,hR6,_⟩:=cQ.get hv6;refine af ?_;refine xo rfl (cH) ?_;rintro _ h7 ⟨rfl,k10,e7,z7⟩;refine aN rfl (aV rfl rfl k10 fT) ?_;rintro _ h8 ⟨rfl,k10',x8,z8⟩;have k10':aD h8 h6.size 30 (jV v2.kind v2.num v2.gr v2.self nk2 nt2 ya yn yc fa fm fc):=k10';have e68:aj h6 h8:=aj.only e7 x8 (Nat.le_refl _);have E58:Ext (fun b=>b=rb) h5 h8:=e6.trans (e68.mono fun _ _ q=>q.elim);have E08:=E05.trans E58;have zw:=And.intro e6.size e68.size;obtain⟨O6,hO6⟩:∃O6,O6=upTo O3 h6 h8:=⟨_,rfl⟩
       have l6:∀b,O6 b->b<h8.size:=fun b q=>by
        rw[hO6] at q
        rcases q with q|q
        · have:=l3 b q;omega
        · omega
       have m56:jm h5 O3 O6:=by rw[hO6];exact⟨fun b q=>.inl q,fun b q=>q.imp id (fun q=>by omega)⟩
       have m6:jm h O O6:=⟨fun b q=>m56.1 b (m3.1 b q),fun b q=>(m56.2 b q).elim (m3.2 b) (fun q=>.inr (by omega))⟩
       have b8:=b6.ah e68;have hR8:=eV.mv hR6 ((cI O3 h6 h8).tj e68);rw[<-hO6] at hR8;have hr3:=m3.1 _ I.own;have hR58:=eV.mv hR5 (m56.mv hr3 E58);have o66:=m56.1 _ o6;have k58:=k55.ext E58 (by omega);have k68:=k65.ext E58 (by omega);have k88:=k85.ext E58 (by have:=I2.CW;omega);have I8:ql hb rb B O6 h8 m2' ev env:=I5.next m56 hm2 E58 b8 l6
       refine af ?_;refine aX (fun he2=>?_) (fun he2=>?_)
       · rw[if_pos he2];refine af ?_;refine xp rfl (aq (H.dU ) rfl) ?_;refine af ?_;refine aN rfl (aV rfl rfl k68) ?_;rintro _ h9 ⟨rfl,k66,x9,z9⟩;refine af ?_;refine cn (cg rfl k66.row (eD cm)) ?_;exact⟨_,rfl,_,rfl,gX _ _,b8.ext x9 (by omega),E08.bH x9 (fun b hb q=>by omega)⟩
       · rw[if_neg he2];obtain⟨g1,_,_⟩:=hvk.get;obtain⟨g2,_,_⟩:=hvk2.get;have hs1:=aK v.gr;have hs2:=aK v2.gr;unfold qd;refine bl ?_;refine gG [(82,.bool (decide (v.kind≠v2.kind\/v.kind=4)))] rfl ?_ ?_
         · refine af ?_;refine xp rfl (aA rfl (k88.cell (i:=0) rfl)) ?_;refine af ?_;refine xp rfl (aA rfl (k10'.cell (i:=0) rfl)) ?_;refine af ?_;refine dV 88 (fun p=>?_) (fun p=>?_)
           · have p:=of_decide_eq_true p;refine af ?_;exact aH rfl ⟨av rfl (by rw[decide_eq_true (.inl p)]),sb rfl⟩
           · have p:=of_decide_eq_false p;refine af ?_;refine xp rfl (aA rfl (k88.cell (i:=0) rfl)) ?_;refine af ?_;exact aH rfl ⟨av rfl (by rw[decide_eq_decide];exact⟨.inr,fun q=>q.resolve_left p⟩),sb rfl⟩
         · refine jo (fun hk=>?_) (fun hk=>?_)
           · have hk:=of_decide_eq_true hk;rw[if_pos hk];refine af ?_;refine xp rfl (aq (H.dU ) rfl) ?_;refine aN rfl (aV rfl rfl k68) ?_;rintro _ h9 ⟨rfl,k66,x9,z9⟩;refine af ?_;refine cn (cg rfl k66.row (eD cm)) ?_;exact⟨_,rfl,_,rfl,gX _ _,b8.ext x9 (by omega),E08.bH x9 (fun b hb q=>by omega)⟩
           · have hk:=of_decide_eq_false hk;rw[if_neg hk];refine af ?_;refine xp rfl (aA rfl (k88.cell (i:=0) rfl)) ?_;refine af ?_;refine aX (fun h1k=>?_) (fun h1k=>?_)
             · rw[if_pos h1k];refine af ?_;refine xp rfl (aA rfl (k58.cell (i:=1) rfl)) ?_;refine af ?_;refine xp rfl (aA rfl (k88.cell (i:=1) rfl)) ?_;refine af ?_;refine xp rfl (aA rfl (k10'.cell (i:=1) rfl)) ?_;refine xo rfl (aF rfl (yd O6 t _ _)) ?_;rintro _ h9' ⟨vz,rfl,hvz,ez⟩;obtain⟨zk,zt,za,zn,zc,wa,wm,wc,rfl,_,hRz,_⟩:=cQ.get hvz;have Ez:=E08.trans (ez.mono fun _ _ q=>q.elim);have zz9:=ez.size;refine af ?_;refine aN rfl (aV rfl rfl ((k68.ah ez)) fT) ?_;rintro _ h9 ⟨rfl,k66,x9,z9⟩;refine af ?_;refine cn (cg rfl k66.row (eD cm)) ?_;exact⟨_,rfl,_,rfl,cQ.of (eV.mv hRz (cK m6.1 o66 x9)),((b8.ah ez)).ext x9 (by omega),(Ez).bH x9 (fun b hb q=>by omega)⟩
             · rw[if_neg h1k];refine bl ?_;refine gG [(107,.bool (decide (v.kind=3/\t=[43])))] rfl ?_ ?_
               · refine af ?_;refine xp rfl (aA rfl (k88.cell (i:=0) rfl)) ?_;refine af ?_;refine dV 111 (fun p=>?_) (fun p=>?_)
                 · have p:=of_decide_eq_true p;refine af ?_;refine xp rfl (aA rfl (k58.cell (i:=1) rfl)) ?_;refine af ?_;exact aH rfl ⟨av rfl (by rw[decide_eq_decide];exact⟨fun q=>⟨p,bu q⟩,fun q=>by rw[q.2];rfl⟩),sb rfl⟩
                 · have p:=of_decide_eq_false p;refine af ?_;exact aH rfl ⟨av rfl (by rw[decide_eq_false (fun q=>p q.1)]),sb rfl⟩
               · refine jo (fun h3p=>?_) (fun h3p=>?_)
                 · have h3p:=of_decide_eq_true h3p;rw[if_pos h3p];refine af ?_;refine xp rfl (aA rfl (k88.cell (i:=2) rfl)) ?_;refine af ?_;refine xp rfl (aA rfl (k10'.cell (i:=2) rfl)) ?_;refine af ?_;refine aX (fun hbig=>?_) (fun hbig=>?_)
                   · rw[if_pos (by omega)];refine af ?_;refine xp rfl (aq (H.dU ) rfl) ?_;refine aN rfl (aV rfl rfl k68) ?_;rintro _ h9 ⟨rfl,k66,x9,z9⟩;refine af ?_;refine cn (cg rfl k66.row (eD cm)) ?_;exact⟨_,rfl,_,rfl,gX _ _,b8.ext x9 (by omega),E08.bH x9 (fun b hb q=>by omega)⟩
                   · rw[if_neg (by omega)];refine af ?_;refine xp rfl (aA rfl (k88.cell (i:=2) rfl)) ?_;refine af ?_;refine xp rfl (aA rfl (k10'.cell (i:=2) rfl)) ?_;refine bz ?_;rw[cL];refine xp rfl (aq (H.wV _ _) rfl) ?_;refine aN rfl (aV rfl rfl k68 fT) ?_;rintro _ h9 ⟨rfl,k66,x9,z9⟩;refine af ?_;refine cn (cg rfl k66.row (eD cm)) ?_;exact⟨_,rfl,_,rfl,K6 _ _ _,b8.ext x9 (by omega),E08.bH x9 (fun b hb q=>by omega)⟩
                 · have h3p:=of_decide_eq_false h3p;rw[if_neg h3p];refine af ?_;refine xp rfl (aA rfl (k88.cell (i:=0) rfl)) ?_;refine af ?_;refine aX (fun h3k=>?_) (fun h3k=>?_)
                   · rw[if_pos h3k];refine af ?_;refine LH 12 10 ?_;refine aG 0 ?_;refine bJ 1 rfl (fun h' e=>aA rfl (e.cell (by have:=I2.CW;dsimp only;omega) (k58.cell (i:=1) rfl))) ?_;refine aG 2 ?_;refine bJ 3 rfl (fun h' e=>aA rfl (e.cell (by dsimp only;omega) (k88.cell (i:=2) rfl))) ?_;refine aG 4 ?_;refine bJ 5 rfl (fun h' e=>aA rfl (e.cell (by dsimp only;omega) (k10'.cell (i:=2) rfl))) ?_;refine dR 6 rfl (aF rfl (zS _ _)) ?_;rintro _ _ ⟨rfl,rfl⟩;refine⟨fun _=>Ext.refl _ _,?_⟩;refine dR 7 rfl (aF rfl (pE O6 t _)) ?_;rintro _ h9' ⟨vz,rfl,hvz,ez⟩;refine⟨fun _=>ez.of,?_⟩;obtain⟨zk,zt,za,zn,zc,wa,wm,wc,rfl,_,hRz,_⟩:=cQ.get hvz;have Ez:=E08.trans (ez.mono fun _ _ q=>q.elim);have zz9:=ez.size;refine aG 8 ?_;refine aG 9 ?_;refine jZ 10 rfl (aV rfl rfl ((k68.ah ez)) fT) ?_;rintro _ h9 ⟨rfl,k66,x9,z9⟩;refine⟨nofun,?_⟩;refine aG 11 ?_;refine iO ?_;refine cn (cg rfl k66.row (eD cm)) ?_;exact⟨_,rfl,_,rfl,cQ.of (eV.mv hRz (cK m6.1 o66 x9)),((b8.ah ez)).ext x9 (by omega),(Ez).bH x9 (fun b hb q=>by omega)⟩
                   · rw[if_neg h3k];refine af ?_;refine xp rfl (aA rfl (k58.cell (i:=1) rfl)) ?_;refine af ?_;refine aX (fun hee=>?_) (fun hee=>?_)
                     · have hee:t=[61,61]:=bu hee;rw[if_pos hee];refine af ?_;refine xp rfl (aA rfl (k88.cell (i:=1) rfl)) ?_;refine af ?_;refine xp rfl (aA rfl (k10'.cell (i:=1) rfl)) ?_;refine af ?_;refine xo rfl (aF rfl (dh _)) ?_;rintro _ h9' ⟨rfl,ez⟩;refine aN rfl (aV rfl rfl ((k68.ah ez)) fT) ?_;rintro _ h9 ⟨rfl,k66,x9,z9⟩;refine af ?_;refine cn (cg rfl k66.row (eD cm)) ?_;exact⟨_,rfl,_,rfl,oO _ _ _,(b8.ah ez).ext x9 (by omega),(E08.trans (ez.mono fun _ _ q=>q.elim)).bH x9 (fun b hb q=>by omega)⟩
                     · have hee:¬t=[61,61]:=fun q=>hee (by rw[q];rfl)
                       rw[if_neg hee];refine af ?_;refine xp rfl (aA rfl (k58.cell (i:=1) rfl)) ?_;refine af ?_;refine aX (fun hne=>?_) (fun hne=>?_)
                       · have hne:t=[33,61]:=bu hne;rw[if_pos hne];refine af ?_;refine xp rfl (aA rfl (k88.cell (i:=1) rfl)) ?_;refine af ?_;refine xp rfl (aA rfl (k10'.cell (i:=1) rfl)) ?_;refine af ?_;refine xo rfl (aF rfl (dh _)) ?_;rintro _ h9' ⟨rfl,ez⟩;refine aN rfl (aV rfl rfl ((k68.ah ez)) fT) ?_;rintro _ h9 ⟨rfl,k66,x9,z9⟩;refine af ?_;refine cn (cg rfl k66.row (eD cm)) ?_;exact⟨_,rfl,_,rfl,oO _ _ _,(b8.ah ez).ext x9 (by omega),(E08.trans (ez.mono fun _ _ q=>q.elim)).bH x9 (fun b hb q=>by omega)⟩
                       · have hne:¬t=[33,61]:=fun q=>hne (by rw[q];rfl)
                         rw[if_neg hne];refine af ?_;refine xp rfl (aq (H.dU ) rfl) ?_;refine aN rfl (aV rfl rfl k68) ?_;rintro _ h9 ⟨rfl,k66,x9,z9⟩;refine af ?_;refine cn (cg rfl k66.row (eD cm)) ?_;exact⟨_,rfl,_,rfl,gX _ _,b8.ext x9 (by omega),E08.bH x9 (fun b hb q=>by omega)⟩
theorem Me {a:Option Addr}{n c:Nat}(hws:Sl eN h O a n c l){i:Nat}(hi:i<n) :
 ∃b o k t l' xa xc,a=some ⟨b,o,none⟩/\(¬O b/\b<h.size)/\l[i]? =some (.mk k t l')/\Lw.rowAt h b (o+i*3) (zF k t xa l'.length xc)/\eK h O (.agg #[.int .i64 k,.string (bs t),.slice xa l'.length xc]) (.mk k t l'):=by
 obtain⟨b,o,x,cs,ha,hob,hx,hrow,hR⟩:=Sl.nd hws hi;obtain⟨k,t,l'⟩:=x;obtain⟨v,rfl,hs⟩:=mw hR;obtain⟨xa,xn,xc,rfl,hk⟩:=hs.open;have:=hk.len;subst this;exact⟨b,o,k,t,l',xa,xc,ha,⟨hob,dL hrow (by simp)⟩,hx,hrow,eK.of hR⟩
structure Rf (hb:ai) (rb B d m:Nat) (env:List Bd) (l:List Tr) (O:Nat->Prop) (h:ai) (i:Nat) (ev':Value) (env':List Bd) (m':Nat) (v:Vl) (O':Nat->Prop) (g:ai):Prop where
 inv:ql hb rb B O' g m' ev' env'
 more:jm h O O'
 here:O' h.size
 val:∃nk nt a n c ea en ec,aD g h.size 30 (jV v.kind v.num v.gr v.self nk nt a n c ea en ec)/\eV.R g O' (jV v.kind v.num v.gr v.self nk nt a n c ea en ec) v
 ext:Ext (fun b=>b=rb) h g
 le:i<=l.length
 ml:m'<=m
 vok:okV (B-2*m') v
 eq:eY (aI d) m env l gY=eY (aI d) m' env' (l.drop i) v
theorem CK (ih:MG hb rb B d){kv:Value}(I:ql hb rb B O h m ev env) (hm:m<=d) (hk:aZ eN h O kv l) (hl:∀x∈l,Cl aW x/\x.wt<=1000000) :
 au Tryz.prog 42 #[.pointer (some ⟨rb,0,none⟩),ev,kv] h (bL fun r h'=>LF rb O h (eY (aI d) m env l gY) r h'):=by
 obtain⟨ka,kn,kc,rfl,hks⟩:=hk.open;have hkn:=hks.len;subst hkn;have hkc:=hks.le;have hkm:=hks.cap;unfold maxLen at hkm;have hrl:=I.CW;refine b9 ?_;refine af ?_;refine xo rfl (cH) ?_;rintro _ h1 ⟨rfl,k6,e1,z1⟩;have k6:aD h1 h.size 30 (jV 0 0 [] [] 0 [] none 0 0 none 0 0):=k6;have m1:=cI O h h1;have I1:=I.yN m1 e1 (je I.lt e1.size);refine af ?_;refine jd (σ:=Nat×Value×List Bd×Nat×Vl×(Nat->Prop)) (fun q=>[(1,q.2.1),(12,.int .i64 (q.1:Nat))]) (fun q h'=>Rf hb rb B d m env l O h q.1 q.2.1 q.2.2.1 q.2.2.2.1 q.2.2.2.2.1 q.2.2.2.2.2 h') (fun q=>l.length-q.1) ((0,ev,env,m,gY,upTo O h h1)) ⟨I1,m1,.inr (by omega),⟨_,_,_,_,_,_,_,_,k6,sn _ _ 0 0 [] []⟩,e1.mono fun _ _ q=>q.elim,Nat.zero_le _,Nat.le_refl _,cX _,rfl⟩ rfl ?_;rintro⟨i,ev',env',m',v,O'⟩ g ⟨I',mo,o6,⟨nk,nt,xa,xn,xc,ea,en,ec,k6g,hRg⟩,E0g,hi,hml,hvok,heq⟩ ih2
 try dsimp only
 dsimp only at I' mo o6 k6g hRg hi hml hvok heq;have hzg:=E0g.size;refine af ?_;refine aX (fun hlt=>?_) (fun hlt=>?_)
 · obtain⟨b1,o1,k,t,l',na,nc,ha1,hb1,hx,hr1,hk1⟩:=Me hks (i:=i) (by omega);obtain⟨hcl,hwt⟩:=hl _ (List.mem_of_getElem? hx);have hb1r:b1≠rb:=fun q=>hb1.1 (q▸I.own)
   have hr1':=E0g.rowAt hb1r hr1
   have hdr:l.drop i= .mk k t l'::l.drop (i+1):=by
    obtain⟨hil,hxe⟩:=List.getElem?_eq_some_iff.1 hx;rw[List.drop_eq_getElem_cons hil,hxe]
   have heq2:=heq;rw[hdr,eY] at heq2
   iterate 4 refine bl ?_
   refine cW ?_;refine xp rfl (cM rfl rfl i rfl ha1) ?_;refine xp rfl (b7 rfl hr1') ?_;refine xo rfl (cH) ?_;rintro _ g1 ⟨rfl,k9,e1',z1'⟩;refine aN rfl (aV rfl rfl k9 kW) ?_;rintro _ g2 ⟨rfl,k92,x2,z2⟩;have k92:aD g2 g.size 27 [.int .i64 k,.string (bs t),.slice na l'.length nc]:=k92;have e2:aj g g2:=aj.only e1' x2 (Nat.le_refl _);have m2:=cI O' g g2;have I2:=I'.yN m2 e2 (je I'.lt e2.size);have m4:jm h O (upTo O' g g2):=⟨fun b q=>m2.1 b (mo.1 b q),fun b q=>(m2.2 b q).elim (mo.2 b) (fun q=>.inr (by omega))⟩
   have hk2:=hk1.mv (jm.mv m4 I.own (E0g.trans (e2.mono fun _ _ q=>q.elim)));have oo:=iH B d m' env' (.mk k t l') I'.mB I'.ok hwt;have hih:=ih I2 (by omega) hk2 hcl hwt;generalize aI d m' env' (.mk k t l')=o at hih oo heq2;obtain⟨w,e,m2'⟩:=o;obtain⟨hm2,hvk,hlt2⟩:=oo;dsimp only at hm2 hvk hlt2 heq2;have hgl:=I'.lt _ o6;have hgr:=I'.CW;refine af ?_;refine xp rfl (b7 rfl k92.row) ?_;refine xo rfl (aF rfl hih) ?_;rintro _ g3 ⟨v3,rfl,hv3,b3,e3⟩;dsimp only at hv3 b3;obtain⟨nk3,nt3,ya,yn,yc,fa,fm,fc,rfl,_,hR3,_⟩:=cQ.get hv3;have E23:Ext (fun b=>b=rb) g g3:=(e2.mono fun _ _ q=>q.elim).trans e3;have z23:=And.intro E23.size e3.size;have ze2:=e2.size;refine af ?_;refine aN rfl (aV rfl rfl ((k6g.ext E23 (by omega))) fT) ?_;rintro _ g4 ⟨rfl,k64,x4,z4⟩;have k64:aD g4 h.size 30 (jV w.kind w.num w.gr w.self nk3 nt3 ya yn yc fa fm fc):=k64;have o62:upTo O' g g2 h.size:=.inl o6;have hR4:=eV.mv hR3 (cK (fun _ q=>q) o62 x4);have b4:=b3.ext x4 (by omega);have E04:Ext (fun b=>b=rb) h g4:=(E0g.trans E23).bH x4 (fun b hb q=>by omega);have z04:=x4.size;have k94:=(k92.ext e3 (by omega)).ext x4 (by omega);refine af ?_;refine aX (fun he=>?_) (fun he=>?_)
   · rw[if_pos he] at heq2;rw[heq2];refine af ?_;refine xp rfl (aq (H.dU ) rfl) ?_;refine af ?_;refine aN rfl (aV rfl rfl k64) ?_;rintro _ g5 ⟨rfl,k65,x5,z5⟩;refine af ?_;refine cn (cg rfl k65.row (eD cm)) ?_;exact⟨_,rfl,_,rfl,gX _ _,b4.ext x5 (by omega),E04.bH x5 (fun b hb q=>by omega)⟩
   · rw[if_neg he] at heq2;have he:=Classical.not_not.1 he;have hlt2:=hlt2 he
     have I4:ql hb rb B (upTo O' g g2) g4 m2' ev' env':=⟨⟨by have:=I.ext.size;omega,fun b hb _=>(E04.block b (by have:=I.ext.size;omega) (by have:=I.hrb;omega)).trans (I.ext.block b hb (fun k=>k))⟩,b4,fun b q=>by (have:=je I'.lt e2.size b q);omega,.inl I'.own,
      (I2.en.mv (Mv.cu e3 fun b _ hn=>⟨fun q=>hn (q▸ .inl I'.own),hn⟩)).mv (cK (fun _ q=>q) o62 x4),iJ I'.ok hm2,by have:=I'.mB;omega,by have:=I'.mL;omega,I.hB,I.hrb⟩
     iterate 2 refine bl ?_
     refine gG [(35,.bool (decide (k=7/\l'.length=1)))] rfl ?_ ?_
     · refine af ?_;refine xp rfl (aA rfl (k94.cell (i:=0) rfl)) ?_;refine af ?_;refine dV 30 (fun p=>?_) (fun p=>?_)
       · have p:=of_decide_eq_true p;refine af ?_;refine xp rfl (aA rfl (k94.cell (i:=2) rfl)) ?_;refine af ?_;exact aH rfl ⟨av rfl (by rw[decide_eq_decide];exact⟨fun q=>⟨p,by omega⟩,fun q=>by omega⟩),sb rfl⟩
       · have p:=of_decide_eq_false p;refine af ?_;exact aH rfl ⟨av rfl (by rw[decide_eq_false (fun q=>p q.1)]),sb rfl⟩
     · refine jo (fun hc=>?_) (fun hc=>?_)
       · have hc:=of_decide_eq_true hc;have hc':(Tr.mk k t l').kind=7/\(Tr.mk k t l').kids.length=1:=hc;rw[if_pos hc'] at heq2;refine af ?_;refine xp rfl (b7 rfl k64.row) ?_;refine af ?_;refine xp rfl (aA rfl (k94.cell (i:=1) rfl)) ?_;refine xo rfl (aF rfl (yL (cQ.of hR4) t)) ?_;rintro _ g5 ⟨hv5,e5⟩;obtain⟨nk5,nt5,ua,un,uc,wa,wm,wc,rfl,_,hR5,_⟩:=cQ.get hv5;refine aN rfl (aV rfl rfl ((k64.ah e5)) fT) ?_;rintro _ g6 ⟨rfl,k66,x6,z6⟩;have k66:aD g6 h.size 30 (jV (jg w t).kind (jg w t).num (jg w t).gr (jg w t).self nk5 nt5 ua un uc wa wm wc):=k66;have hR6:=eV.mv hR5 (cK (fun _ q=>q) o62 x6);have k96:=(k94.ah e5).ext x6 (by omega);have z56:=And.intro e5.size x6.size;have hen6:=(I4.en.mv (Mv.ah e5)).mv (cK (fun _ q=>q) o62 x6);have hel:env'.length<=1000000:=by have:=I4.ok.1;have:=I.hB;omega
         refine af ?_;refine xp rfl (aA rfl (k96.cell (i:=1) rfl)) ?_;refine xp rfl (b7 rfl k66.row) ?_;refine xo rfl (aF rfl (jr hen6 hel t (cQ.of hR6))) ?_;rintro r7 g7 ⟨ho7,e7⟩;have E47:Ext (fun b=>b=h.size) g4 g7:=((e5.mono fun _ _ q=>q.elim).trans x6).trans (e7.mono fun _ _ q=>q.elim);have E07:Ext (fun b=>b=rb) h g7:=E04.bH E47 (fun b hb q=>by omega);have z7:=e7.size;have hlu:=je I'.lt e2.size;refine af ?_;have zI:=I.ext.size;have I7:ql hb rb B (upTo O' g g2) g7 m2' r7 (env'++[(t,jg w t)]):=⟨⟨by omega,fun b hb _=>(E07.block b (by omega) (by have:=I.hrb;omega)).trans (I.ext.block b hb (fun k=>k))⟩,b4.ext E47 (by omega),fun b q=>by (have:=hlu b q);omega,.inl I'.own,ho7.read (fun b hb q=>by (have:=hlu b q);omega) (fun _ _ q=>q),lq I'.ok hlt2 I'.mB (om hvk t) t,by have:=I'.mB;omega,by have:=I'.mL;omega,I.hB,I.hrb⟩
         exact ih2 (i+1,r7,env'++[(t,jg w t)],m2',jg w t,upTo O' g g2) ⟨I7,m4,o62,⟨_,_,_,_,_,_,_,_,k66.ah e7,eV.mv hR6 (Mv.ah e7)⟩,E07,by show i+1<=_;omega,by dsimp only;omega,om hvk t,heq2⟩
       · have hc:=of_decide_eq_false hc;have hc':¬((Tr.mk k t l').kind=7/\(Tr.mk k t l').kids.length=1):=hc;rw[if_neg hc'] at heq2;refine af ?_;exact ih2 (i+1,ev',env',m2',w,upTo O' g g2) ⟨I4,m4,o62,⟨_,_,_,_,_,_,_,_,k64,hR4⟩,E04,by show i+1<=_;omega,by dsimp only;omega,hvk,heq2⟩
 · obtain rfl:i=l.length:=by omega
   rw[heq,List.drop_of_length_le (Nat.le_refl _),eY];have hgl:=I'.lt _ o6;have hgr:=I'.CW;have hor:rb≠h.size:=by omega
   refine af ?_;refine xp rfl (b7 rfl k6g.row) ?_;refine aN rfl (aV rfl rfl k6g fT) ?_;rintro _ g5 ⟨rfl,k65,x5,z5⟩;refine af ?_;refine cn (cg rfl k65.row (eD cm)) ?_;exact⟨_,rfl,_,rfl,cQ.of (eV.mv hRg (cK mo.1 o6 x5)),I'.blk.ext x5 hor,E0g.bH x5 (fun b hb q=>by omega)⟩
def CV (h:ai) (g:Nat):Prop:=∃t f tp p,h[g]? =some (.cells #[.iface tp p] t f)
theorem CV.ah {h':ai}{g:Nat}(k:CV h g) (e:aj h h'):CV h' g:=by
 obtain⟨t,f,tp,p,hk⟩:=k;exact⟨t,f,tp,p,(e.block g (Array.getElem?_eq_some_iff.1 hk).1 (fun k=>k)).trans hk⟩
theorem CV.var {w:World}{g:Nat}(k:CV w.heap g){n:String}(hg:Tryz.prog.globalNamed n=some g):∃tp p,w.var? Tryz.prog n=some #[.iface tp p]:=by
 obtain⟨t,f,tp,p,hk⟩:=k;exact⟨tp,p,by simp[World.var?,hg,hk]⟩
structure GQ (h:ai):Prop where
 ex:GR h
 syn:CV h 5
 rng:CV h 6
theorem GQ.ah {h h':ai}(k:GQ h) (e:aj h h'):GQ h':=⟨k.ex.ah e,k.syn.ah e,k.rng.ah e⟩
theorem yb (hg:GQ h) (s:By) (hs:s.length<=1000000):au Tryz.prog 38 #[.string (bs s),.int .i64 10,.int .i64 64] h (bL fun r h' =>
 (∃n e,r=packed [.int .i64 n,e]/\((Lib.parseIntB 64 s= .ok n/\e= .nilIface)\/((∀v,Lib.parseIntB 64 s≠ .ok v)/\∃tp p,e= .iface tp p)))/\aj h h'):=by
 have hz:=aK s;refine au.qK fun w hw=>?_
 subst hw;have hd:(bs s).data.toList=s:=gj s
 match ha:Lib.parseIntB 64 s with
 |.ok v =>
  refine(Tryz.strconv_ParseInt_10_at64_ok (bs s) (by omega) v (by rw[hd];exact ha) w).mono ?_;rintro e w' ⟨rfl,rfl|⟨t,rfl⟩⟩
  · exact⟨_,rfl,⟨⟨_,_,rfl,.inl ⟨rfl,rfl⟩⟩,Ext.refl _ _⟩,rfl,rfl,rfl⟩
  · have hb:=Lib.bytesWorld_below w 5 t;exact⟨_,rfl,⟨⟨_,_,rfl,.inl ⟨rfl,rfl⟩⟩,qh hb⟩,hb.os,hb.tape,hb.output⟩
 |.syntax =>
  obtain⟨tp,p,hv⟩:=hg.syn.var (n:= "strconv.ErrSyntax") (by kernel_rfl);refine(Tryz.strconv_ParseInt_10_at64_syntax_var (bs s) (by omega) (by rw[hd];exact ha) tp p w hv).mono ?_;rintro e w' ⟨N,rfl,_,_,hb⟩;exact⟨_,rfl,⟨⟨_,_,rfl,.inr ⟨(fun v hv=>by cases hv),_,_,rfl⟩⟩,qh hb⟩,hb.os,hb.tape,hb.output⟩
 |.range =>
  obtain⟨tp,p,hv⟩:=hg.rng.var (n:= "strconv.ErrRange") (by kernel_rfl);refine(Tryz.strconv_ParseInt_10_at64_range_var (bs s) (by omega) (by rw[hd];exact ha) tp p w hv).mono ?_;rintro e w' ⟨N,rfl,_,_,hb⟩;exact⟨_,rfl,⟨⟨_,_,rfl,.inr ⟨(fun v hv=>by cases hv),_,_,rfl⟩⟩,qh hb⟩,hb.os,hb.tape,hb.output⟩
theorem Gr (d:Nat) (env:List Bd) (n:Tr):aI d 0 env n=(gY,60,0):=by
 cases d with
 |zero=>rfl
 |succ d=>cases n;rfl
theorem zi {n:Tr}(I:ql hb rb B O h 0 ev env) (hn:eK h O nv n) :
 au Tryz.prog 20 #[.pointer (some ⟨rb,0,none⟩),ev,nv] h (bL fun r h'=>LF rb O h (aI d 0 env n) r h'):=by
 rw[Gr];obtain⟨k,t,l⟩:=n;obtain⟨na,nn,nc,rfl,hR,hks⟩:=ny hn;have hrl:=I.CW;refine b9 ?_;refine af ?_;refine xo rfl (kH) ?_;rintro _ h1 ⟨rfl,k5,e1,z1⟩;refine xo rfl (cH) ?_;rintro _ h2 ⟨rfl,k6,e2,z2⟩;have e12:=e1.trans e2;have b2:=I.blk.ah e12;refine af ?_;refine xp rfl (aA rfl (b2.cell (i:=0) rfl)) ?_;refine af ?_;refine aX (fun hs=>?_) (fun hs=>?_)
 · refine af ?_;refine xp rfl (aq (H.dU ) rfl) ?_;refine aN rfl (aV rfl rfl k6) ?_;rintro _ h3 ⟨rfl,k63,x3,z3⟩;refine af ?_;refine cn (cg rfl k63.row (eD cm)) ?_;exact⟨_,rfl,_,rfl,gX _ _,b2.ext x3 (by omega),(e12.mono fun _ _ q=>q.elim).bH x3 (fun b hb q=>by omega)⟩
 · exact absurd rfl hs
theorem IX (h:∀v,Lib.parseIntB 64 t≠ .ok v):aI (d+1) (m+1) env (.mk 0 t l)=(gY,2,m):=by
 rw[aI,if_pos rfl];cases hq:Lib.parseIntB 64 t with
 |ok v=>exact absurd hq (h v)
 | «syntax» =>rfl
 |range=>rfl
theorem Kn {v:Int}(h:Lib.parseIntB 64 t= .ok v):aI (d+1) (m+1) env (.mk 0 t l)=(fR v,0,m):=by
 rw[aI,if_pos rfl,h]
theorem Gs (hg:GQ hb) (ih:MG hb rb B d){k:Int}(I:ql hb rb B O h (m+1) ev env) (hm:m<=d) (hn:eK h O nv (.mk k t l)) (hc:Cl aW (.mk k t l)) (hw:(Tr.mk k t l).wt<=1000000) :
 au Tryz.prog 20 #[.pointer (some ⟨rb,0,none⟩),ev,nv] h (bL fun r h'=>LF rb O h (aI (d+1) (m+1) env (.mk k t l)) r h'):=by
 obtain⟨na,nn,nc,rfl,hR,hks⟩:=ny hn;have hkn:=hks.len;subst hkn;have hrl:=I.CW;have hmL:=I.mL;have htl:t.length<=1000000:=by rw[Tr.wt] at hw;omega
 have hbt:=aK t;have hel:env.length<=1000000:=by have:=I.ok.1;have:=I.hB;omega
 refine b9 ?_;refine af ?_;refine xo rfl (kH) ?_;rintro _ h1 ⟨rfl,k5,e1,z1⟩;refine xo rfl (cH) ?_;rintro _ h2 ⟨rfl,k6,e2,z2⟩;have e12:=e1.trans e2;have b2:=I.blk.ah e12;have k5:aD h2 h.size 27 [.int .i64 k,.string (bs t),.slice na l.length nc]:=k5.ah e2;refine af ?_;refine xp rfl (aA rfl (b2.cell (i:=0) rfl)) ?_;refine af ?_;refine aX (fun hs=>?_) (fun hs=>?_)
 · exact absurd hs (by omega)
 · refine af ?_;refine xp rfl (aA rfl (b2.cell (i:=0) rfl)) ?_;refine af ?_;refine aN rfl (mG rfl rfl b2) ?_;rintro _ h3 ⟨rfl,b3,x3,z3⟩
   have b3:aD h3 rb 67 [.int .i64 (2000-(m:Int))]:=by
    rw[show (2000-(m:Int))=2000-((m+1:Nat):Int)+1 by omega];exact b3
   have E03:Ext (fun b=>b=rb) h h3:=(e12.mono fun _ _ q=>q.elim).trans x3;have zz:=And.intro e12.size x3.size;have m3:=cI O h h2;obtain⟨O3,hO3⟩:∃O3,O3=upTo O h h2:=⟨_,rfl⟩
   rw[<-hO3] at m3
   have l3:∀b,O3 b->b<h3.size:=fun b q=>by
    rw[hO3] at q
    rcases q with q|q
    · have:=I.lt b q;omega
    · omega
   have o6:O3 h1.size:=by rw[hO3];exact .inr (by omega)
   have I3:ql hb rb B O3 h3 m ev env:=I.next m3 (Nat.le_succ m) E03 b3 l3
   have k53:=k5.ext x3 (by omega);have k63:=k6.ext x3 (by omega);have hn3:=hn.mv (jm.mv m3 I.own E03)
   have hks3:Sl eN h3 O3 na l.length nc l:=by
    obtain⟨a',n',c',hv,_,hk'⟩:=ny hn3;have:=congrArg (fun v=>match v with|Value.agg c=>c[2]? |_=>none) hv;simp at this;obtain⟨rfl,rfl,rfl⟩:=this;exact hk'
   refine af ?_;refine xp rfl (aA rfl (k53.cell (i:=0) rfl)) ?_;refine af ?_;have hR3:=cK (O:=O) m3.1 o6 (g:=h3) (g':=h3) (Ext.refl _ _);refine aX (fun c0=>?_) (fun c0=>?_)
   · subst c0;refine af ?_;refine xp rfl (aA rfl (k53.cell (i:=1) rfl)) ?_;refine xo rfl (aF rfl (yb (hg.ah I3.ext) t htl)) ?_;rintro _ h4 ⟨⟨n,e,rfl,hp⟩,e4⟩;have E04:=E03.trans (e4.mono fun _ _ q=>q.elim);have z4:=e4.size
     rcases hp with ⟨hp,rfl⟩|⟨hp,tp,p,rfl⟩
     · rw[Kn hp]
       iterate 5 refine bz ?_
       refine dH ?_
       iterate 2 refine bl ?_
       refine cW ?_;refine bz ?_;refine xp rfl (az.qL underlying111 rfl (.inl rfl)) ?_;refine af ?_;refine gm rfl (by simp[nH]) ?_;refine af ?_;refine xp rfl (aq (H.fV _ _) rfl) ?_;refine aN rfl (aV rfl rfl ((k63.ah e4)) fT) ?_;rintro _ h9 ⟨rfl,k9,x9,z9⟩;refine af ?_;refine cn (cg rfl k9.row (eD cm)) ?_;exact⟨_,rfl,_,rfl,(vg _ _ _),((b3.ah e4)).ext x9 (by omega),(E04).bH x9 (fun b hb q=>by omega)⟩
     · rw[IX hp]
       iterate 5 refine bz ?_
       refine dH ?_
       iterate 2 refine bl ?_
       refine cW ?_;refine bz ?_;refine xp rfl (az.qL underlying111 rfl (.inr ⟨_,_,rfl⟩)) ?_;refine af ?_;refine fH rfl (by simp[nH]) ?_;refine af ?_;refine xp rfl (aq (H.dU ) rfl) ?_;refine aN rfl (aV rfl rfl ((k63.ah e4))) ?_;rintro _ h9 ⟨rfl,k9,x9,z9⟩;refine af ?_;refine cn (cg rfl k9.row (eD cm)) ?_;exact⟨_,rfl,_,rfl,gX _ _,((b3.ah e4)).ext x9 (by omega),(E04).bH x9 (fun b hb q=>by omega)⟩
   · rw[aI,if_neg c0];obtain⟨hv1,hv2⟩:(cw k).1<=l.length/\l.length<=(cw k).2:=wL hc c0;refine af ?_;refine aX (fun c1=>?_) (fun c1=>?_)
     · rw[if_pos c1];refine af ?_;refine xp rfl (aA rfl (k53.cell (i:=1) rfl)) ?_;refine af ?_;refine aX (fun hbig=>?_) (fun hbig=>?_)
       · rw[if_pos (by omega)];refine af ?_;refine xp rfl (aq (H.dU ) rfl) ?_;refine aN rfl (aV rfl rfl k63) ?_;rintro _ h9 ⟨rfl,k9,x9,z9⟩;refine af ?_;refine cn (cg rfl k9.row (eD cm)) ?_;exact⟨_,rfl,_,rfl,gX _ _,(b3).ext x9 (by omega),(E03).bH x9 (fun b hb q=>by omega)⟩
       · rw[if_neg (by omega)];refine af ?_;refine xp rfl (aA rfl (k53.cell (i:=1) rfl)) ?_;refine xp rfl (aq (H.wV _ _) rfl) ?_;refine aN rfl (aV rfl rfl k63 fT) ?_;rintro _ h9 ⟨rfl,k9,x9,z9⟩;refine af ?_;refine cn (cg rfl k9.row (eD cm)) ?_;exact⟨_,rfl,_,rfl,(K6 _ _ _),(b3).ext x9 (by omega),(E03).bH x9 (fun b hb q=>by omega)⟩
     · rw[if_neg c1];refine af ?_;refine aX (fun c2=>?_) (fun c2=>?_)
       · rw[if_pos c2];have htt:decide (bs t=⟨#[116,114,117,101]⟩)=decide (t=kY):=by rw[decide_eq_decide];exact⟨fun q=>bu q,fun q=>by rw[q];rfl⟩
         refine af ?_;refine xp rfl (aA rfl (k53.cell (i:=1) rfl)) ?_;refine af ?_;refine xo rfl (aF rfl (dh _)) ?_;rintro _ h4 ⟨rfl,e4⟩;have z4:=e4.size;rw[htt];refine aN rfl (aV rfl rfl ((k63.ah e4)) fT) ?_;rintro _ h9 ⟨rfl,k9,x9,z9⟩;refine af ?_;refine cn (cg rfl k9.row (eD cm)) ?_;exact⟨_,rfl,_,rfl,(oO _ _ _),((b3.ah e4)).ext x9 (by omega),((E03.trans (e4.mono fun _ _ q=>q.elim))).bH x9 (fun b hb q=>by omega)⟩
       · rw[if_neg c2];refine af ?_;refine aX (fun c3=>?_) (fun c3=>?_)
         · rw[if_pos c3];refine af ?_;refine xp rfl (aA rfl (k53.cell (i:=1) rfl)) ?_;refine xo rfl (aF rfl (Gp I3.en hel t)) ?_;rintro _ h4 ⟨v4,rfl,hv4,e4'⟩;have e4:Ext (fun b=>b=rb) h3 h4:=e4'.mono fun _ _ q=>q.elim
           have b4:=b3.ah e4';have z4:=e4.size;obtain⟨nk',nt',xa',xn',xc',ea',en',ec',rfl,_,hR4,_⟩:=cQ.get hv4;refine af ?_;refine aN rfl (aV rfl rfl ((k63.ext e4 (by omega))) fT) ?_;rintro _ h9 ⟨rfl,k9,x9,z9⟩;refine af ?_;refine cn (cg rfl k9.row (eD cm)) ?_;exact⟨_,rfl,_,rfl,cQ.of (eV.mv hR4 (cK m3.1 o6 x9)),b4.ext x9 (by omega),(E03.trans e4).bH x9 (fun b hb q=>by omega)⟩
         · rw[if_neg c3];refine af ?_;refine aX (fun c8=>?_) (fun c8=>?_)
           · rw[if_pos c8];subst c8;have hv1:1<=l.length:=hv1;obtain⟨b1,o1',k1,t1,a1,n1,c1',ha1,hb1,hr1,hk1⟩:=iB hks3 (i:=0) (by omega);refine af ?_;refine LH 11 9 ?_;refine aG 0 ?_;refine bJ 1 rfl (fun h' e=>aA rfl (e.cell (by dsimp only;omega) (k53.cell (i:=1) rfl))) ?_;refine aG 2 ?_;refine bJ 3 rfl (fun h' e=>aA rfl (e.cell (by dsimp only;omega) (k53.cell (i:=2) rfl))) ?_;refine bJ 4 rfl (fun h' e=>cM rfl rfl 0 rfl ha1) ?_;refine bJ 5 rfl (fun h' e=>b7 rfl (e.rowAt (by omega) hr1)) ?_;refine aG 6 ?_;refine dR 7 rfl (aF rfl (mC I3.en hel)) ?_;rintro r4 h4 ⟨ho4,e4⟩;refine⟨fun _=>e4.of,?_⟩;have hen4:=ho4.read (O':=O3) (fun b hb q=>by have:=l3 b q;omega) (fun _ _ q=>q);obtain⟨ua,un,uc,rfl,_⟩:=id hen4.open;have z4:=e4.size;obtain⟨cs',hcs',hRk⟩:=hk1.mv (Mv.ah e4);obtain rfl:[Value.int .i64 k1,.string (bs t1),.slice a1 n1 c1']=cs':=by have:=congrArg (fun v=>match v with|Value.agg c=>c.toList|_=>[]) hcs';simpa using this
             have hRv:eV.R h4 O3 (jV 4 0 t [] k1 t1 a1 n1 c1' ua un uc) (.mk 4 0 t [] (l.getD 0 bG) env):=uw hRk hen4;refine bJ 8 rfl (fun h' e=>aq (H.rq _ _ _ _ _ _ _ _) rfl) ?_;refine jZ 9 rfl (aV rfl rfl ((k63.ah e4)) fT) ?_;rintro _ h9 ⟨rfl,k9,x9,z9⟩;refine⟨nofun,?_⟩;refine aG 10 ?_;refine iO ?_;refine cn (cg rfl k9.row (eD cm)) ?_;exact⟨_,rfl,_,rfl,cQ.of (eV.mv hRv (cK m3.1 o6 x9)),(b3.ah e4).ext x9 (by omega),(E03.trans (e4.mono fun _ _ q=>q.elim)).bH x9 (fun b hb q=>by omega)⟩
           · rw[if_neg c8];refine af ?_;refine aX (fun c10=>?_) (fun c10=>?_)
             · rw[if_pos c10]
               have hkids:∀x∈l,Cl aW x/\x.wt<=1000000:=fun x hx=>by
                obtain⟨i,hi,rfl⟩:=List.getElem_of_mem hx;have hgi:l.getD i bG=l[i]:=getD_at (List.getElem?_eq_getElem hi);have h1:=hc.jW i;have h2:=cR hw i;rw[hgi] at h1 h2;exact⟨h1,h2⟩
               refine af ?_;refine xp rfl (aA rfl (k53.cell (i:=2) rfl)) ?_;refine xo rfl (aF rfl (CK ih I3 hm hks3.shut hkids)) ?_;rintro _ h4 ⟨v4,rfl,hv4,b4,e4⟩;have z4:=e4.size;obtain⟨nk',nt',xa',xn',xc',ea',en',ec',rfl,_,hR4,_⟩:=cQ.get hv4;refine af ?_;refine aN rfl (aV rfl rfl ((k63.ext e4 (by omega))) fT) ?_;rintro _ h9 ⟨rfl,k9,x9,z9⟩;refine af ?_;refine cn (cg rfl k9.row (eD cm)) ?_;exact⟨_,rfl,_,rfl,cQ.of (eV.mv hR4 (cK m3.1 o6 x9)),b4.ext x9 (by omega),(E03.trans e4).bH x9 (fun b hb q=>by omega)⟩
             · rw[if_neg c10];refine af ?_;refine aX (fun c7=>?_) (fun c7=>?_)
               · rw[if_pos c7];subst c7;refine af ?_;refine xp rfl (b7 rfl k53.row) ?_;refine xo rfl (aF rfl (Gc ih I3 hm hn3 hc hw)) ?_;rintro _ h4 ⟨v4,rfl,hv4,b4,e4⟩;have z4:=e4.size;obtain⟨nk',nt',xa',xn',xc',ea',en',ec',rfl,_,hR4,_⟩:=cQ.get hv4;refine af ?_;refine aN rfl (aV rfl rfl ((k63.ext e4 (by omega))) fT) ?_;rintro _ h9 ⟨rfl,k9,x9,z9⟩;refine af ?_;refine cn (cg rfl k9.row (eD cm)) ?_;exact⟨_,rfl,_,rfl,cQ.of (eV.mv hR4 (cK m3.1 o6 x9)),b4.ext x9 (by omega),(E03.trans e4).bH x9 (fun b hb q=>by omega)⟩
               · rw[if_neg c7];refine af ?_;refine aX (fun c6=>?_) (fun c6=>?_)
                 · rw[if_pos c6];subst c6;refine af ?_;refine xp rfl (b7 rfl k53.row) ?_;refine xo rfl (aF rfl (AU ih I3 hm hn3 hc hw)) ?_;rintro _ h4 ⟨v4,rfl,hv4,b4,e4⟩;have z4:=e4.size;obtain⟨nk',nt',xa',xn',xc',ea',en',ec',rfl,_,hR4,_⟩:=cQ.get hv4;refine af ?_;refine aN rfl (aV rfl rfl ((k63.ext e4 (by omega))) fT) ?_;rintro _ h9 ⟨rfl,k9,x9,z9⟩;refine af ?_;refine cn (cg rfl k9.row (eD cm)) ?_;exact⟨_,rfl,_,rfl,cQ.of (eV.mv hR4 (cK m3.1 o6 x9)),b4.ext x9 (by omega),(E03.trans e4).bH x9 (fun b hb q=>by omega)⟩
                 · rw[if_neg c6];refine af ?_;refine aX (fun c9=>?_) (fun c9=>?_)
                   · rw[if_pos c9];subst c9;refine af ?_;refine xp rfl (b7 rfl k53.row) ?_;refine xo rfl (aF rfl (D1 hg.ex ih I3 hm hn3 hc hw)) ?_;rintro _ h4 ⟨v4,rfl,hv4,b4,e4⟩;have z4:=e4.size;obtain⟨nk',nt',xa',xn',xc',ea',en',ec',rfl,_,hR4,_⟩:=cQ.get hv4;refine af ?_;refine aN rfl (aV rfl rfl ((k63.ext e4 (by omega))) fT) ?_;rintro _ h9 ⟨rfl,k9,x9,z9⟩;refine af ?_;refine cn (cg rfl k9.row (eD cm)) ?_;exact⟨_,rfl,_,rfl,cQ.of (eV.mv hR4 (cK m3.1 o6 x9)),b4.ext x9 (by omega),(E03.trans e4).bH x9 (fun b hb q=>by omega)⟩
                   · rw[if_neg c9];refine af ?_;refine aX (fun c4=>?_) (fun c4=>?_)
                     · rw[if_pos c4];subst c4;have hv1:1<=l.length:=hv1;obtain⟨b1,o1',k1,t1,a1,n1,c1',ha1,hb1,hr1,hk1⟩:=iB hks3 (i:=0) (by omega);have hih:=ih I3 hm hk1 (hc.jW 0) (cR hw 0);unfold Fu;generalize aI d m env (l.getD 0 bG)=o at hih ⊢;obtain⟨v,e,m'⟩:=o;dsimp only at hih ⊢;refine af ?_;refine xp rfl (aA rfl (k53.cell (i:=2) rfl)) ?_;refine xp rfl (cM rfl rfl 0 rfl ha1) ?_;refine xp rfl (b7 rfl hr1) ?_;refine xo rfl (aF rfl hih) ?_;rintro _ h4 ⟨v4,rfl,hv4,b4,e4⟩;dsimp only at hv4 b4;obtain⟨nk,nt,xa,xn,xc,ea,en,ec,rfl,_,hR4,_⟩:=cQ.get hv4;refine af ?_;refine xo rfl (cH) ?_;rintro _ h5 ⟨rfl,k8,e5,z5⟩;refine aN rfl (aV rfl rfl k8 fT) ?_;rintro _ h6 ⟨rfl,k86,x6,z6⟩;have k86:aD h6 h4.size 30 (jV v.kind v.num v.gr v.self nk nt xa xn xc ea en ec):=k86;have e46:aj h4 h6:=aj.only e5 x6 (Nat.le_refl _);have z4:=And.intro e4.size e46.size;have E06:=(E03.trans e4).trans (e46.mono fun _ _ q=>q.elim);have k66:=(k63.ext e4 (by omega)).ah e46;have k56:=(k53.ext e4 (by omega)).ah e46;have b6:=b4.ah e46;refine af ?_;refine aX (fun he=>?_) (fun he=>?_)
                       · rw[if_pos he];refine af ?_;refine xp rfl (aq (H.dU ) rfl) ?_;refine af ?_;refine aN rfl (aV rfl rfl k66) ?_;rintro _ h9 ⟨rfl,k9,x9,z9⟩;refine af ?_;refine cn (cg rfl k9.row (eD cm)) ?_;exact⟨_,rfl,_,rfl,gX _ _,(b6).ext x9 (by omega),(E06).bH x9 (fun b hb q=>by omega)⟩
                       · rw[if_neg he];refine af ?_;refine xp rfl (aA rfl (k56.cell (i:=1) rfl)) ?_;refine xp rfl (b7 rfl k86.row) ?_;refine xo rfl (aF rfl (Bu (O:=O3) (x:=v) (cQ.of (eV.mv hR4 (Mv.ah e46))) t)) ?_;rintro _ h7 ⟨v7,rfl,hv7,e7⟩;obtain⟨nk',nt',xa',xn',xc',ea',en',ec',rfl,_,hR7,_⟩:=cQ.get hv7;have z7:=e7.size;refine af ?_;refine aN rfl (aV rfl rfl ((k66.ah e7)) fT) ?_;rintro _ h9 ⟨rfl,k9,x9,z9⟩;refine af ?_;refine cn (cg rfl k9.row (eD cm)) ?_;exact⟨_,rfl,_,rfl,cQ.of (eV.mv hR7 (cK m3.1 o6 x9)),(b6.ah e7).ext x9 (by omega),(E06.trans (e7.mono fun _ _ q=>q.elim)).bH x9 (fun b hb q=>by omega)⟩
                     · rw[if_neg c4]
                       obtain rfl:k=5:=by
                        rcases hc with q|q
                        · rw[V,bq,Bool.and_eq_true] at q;have h1:=q.1;unfold eH at h1;simp only[Bool.and_eq_true,decide_eq_true_eq] at h1;omega
                        · cases q;exact absurd rfl c0
                       refine af ?_;refine xp rfl (b7 rfl k53.row) ?_;refine xo rfl (aF rfl (AY ih I3 hm hn3 hc hw)) ?_;rintro _ h4 ⟨v4,rfl,hv4,b4,e4⟩;have z4:=e4.size;obtain⟨nk',nt',xa',xn',xc',ea',en',ec',rfl,_,hR4,_⟩:=cQ.get hv4;refine af ?_;refine aN rfl (aV rfl rfl ((k63.ext e4 (by omega))) fT) ?_;rintro _ h9 ⟨rfl,k9,x9,z9⟩;refine af ?_;refine cn (cg rfl k9.row (eD cm)) ?_;exact⟨_,rfl,_,rfl,cQ.of (eV.mv hR4 (cK m3.1 o6 x9)),b4.ext x9 (by omega),(E03.trans e4).bH x9 (fun b hb q=>by omega)⟩
theorem wC {hb:ai}(hg:GQ hb) (rb B:Nat):∀d,MG hb rb B d
 | 0=>by
  intro I hm hn hc hw;rename_i O h m ev nv env n;obtain rfl:m=0:=by omega
  exact zi I hn
 |d+1=>by
  intro I hm hn hc hw;rename_i O h m ev nv env n;cases m with
  |zero=>exact zi I hn
  |succ m =>
   obtain⟨k,t,l⟩:=n;exact Gs hg (wC hg rb B d) I (by omega) hn hc hw
def cP (env:List Bd) (n:Tr):Vl×Int×Int:=if bq aW n=true then ((if (aI 2000 2000 env n).2.1=0 then (aI 2000 2000 env n).1 else gY),2000-((aI 2000 2000 env n).2.2:Int),(aI 2000 2000 env n).2.1) else (gY,0,10)
theorem qj (hg:GQ h){n:Tr}(hv:aZ eB h O ev env) (hO:∀b,O b->b<h.size) (hok:vf 900000 env) (hn:eK h O nv n) (hw:n.wt<=1000000) :
 au Tryz.prog 6 #[ev,nv] h (bL fun r h'=>∃v,r=packed [v,.int .i64 (cP env n).2.1,.int .i64 (cP env n).2.2]/\cQ h' O v (cP env n).1/\aj h h'):=by
 obtain⟨k,t,l⟩:=n;obtain⟨na,nn,nc,rfl,hR,hks⟩:=ny hn;refine b9 ?_;refine af ?_;refine xo rfl (kH) ?_;rintro _ h1 ⟨rfl,k3,e1,z1⟩;refine xo rfl (cH) ?_;rintro _ h2 ⟨rfl,k4,e2,z2⟩;have e12:=e1.trans e2;have k3:aD h2 h.size 27 [.int .i64 k,.string (bs t),.slice na nn nc]:=k3.ah e2;refine af ?_;refine xp rfl (b7 rfl k3.row) ?_;refine xo rfl (aF rfl (mT hw (hg.ex.ah e12) (hn.mv (Mv.ah e12)))) ?_;rintro _ h3 ⟨rfl,e3⟩;have e13:=e12.trans e3;have k43:=k4.ah e3;have k33:=k3.ah e3;have zz:=And.intro e12.size e3.size;unfold cP;refine af ?_;refine jo (fun hq=>?_) (fun hq=>?_)
 · have hq:¬bq aW (.mk k t l)=true:=by simpa using hq
   rw[if_neg hq];refine af ?_;refine xp rfl (aq (H.dU ) rfl) ?_;refine aN rfl (aV rfl rfl k43) ?_;rintro _ h4 ⟨rfl,k44,x4,z4⟩;refine af ?_;refine cn (cg rfl k44.row (eD (eD cm))) ?_;exact⟨_,rfl,_,rfl,gX _ _,aj.only e13 x4 (by omega)⟩
 · have hq:bq aW (.mk k t l)=true:=by simpa using hq
   rw[if_pos hq];refine af ?_;refine xp rfl (aq (H.N9 ) rfl) ?_;refine xo rfl (kH) ?_;rintro _ h4 ⟨rfl,k7,e4,z4⟩;have k7:aD h4 h3.size 67 [.int .i64 (2000-((2000:Nat):Int))]:=k7;have e14:=e13.trans e4;have m4:=cI O h h4;obtain⟨O4,hO4⟩:∃O4,O4=upTo O h h4:=⟨_,rfl⟩
   rw[<-hO4] at m4;have I4:ql h h3.size 1000000 O4 h4 2000 ev env:=⟨e14,k7,fun b q=>by rw[hO4] at q;exact je hO e14.size b q,by rw[hO4];exact .inr (by omega),hv.mv (m4.tj e14),hok.le (by decide),by decide,Nat.le_refl _,Nat.le_refl _,by omega⟩
   have hih:=wC hg h3.size 1000000 2000 I4 (Nat.le_refl _) (hn.mv (m4.tj e14)) (.inl hq) hw;generalize aI 2000 2000 env (.mk k t l)=o at hih ⊢;obtain⟨v,e,m'⟩:=o;dsimp only at hih ⊢;have k44:=k43.ah e4;refine af ?_;refine xp rfl (b7 rfl (k33.ah e4).row) ?_;refine xo rfl (aF rfl hih) ?_;rintro _ h5 ⟨v5,rfl,hv5,b5,e5⟩;dsimp only at hv5 b5;obtain⟨nk,nt,xa,xn,xc,ea,en,ec,rfl,_,hR5,_⟩:=cQ.get hv5;refine af ?_;refine aN rfl (aV rfl rfl ((k44.ext e5 (by omega))) fT) ?_;rintro _ h6 ⟨rfl,k46,x6,z6⟩;have k46:aD h6 h1.size 30 (jV v.kind v.num v.gr v.self nk nt xa xn xc ea en ec):=k46;have z5:=e5.size;have z56:=x6.size;have o6:O4 h1.size:=by rw[hO4];exact .inr (by omega)
   have b6:=b5.ext x6 (by omega);have e06:aj h h6:=⟨by omega,fun b hb _=>by rw[x6.block b (by omega) (by omega),e5.block b (by omega) (by omega)];exact e14.block b hb (fun k=>k)⟩
   have hR6:=eV.mv hR5 (cK (fun _ q=>q) o6 x6);have hr6:¬h3.size=h1.size:=by omega
   refine af ?_;refine aX (fun he=>?_) (fun he=>?_)
   · rw[if_neg he];refine af ?_;refine lO 9 (fun b=>b=h1.size\/h6.size<=b) (fun i=>Nat.blt i 9) ?_;refine bJ 0 rfl (fun h' e=>aq (H.dU ) rfl) ?_;refine aG 1 ?_;refine aG 2 ?_;refine aG 3 ?_;refine bJ 4 rfl (fun h' e=>aA rfl (e.cell (by dsimp only;omega) (b6.cell (i:=0) rfl))) ?_;refine aG 5 ?_;refine jZ 6 rfl (aV rfl rfl k46) ?_;rintro _ h7 ⟨rfl,k47,x7,z7⟩;refine⟨fun _=>x7.mono (fun b _ q=>.inl q),?_⟩;refine aG 7 ?_;refine aG 8 ?_;refine iO ?_;refine cn (cg rfl k47.row (eD (eD cm))) ?_;exact⟨_,rfl,_,rfl,gX _ _,aj.only e06 x7 (by omega)⟩
   · have he:=Classical.not_not.1 he;subst he;rw[if_pos rfl];refine af ?_;refine lO 8 (fun b=>h6.size<=b) (fun i=>Nat.blt i 8) ?_;refine bJ 0 rfl (fun h' e=>b7 rfl (e.rowAt (by omega) k46.row)) ?_;refine aG 1 ?_;refine aG 2 ?_;refine aG 3 ?_;refine bJ 4 rfl (fun h' e=>aA rfl (e.cell (by dsimp only;omega) (b6.cell (i:=0) rfl))) ?_;refine jZ 5 rfl (aV rfl rfl k46 fT) ?_;rintro _ h7 ⟨rfl,k47,x7,z7⟩;refine⟨fun _=>(jB k46 k47 x7).mono (fun _ _ q=>q.elim),?_⟩;refine aG 6 ?_;refine aG 7 ?_;refine iO ?_;refine cn (cg rfl k47.row (eD (eD cm))) ?_;exact⟨_,rfl,_,rfl,cQ.of (eV.mv hR6 (cK m4.1 o6 x7)),aj.only e06 x7 (by omega)⟩
theorem Cq {p:Value}(O:Nat->Prop) (hO:∀y,O y->y<h.size) (hg:C0 h) (k:pH h p) (s:By) (hs:s.length<=1000000) :
 au Tryz.prog 13 #[p,.string (bs s)] h (bL fun r h'=>(∃v,r= .tuple #[v,.agg (bR (fM s).2).toArray]/\aZ Ku h' O v (fM s).1)/\aj h h'):=by
 have hbs:=aK s;generalize hres:fM s=res;refine b9 ?_;refine af ?_;refine xo rfl (cH) ?_;rintro _ h1 ⟨rfl,k5,e1,z1⟩;have k5:aD h1 h.size 54 (bR (0,0)):=k5;have y1:=e1.size;refine af ?_;refine jd (σ:=Nat×uB×Value×List Tk) (fun q=>[(4,q.2.2.1),(6,.int .i64 (q.1:Nat))]) (fun q h'=>(q.1<=s.length/\q.2.2.2.length<=q.1/\JF q.2.1.2)/\aj h h'/\h1.size<=h'.size/\aD h' h.size 54 (bR q.2.1)/\lQ 3 fE h' h1.size 92 q.2.2.1 q.2.2.2/\(q.2.2.2++(iN s.length (s.drop q.1) q.1 q.2.1).1,(iN s.length (s.drop q.1) q.1 q.2.1).2)=res) (fun q=>s.length+1-q.1) ((0,(0,0),.slice none 0 0,[])) ⟨⟨Nat.zero_le _,by simp,by show JF 0;unfold JF;omega⟩,e1,Nat.le_refl _,k5,lQ.nil _ _ _ _ _,hres⟩ rfl ?_;rintro⟨i,st,vt,toks⟩ g ⟨⟨hi,htl,hst⟩,eg,hz,kS,ho,hcon⟩ ih
 try dsimp only
 dsimp only at hi htl hst kS ho hcon;have hho:aB g h1.size 92 3 vt toks.length (toks.flatMap fE):=ho;obtain⟨ta,tc,rfl,_⟩:=hho.open;have tge:∀b,(Value.slice ta toks.length tc).ownBlock=some b->h1.size<=b/\b<g.size:=fun b hb=>hho.lt hb
 rcases Nat.lt_or_ge i s.length with hlt|hge
 · have hne:s.drop i≠[]:=fun e=>by have:=congrArg List.length e;rw[List.length_drop] at this;simp at this;omega
   have hkl:=nD hne st.1;rw[List.length_drop] at hkl;rw[GK hne (by rw[List.length_drop];omega)] at hcon;have hone:=FX (hg.ah eg) (k.ah eg) s i hlt hs st hst;unfold L6 at hone;have hnI:=JV hst (s.drop i);rw[List.drop_drop] at hcon;generalize dO (s.drop i) st.1=L at *;generalize oL (s.drop i) st.1=kd at *;generalize pO (s.drop i) st=nx at *;generalize DG st.1 (s.drop i)=sp at *;refine af ?_;refine xp rfl (b7 rfl kS.row) ?_;refine xo rfl (aF rfl hone) ?_;rintro _ g1 ⟨rfl,f1⟩;refine af ?_;refine xo rfl (cH) ?_;rintro _ g2 ⟨rfl,c7,f2,y2⟩;refine xo rfl (cH) ?_;rintro _ g3 ⟨rfl,c8,f3,y3⟩;refine aN rfl (aV rfl rfl ((c7.ah f3)) (pI _)) ?_;rintro _ g4 ⟨rfl,d7,x4,y4⟩;have d7:aD g4 g1.size 92 (fE (kd,(i:Int),((i+L:Nat):Int))):=d7;have yz1:=f1.size;have yz2:=f2.size;have yz4:=x4.size;refine aN rfl (aV rfl rfl (((c8.ext x4 (show ¬g2.size=g1.size by omega)))) (gR nx)) ?_;rintro _ g5 ⟨rfl,d8,x5,y5⟩;have d8:aD g5 g2.size 54 (bR nx):=d8;have d7:=d7.ext x5 (show ¬g1.size=g2.size by omega);have yz5:=x5.size;have eg5:aj g g5:=aj.only (aj.only ((f1.trans f2).trans f3) x4 (by omega)) x5 (by omega);have hho5:=hho.wB eg5;refine af ?_;refine xp rfl (aA rfl (d7.cell (i:=2) rfl)) ?_;refine af ?_;refine gm rfl (by simp;omega) ?_;refine af ?_;refine xp rfl (b7 rfl d7.row) ?_;refine xo rfl (rJ) ?_;rintro _ _ ⟨rfl,rfl⟩;refine xo rfl (aQ.gK underlying52 H.NR rfl rfl (hho5) rfl rfl (pI _) (by omega) (by decide) (by omega)) ?_;rintro vt2 g6 ⟨ho6,hx6,hx6',hv6⟩;have yz6:=hx6.size;have d7:=d7.ext hx6 (fun k=>by have:=tge _ k.symm;omega);have d8:=d8.ext hx6 (fun k=>by have:=tge _ k.symm;omega);have kS6:=(kS.ah eg5).ext hx6 (fun k=>by have:=tge _ k.symm;omega);have e06:aj h g6:=Ext.own (eg.trans eg5) hho5 (by omega) hx6;have ho6:lQ 3 fE g6 h1.size 92 vt2 (toks++[(kd,(i:Int),((i+L:Nat):Int))]):=lQ.of ho6 rfl rfl;have hMa:¬(g1.size=h.size\/Array.size g6<=g1.size):=by omega
   have hMb:¬(g2.size=h.size\/Array.size g6<=g2.size):=by omega
   refine af ?_;refine lO 5 (fun b=>b=Array.size h\/Array.size g6<=b) (fun i=>Nat.blt i 6) ?_;refine aG 0 ?_;refine bJ 1 rfl (fun h' e=>aA rfl (e.cell hMa (d7.cell (i:=2) rfl))) ?_;refine bJ 2 rfl (fun h' e=>b7 rfl (e.rowAt hMb d8.row)) ?_;refine aG 3 ?_;refine jZ 4 rfl (aV rfl rfl kS6 (gR nx)) ?_;rintro _ g7 ⟨rfl,kS7,x7,y7⟩;refine⟨fun _=>x7.mono (fun _ _ k=>.inl k),?_⟩;have kS7:aD g7 h.size 54 (bR nx):=kS7;have ho7:lQ 3 fE g7 h1.size 92 vt2 (toks++[(kd,(i:Int),((i+L:Nat):Int))]):=aB.ext x7 ho6 (fun b hb (k:b=h.size)=>by have:=(aB.lt ho6 hb).1;omega);refine iO ?_;refine af ?_;exact ih (i+L,nx,vt2,toks++[(kd,(i:Int),((i+L:Nat):Int))]) ⟨⟨by show i+L<=s.length;omega,by simp;omega,hnI⟩,aj.only e06 x7 (by omega),by have:=x7.size;show h1.size<=g7.size;omega,kS7,ho7,by simpa using hcon⟩
 · obtain rfl:i=s.length:=by omega
   have hone:=JU (h:=g) (p:=p) (b:=false) (fun g' eg'=>Cf (k.ah (eg.trans eg'))) s (s.length:Nat) hs st (.inr (.inr (by omega)));rw[List.drop_length,Jr] at hcon;refine af ?_;refine xp rfl (b7 rfl kS.row) ?_;refine xo rfl (aF rfl hone) ?_;rintro _ g1 ⟨rfl,f1⟩;refine af ?_;refine xo rfl (cH) ?_;rintro _ g2 ⟨rfl,c7,f2,y2⟩;refine xo rfl (cH) ?_;rintro _ g3 ⟨rfl,c8,f3,y3⟩;refine aN rfl (aV rfl rfl ((c7.ah f3)) (pI _)) ?_;rintro _ g4 ⟨rfl,d7,x4,y4⟩;have d7:aD g4 g1.size 92 (fE (0,0,0)):=d7;have yz1:=f1.size;have yz2:=f2.size;have yz4:=x4.size;refine aN rfl (aV rfl rfl (((c8.ext x4 (show ¬g2.size=g1.size by omega)))) (gR st)) ?_;rintro _ g5 ⟨rfl,d8,x5,y5⟩;have d7:=d7.ext x5 (show ¬g1.size=g2.size by omega);have yz5:=x5.size;have eg5:aj g g5:=aj.only (aj.only ((f1.trans f2).trans f3) x4 (by omega)) x5 (by omega);have hho5:=ho.ah eg5;have kS5:=kS.ah eg5;refine af ?_;refine xp rfl (aA rfl (d7.cell (i:=2) rfl)) ?_;refine af ?_;refine fH rfl (by simp) ?_;have hMa:¬(h.size=h.size/\Array.size g5<=h.size):=by omega
   refine af ?_;refine lO 4 (fun b=>Array.size g5<=b) (fun i=>Nat.blt i 5) ?_;refine aG 0 ?_;refine bJ 1 rfl (fun h' e=>b7 rfl (e.rowAt (by omega) kS5.row)) ?_;refine aG 2 ?_;refine jZ 3 rfl (aV rfl rfl kS5 (gR st)) ?_;rintro _ g7 ⟨rfl,kS7,x7,y7⟩;refine⟨fun _=>(jB kS5 kS7 x7).mono (fun _ _ k=>k.elim),?_⟩;have kS7:aD g7 h.size 54 (bR st):=kS7;have e7:=jB kS5 kS7 x7;refine iO ?_;refine cn (eD (cg rfl kS7.row cm)) ?_;rw[<-hcon];exact⟨_,rfl,⟨_,rfl,by show aZ Ku g7 _ _ (toks++[]);rw[List.append_nil];exact lQ.read (hho5.ah e7) (fun b hb k=>by have:=hO b k;omega)⟩,(eg.trans eg5).trans e7⟩
theorem vR {p:Value}(hg:C0 h) (k:pH h p) (s:By) (hs:s.length<=1000000) :
 au Tryz.prog 13 #[p,.string (bs s)] h (bL fun r h'=>(∃v,r= .tuple #[v,.agg (bR (fM s).2).toArray]/\aZ Ku h' (fun _=>False) v (fM s).1)/\aj h h'):=Cq _ (fun _ k=>k.elim) hg k s hs
end
end Go.Proofs.YtdgckfkoihcmjaaGreatDoor
namespace Go.Proofs.YtdgckfkoihcmjaaGreatDoor
open Go Go.Lw
set_option maxRecDepth 100000
abbrev ON:By:=[49,32,43,32,50,32,42,32,51]
abbrev OM:By:=[34,97,34,32,43,32,34,98,34,32,61,61,32,34,97,98,34]
abbrev OL:By:=[49,32,47,32,48]
abbrev OK:By:=[116,114,117,101,32,111,114,32,120]
abbrev OJ:By:=[123,32,108,101,116,32,102,32,61,32,102,117,110,32,110,32,45,62,32,105,102,32,110,32,60,32,50,32,123,32,49,32,125,32,101,108,115,101,32,123,32,110,32,42,32,102,40,110,32,45,32,49,41,32,125,59,32,102,40,53,41,32,125]
abbrev Pd:By:=[97,32,43,32,98,32,45,32,98,32,61,61,32,97]
abbrev Pc:By:=[97,32,45,32,98,32,43,32,98,32,61,61,32,97]
abbrev Pb:By:=[97,32,47,32,98,32,42,32,98,32,43,32,97,32,37,32,98,32,61,61,32,97]
abbrev na:Tr:=.mk 3 [97] []
abbrev nb:Tr:=.mk 3 [98] []
abbrev bi (op:By) (x y:Tr):Tr:=.mk 5 op [x,y]
abbrev nu (c:UInt8):Tr:=.mk 0 [c] []
abbrev Pg:Tr:=bi [43] (nu 49) (bi [42] (nu 50) (nu 51))
abbrev Pf:Tr:=bi [61,61] (bi [43] (.mk 1 [97] []) (.mk 1 [98] [])) (.mk 1 [97,98] [])
abbrev OO:Tr:=bi [47] (nu 49) (nu 48)
abbrev Pe:Tr:=bi [111,114] (.mk 2 [116,114,117,101] []) (.mk 3 [120] [])
abbrev nn:Tr:=.mk 3 [110] []
abbrev nf:Tr:=.mk 3 [102] []
abbrev LN:Tr:=.mk 10 [] [.mk 7 [102] [.mk 8 [110] [.mk 6 [] [bi [60] nn (nu 50),.mk 10 [] [nu 49],.mk 10 [] [bi [42] nn (.mk 9 [] [nf,bi [45] nn (nu 49)])]]]],.mk 9 [] [nf,nu 53]]
abbrev QW:Tr:=bi [61,61] (bi [45] (bi [43] na nb) nb) na
abbrev QV:Tr:=bi [61,61] (bi [43] (bi [45] na nb) nb) na
abbrev QU:Tr:=bi [61,61] (bi [43] (bi [42] (bi [47] na nb) nb) (bi [37] na nb)) na
theorem QN:cU ON (fM ON).1 (fM ON).2.1 [Pg] 0 0:=.ok (u:=[(5,[49],0),(6,[43],2),(5,[50],4),(6,[42],6),(5,[51],8)]) (n:=60) (r:=[]) (by decide +kernel) (by kernel_rfl)
theorem QM:cU OM (fM OM).1 (fM OM).2.1 [Pf] 0 0:=.ok (u:=[(9,[97],0),(6,[43],4),(9,[98],6),(6,[61,61],10),(9,[97,98],13)]) (n:=60) (r:=[]) (by decide +kernel) (by kernel_rfl)
theorem QL:cU OL (fM OL).1 (fM OL).2.1 [OO] 0 0:=.ok (u:=[(5,[49],0),(6,[47],2),(5,[48],4)]) (n:=60) (r:=[]) (by decide +kernel) (by kernel_rfl)
theorem QK:cU OK (fM OK).1 (fM OK).2.1 [Pe] 0 0:=.ok (u:=[(4,[116,114,117,101],0),(4,[111,114],5),(3,[120],8)]) (n:=60) (r:=[]) (by decide +kernel) (by kernel_rfl)
theorem QJ:cU OJ (fM OJ).1 (fM OJ).2.1 [LN] 0 0:=.ok (u:=[(7,[123],0),(4,[108,101,116],2),(3,[102],6),(6,[61],8),(4,[102,117,110],10),(3,[110],14),(6,[45,62],16),(4,[105,102],19),(3,[110],22),(6,[60],24),(5,[50],26),(7,[123],28),(5,[49],30),(8,[125],32),(4,[101,108,115,101],34),(7,[123],39),(3,[110],41),(6,[42],43),(3,[102],45),(7,[40],46),(3,[110],47),(6,[45],49),(5,[49],51),(8,[41],52),(8,[125],54),(6,[59],55),(3,[102],57),(7,[40],58),(5,[53],59),(8,[41],60),(8,[125],62)]) (n:=100) (r:=[]) (by decide +kernel) (by kernel_rfl)
theorem OR:cU Pd (fM Pd).1 (fM Pd).2.1 [QW] 0 0:=.ok (u:=[(3,[97],0),(6,[43],2),(3,[98],4),(6,[45],6),(3,[98],8),(6,[61,61],10),(3,[97],13)]) (n:=60) (r:=[]) (by decide +kernel) (by kernel_rfl)
theorem OQ:cU Pc (fM Pc).1 (fM Pc).2.1 [QV] 0 0:=.ok (u:=[(3,[97],0),(6,[45],2),(3,[98],4),(6,[43],6),(3,[98],8),(6,[61,61],10),(3,[97],13)]) (n:=60) (r:=[]) (by decide +kernel) (by kernel_rfl)
theorem Px:cU Pb (fM Pb).1 (fM Pb).2.1 [QU] 0 0:=.ok (u:=[(3,[97],0),(6,[47],2),(3,[98],4),(6,[42],6),(3,[98],8),(6,[43],10),(3,[97],12),(6,[37],14),(3,[98],16),(6,[61,61],18),(3,[97],21)]) (n:=60) (r:=[]) (by decide +kernel) (by kernel_rfl)
theorem QF:aI 2000 2000 [] Pg=(fR 7,0,1995):=by kernel_rfl
theorem QE:aI 2000 2000 [] Pf=(iP true,0,1995):=by kernel_rfl
theorem QD:aI 2000 2000 [] OO=(gY,2,1997):=by kernel_rfl
theorem QC:aI 2000 2000 [] Pe=(iP true,0,1998):=by kernel_rfl
theorem P9:(aI 2000 2000 [] LN).1=fR 120/\(aI 2000 2000 [] LN).2.1=0:=⟨by kernel_rfl,by kernel_rfl⟩
end Go.Proofs.YtdgckfkoihcmjaaGreatDoor
namespace Go.Proofs.YtdgckfkoihcmjaaGreatDoor
open Go.Proofs.Tryz
open Go Go.Lw
set_option maxRecDepth 20000 set_option maxHeartbeats 4000000
section
variable {h:ai}{O:Nat->Prop}{w:Value}{α:Type}
theorem qU (hg:sL h) (n:Int) (hn : -9223372036854775808<=n/\n<=9223372036854775807) :
 au Tryz.prog 34 #[.int .i64 n,.int .i64 10] h (bL fun r h'=>r= .string (bs (Lib.itoa n))/\aj h h'):=by
 refine au.qK fun w hw=>?_
 subst hw;refine(Tryz.strconv_FormatInt_10 n hn.1 hn.2 w hg).mono ?_;rintro e w' ⟨rfl,k,os,rfl⟩;refine⟨_,rfl,⟨rfl,?_⟩,rfl,rfl,rfl⟩;refine⟨by simp[Go.Sort.grow],fun b hb _=>?_⟩;simp[Go.Sort.grow,Array.getElem?_append_left hb]
theorem oY (b:Bool):au Tryz.prog 35 #[.bool b] h (bL fun r h'=>r= .string (bs (Lib.formatBool b))/\h'=h) :=
 au.uo fun w=>Tryz.strconv_FormatBool b w
theorem s7 (hg:GQ h){x:Vl}(hw:cQ h O w x) (hk:x.kind=1) (hn : -9223372036854775808<=x.num/\x.num<=9223372036854775807) :
 au Tryz.prog 16 #[w] h (bL fun r h'=>r= .string (bs (Lib.itoa x.num))/\aj h h'):=by
 obtain⟨nk,nt,a,n,c,ea,en,ec,rfl,hb,hR,he⟩:=cQ.get hw;rw[hk];refine b9 ?_;refine af ?_;refine xo rfl (kH) ?_;rintro _ h1 ⟨rfl,k1,e1,z1⟩;have k1:aD h1 h.size 30 (jV 1 x.num x.gr x.self nk nt a n c ea en ec):=k1;refine af ?_;refine xp rfl (aA rfl (k1.cell (i:=0) rfl)) ?_;refine af ?_;refine fH rfl (by simp) ?_;refine af ?_;refine xp rfl (aA rfl (k1.cell (i:=1) rfl)) ?_;refine xo rfl (aF rfl (qU ((hg.ah e1).ex.lx.tens) x.num hn)) ?_;rintro _ h2 ⟨rfl,e2⟩;refine af ?_;refine bw ?_;exact⟨_,rfl,rfl,e1.trans e2⟩
theorem sZ {b:Bool}(hw:cQ h O w (iP b)) :
 au Tryz.prog 16 #[w] h (bL fun r h'=>r= .string (bs (Lib.formatBool b))/\aj h h'):=by
 obtain⟨nk,nt,a,n,c,ea,en,ec,rfl,hb,hR,he⟩:=cQ.get hw;refine b9 ?_;refine af ?_;refine xo rfl (kH) ?_;rintro _ h1 ⟨rfl,k1,e1,z1⟩;have k1:aD h1 h.size 30 (jV 2 (if b then 1 else 0) [] [] nk nt a n c ea en ec):=k1;refine af ?_;refine xp rfl (aA rfl (k1.cell (i:=0) rfl)) ?_;refine af ?_;refine gm rfl (by simp) ?_;refine af ?_;refine fH rfl (by simp) ?_;refine af ?_;refine xp rfl (aA rfl (k1.cell (i:=1) rfl)) ?_;refine af ?_;refine xo rfl (aF rfl (oY _)) ?_;rintro _ _ ⟨rfl,rfl⟩;refine af ?_;refine bw ?_;exact⟨_,rfl,by cases b<;>rfl,e1⟩
theorem jN (hg:GQ h){p:Value}(kx:pH h p) (s:By) (hs:s.length<=1000){x:Tr}(hP:cU s (fM s).1 (fM s).2.1 [x] 0 0) (hx:x.wt<=1000000) :
 au Tryz.prog 18 #[p,.string (bs s)] h (bL fun r h'=>∃v,r=packed [v,.int .i64 (cP [] x).2.1,.int .i64 (cP [] x).2.2]/\cQ h' (fun _=>False) v (cP [] x).1/\aj h h'):=by
 have hlen:(fM s).1.length<=s.length:=xd _ _ _ _;have hb:(fM s).1.length*(s.length+2)<=1000000000000:=Nat.le_trans (Nat.mul_le_mul (Nat.le_trans hlen hs) (show s.length+2<=1002 by omega)) (by decide);refine b9 ?_;refine af ?_;refine xo rfl (cH) ?_;rintro _ h1 ⟨rfl,k4,e1,z1⟩;refine af ?_;refine xo rfl (aF rfl (vR (hg.ah e1).ex.lx (kx.ah e1) s (by omega))) ?_;rintro _ h2 ⟨⟨v,rfl,hv⟩,e2⟩;refine af ?_;refine xo rfl (cH) ?_;rintro _ h3 ⟨rfl,k3,e3,z3⟩;refine af ?_;refine aN rfl (aV rfl rfl k3 (gR _)) ?_;rintro _ h4 ⟨rfl,k34,x4,z4⟩;have k34:aD h4 h2.size 54 (bR (fM s).2):=k34;have e24:aj h2 h4:=aj.only e3 x4 (Nat.le_refl _);have e04:=(e1.trans e2).trans e24;have hcall:=qn ((hg.ah e04).ex.esc) (hv.ah e24) s (fM s).2 hb (by omega) hP;refine af ?_;refine xp rfl (b7 rfl k34.row) ?_;refine xo rfl (aF rfl hcall) ?_;rintro _ h5 ⟨e5,lv,rfl,s5⟩;have e15:=(e2.trans e24).trans e5;have e05:=e1.trans e15;obtain⟨la,ln,lc,rfl,hks⟩:=s5.open;have hkn:=hks.len;have hkn:1=ln:=hkn;subst hkn;have zz:=And.intro e1.size (And.intro e2.size (And.intro e24.size e5.size));obtain⟨b1,o1',xk,xt,xa,xn,xc,ha1,hb1,hr1,hk1⟩:=iB hks (i:=0) (by omega)
 iterate 7 refine bz ?_
 refine dH ?_
 iterate 2 refine bl ?_
 refine gG [(32,.bool false)] rfl ?_ ?_
 · refine af ?_;refine RW.cy (d:=28) (b':=false) rfl (decide_eq_false (by decide)) ?_;refine af ?_;exact aH rfl ⟨av rfl (by simp),sb rfl⟩
 · refine gm rfl (by simp) ?_;have hE:=qj (O:=fun b=>b=h.size) (hg.ah e05) (aZ.nil eB h5 _) (fun b q=>by omega) (vf.nil _) (hk1.mv (Mv.cu (Ext.refl (fun _=>False) _) fun b _ hn=>⟨fun q=>q,fun q=>hn (by omega)⟩)) hx
   iterate 2 refine bl ?_
   refine cW ?_
   iterate 4 refine bz ?_
   refine xp rfl (cM rfl rfl 0 rfl ha1) ?_;refine xp rfl (b7 rfl hr1) ?_;refine xo rfl (aF rfl hE) ?_;rintro _ h6 ⟨v6,rfl,hv6,e6⟩;obtain⟨nk',nt',ya,yn,yc,ea',en',ec',rfl,_,hR6,_⟩:=cQ.get hv6;have z6:=e6.size;refine af ?_;refine aN rfl (aV rfl rfl (((k4.ah e15).ah e6)) fT) ?_;rintro _ h7 ⟨rfl,k7,x7,z7⟩;refine af ?_;refine cn (cg rfl k7.row (eD (eD cm))) ?_;exact⟨_,rfl,_,rfl,cQ.of (eV.mv hR6 (cK (fun _ q=>q.elim) rfl x7)),aj.only (e05.trans e6) x7 (by omega)⟩
theorem lZ {enc:α->Value}{base:Nat}{T:TypeId}{va:Option Addr}{vn vc:Nat}{xs:List α}(k:cv enc h base T (.slice va vn vc) xs) (i:Nat){x:α}(hx:xs[i]? =some x) :
 ∃g,va=some ⟨g,0,none⟩/\i<vn/\vn=xs.length/\cellAt h ⟨g,0+i*1,none⟩=some (enc x):=by
 obtain⟨g,c,hv,_,_,hc,_⟩:=k.at hx;cases hv;exact⟨g,rfl,(List.getElem?_eq_some_iff.1 hx).1,rfl,hc⟩
theorem sd {l:List α}(h:l.length=1):∃a,l=[a]:=List.length_eq_one_iff.1 h
theorem Mc {l:List α}(h:l.length=2):∃a b,l=[a,b]:=by
 match l,h with
 | [a,b],_=>exact⟨a,b,rfl⟩
theorem NL {l:List α}(h:l.length=3):∃a b c,l=[a,b,c]:=by
 match l,h with
 | [a,b,c],_=>exact⟨a,b,c,rfl⟩
theorem JR {k:Int}{t:By}{l:List Tr}(hw:(Tr.mk k t l).wt<=1000000) (hva:bq aW (.mk k t l)=true) (hsk:∀y∈l,xu y) (hch:k=6->zx (.mk k t l)):xu (.mk k t l):=by
 intro h O v hg hv;obtain⟨w,rfl,hw0⟩:=id hv.open;obtain⟨a,n,c,rfl,hws⟩:=id hw0.open;have hn:l.length=n:=hws.len;subst hn;have hcap:=hws.cap;have hle:=hws.le;simp only[maxLen] at hcap;have wt0:=Eo k t l;have qt:=aK t
 have hkl:∀y∈l,(bs (bh false y)).size<=1000000:=fun y hy=>by
  have:=rM (k:=k) (t:=t) hy;have:=jA y false;rw[aK];omega
 have hsum:(gU (l.map (bh false))).length<=1000000:=by
  have h1:=vT (gQ false 0 l);have h2:=qy l false 0;have h3:=lW l false 0;rw[<-rR l 0];have h4:(Tr.mk k t l).wt=2*t.length+20+mO l:=by rw[Tr.wt]
  omega
 rw[rN,uX,Bool.and_eq_true,Bool.and_eq_true] at hva;obtain⟨⟨hbd,_⟩,hvq⟩:=hva;have hbd:(0<=k/\k<=10)/\(cw k).1<=l.length/\l.length<=(cw k).2:=of_decide_eq_true hbd
 have hll:l.length<=1000000:=by
  have h2:=qy l false 0;have h4:(Tr.mk k t l).wt=2*t.length+20+mO l:=by rw[Tr.wt]
  omega
 have m40:(⟨#[40]⟩:ByteArray).size=1:=rfl;have m41:(⟨#[41]⟩:ByteArray).size=1:=rfl;have m32:(⟨#[32]⟩:ByteArray).size=1:=rfl;have mlet:(⟨#[108,101,116,32]⟩:ByteArray).size=4:=rfl;have mlet2:(⟨#[40,108,101,116,32]⟩:ByteArray).size=5:=rfl;have meq:(⟨#[32,61,32]⟩:ByteArray).size=3:=rfl;have min_:(⟨#[32,105,110,32]⟩:ByteArray).size=4:=rfl;have mfun:(⟨#[40,102,117,110,32]⟩:ByteArray).size=5:=rfl;have marr:(⟨#[32,45,62,32]⟩:ByteArray).size=4:=rfl;have mopn:(⟨#[123,32]⟩:ByteArray).size=2:=rfl;have mcls:(⟨#[32,125]⟩:ByteArray).size=2:=rfl;refine b9 ?_;refine af ?_;refine xo rfl (kH) ?_;rintro _ h1 ⟨rfl,k1,e1,z1⟩;have k1:aD h1 h.size 27 (zF k t a l.length c):=k1;refine af ?_;refine xp rfl (aA rfl (k1.cell (i:=2) rfl)) ?_;refine af ?_;refine jd (σ:=Nat×Value) (fun w=>[(3,w.2),(9,.int .i64 (w.1:Nat))]) (fun w g=>w.1<=l.length/\aj h1 g/\cv AO g h1.size 9 w.2 ((l.map (bh false)).take w.1)) (fun w=>l.length-w.1) ((0,.slice none 0 0)) ⟨Nat.zero_le _,Ext.refl _ _,cv.nil _ _ _ _⟩ rfl ?_;rintro⟨i,ov⟩ g ⟨hi,eg,ho⟩ ih
 try dsimp only
 dsimp only at hi ho;have kg:=k1.ah eg;have e0g:=e1.trans eg;have hho:aB g h1.size 9 1 ov ((l.map (bh false)).take i).length (((l.map (bh false)).take i).map AO):=ho;have hlt0:((l.map (bh false)).take i).length=i:=by rw[List.length_take,List.length_map];omega
 rw[hlt0] at hho;obtain⟨va,vc,rfl,_⟩:=hho.open;refine af ?_;refine aX (fun hlt=>?_) (fun hlt=>?_)
 · have hil:i<l.length:=by omega
   obtain⟨b,o,x,xk,xt,xa,xn,xc,ha,hx,hrow,hnx,_,_⟩:=si (hws.mv (Mv.ah e0g)) hil;have hxm:x∈l:=List.mem_of_getElem? hx
   iterate 4 refine bl ?_
   refine cW ?_;refine xp rfl (cM rfl rfl i rfl ha) ?_;refine xp rfl (b7 rfl hrow) ?_;refine xo rfl (cH) ?_;rintro _ g1 ⟨rfl,kn,e3,z3⟩;refine aN rfl (aV rfl rfl kn kW) ?_;rintro _ g2 ⟨rfl,kx,x2,z2⟩;have kx:aD g2 g.size 27 (zF xk xt xa xn xc):=kx;have eg2:aj g g2:=aj.only e3 x2 (Nat.le_refl _);have hcall:=hsk x hxm g2 O _ (hg.ah (e0g.trans eg2)) (hnx.mv (Mv.ah eg2));refine af ?_;refine xp rfl (b7 rfl kx.row) ?_;refine xo rfl (aF rfl hcall) ?_;rintro _ g3 ⟨rfl,e4⟩;have e24:=eg2.trans e4;refine xo rfl (jb [_]) ?_;rintro _ _ ⟨rfl,rfl⟩;refine xo rfl (xO rfl rfl ((hho.wB e24)) rfl rfl (by omega) (by have:=eg.size;have:=e24.size;omega)) ?_;rintro v5 g5 ⟨ho5,hx5,hx5',hv5⟩
   have ho5:cv AO g5 h1.size 9 v5 ((l.map (bh false)).take (i+1)):=by
    rw[List.take_add_one,List.getElem?_map,hx];exact cv.of ho5 hlt0.symm rfl rfl
   refine af ?_;exact ih (i+1,v5) ⟨hil,Ext.own (eg.trans e24) (hho.wB e24) (Nat.le_refl _) hx5,ho5⟩
 · obtain rfl:i=l.length:=by omega
   rw[show (l.map (bh false)).take l.length=l.map (bh false) from List.take_of_length_le (by simp)] at ho;refine af ?_;refine xp rfl (aA rfl (kg.cell (i:=0) rfl)) ?_;refine af ?_;refine aX (fun c1=>?_) (fun c1=>?_)
   · refine af ?_;refine xp rfl (aA rfl (kg.cell (i:=1) rfl)) ?_;refine xo rfl (aF rfl (BS (hg.ah e0g).esc t (by omega))) ?_;rintro _ g2 ⟨rfl,e2⟩;refine af ?_;refine bw ?_;exact⟨_,rfl,by rw[ir (by omega),c1];rfl,e0g.trans e2⟩
   · refine af ?_;refine aX (fun c4=>?_) (fun c4=>?_)
     · subst c4;have hbd2:1<=l.length/\l.length<=1:=hbd.2;obtain⟨x0,rfl⟩:=sd (show l.length=1 by omega);have hb0:=hkl x0 (by simp);obtain⟨rg,rfl,_,_,hc0⟩:=lZ ho 0 (x:=bh false x0) rfl;refine af ?_;refine cG rfl (aA rfl (kg.cell (i:=1) rfl)) ?_;refine cG rfl (az.bK rfl rfl (by first|omega|(simp only[ByteArray.size_append];omega))) ?_;refine cG rfl (az.bK rfl rfl (by first|omega|(simp only[ByteArray.size_append];omega))) ?_;refine uE ?_;refine cG rfl (cM rfl rfl 0 rfl rfl (by simp)) ?_;refine cG rfl (aA rfl hc0) ?_;refine cG rfl (az.bK rfl rfl (by first|omega|(simp only[ByteArray.size_append];omega))) ?_;refine cG rfl (az.bK rfl rfl (by first|omega|(simp only[ByteArray.size_append];omega))) ?_;refine af ?_;refine bw ?_;refine⟨_,rfl,?_,e0g⟩;rw[ir (by decide)]
       show Value.string ((((bs [40]++bs t)++bs [32])++bs (bh false x0))++bs [41])=_
       simp only[cL];rfl
     · refine af ?_;refine aX (fun c5=>?_) (fun c5=>?_)
       · subst c5;have hbd2:2<=l.length/\l.length<=2:=hbd.2;obtain⟨x0,x1,rfl⟩:=Mc (show l.length=2 by omega);have hb0:=hkl x0 (by simp);have hb1:=hkl x1 (by simp);obtain⟨rg,rfl,_,_,hc0⟩:=lZ ho 0 (x:=bh false x0) rfl;obtain⟨rg',hrg,_,_,hc1⟩:=lZ ho 1 (x:=bh false x1) rfl;cases hrg;refine bl ?_;refine GS ?_;refine uE ?_;refine cG rfl (cM rfl rfl 0 rfl rfl (by simp)) ?_;refine cG rfl (aA rfl hc0) ?_;refine cG rfl (az.bK rfl rfl (by first|omega|(simp only[ByteArray.size_append];omega))) ?_;refine cG rfl (az.bK rfl rfl (by first|omega|(simp only[ByteArray.size_append];omega))) ?_;refine af ?_;refine cG rfl (aA rfl (kg.cell (i:=1) rfl)) ?_;refine cG rfl (az.bK rfl rfl (by first|omega|(simp only[ByteArray.size_append];omega))) ?_;refine cG rfl (az.bK rfl rfl (by first|omega|(simp only[ByteArray.size_append];omega))) ?_;refine uE ?_;refine cG rfl (cM rfl rfl 1 rfl rfl (by simp)) ?_;refine cG rfl (aA rfl hc1) ?_;refine cG rfl (az.bK rfl rfl (by first|omega|(simp only[ByteArray.size_append];omega))) ?_;refine cG rfl (az.bK rfl rfl (by first|omega|(simp only[ByteArray.size_append];omega))) ?_;refine af ?_;refine bw ?_;refine⟨_,rfl,?_,e0g⟩;rw[ir (by decide)]
         show Value.string ((((((bs [40]++bs (bh false x0))++bs [32])++bs t)++bs [32])++bs (bh false x1))++bs [41])=_
         simp only[cL];rfl
       · refine af ?_;refine aX (fun c6=>?_) (fun c6=>?_)
         · subst c6;have hbd2:3<=l.length/\l.length<=3:=hbd.2;have hcall:=hch rfl g O _ (hg.ah e0g) (hv.mv (Mv.ah e0g));have hpl:=jA (.mk 6 t l) true;have hq:=aK (bh true (.mk 6 t l));refine af ?_;refine xp rfl (b7 rfl kg.row) ?_;refine xo rfl (aF rfl hcall) ?_;rintro _ g2 ⟨rfl,e2⟩;refine xp rfl (az.bK rfl rfl (by first|omega|(simp only[ByteArray.size_append];omega))) ?_;refine xp rfl (az.bK rfl rfl (by first|omega|(simp only[ByteArray.size_append];omega))) ?_;refine af ?_;refine bw ?_;refine⟨_,rfl,?_,e0g.trans e2⟩;obtain⟨x0,x1,x2,rfl⟩:=NL (show l.length=3 by omega);rw[JS,<-BK t]
           show Value.string ((bs [40]++bs (bh true (.mk 6 t [x0,x1,x2])))++bs [41])=_
           simp only[cL]
         · rw[ir c6];refine af ?_;refine aX (fun c7=>?_) (fun c7=>?_)
           · subst c7;have hbd2:1<=l.length/\l.length<=2:=hbd.2;refine af ?_;refine aX (fun hone=>?_) (fun hone=>?_)
             · obtain⟨x0,rfl⟩:=sd (show l.length=1 by omega);have hb0:=hkl x0 (by simp);obtain⟨rg,rfl,_,_,hc0⟩:=lZ ho 0 (x:=bh false x0) rfl;refine af ?_;refine cG rfl (aA rfl (kg.cell (i:=1) rfl)) ?_;refine cG rfl (az.bK rfl rfl (by first|omega|(simp only[ByteArray.size_append];omega))) ?_;refine cG rfl (az.bK rfl rfl (by first|omega|(simp only[ByteArray.size_append];omega))) ?_;refine uE ?_;refine cG rfl (cM rfl rfl 0 rfl rfl (by simp)) ?_;refine cG rfl (aA rfl hc0) ?_;refine cG rfl (az.bK rfl rfl (by first|omega|(simp only[ByteArray.size_append];omega))) ?_;refine af ?_;refine bw ?_;refine⟨_,rfl,?_,e0g⟩
               show Value.string (((bs [108,101,116,32]++bs t)++bs [32,61,32])++bs (bh false x0))=_
               simp only[cL];rfl
             · obtain⟨x0,x1,rfl⟩:=Mc (show l.length=2 by omega);have hb0:=hkl x0 (by simp);have hb1:=hkl x1 (by simp);obtain⟨rg,rfl,_,_,hc0⟩:=lZ ho 0 (x:=bh false x0) rfl;obtain⟨rg',hrg,_,_,hc1⟩:=lZ ho 1 (x:=bh false x1) rfl;cases hrg;refine af ?_;refine cG rfl (aA rfl (kg.cell (i:=1) rfl)) ?_;refine cG rfl (az.bK rfl rfl (by first|omega|(simp only[ByteArray.size_append];omega))) ?_;refine cG rfl (az.bK rfl rfl (by first|omega|(simp only[ByteArray.size_append];omega))) ?_;refine uE ?_;refine cG rfl (cM rfl rfl 0 rfl rfl (by simp)) ?_;refine cG rfl (aA rfl hc0) ?_;refine cG rfl (az.bK rfl rfl (by first|omega|(simp only[ByteArray.size_append];omega))) ?_;refine cG rfl (az.bK rfl rfl (by first|omega|(simp only[ByteArray.size_append];omega))) ?_;refine uE ?_;refine cG rfl (cM rfl rfl 1 rfl rfl (by simp)) ?_;refine cG rfl (aA rfl hc1) ?_;refine cG rfl (az.bK rfl rfl (by first|omega|(simp only[ByteArray.size_append];omega))) ?_;refine cG rfl (az.bK rfl rfl (by first|omega|(simp only[ByteArray.size_append];omega))) ?_;refine af ?_;refine bw ?_;refine⟨_,rfl,?_,e0g⟩
               show Value.string ((((((bs [40,108,101,116,32]++bs t)++bs [32,61,32])++bs (bh false x0))++bs [32,105,110,32])++bs (bh false x1))++bs [41])=_
               simp only[cL];rfl
           · refine af ?_;refine aX (fun c8=>?_) (fun c8=>?_)
             · subst c8;have hbd2:1<=l.length/\l.length<=1:=hbd.2;obtain⟨x0,rfl⟩:=sd (show l.length=1 by omega);have hb0:=hkl x0 (by simp);obtain⟨rg,rfl,_,_,hc0⟩:=lZ ho 0 (x:=bh false x0) rfl;refine af ?_;refine cG rfl (aA rfl (kg.cell (i:=1) rfl)) ?_;refine cG rfl (az.bK rfl rfl (by first|omega|(simp only[ByteArray.size_append];omega))) ?_;refine cG rfl (az.bK rfl rfl (by first|omega|(simp only[ByteArray.size_append];omega))) ?_;refine uE ?_;refine cG rfl (cM rfl rfl 0 rfl rfl (by simp)) ?_;refine cG rfl (aA rfl hc0) ?_;refine cG rfl (az.bK rfl rfl (by first|omega|(simp only[ByteArray.size_append];omega))) ?_;refine cG rfl (az.bK rfl rfl (by first|omega|(simp only[ByteArray.size_append];omega))) ?_;refine af ?_;refine bw ?_;refine⟨_,rfl,?_,e0g⟩
               show Value.string ((((bs [40,102,117,110,32]++bs t)++bs [32,45,62,32])++bs (bh false x0))++bs [41])=_
               simp only[cL];rfl
             · refine af ?_;refine aX (fun c9=>?_) (fun c9=>?_)
               · subst c9;have hbd2:2<=l.length/\l.length<=2:=hbd.2;obtain⟨x0,x1,rfl⟩:=Mc (show l.length=2 by omega);have hb0:=hkl x0 (by simp);have hb1:=hkl x1 (by simp);obtain⟨rg,rfl,_,_,hc0⟩:=lZ ho 0 (x:=bh false x0) rfl;obtain⟨rg',hrg,_,_,hc1⟩:=lZ ho 1 (x:=bh false x1) rfl;cases hrg;refine bl ?_;refine GS ?_;refine uE ?_;refine cG rfl (cM rfl rfl 0 rfl rfl (by simp)) ?_;refine cG rfl (aA rfl hc0) ?_;refine cG rfl (az.bK rfl rfl (by first|omega|(simp only[ByteArray.size_append];omega))) ?_;refine uE ?_;refine cG rfl (cM rfl rfl 1 rfl rfl (by simp)) ?_;refine cG rfl (aA rfl hc1) ?_;refine cG rfl (az.bK rfl rfl (by first|omega|(simp only[ByteArray.size_append];omega))) ?_;refine cG rfl (az.bK rfl rfl (by first|omega|(simp only[ByteArray.size_append];omega))) ?_;refine af ?_;refine bw ?_;refine⟨_,rfl,?_,e0g⟩
                 show Value.string (((bs (bh false x0)++bs [40])++bs (bh false x1))++bs [41])=_
                 simp only[cL];rfl
               · refine af ?_;refine aX (fun c10=>?_) (fun c10=>?_)
                 · subst c10;have hq:=aK (gU (l.map (bh false)));refine af ?_;refine xo rfl (aF rfl (El (cv.read (h1:=fun _=>rfl) ho (fun _ _ k=>k)) (by omega))) ?_;rintro _ g2 ⟨rfl,e2⟩;refine xp rfl (az.bK rfl rfl (by first|omega|(simp only[ByteArray.size_append];omega))) ?_;refine xp rfl (az.bK rfl rfl (by first|omega|(simp only[ByteArray.size_append];omega))) ?_;refine af ?_;refine bw ?_;refine⟨_,rfl,?_,e0g.trans e2⟩
                   show Value.string ((bs [123,32]++bs (gU (l.map (bh false))))++bs [32,125])=_
                   simp only[cL];rfl
                 · refine af ?_;refine xp rfl (aA rfl (kg.cell (i:=1) rfl)) ?_;refine af ?_;refine bw ?_;refine⟨_,rfl,?_,e0g⟩;unfold uW;rw[if_neg c1,if_neg c4,if_neg c5,if_neg c6,if_neg c7,if_neg c8,if_neg c9,if_neg c10];rfl
theorem Hz:∀(d:Nat) (x:Tr),x.dep<=d->x.wt<=1000000->bq aW x=true->xu x/\(x.kind=6->zx x):=by
 intro d
 induction d with
 |zero=>intro x hx;cases x with|mk k t l=>simp[Tr.dep] at hx
 |succ d ih =>
 intro x hd hw hva;cases x with
 |mk k t l =>
  have hva0:=hva;rw[rN,uX,Bool.and_eq_true,Bool.and_eq_true] at hva;obtain⟨⟨hbd,_⟩,hvq⟩:=hva;have hbd:(0<=k/\k<=10)/\(cw k).1<=l.length/\l.length<=(cw k).2:=of_decide_eq_true hbd;have hk:∀y∈l,xu y/\(y.kind=6->zx y):=fun y hy=>ih y (by have:=E6 (k:=k) (t:=t) hy;omega) (by have:=rM (k:=k) (t:=t) hy;omega) (yA hvq hy)
  have hch:k=6->zx (.mk k t l):=fun q=>by
   subst q;have hbd2:3<=l.length/\l.length<=3:=hbd.2;obtain⟨x0,x1,x2,rfl⟩:=NL (show l.length=3 by omega);exact GB hw (hk x0 (by simp)).1 (hk x1 (by simp)).1 (hk x2 (by simp)).1 (hk x2 (by simp)).2
  exact⟨JR hw hva0 (fun y hy=>(hk y hy).1) hch,hch⟩
def uU (x:Tr):By:=if bq aW x=true then bh false x else []
theorem xq {x:Tr}(hw:x.wt<=1000000){v:Value}(hg:GR h) (hv:eK h O v x):au Tryz.prog 36 #[v] h (bL fun r h'=>r= .string (bs (uU x))/\aj h h'):=by
 obtain⟨k,t,a,n,c,rfl,hR⟩:=id hv.get;refine b9 ?_;refine af ?_;refine xo rfl (kH) ?_;rintro _ h1 ⟨rfl,k1,e1,z1⟩;refine af ?_;refine xp rfl (b7 rfl k1.row) ?_;refine xo rfl (aF rfl (mT hw (hg.ah e1) (hv.mv (Mv.ah e1)))) ?_;rintro _ h2 ⟨rfl,e2⟩;refine af ?_;refine jo (fun hb=>?_) (fun hb=>?_)
 · have hb:bq aW x=false:=by simpa using hb
   refine af ?_;refine bw ?_;exact⟨_,rfl,by unfold uU;rw[hb];rfl,e1.trans e2⟩
 · have hb:bq aW x=true:=by simpa using hb
   have hcall:=(Hz _ x (Nat.le_refl _) hw hb).1 h2 O _ (hg.ah (e1.trans e2)) (hv.mv (Mv.ah (e1.trans e2)));refine af ?_;refine xp rfl (b7 rfl (k1.ah e2).row) ?_;refine xo rfl (aF rfl hcall) ?_;rintro _ h3 ⟨rfl,e3⟩;refine af ?_;refine bw ?_;exact⟨_,rfl,by unfold uU;rw[if_pos hb];rfl,(e1.trans e2).trans e3⟩
def BJ (x:Vl):By:=if x.kind=1 then Lib.itoa x.num else if x.kind=2 then Lib.formatBool (decide (x.num≠0)) else if x.kind=3 then uU (.mk 1 x.gr []) else if x.kind=4 then uU (.mk 8 x.gr [x.body]) else []
theorem nV (hg:GQ h){x:Vl}(hw:cQ h O w x) (hn:x.kind=1-> -9223372036854775808<=x.num/\x.num<=9223372036854775807) (ht:x.gr.length<=100000) (hbw:x.body.wt<=700000) :
 au Tryz.prog 16 #[w] h (bL fun r h'=>r= .string (bs (BJ x))/\aj h h'):=by
 obtain⟨nk,nt,a,n,c,ea,en,ec,rfl,hb,hR,he⟩:=cQ.get hw;unfold BJ;refine b9 ?_;refine af ?_;refine xo rfl (kH) ?_;rintro _ h1 ⟨rfl,k1,e1,z1⟩;have k1:aD h1 h.size 30 (jV x.kind x.num x.gr x.self nk nt a n c ea en ec):=k1;have hg1:=hg.ah e1;refine af ?_;refine xp rfl (aA rfl (k1.cell (i:=0) rfl)) ?_;refine af ?_;refine aX (fun c1=>?_) (fun c1=>?_)
 · rw[if_pos c1];refine af ?_;refine xp rfl (aA rfl (k1.cell (i:=1) rfl)) ?_;refine xo rfl (aF rfl (qU hg1.ex.lx.tens x.num (hn c1))) ?_;rintro _ h2 ⟨rfl,e2⟩;refine af ?_;refine bw ?_;exact⟨_,rfl,rfl,e1.trans e2⟩
 · rw[if_neg c1];refine af ?_;refine aX (fun c2=>?_) (fun c2=>?_)
   · rw[if_pos c2];refine af ?_;refine xp rfl (aA rfl (k1.cell (i:=1) rfl)) ?_;refine af ?_;refine xo rfl (aF rfl (oY _)) ?_;rintro _ _ ⟨rfl,rfl⟩;refine af ?_;refine bw ?_;exact⟨_,rfl,rfl,e1⟩
   · rw[if_neg c2];refine af ?_;refine aX (fun c3=>?_) (fun c3=>?_)
     · rw[if_pos c3];refine af ?_;refine xp rfl (aA rfl (k1.cell (i:=2) rfl)) ?_;refine xp rfl (aq (H.iM _ _) rfl) ?_;refine xo rfl (aF rfl (xq (x:=.mk 1 x.gr []) (by simp[Tr.wt,mO];omega) hg1.ex (eK.of (O:=O) (oy (aZ.nil _ _ _))))) ?_;rintro _ h2 ⟨rfl,e2⟩;refine af ?_;refine bw ?_;exact⟨_,rfl,rfl,e1.trans e2⟩
     · rw[if_neg c3];refine af ?_;refine aX (fun c4=>?_) (fun c4=>?_)
       · rw[if_pos c4];have r4:Lw.rowAt h1 h.size 4 [.int .i64 nk,.string (bs nt),.slice a n c]:=uz (a:=[_,_,_,_]) (m:=[_,_,_]) (c:=[_]) k1;refine af ?_;refine xp rfl (aA rfl (k1.cell (i:=2) rfl)) ?_;refine af ?_;refine xp rfl (b7 rfl r4) ?_;refine xo rfl (rJ) ?_;rintro _ h2 ⟨rfl,hh2⟩;have e2:aj h1 h2:=by rw[hh2];exact Ext.push _ _ _
         have hkid:aZ eN h2 (fun _=>False) (.slice (some ⟨h1.size,0,none⟩) 1 1) [x.body]:=by
          rw[hh2];exact lu (eN.mv hb (Mv.cu e1 fun b _ _=>⟨fun q=>q,fun q=>q⟩)) (fun q=>q)
         refine xp rfl (aq (H.jO _ _ _ _ _) rfl) ?_;refine xo rfl (aF rfl (xq (x:=.mk 8 x.gr [x.body]) (by simp[Tr.wt,mO];omega) (hg1.ah e2).ex (eK.of (oy hkid)))) ?_;rintro _ h3 ⟨rfl,e3⟩;refine af ?_;refine bw ?_;exact⟨_,rfl,rfl,(e1.trans e2).trans e3⟩
       · rw[if_neg c4];refine af ?_;refine bw ?_;exact⟨_,rfl,rfl,e1⟩
def mV (s t:By):Prop:=∃i,i+t.length<=s.length/\(s.take (i+t.length)).drop i=t
theorem Dg (s t:By) (hs:s.length<=1000000) (ht:t.length<=1000000) :
 au Tryz.prog 11 #[.string (bs s),.string (bs t)] h (bL fun r h'=>(∃b,r= .bool b/\(b=true↔mV s t))/\h'=h):=by
 have hz:=aK s;have hy:=aK t;refine b9 ?_;refine af ?_;refine jd (σ:=Nat) (fun i=>[(4,.bool false),(5,.int .i64 (i:Nat))]) (fun i h'=>h'=h/\i<=s.length+1/\∀j,j<i->¬(j+t.length<=s.length/\(s.take (j+t.length)).drop j=t)) (fun i=>s.length+1-i) (0) ⟨rfl,by omega,fun j hj=>by omega⟩ rfl ?_;rintro i g ⟨rfl,hi,hno⟩ ih;refine af ?_;refine aX (fun hlt=>?_) (fun hlt=>?_)
 · refine af ?_;refine xp rfl (az.uR underlying9 rfl rfl i rfl rfl (i+t.length) (by omega) (by omega) (by omega)) ?_;rw[uy s i (i+t.length) (by omega)];refine af ?_;refine aX (fun heq=>?_) (fun heq=>?_)
   · have heq:=bu heq;refine af ?_;refine bw ?_;exact⟨_,rfl,⟨true,rfl,fun _=>⟨i,by omega,heq⟩,fun _=>rfl⟩,rfl⟩
   · refine af ?_
     exact ih (i+1) ⟨rfl,by omega,fun j hj q=>by
      rcases Nat.lt_or_ge j i with k|k
      · exact hno j k q
      · obtain rfl:j=i:=(by omega)
        exact heq (by rw[q.2])⟩ (by omega)
 · refine af ?_;refine bw ?_;exact⟨_,rfl,⟨false,rfl,fun q=>(by cases q),fun⟨j,h1,h2⟩=>absurd ⟨h1,h2⟩ (hno j (by omega))⟩,rfl⟩
theorem yf {v:Value}{xs:List Bd}(hv:aZ eB h O v xs) :
 au Tryz.prog 17 #[v] h (bL fun r h'=>(∃b,r= .bool b/\(b=true↔∃y∈xs,y.2.kind=0))/\h'=h):=by
 obtain⟨oa,n,c,rfl,hsl⟩:=hv.open;have hn:=hsl.len;have hle:=hsl.le;have hcap:=hsl.cap;unfold maxLen at hcap;subst hn;refine b9 ?_;refine af ?_;refine jd (σ:=Nat) (fun i=>[(2,.bool false),(3,.int .i64 (i:Nat))]) (fun i h'=>h'=h/\i<=xs.length/\∀(j:Nat) (y:Bd),j<i->xs[j]? =some y->y.2.kind≠0) (fun i=>xs.length-i) (0) ⟨rfl,Nat.zero_le _,fun j y hj=>by omega⟩ rfl ?_;rintro i g ⟨rfl,hi,hno⟩ ih;refine af ?_;refine aX (fun hlt=>?_) (fun hlt=>?_)
 · obtain⟨b,o,y,nk,nt,a,m,c',ea,en,ec,ha,hy,hrow,hR⟩:=Lt hsl (i:=i) (by omega)
   iterate 4 refine bl ?_
   refine cW ?_
   iterate 2 refine bz ?_
   refine xp rfl (cM rfl rfl i rfl ha) ?_;refine af ?_;refine xp rfl (aA rfl (hrow 1 (.int .i64 y.2.kind) rfl)) ?_;refine af ?_;refine aX (fun hk=>?_) (fun hk=>?_)
   · refine af ?_;refine bw ?_;exact⟨_,rfl,⟨true,rfl,fun _=>⟨y,List.mem_of_getElem? hy,hk⟩,fun _=>rfl⟩,rfl⟩
   · refine af ?_
     exact ih (i+1) ⟨rfl,by omega,fun j z hj hz=>by
      rcases Nat.lt_or_ge j i with k|k
      · exact hno j z k hz
      · obtain rfl:j=i:=(by omega)
        rw[hy] at hz;cases hz;exact hk⟩ (by omega)
 · obtain rfl:i=xs.length:=by omega
   refine af ?_;refine bw ?_
   exact⟨_,rfl,⟨false,rfl,fun q=>(by cases q),fun⟨y,hm,hk⟩=>by
    obtain⟨j,hj,he⟩:=List.getElem_of_mem hm;exact absurd hk (hno j y hj (by rw[List.getElem?_eq_getElem hj,he]))⟩,rfl⟩
end
end Go.Proofs.YtdgckfkoihcmjaaGreatDoor
namespace Go.Proofs.YtdgckfkoihcmjaaGreatDoor
open Go Go.Lw
section
variable {v:Vl}
def Qd:Nat->Vl->Prop
  | 0,_=>True
  |d+1,v=>v.kind≠0/\∀p∈v.env,Qd d p.2
def rK (v:Vl):Prop:=∀d,Qd d v
theorem rK.get (h:rK v):v.kind≠0/\∀p∈v.env,rK p.2:=⟨(h 1).1,fun p hp d=>(h (d+1)).2 p hp⟩
theorem As {k n:Int}{s f:By}{b:Tr}{e:List Bd}(hk:k≠0) (he:∀p∈e,rK p.2):rK (.mk k n s f b e)
  | 0=>trivial
  |d+1=>⟨hk,fun p hp=>he p hp d⟩
theorem dx {k n:Int}{s f:By}(hk:k≠0):rK (.mk k n s f bG []):=As hk fun _ h=>by cases h
def Ia (r:Out):Prop:=r.2.1=0->rK r.1
def JZ (e:List Bd):Prop:=∀p∈e,rK p.2
theorem JZ.snoc {e:List Bd}(h:JZ e) (hv:rK v) (t:By):JZ (e++[(t,v)]):=fun p hp=>by
  rcases List.mem_append.1 hp with hp|hp
  · exact h p hp
  · simp at hp;rw[hp];exact hv
theorem rK.own (h:rK v) (t:By):rK (jg v t):=by
  unfold jg;split
  · exact As h.get.1 h.get.2
  · exact h
theorem EO (t:By):∀{e:List Bd},JZ e->(dF t e).2=0->rK (dF t e).1
  | [],_,h=>by cases h
  |p::e,hn,h=>by
    rw[dF] at h ⊢;split at h
    · rename_i q;rw[if_pos q];exact EO t (fun x hx=>hn x (by simp[hx])) q
    · rename_i q;rw[if_neg q];split at h
      · rename_i q;rw[if_pos q];exact hn p (by simp)
      · cases h
theorem H9 (op:By) (w:Int) (h:(gZ op w).2=0):rK (gZ op w).1:=by
  unfold gZ at h ⊢
  repeat' split at h
  all_goals first|(cases h;done)|skip
  all_goals (repeat' split)<;>first|exact dx (by decide)|contradiction
theorem fD {c:Prop}[Decidable c]{a b:Vl×Int}(h1:c->a.2=0->rK a.1) (h2:¬c->b.2=0->rK b.1):(if c then a else b).2=0->rK (if c then a else b).1:=by
  by_cases h:c
  · rw[if_pos h];exact h1 h
  · rw[if_neg h];exact h2 h
theorem JY (op:By) (x y:Int):(cT op x y).2=0->rK (cT op x y).1:=by
  unfold cT;dsimp only
  refine fD (fun _=>fD (fun _ _=>dx (by decide)) fun _ h=>by cases h) fun _=>fD (fun _=>fD (fun _ _=>dx (by decide)) fun _ h=>by cases h) fun _ =>
    fD (fun _=>fD (fun _ _=>dx (by decide)) fun _ h=>by cases h) fun _=>fD (fun _=>fD (fun _ h=>by cases h) fun _ _=>dx (by decide)) fun _=>H9 _ _
theorem L8 (op:By) (v:Vl):(zO op v).2=0->rK (zO op v).1:=by
  unfold zO;exact fD (fun _ _=>dx (by decide)) fun _=>fD (fun _ _=>dx (by decide)) fun _ h=>by cases h
theorem L9 (op:By) (x y:Vl):(qd op x y).2=0->rK (qd op x y).1:=by
  unfold qd
  exact fD (fun _ h=>by cases h) fun _=>fD (fun _=>JY _ _ _) fun _=>fD (fun _=>fD (fun _ h=>by cases h) fun _ _=>dx (by decide)) fun _=>fD (fun _=>H9 _ _) fun _ =>
    fD (fun _ _=>dx (by decide)) fun _=>fD (fun _ _=>dx (by decide)) fun _ h=>by cases h
theorem bW {c:Prop}[Decidable c]{a b:Out}(h1:c->Ia a) (h2:¬c->Ia b):Ia (if c then a else b):=by
  by_cases h:c
  · rw[if_pos h];exact h1 h
  · rw[if_neg h];exact h2 h
theorem Ia.err {e:Int}{m:Nat}(h:e≠0):Ia (v,e,m):=fun q=>absurd q h
theorem Ia.of {e:Int}{m:Nat}(h:rK v):Ia (v,e,m):=fun _=>h
theorem rX {ev:Ev}(hev:∀m e n,Cl aW n->JZ e->Ia (ev m e n)):∀(l:List Tr) (m:Nat) (e:List Bd) (v:Vl),(∀x∈l,Cl aW x)->JZ e->(l=[]->rK v)->Ia (eY ev m e l v)
  | [],m,e,v,_,he,hv=>.of (hv rfl)
  |n::r,m,e,v,hl,he,hv=>by
    have h:=hev m e n (hl n (by simp)) he;have hr:∀x∈r,Cl aW x:=fun x hx=>hl x (by simp[hx])
    rw[eY];generalize ev m e n=o at h;obtain⟨w,x,m'⟩:=o;dsimp only;refine bW (fun q=>.err q) fun q=>?_
    have h:rK w:=h (Classical.not_not.1 q);exact bW (fun _=>rX hev r _ _ _ hr (he.snoc (h.own _) _) fun _=>h.own _) fun _=>rX hev r _ _ _ hr he fun _=>h
theorem EP:∀d m e n,Cl aW n->JZ e->Ia (aI d m e n)
  | 0=>fun m e n _ _=>.err (by decide)
  |d+1=>fun m e n hn he=>by
    have hev:=EP d;obtain⟨k,t,l⟩:=n;cases m with
    |zero=>rw[aI];exact .err (by decide)
    |succ m =>
      have jW:=hn.jW;have h1:=hev m e _ (jW 0) he;rw[aI]
      refine bW (fun _=>?_) fun _=>bW (fun _=>bW (fun _=>.err (by decide)) fun _=>.of (dx (by decide))) fun _=>bW (fun _=>.of (dx (by decide))) fun _=>bW (fun _=>EO t he) fun _ =>
        bW (fun _=>.of (As (by decide) he)) fun _=>bW (fun k10=>?_) fun _=>bW (fun _=>?_) fun _=>bW (fun _=>?_) fun _=>bW (fun _=>?_) fun _=>bW (fun _=>?_) fun _=>?_
      · split
        · exact .of (dx (by decide))
        · exact .err (by decide)
      · have hall:(∀x∈l,Cl aW x)/\l≠[]:=by
          rcases hn with hn|hn
          · refine⟨fun x hx=>.inl (lU (yq.1 hn).2 x hx),fun q=>?_⟩;have hs:=(yq.1 hn).1;rw[k10,q] at hs;cases hs
          · cases hn;cases k10
        refine rX (fun m e n hn he=>hev m e n hn he) l m e gY hall.1 he fun q=>absurd q hall.2
      · unfold DH;generalize aI d m e (l.getD 0 bG)=o at h1;obtain⟨v,x,m'⟩:=o;dsimp only;refine bW (fun _=>h1) fun q=>?_
        have h1:rK v:=h1 (Classical.not_not.1 fun k=>q (.inl k));exact hev _ _ _ (jW 1) (he.snoc (h1.own _) _)
      · unfold Mf;generalize aI d m e (l.getD 0 bG)=o at h1;obtain⟨v,x,m'⟩:=o;dsimp only;exact bW (fun q=>.err q) fun q=>bW (fun _=>.err (by decide)) fun _=>bW (fun _=>hev _ _ _ (jW 1) he) fun _=>hev _ _ _ (jW 2) he
      · unfold wM;generalize aI d m e (l.getD 0 bG)=o at h1;obtain⟨f,x,m1⟩:=o;dsimp only;refine bW (fun q=>.err q) fun q=>?_
        have hf:rK f:=h1 (Classical.not_not.1 q);have h2:=hev m1 e _ (jW 1) he;generalize aI d m1 e (l.getD 1 bG)=o at h2;obtain⟨y,z,m2⟩:=o;dsimp only;refine bW (fun q=>.err q) fun q=>bW (fun _=>.err (by decide)) fun _=>bW (fun _=>.err (by decide)) fun hv=>?_
        have hy:rK y:=h2 (Classical.not_not.1 q);refine hev _ _ _ (.inl (by simpa using hv)) (JZ.snoc ?_ hy _);split
        · exact JZ.snoc hf.get.2 hf _
        · exact hf.get.2
      · unfold Fu;generalize aI d m e (l.getD 0 bG)=o at h1;obtain⟨v,x,m'⟩:=o;dsimp only;exact bW (fun q=>.err q) fun q=>L8 _ _
      · unfold Dd;generalize aI d m e (l.getD 0 bG)=o at h1;obtain⟨a,x,m1⟩:=o;dsimp only;refine bW (fun q=>.err q) fun q=>?_
        have ha:rK a:=h1 (Classical.not_not.1 q);have h2:=hev m1 e _ (jW 1) he;generalize aI d m1 e (l.getD 1 bG)=o at h2;obtain⟨y,z,m2⟩:=o;dsimp only;exact bW (fun _=>bW (fun _=>.err (by decide)) fun _=>bW (fun _=>.of ha) fun _=>bW (fun _=>.err (by decide)) fun _=>h2) fun _=>bW (fun q=>.err q) fun _=>L9 _ _ _
end
end Go.Proofs.YtdgckfkoihcmjaaGreatDoor
namespace Go.Proofs.YtdgckfkoihcmjaaGreatDoor
open Go Go.Lw
set_option maxRecDepth 100000
theorem Bp (n:Int):(∃k:Int,wrap64 n=n+k*18446744073709551616)/\ -9223372036854775808<=wrap64 n/\wrap64 n<=9223372036854775807:=by
  have h64:(2:Int) ^ 64=18446744073709551616:=rfl;have h63:(2:Int) ^ (64-1)=9223372036854775808:=rfl;unfold wrap64;simp only[IntKind.wrap,IntKind.bits,IntKind.signed,h64,h63,Bool.true_and,decide_eq_true_eq];have h:=Int.emod_add_mul_ediv n 18446744073709551616;split
  · exact⟨⟨-(n / 18446744073709551616)-1,by omega⟩,by omega,by omega⟩
  · exact⟨⟨-(n / 18446744073709551616),by omega⟩,by omega,by omega⟩
def ye (a:Int):Prop:= -9223372036854775808<=a/\a<=9223372036854775807
end Go.Proofs.YtdgckfkoihcmjaaGreatDoor
namespace Go.Proofs.YtdgckfkoihcmjaaGreatDoor
open Go Go.Lw
section
variable {v:Vl}{k n:Int}
def Qb:Nat->Vl->Prop
  | 0,_=>True
  |d+1,v=>ye v.num/\v.gr.length<=100000/\v.body.wt<=200000/\∀p∈v.env,Qb d p.2
def mP (v:Vl):Prop:=∀d,Qb d v
theorem mP.get (h:mP v):ye v.num/\v.gr.length<=100000/\v.body.wt<=200000/\∀p∈v.env,mP p.2:=⟨(h 1).1,(h 1).2.1,(h 1).2.2.1,fun p hp d=>(h (d+1)).2.2.2 p hp⟩
theorem zY {s f:By}{b:Tr}{e:List Bd}(hn:ye n) (hs:s.length<=100000) (hb:b.wt<=200000) (he:∀p∈e,mP p.2):mP (.mk k n s f b e)
  | 0=>trivial
  |d+1=>⟨hn,hs,hb,fun p hp=>he p hp d⟩
theorem jz {s f:By}(hn:ye n) (hs:s.length<=100000):mP (.mk k n s f bG []):=zY hn hs (by decide) fun _ h=>by cases h
theorem MJ:ye 0:=by unfold ye;omega
theorem eM:mP gY:=jz MJ (by decide)
theorem zX (b:Bool):mP (iP b):=jz (by cases b<;>(unfold ye;decide)) (by simp)
theorem uP (h:ye n):mP (fR n):=jz h (by simp)
theorem EA (n:Int):mP (fR (wrap64 n)):=uP (Bp n).2
def GV (e:List Bd):Prop:=∀p∈e,mP p.2
theorem GV.snoc {e:List Bd}(h:GV e) (hv:mP v) (t:By):GV (e++[(t,v)]):=fun p hp=>by
  rcases List.mem_append.1 hp with hp|hp
  · exact h p hp
  · simp at hp;rw[hp];exact hv
theorem mP.own (h:mP v) (t:By):mP (jg v t):=by
  unfold jg;split
  · exact zY h.get.1 h.get.2.1 h.get.2.2.1 h.get.2.2.2
  · exact h
theorem EB (t:By):∀{e:List Bd},GV e->mP (dF t e).1
  | [],_=>eM
  |p::e,hn=>by
    rw[dF];split
    · exact EB t (fun x hx=>hn x (by simp[hx]))
    · split
      · exact hn p (by simp)
      · exact eM
theorem Hx (op:By) (w:Int):mP (gZ op w).1:=by
  unfold gZ
  repeat' split
  all_goals first|exact zX _|exact eM
theorem LQ {a b:Int}(ha:ye a):ye (a.tmod b):=by
  have h:=Int.natAbs_tmod a b;have h2:a.natAbs%b.natAbs<=a.natAbs:=Nat.mod_le _ _;have h3:0<=a->0<=a.tmod b:=fun q=>Int.tmod_nonneg b q
  unfold ye at *
  by_cases q:0<=a
  · have:=h3 q;omega
  · have h4:a.tmod b<=0:=by
      have:=Int.tmod_nonneg b (show 0<= -a by omega);rw[Int.neg_tmod] at this;omega
    omega
theorem JQ (op:By){x y:Int}(hx:ye x):mP (cT op x y).1:=by
  unfold cT;dsimp only
  repeat' split
  all_goals first|exact EA _|exact eM|exact uP (LQ hx)|exact Hx _ _|skip
theorem LP (op:By) (v:Vl):mP (zO op v).1:=by
  unfold zO
  repeat' split
  all_goals first|exact zX _|exact EA _|exact eM
theorem LR (op:By){x y:Vl}(hx:mP x):mP (qd op x y).1:=by
  unfold qd
  repeat' split
  all_goals first|exact eM|exact JQ _ hx.get.1|exact Hx _ _|exact zX _|skip
  exact jz MJ (by rw[List.length_append];omega)
theorem HP {t:By}{v:Int}(h:Lib.parseIntB 64 t= .ok v):ye v:=by
  unfold Lib.parseIntB at h;split at h
  · cases h
  · dsimp only at h;split at h
    · cases h
    · cases h
    · rename_i u _;split at h
      · cases h
      · rename_i h1;split at h
        · cases h
        · rename_i h2;cases h;unfold ye;split
          · rename_i h3;have:¬2 ^ 63<u:=fun q=>h2 ⟨h3,q⟩
            have e:(2:Nat) ^ 63=9223372036854775808:=by decide
            rw[e] at this;omega
          · rename_i h3;have:¬2 ^ 63<=u:=fun q=>h1 ⟨h3,q⟩
            have e:(2:Nat) ^ 63=9223372036854775808:=by decide
            rw[e] at this;omega
theorem cE {c:Prop}[Decidable c]{a b:Out}(h1:c->mP a.1) (h2:¬c->mP b.1):mP (if c then a else b).1:=by
  by_cases h:c
  · rw[if_pos h];exact h1 h
  · rw[if_neg h];exact h2 h
theorem uQ {ev:Ev}(hev:∀m e n,n.wt<=200000->GV e->mP (ev m e n).1):∀(l:List Tr) (m:Nat) (e:List Bd) (v:Vl),(∀x∈l,x.wt<=200000)->GV e->mP v->mP (eY ev m e l v).1
  | [],m,e,v,_,_,hv=>hv
  |n::r,m,e,v,hl,he,hv=>by
    have h:=hev m e n (hl n (by simp)) he;have hr:∀x∈r,x.wt<=200000:=fun x hx=>hl x (by simp[hx])
    rw[eY];generalize ev m e n=o at h;obtain⟨w,x,m'⟩:=o;dsimp only;refine cE (fun _=>eM) fun _=>?_
    exact cE (fun _=>uQ hev r _ _ _ hr (he.snoc (h.own _) _) (h.own _)) fun _=>uQ hev r _ _ _ hr he h
theorem Md {t:By}{l:List Tr}(h:(Tr.mk k t l).wt<=200000) (i:Nat):(l.getD i bG).wt<=200000:=by
  rw[List.getD_eq_getElem?_getD];cases hi:l[i]? with
  |none=>decide
  |some x =>
    have:=oe (List.mem_of_getElem? hi);rw[Tr.wt] at h
    show x.wt<=_
    omega
theorem EC:∀d m e n,n.wt<=200000->GV e->mP (aI d m e n).1
  | 0=>fun m e n _ _=>eM
  |d+1=>fun m e n hn he=>by
    have hev:=EC d;obtain⟨k,t,l⟩:=n;cases m with
    |zero=>rw[aI];exact eM
    |succ m =>
      have jW:=Md hn;have h1:=hev m e _ (jW 0) he;have htl:t.length<=100000:=by rw[Tr.wt] at hn;omega
      rw[aI]
      refine cE (fun _=>?_) fun _=>cE (fun _=>cE (fun _=>eM) fun _=>jz MJ htl) fun _=>cE (fun _=>zX _) fun _=>cE (fun _=>EB _ he) fun _ =>
        cE (fun _=>zY MJ htl (jW 0) he) fun _=>cE (fun _=>?_) fun _=>cE (fun _=>?_) fun _=>cE (fun _=>?_) fun _=>cE (fun _=>?_) fun _=>cE (fun _=>?_) fun _=>?_
      · split
        · rename_i hp;exact uP (HP hp)
        · exact eM
      · refine uQ hev l m e gY (fun x hx=>?_) he eM;have:=oe hx;rw[Tr.wt] at hn;omega
      · unfold DH;generalize aI d m e (l.getD 0 bG)=o at h1;obtain⟨v,x,m'⟩:=o;exact cE (fun _=>h1) fun _=>hev _ _ _ (jW 1) (he.snoc (mP.own h1 _) _)
      · unfold Mf;generalize aI d m e (l.getD 0 bG)=o at h1;obtain⟨v,x,m'⟩:=o;exact cE (fun _=>eM) fun _=>cE (fun _=>eM) fun _=>cE (fun _=>hev _ _ _ (jW 1) he) fun _=>hev _ _ _ (jW 2) he
      · unfold wM;generalize aI d m e (l.getD 0 bG)=o at h1;obtain⟨f,x,m1⟩:=o;have h1:mP f:=h1;refine cE (fun _=>eM) fun _=>?_
        have h2:=hev m1 e _ (jW 1) he;generalize aI d m1 e (l.getD 1 bG)=o at h2;obtain⟨y,z,m2⟩:=o;have h2:mP y:=h2;refine cE (fun _=>eM) fun _=>cE (fun _=>eM) fun _=>cE (fun _=>eM) fun _=>?_
        refine hev _ _ _ h1.get.2.2.1 (GV.snoc ?_ h2 _);split
        · exact GV.snoc h1.get.2.2.2 h1 _
        · exact h1.get.2.2.2
      · unfold Fu;generalize aI d m e (l.getD 0 bG)=o at h1;obtain⟨v,x,m'⟩:=o;exact cE (fun _=>eM) fun _=>LP _ _
      · unfold Dd;generalize aI d m e (l.getD 0 bG)=o at h1;obtain⟨a,x,m1⟩:=o;have h1:mP a:=h1;refine cE (fun _=>eM) fun _=>?_
        have h2:=hev m1 e _ (jW 1) he;generalize aI d m1 e (l.getD 1 bG)=o at h2;obtain⟨y,z,m2⟩:=o;have h2:mP y:=h2;exact cE (fun _=>cE (fun _=>eM) fun _=>cE (fun _=>h1) fun _=>cE (fun _=>eM) fun _=>h2) fun _=>cE (fun _=>eM) fun _=>LR _ h1
end
end Go.Proofs.YtdgckfkoihcmjaaGreatDoor
namespace Go.Proofs.YtdgckfkoihcmjaaGreatDoor
open Go Go.Lw
set_option maxRecDepth 20000
section
variable {t:By}{v:Vl}{e:List Bd}
abbrev Ft:By:=[117,110,104,101,97,114,100]
theorem DA (s:By):uA aW s:=fun _ _ h=>h
def mH (t:By):Bool:=aW t ||(List.range (t.length+1)).any fun i=>decide (i+7<=t.length) && decide ((t.take (i+7)).drop i=Ft)
theorem Df (h:t.length<7):¬mV t Ft:=fun⟨i,h1,_⟩=>by
  have:i+7<=t.length:=h1;omega
theorem yy (t:By):mH t=true↔aW t=true\/mV t Ft:=by
  unfold mH mV;rw[Bool.or_eq_true,List.any_eq_true];refine or_congr Iff.rfl ⟨fun⟨i,_,h⟩=>?_,fun⟨i,h1,h2⟩=>⟨i,List.mem_range.2 (by omega),?_⟩⟩
  · rw[Bool.and_eq_true,decide_eq_true_eq,decide_eq_true_eq] at h;exact⟨i,h⟩
  · rw[Bool.and_eq_true,decide_eq_true_eq,decide_eq_true_eq];exact⟨h1,h2⟩
theorem J4 (h:cY mH t=true):¬mV t Ft:=fun q=>by
  unfold cY at h;rw[Bool.and_eq_true,(yy t).2 (.inr q)] at h;exact absurd h.2 (by decide)
theorem B2 (h:cY aW t=true) (q:¬mV t Ft):cY mH t=true:=by
  unfold cY at h ⊢;rw[Bool.and_eq_true] at h ⊢;refine⟨h.1,?_⟩;have hw:aW t=false:=by simpa using h.2
  cases hu:mH t with
  |false=>rfl
  |true =>
    rcases (yy t).1 hu with k|k
    · rw[hw] at k;cases k
    · exact absurd k q
theorem J3 {s:By}(h:¬mV s Ft):uA mH s:=fun a n hn=>B2 hn fun⟨i,h1,h2⟩=>h (by
  have h1:i+7<=((s.drop a).take n).length:=h1;have h2:(((s.drop a).take n).take (i+7)).drop i=Ft:=h2;rw[List.length_take,List.length_drop] at h1;refine⟨a+i,(by omega:a+i+7<=s.length),?_⟩
  show (s.take (a+i+7)).drop (a+i)=Ft
  rw[<-h2,List.take_take,Nat.min_eq_left (by omega),<-List.drop_drop,show a+i+7=a+(i+7) by omega,List.drop_take,List.drop_take,Nat.add_sub_cancel_left,List.drop_take])
def xK (v:Vl):Prop:=(∃k n t,v= .mk k n t [] bG []/\ye n/\t.length<=20)\/∃c n,v= .mk 4 0 [120] [] (.mk 3 [c] []) [([121],fR n)]/\ye n/\(c=120\/c=121)
def A8 (e:List Bd):Prop:=e.length<=8/\∀y∈e,xK y.2
def ko (e:List Bd):List Bd:=([117,110,104,101,97,114,100,95,111,102],fR 5)::e++[([117,110,104,101,97,114,100,95,111,102,102],He [115])]
theorem xK.sm (h:xK v):mP v:=by
  rcases h with ⟨k,n,t,rfl,h1,h2⟩|⟨c,n,rfl,h1,_⟩
  · exact jz h1 (by omega)
  · exact zY MJ (by decide) (show _<=200000 by simp[Tr.wt,mO]) fun p hp=>by
      simp only[List.mem_singleton] at hp;rw[hp];exact uP h1
theorem xK.ok (h:xK v) (b:Nat):okV (b+1) v:=by
  rcases h with ⟨k,n,t,rfl,h1,h2⟩|⟨c,n,rfl,h1,_⟩
  · exact jF _ _ _ _ (by omega)
  · exact Ap (by decide) (show _<=1000000 by simp[Tr.wt,mO]) ⟨by simp,fun p hp=>by
      simp only[List.mem_singleton] at hp;rw[hp];exact qI _ _⟩
theorem FV {c:UInt8}(h:c=120\/c=121):V mH (.mk 3 [c] []) :=
  have hn:cY mH [c]=true:=B2 (t:=[c]) (by rcases h with rfl|rfl<;>decide +kernel) (Df (Nat.lt_of_lt_of_le (by decide:1<2) (by decide:2<=7)))
  Oz (iu (.inl rfl) hn (by decide))
theorem xK.rel (h:xK v):RV mH (fun t=>mV t Ft) v v:=by
  rcases h with ⟨k,n,t,rfl,_,_⟩|⟨c,n,rfl,_,hc⟩
  · exact .flat _ _ _ _
  · exact .mk (fun _=>FV hc) (.cons (.flat _ _ _ _) .nil)
theorem xK.nn (h:xK v) (hk:v.kind≠0):rK v:=by
  rcases h with ⟨k,n,t,rfl,_,_⟩|⟨c,n,rfl,_,hc⟩
  · exact dx hk
  · exact As (by decide) fun p hp=>by
      simp only[List.mem_singleton] at hp;rw[hp];exact dx (by decide)
theorem B5:∀{e:List Bd},(∀y∈e,xK y.2)->RE mH (fun t=>mV t Ft) e (e++[([117,110,104,101,97,114,100,95,111,102,102],He [115])])
  | [],_=>.skip ⟨0,by decide,rfl⟩ .nil
  |(t,v)::e,h=>.cons (h (t,v) (by simp)).rel (B5 fun y hy=>h y (by simp[hy]))
theorem J6 (h:A8 e):vf 900000 (ko e):=⟨by unfold ko;have:=h.1;simp;omega,fun p hp=>by
  unfold ko at hp
  rcases List.mem_append.1 hp with hp|hp
  · rcases List.mem_cons.1 hp with rfl|hp
    · exact qI _ _
    · exact(h.2 p hp).ok 899999
  · simp only[List.mem_singleton] at hp;rw[hp];exact jF _ _ _ _ (by decide)⟩
theorem A8.ok {e:List Bd}(h:A8 e):vf 900000 e:=⟨by have:=h.1;omega,fun p hp=>(h.2 p hp).ok 899999⟩
theorem A8.sm {e:List Bd}(h:A8 e):GV e:=fun p hp=>(h.2 p hp).sm
theorem J5 (h:A8 e):GV (ko e):=fun p hp=>by
  unfold ko at hp
  rcases List.mem_append.1 hp with hp|hp
  · rcases List.mem_cons.1 hp with rfl|hp
    · exact uP (by unfold ye;omega)
    · exact(h.2 p hp).sm
  · simp only[List.mem_singleton] at hp;rw[hp];exact jz MJ (by decide)
theorem Qa {env:List Bd}{n:Tr}(hn:n.wt<=200000) (he:GV env):mP (cP env n).1:=by
  unfold cP;split
  · dsimp only;split
    · exact EC _ _ _ _ hn he
    · exact eM
  · exact eM
def LG (e:List Bd) (n:Tr):Prop:=1<=(cP e n).2.1/\(cP e n).2.1<=2000/\(cP (ko e) n).2=(cP e n).2/\(cP (ko e) n).1.kind=(cP e n).1.kind/\BJ (cP (ko e) n).1=BJ (cP e n).1 /\
  ((∀y∈e,y.2.kind≠0)->((cP e n).2.2≠0↔(cP e n).1.kind=0))/\mP (cP e n).1/\mP (cP (ko e) n).1
theorem I6 (he:A8 e){n:Tr}(hv:bq aW n=true) (hu:V mH n) (hw:n.wt<=200000):LG e n:=by
  have h1:=Qa hw he.sm;have h2:=Qa hw (J5 he);have hrel:=Cx (W:=mH) (U:=fun t=>mV t Ft) (fun t ht=>J4 ht) 2000 2000 e (ko e) n (.inl hu) (.skip ⟨0,by decide,rfl⟩ (B5 he.2));have hlt:=Ko 1000000 (d:=1999) (m:=1999) (e:=e) (n:=n) (by decide) (he.ok.le (by decide)) (by omega);have hnn:(∀y∈e,y.2.kind≠0)->Ia (aI 2000 2000 e n):=fun q=>EP 2000 2000 e n (.inl hv) fun p hp=>(he.2 p hp).nn (q p hp)
  refine⟨?_,?_,?_,?_,?_,?_,h1,h2⟩<;>clear h1 h2<;>unfold cP<;>simp only[if_pos hv]<;>generalize aI 2000 2000 e n=o at hrel hlt hnn<;>generalize aI 2000 2000 (ko e) n=o' at hrel
  all_goals obtain⟨a,b,er,m,rfl,rfl,hab⟩:=hrel.cases
  all_goals obtain⟨g1,g2,g3,g4,g5,_,_⟩:=hab.get
  all_goals dsimp only at hlt hnn ⊢
  · omega
  · omega
  · split
    · exact g1.symm
    · rfl
  · unfold BJ;split
    · rw[g1,g2,g3,g5]
    · rfl
  · intro q;have hn:=hnn q
    by_cases h0:er=0
    · have:=(hn h0).get.1;simp only[h0,if_true];exact⟨fun k=>absurd rfl k,fun k=>absurd k this⟩
    · simp only[if_neg h0];exact⟨fun _=>rfl,fun _=>h0⟩
end
end Go.Proofs.YtdgckfkoihcmjaaGreatDoor
namespace Go.Proofs.YtdgckfkoihcmjaaGreatDoor
open Go.Proofs.Tryz
open Go Go.Lw Go.ChangeShapes Go.WideShapes Go.ChangeAt Go.RowKit
set_option maxRecDepth 20000 set_option maxHeartbeats 4000000
abbrev Gv:=Int×Int×Int×By
def qX (p:Gv):List Value:=[.int .u8 p.1,.int .u8 p.2.1,.int .i64 p.2.2.1,.string (bs p.2.2.2)]
theorem DO (p:Gv):∀v∈qX p,v.oneCell'=true:=fun v hv=>by simp[qX] at hv;rcases hv with rfl|rfl|rfl|rfl<;>rfl
abbrev PN:gN Gv:=.record 4 (by decide) qX (fun _=>rfl) DO
def Jy (x:Gv):Prop:=(0<=x.2.1/\x.2.1<=255)/\ye x.2.2.1
theorem IU:Tryz.prog.underlying 105=some (.struct (Tryz.prog.fieldsOf 105)):=by kernel_rfl
theorem Du {H:Type}{enc:TypeId×Value->H}{W:World}{base:Nat}{v:Value}{d:DataW H}{p:List MemPlace}(hv:Value.okWide Tryz.prog W .any base 48 v) (h:DataW.Trod enc Tryz.prog W 0 (fun _=>true) true 48 v d p) :
 ∃l:List Gv,aZ PN W.heap (fun _=>False) v l/\∀x∈l,Jy x:=by
 exact FN (Q:=Jy) (pos:=(by decide:0<4)) (hl:=fun a=>(rfl:(qX a).length=4)) (h1:=DO) (fs:=Tryz.prog.fieldsOf 105) underlying48 IU (Deep.hone_of (by kernel_rfl)) (by kernel_rfl) rfl (fun cs n hl hf=>by
  match cs,hl with
  | [c0,c1,c2,c3],_ =>
   obtain⟨y0,h0⟩:=hf 0 _ c0 rfl rfl;obtain⟨y1,h1⟩:=hf 1 _ c1 rfl rfl;obtain⟨y2,h2⟩:=hf 2 _ c2 rfl rfl;obtain⟨y3,h3⟩:=hf 3 _ c3 rfl rfl;obtain⟨n0,e0,_,w0⟩:=DataW.trod_int underlying5 h0;obtain⟨n1,e1,_,w1⟩:=DataW.trod_int underlying5 h1;obtain⟨n2,e2,_,w2⟩:=DataW.trod_int underlying2 h2;obtain⟨n3,e3,_,w3⟩:=DataW.trod_string underlying9 h3;simp at e0 e1 e2 e3;subst e0 e1 e2 e3;refine⟨(n0,n1,n2,n3.data.toList),by simp[qX,N5],?_⟩;unfold Jy ye;simpa [Lit.wf,IntKind.min,IntKind.max,IntKind.signed,IntKind.bits] using And.intro w1 w2) hv h
theorem and_one (n:Int):∃j:Nat,j<2/\IntKind.i64.wrap ((BitVec.ofInt IntKind.i64.bits n &&& BitVec.ofInt IntKind.i64.bits 1).toNat:Int)=j:=by
 have h:(BitVec.ofInt IntKind.i64.bits n &&& BitVec.ofInt IntKind.i64.bits 1).toNat=(BitVec.ofInt IntKind.i64.bits n).toNat%2:=by
  rw[BitVec.toNat_and,show (BitVec.ofInt IntKind.i64.bits 1).toNat=1 from by decide,Nat.and_one_is_mod]
 rw[h];refine⟨_,Nat.mod_lt _ (by decide),wrap_i64 ⟨by omega,by omega⟩⟩
theorem K4 (n:Int):∃c:UInt8,IntKind.u8.wrap n=(c.toNat:Int):=by
 have h:IntKind.u8.wrap n=n%256:=by
  simp only[IntKind.wrap,IntKind.bits,IntKind.signed,Bool.false_and];rfl
 refine⟨UInt8.ofNat (n%256).toNat,?_⟩;rw[h,UInt8.toNat_ofNat'];omega
theorem IM (n:Int):∃c:UInt8,(c=120\/c=121)/\IntKind.u8.wrap (120+IntKind.u8.wrap (IntKind.i64.wrap ((BitVec.ofInt IntKind.i64.bits n &&& BitVec.ofInt IntKind.i64.bits 1).toNat:Int)))=(c.toNat:Int):=by
 obtain⟨j,hj,e⟩:=and_one n;rw[e]
 match j,hj with
 | 0,_=>exact⟨120,.inl rfl,by decide +kernel⟩
 | 1,_=>exact⟨121,.inr rfl,by decide +kernel⟩
theorem HY {h:ai}{v:Value}{l:List Gv}(hv:aZ PN h (fun _=>False) v l) (hl:∀x∈l,Jy x) :
 au Tryz.prog 15 #[v] h (bL fun r h'=>aj h h'/\∃xs,A8 xs/\aZ eB h' (fun _=>False) r xs):=by
 obtain⟨pa,pn,pc,rfl,hps⟩:=id hv.open;have hpl:l.length=pn:=hps.len;subst hpl;have hpm:=hps.cap;have hpc:=hps.le;simp only[maxLen] at hpm;refine b9 ?_;refine af ?_;refine Ba (σ:=Nat×List Bd×Value) (fun w=>[(0,.slice pa l.length pc),(3,w.2.2),(4,.int .i64 (w.1:Nat))]) (fun w g=>w.1<=l.length/\w.1<=8/\aj h g/\cF eB (fun _=>False) g h.size 32 w.2.2 w.2.1/\w.2.1.length=w.1/\∀y∈w.2.1,xK y.2) (fun w=>l.length-w.1) ((0,[],.slice none 0 0)) rfl ⟨rfl,rfl,rfl,trivial⟩ ⟨Nat.zero_le _,Nat.zero_le _,Ext.refl _ _,cF.nil _ _ _ _ _,rfl,by simp⟩ ?_;rintro⟨i,xs,ov⟩ g ⟨hi,hi8,eg,hov,hln,hgv⟩ ih
 try dsimp only
 dsimp only at hi hi8 hov hln hgv;subst hln;obtain⟨css,hc1,hc2,hc3⟩:=id hov
 iterate 2 refine bl ?_
 refine gG [(14,.bool (decide (xs.length<l.length/\xs.length<8)))] rfl ?_ ?_
 · refine af ?_;refine dV 11 (fun a=>?_) (fun a=>?_)
   · have a:=of_decide_eq_true a;refine af ?_;exact aH rfl ⟨av rfl (by rw[decide_eq_decide];omega),sb rfl⟩
   · have a:=of_decide_eq_false a;refine af ?_;exact aH rfl ⟨av rfl (by rw[decide_eq_false (by omega)]),sb rfl⟩
 · refine aX (fun hlt=>?_) (fun hlt=>?_)
   · obtain⟨b,o,p,ha,_,hp,hrow⟩:=(hps.mv (Mv.ah eg)).xZ hlt.1;have hpb:=hl p (List.mem_of_getElem? hp);obtain⟨pname,pk,pv,ps⟩:=p;have hpt:=aK ps;obtain⟨hpk,hpv⟩:=hpb;dsimp only at hpk hpv;have hkm:pk.tmod 5=pk%5:=Int.tmod_eq_emod_of_nonneg hpk.1
     iterate 4 refine bl ?_
     refine cW ?_
     iterate 2 refine bz ?_
     refine xp rfl (cM rfl rfl xs.length rfl ha hlt.1) ?_;refine xp rfl (b7 rfl hrow) ?_;refine xo rfl (cH) ?_;rintro _ g1 ⟨rfl,k1,e1,z1⟩;refine aN rfl (aV rfl rfl k1 (DO _)) ?_;rintro _ g2 ⟨rfl,k2,x2,z2⟩;have k2:aD g2 g.size 105 (qX (pname,pk,pv,ps)):=k2;have e02:aj g g2:=aj.only e1 x2 (Nat.le_refl _);have z02:=e02.size;have hcn:IntKind.i64.wrap pk=pk:=wrap_i64 ⟨by omega,by omega⟩;have hmn:(if (20:Int)<((bs ps).size:Int) then (20:Int) else ((bs ps).size:Int))=((min ps.length 20:Nat):Int):=by rw[hpt];split<;>omega
     refine af ?_;refine LH 16 15 ?_;refine aG 0 ?_;refine bJ 1 rfl (fun h' e=>aA rfl (e.old (k2.cell (i:=1) rfl))) ?_;refine bJ 2 rfl (fun h' e=>OH rfl hcn) ?_;refine bJ 3 rfl (fun h' e=>oE rfl rfl (by decide)) ?_;refine aG 4 ?_;refine bJ 5 rfl (fun h' e=>aA rfl (e.old (k2.cell (i:=2) rfl))) ?_;refine aG 6 ?_;refine bJ 7 rfl (fun h' e=>aA rfl (e.old (k2.cell (i:=3) rfl))) ?_;refine aG 8 ?_;refine bJ 9 rfl (fun h' e=>aA rfl (e.old (k2.cell (i:=3) rfl))) ?_;refine aG 10 ?_;refine aG 11 ?_;refine bJ 12 rfl (fun h' e=>az.Dp underlying9 rfl rfl (min ps.length 20) hmn (show min ps.length 20<=(bs ps).size by omega)) ?_;refine bJ 13 rfl (fun h' e=>aq (H.D4 _ _ _) rfl) ?_;refine dR 14 rfl (cH) ?_;rintro _ g3 ⟨rfl,k3,e3,z3⟩;refine⟨fun _=>e3.of,?_⟩;rw[uy ps 0 (min ps.length 20) (by omega)];refine jZ 15 rfl (aV rfl rfl k3 fT) ?_;rintro _ g4 ⟨rfl,k4,x4,z4⟩;refine⟨nofun,?_⟩;have ht:((ps.take (min ps.length 20)).drop 0).length<=20:=by rw[List.length_drop,List.length_take];omega
     have k4:aD g4 g2.size 30 (PJ (pk.tmod 5) pv ((ps.take (min ps.length 20)).drop 0) []):=k4;rw[hkm] at k4;generalize (ps.take (min ps.length 20)).drop 0=t at ht k4;have e24:aj g2 g4:=aj.only e3 x4 (Nat.le_refl _);have k14:aD g4 g.size 105 (qX (pname,pk,pv,ps)):=k2.ah e24;obtain⟨m,hm5⟩:∃m,m=pk%5:=⟨_,rfl⟩
     rw[<-hm5] at k4;have e04:=e02.trans e24;have hl2:=k2.lt;refine iO ?_;refine af ?_;refine xp rfl (aA rfl (k4.cell (i:=0) rfl)) ?_;refine af ?_
     have fin:∀(n:Int) (h':ai) (ρ':Env),Sub [(0,.slice pa l.length pc),(3,ov),(4,.int .i64 (xs.length:Nat)),(5,ptr g.size),(6,ptr g2.size)] ρ'->aj g h'->aD h' g.size 105 (qX (pname,pk,pv,ps))->aD h' g2.size 30 (PJ m n t [])->ye n->G Tryz.prog 15 f15 [.code [1,1,1,0,0,1,0,0,1,0,1,1],.blk 1,.code [1,1,0,0,1,0,1,1],.loop [0,0,1,0,1,1],.blk 0,.code [1,1,1]] ρ' h' (bL fun r h'=>aj h h'/\∃xs,A8 xs/\aZ eB h' (fun _=>False) r xs):=by
      rintro n g5 ρ' hsub eg5 kg5 kv5 hn;refine G.sub (ρ':=[(0,.slice pa l.length pc),(3,ov),(4,.int .i64 (xs.length:Nat)),(5,ptr g.size),(6,ptr g2.size)]) hsub ?_;refine af ?_;refine xp rfl (aA rfl (kv5.cell (i:=0) rfl)) ?_;refine af ?_;refine aX (fun h4=>?_) (fun h4=>?_)
      · subst h4;obtain⟨c,hc,hcw⟩:=IM pv;refine af ?_;refine xp rfl (aA rfl (kg5.cell (i:=2) rfl)) ?_;refine xp rfl (az.wP rfl rfl) ?_;refine bz ?_;refine xp rfl (az.add rfl rfl) ?_;refine xo rfl (jb [_]) ?_;rintro _ w0 ⟨rfl,hw0⟩;have ew0:aj g5 w0:=by rw[hw0];exact Ext.push _ _ _
        have hcb0:aZ .byte w0 (fun _=>False) (.slice (some ⟨g5.size,0,none⟩) 1 1) [c]:=by rw[hw0];have:=oC (h:=g5) (T:=5) c;rw[<-hcw] at this;exact this
        refine xp rfl (MV rfl hcb0) ?_;refine xp rfl (aq (H.iM _ _) rfl) ?_;refine af ?_;refine xp rfl (aA rfl ((kg5.ah ew0).cell (i:=2) rfl)) ?_;refine xp rfl (aq (H.fV _ _) rfl) ?_;refine xp rfl (aq (H.lJ _ _ _ _ _ _ _ _ _) rfl) ?_;refine xo rfl (rJ) ?_;rintro _ w2 ⟨rfl,hw2⟩;have ew2:aj w0 w2:=by rw[hw2];exact Ext.push _ _ _
        have hen:aZ eB w2 (fun b=>b<w0.size) (.slice (some ⟨w0.size,0,none⟩) 1 1) [([121],fR pv)]:=by
         rw[hw2];exact(cF.mJ (e:=eB) (O:=fun b=>b<w0.size) (x:=(([121],fR pv):Bd)) (base:=w0.size) ⟨_,rfl,sn w0 _ 1 pv [] []⟩ (Nat.le_refl _)).read (fun _ hb q=>Nat.not_lt.2 hb q) (fun _ _ q=>q)
        have e52:=ew0.trans ew2;refine xp rfl (aq (H.rq _ _ _ _ _ _ _ _) rfl) ?_;refine aN rfl (aV rfl rfl ((kv5.ah e52)) fT) ?_;rintro _ g6 ⟨rfl,k6,x6,z6⟩;have k6:aD g6 g2.size 30 (jV 4 0 [120] [] 3 [c] none 0 0 (some ⟨w0.size,0,none⟩) 1 1):=k6;have eg6:aj g g6:=aj.only (eg5.trans e52) x6 (by omega);have hl5:=kv5.lt;have zz:=And.intro eg5.size (And.intro ew0.size ew2.size);have kg6:aD g6 g.size 105 (qX (pname,pk,pv,ps)):=(kg5.ah e52).ext x6 (by omega)
        have hR6:eV.R g6 (fun b=>b<g.size) (jV 4 0 [120] [] 3 [c] none 0 0 (some ⟨w0.size,0,none⟩) 1 1) (.mk 4 0 [120] [] (.mk 3 [c] []) [([121],fR pv)]):=by
         exact uw (oy (aZ.nil _ _ _)) (hen.mv (Mv.cu x6 fun b hb q=>⟨fun(k:b=g2.size)=>q (show b<w0.size by omega),fun(k:b<g.size)=>q (show b<w0.size by omega)⟩))
        obtain⟨kc,hkc⟩:=K4 (97+pname.tmod 6);refine af ?_;refine xp rfl (aA rfl (kg6.cell (i:=0) rfl)) ?_;refine xp rfl (oE rfl rfl (by decide)) ?_;refine xp rfl (az.add rfl rfl) ?_;refine xo rfl (jb [_]) ?_;rintro _ w1 ⟨rfl,hw1⟩;have ew1:aj g6 w1:=by rw[hw1];exact Ext.push _ _ _
        have hcb:aZ .byte w1 (fun _=>False) (.slice (some ⟨Array.size g6,0,none⟩) 1 1) [kc]:=by rw[hw1];have:=oC (h:=g6) (T:=5) kc;rw[<-hkc] at this;exact this
        have eg1:=(eg6).trans ew1;have zw:=And.intro eg.size eg1.size;have hown:∀b,ov.ownBlock=some b->b<g.size:=fun b q=>(hc2.lt q).2
        refine xp rfl (MV rfl hcb) ?_;refine xp rfl (b7 rfl (k6.ah ew1).row) ?_;refine xp rfl (aq (H.lJ _ _ _ _ _ _ _ _ _) rfl) ?_;refine xo rfl (rJ) ?_;rintro _ _ ⟨rfl,rfl⟩;refine xo rfl (xO rfl rfl ((aB.wB hc2 eg1)) rfl rfl) ?_;rintro v6 h6 ⟨ho6,hx6,hx6',hv6⟩;have hy:eB.R w1 (fun b=>cx ov.ownBlock b\/False) (.string (bs [kc])::((jV 4 0 [120] [] 3 [c] none 0 0 (some ⟨w0.size,0,none⟩) 1 1))) ([kc],.mk 4 0 [120] [] (.mk 3 [c] []) [([121],fR pv)]):=⟨_,rfl,eV.mv (hR6) (Mv.cu ew1 fun b hb q=>⟨fun k=>k,fun q2=>q2.elim (fun q3=>by have:=hown b q3.symm;exact q this) id⟩)⟩
        have hox:cF eB (fun _=>False) h6 h.size 32 v6 (xs++[([kc],.mk 4 0 [120] [] (.mk 3 [c] []) [([121],fR pv)])]):=cF.fq (css:=css) hc1 (fun i cs x q1 q2=>eB.mv (hc3 i cs x q1 q2) (Mv.cu eg1 fun b hb q=>⟨fun k=>k,q⟩)) ho6 hx6 hv6 hy;refine af ?_
        exact ih (xs.length+1,xs++[([kc],.mk 4 0 [120] [] (.mk 3 [c] []) [([121],fR pv)])],v6) _ _ ⟨rfl,rfl,rfl,trivial⟩ ⟨by omega,by omega,⟨by have:=hx6.size;have:=eg1.size;have:=eg.size;omega,fun b hb _=>((hx6.block b (by have:=eg1.size;have:=eg.size;omega) (fun q=>by have:=hc2.lt q.symm;omega)).trans (eg1.block b (by have:=eg.size;omega) (fun k=>k))).trans (eg.block b hb (fun k=>k))⟩,hox,by simp,fun y hy=>by
         rcases List.mem_append.1 hy with hy|hy
         · exact hgv y hy
         · simp only[List.mem_singleton] at hy;rw[hy];exact .inr ⟨c,pv,rfl,hpv,hc⟩⟩ (by show l.length-(xs.length+1)<l.length-xs.length;omega)
      · obtain⟨kc,hkc⟩:=K4 (97+pname.tmod 6);refine af ?_;refine xp rfl (aA rfl (kg5.cell (i:=0) rfl)) ?_;refine xp rfl (oE rfl rfl (by decide)) ?_;refine xp rfl (az.add rfl rfl) ?_;refine xo rfl (jb [_]) ?_;rintro _ w1 ⟨rfl,hw1⟩;have ew1:aj g5 w1:=by rw[hw1];exact Ext.push _ _ _
        have hcb:aZ .byte w1 (fun _=>False) (.slice (some ⟨Array.size g5,0,none⟩) 1 1) [kc]:=by rw[hw1];have:=oC (h:=g5) (T:=5) kc;rw[<-hkc] at this;exact this
        have eg1:=(eg5).trans ew1;have zw:=And.intro eg.size eg1.size;have hown:∀b,ov.ownBlock=some b->b<g.size:=fun b q=>(hc2.lt q).2
        refine xp rfl (MV rfl hcb) ?_;refine xp rfl (b7 rfl (kv5.ah ew1).row) ?_;refine xp rfl (aq (H.lJ _ _ _ _ _ _ _ _ _) rfl) ?_;refine xo rfl (rJ) ?_;rintro _ _ ⟨rfl,rfl⟩;refine xo rfl (xO rfl rfl ((aB.wB hc2 eg1)) rfl rfl) ?_;rintro v6 h6 ⟨ho6,hx6,hx6',hv6⟩;have hy:eB.R w1 (fun b=>cx ov.ownBlock b\/False) (.string (bs [kc])::(PJ m n t [])) ([kc],.mk m n t [] bG []):=⟨_,rfl,eV.mv (sn g5 (fun b=>b<g.size) m n t []) (Mv.cu ew1 fun b hb q=>⟨fun k=>k,fun q2=>q2.elim (fun q3=>by have:=hown b q3.symm;exact q this) id⟩)⟩
        have hox:cF eB (fun _=>False) h6 h.size 32 v6 (xs++[([kc],.mk m n t [] bG [])]):=cF.fq (css:=css) hc1 (fun i cs x q1 q2=>eB.mv (hc3 i cs x q1 q2) (Mv.cu eg1 fun b hb q=>⟨fun k=>k,q⟩)) ho6 hx6 hv6 hy;refine af ?_
        exact ih (xs.length+1,xs++[([kc],.mk m n t [] bG [])],v6) _ _ ⟨rfl,rfl,rfl,trivial⟩ ⟨by omega,by omega,⟨by have:=hx6.size;have:=eg1.size;have:=eg.size;omega,fun b hb _=>((hx6.block b (by have:=eg1.size;have:=eg.size;omega) (fun q=>by have:=hc2.lt q.symm;omega)).trans (eg1.block b (by have:=eg.size;omega) (fun k=>k))).trans (eg.block b hb (fun k=>k))⟩,hox,by simp,fun y hy=>by
         rcases List.mem_append.1 hy with hy|hy
         · exact hgv y hy
         · simp only[List.mem_singleton] at hy;rw[hy];exact .inl ⟨m,n,t,rfl,hn,ht⟩⟩ (by show l.length-(xs.length+1)<l.length-xs.length;omega)
     refine aX (fun h2=>?_) (fun h2=>?_)
     · refine af ?_;refine xp rfl (aA rfl (k4.cell (i:=1) rfl)) ?_;obtain⟨j,hj,hje⟩:=and_one pv;refine xp rfl (az.wP rfl rfl) ?_;refine bz ?_;rw[hje];refine aN rfl (mG rfl rfl k4) ?_;rintro _ g5 ⟨rfl,k5,x5,z5⟩;refine dH ?_;exact fin j _ _ (by exact sb rfl) (aj.only e04 x5 (by omega)) (k14.ext x5 (by omega)) k5 (by unfold ye;omega)
     · refine bl ?_;exact fin pv _ _ (by exact sb rfl) e04 k14 k4 hpv
   · refine af ?_;refine bw ?_;exact⟨_,rfl,eg,xs,⟨hi8,hgv⟩,hov.read (fun _ _ q=>q) (fun _ _ q=>q)⟩
end Go.Proofs.YtdgckfkoihcmjaaGreatDoor
namespace Go.Proofs.YtdgckfkoihcmjaaGreatDoor
open Go.Proofs.Tryz
open Go Go.Lw
set_option maxRecDepth 20000 set_option maxHeartbeats 4000000
section
variable {h:ai}
theorem I0 {n:Tr}{env:List Bd}{v:Vl}{m:Nat}(hv:bq aW n=true) (h:aI 2000 2000 env n=(v,0,m)):cP env n=(v,2000-(m:Int),0):=by
 unfold cP;rw[if_pos hv,h];rfl
theorem Q4:cP [] Pg=(fR 7,5,0):=I0 (by decide +kernel) QF
theorem Q3:cP [] Pf=(iP true,5,0):=I0 (by decide +kernel) QE
theorem Q2:cP [] OO=(gY,3,2):=by
 unfold cP;rw[if_pos (by decide +kernel:bq aW OO=true),QD];rfl
theorem Q1:cP [] Pe=(iP true,2,0):=I0 (by decide +kernel) QC
theorem Q0:(cP [] LN).1=fR 120/\(cP [] LN).2.2=0:=by
 unfold cP;rw[if_pos (by decide +kernel:bq aW LN=true),P9.2,if_pos rfl,P9.1];exact⟨rfl,rfl⟩
theorem nq (hg:GQ h):au Tryz.prog 5 #[] h (bL fun r h'=>r= .bool true/\aj h h'):=by
 obtain⟨lim,hl1,hl2⟩:=hg.ex.lx.sg;refine b9 ?_;refine af ?_;refine xo rfl (aF rfl (yO hl2 hl1 hg.ex.lx.tens hg.ex.lx.rules)) ?_;rintro p g0 ⟨kx,e0⟩;have c1:=jN (hg.ah e0) kx ON (by decide) QN (by decide +kernel);rw[Q4] at c1;refine af ?_;refine xo rfl (aF rfl c1) ?_;rintro _ g1a ⟨v1,rfl,hv1,x1⟩;obtain⟨nk1,nt1,a1,n1,m1,ea1,en1,ec1,rfl,_,hR1,_⟩:=cQ.get hv1;refine af ?_;refine xo rfl (cH) ?_;rintro _ g1b ⟨rfl,k1,y1,z1⟩;refine aN rfl (aV rfl rfl k1 fT) ?_;rintro _ g1 ⟨rfl,kk1,w1,zz1⟩;have kk1:aD g1 g1a.size 30 (jV 1 7 [] [] nk1 nt1 a1 n1 m1 ea1 en1 ec1):=kk1;have d1:aj g1a g1:=aj.only y1 w1 (Nat.le_refl _);have F1:=x1.trans d1;have E1:=e0.trans F1;have c2:=jN (hg.ah E1) (kx.ah F1) OM (by decide) QM (by decide +kernel);rw[Q3] at c2;refine af ?_;refine xo rfl (aF rfl c2) ?_;rintro _ g2a ⟨v2,rfl,hv2,x2⟩;obtain⟨nk2,nt2,a2,n2,m2,ea2,en2,ec2,rfl,_,hR2,_⟩:=cQ.get hv2;refine af ?_;refine xo rfl (cH) ?_;rintro _ g2b ⟨rfl,k2,y2,z2⟩;refine aN rfl (aV rfl rfl k2 fT) ?_;rintro _ g2 ⟨rfl,kk2,w2,zz2⟩;have kk2:aD g2 g2a.size 30 (jV 2 1 [] [] nk2 nt2 a2 n2 m2 ea2 en2 ec2):=kk2;have d2:aj g2a g2:=aj.only y2 w2 (Nat.le_refl _);have F2:=F1.trans (x2.trans d2);have E2:=e0.trans F2;have kk1:=kk1.ah (x2.trans d2);have c3:=jN (hg.ah E2) (kx.ah F2) OL (by decide) QL (by decide +kernel);rw[Q2] at c3;refine af ?_;refine xo rfl (aF rfl c3) ?_;rintro _ g3a ⟨v3,rfl,hv3,x3⟩;obtain⟨nk3,nt3,a3,n3,m3,ea3,en3,ec3,rfl,_,hR3,_⟩:=cQ.get hv3;refine af ?_;refine xo rfl (cH) ?_;rintro _ g3b ⟨rfl,k3,y3,z3⟩;refine aN rfl (aV rfl rfl k3 fT) ?_;rintro _ g3 ⟨rfl,kk3,w3,zz3⟩;have kk3:aD g3 g3a.size 30 (jV 0 0 [] [] nk3 nt3 a3 n3 m3 ea3 en3 ec3):=kk3;have d3:aj g3a g3:=aj.only y3 w3 (Nat.le_refl _);have F3:=F2.trans (x3.trans d3);have E3:=e0.trans F3;have kk1:=kk1.ah (x3.trans d3);have kk2:=kk2.ah (x3.trans d3);have c4:=jN (hg.ah E3) (kx.ah F3) OK (by decide) QK (by decide +kernel);rw[Q1] at c4;refine af ?_;refine xo rfl (aF rfl c4) ?_;rintro _ g4a ⟨v4,rfl,hv4,x4⟩;obtain⟨nk4,nt4,a4,n4,m4,ea4,en4,ec4,rfl,_,hR4,_⟩:=cQ.get hv4;refine af ?_;refine xo rfl (cH) ?_;rintro _ g4b ⟨rfl,k4,y4,z4⟩;refine aN rfl (aV rfl rfl k4 fT) ?_;rintro _ g4 ⟨rfl,kk4,w4,zz4⟩;have kk4:aD g4 g4a.size 30 (jV 2 1 [] [] nk4 nt4 a4 n4 m4 ea4 en4 ec4):=kk4;have d4:aj g4a g4:=aj.only y4 w4 (Nat.le_refl _);have F4:=F3.trans (x4.trans d4);have E4:=e0.trans F4;have kk1:=kk1.ah (x4.trans d4);have kk2:=kk2.ah (x4.trans d4);have kk3:=kk3.ah (x4.trans d4);have c5:=jN (hg.ah E4) (kx.ah F4) OJ (by decide) QJ (by decide +kernel);have q5:=Q0;generalize cP [] LN=o5 at c5 q5;obtain⟨w5,s5,r5⟩:=o5;obtain⟨rfl,rfl⟩:w5=fR 120/\r5=0:=q5;dsimp only at c5;refine af ?_;refine xo rfl (aF rfl c5) ?_;rintro _ g5a ⟨v5,rfl,hv5,x5⟩;obtain⟨nk5,nt5,a5,n5,m5,ea5,en5,ec5,rfl,_,hR5,_⟩:=cQ.get hv5;refine af ?_;refine xo rfl (cH) ?_;rintro _ g5b ⟨rfl,k5,y5,z5⟩;refine aN rfl (aV rfl rfl k5 fT) ?_;rintro _ g5 ⟨rfl,kk5,w5,zz5⟩;have kk5:aD g5 g5a.size 30 (jV 1 120 [] [] nk5 nt5 a5 n5 m5 ea5 en5 ec5):=kk5;have d5:aj g5a g5:=aj.only y5 w5 (Nat.le_refl _);have F5:=F4.trans (x5.trans d5);have E5:=e0.trans F5;have kk1:=kk1.ah (x5.trans d5);have kk2:=kk2.ah (x5.trans d5);have kk3:=kk3.ah (x5.trans d5);have kk4:=kk4.ah (x5.trans d5);have hg5:=hg.ah E5;have s1:=s7 (x:=fR 7) hg5 (cQ.of (eV.mv hR1 (Mv.ah ((((d1.trans (x2.trans d2)).trans (x3.trans d3)).trans (x4.trans d4)).trans (x5.trans d5))))) rfl (by decide);have s2:∀{g:ai},aj g5 g->_:=fun {g} e=>sZ (b:=true) (cQ.of (eV.mv (eV.mv hR2 (Mv.ah (((d2.trans (x3.trans d3)).trans (x4.trans d4)).trans (x5.trans d5)))) (Mv.ah e)))
 have s4:∀{g:ai},aj g5 g->_:=fun {g} e=>sZ (b:=true) (cQ.of (eV.mv (eV.mv hR4 (Mv.ah (d4.trans (x5.trans d5)))) (Mv.ah e)))
 have s5':∀{g:ai},aj g5 g->_:=fun {g} e=>s7 (x:=fR 120) (hg5.ah e) (cQ.of (eV.mv (eV.mv hR5 (Mv.ah d5)) (Mv.ah e))) rfl (by decide)
 iterate 2 refine bz ?_
 refine dH ?_;refine bl ?_;refine MY (fun(u:Unit) (h':ai)=>aj g5 h') (fun(u:Unit)=>[(0,.bool true)]) rfl ?_ ?_
 · refine af ?_;refine RW.cy (d:=50) (b':=true) rfl (decide_eq_true (by rfl)) ?_;refine xp rfl (b7 rfl kk1.row) ?_;refine xo rfl (aF rfl s1) ?_;rintro _ j1 ⟨rfl,f1⟩;refine af ?_;refine RW.cy (d:=55) (b':=true) rfl (decide_eq_true (by decide +kernel)) ?_;refine af ?_;refine RW.cy (d:=59) (b':=true) rfl (decide_eq_true (by rfl)) ?_;refine af ?_;refine RW.cy (d:=63) (b':=true) rfl (decide_eq_true (by rfl)) ?_;refine xp rfl (b7 rfl (kk2.ah f1).row) ?_;refine xo rfl (aF rfl ((s2 f1))) ?_;rintro _ j2 ⟨rfl,f2⟩;have f12:=f1.trans f2;refine af ?_;refine RW.cy (d:=68) (b':=true) rfl (decide_eq_true (by decide +kernel)) ?_;refine af ?_;refine RW.cy (d:=72) (b':=true) rfl (decide_eq_true (by rfl)) ?_;refine af ?_;refine RW.cy (d:=76) (b':=true) rfl (decide_eq_true (by rfl)) ?_;refine xp rfl (b7 rfl (kk4.ah f12).row) ?_;refine xo rfl (aF rfl ((s4 f12))) ?_;rintro _ j3 ⟨rfl,f3⟩;have f13:=f12.trans f3;refine af ?_;refine RW.cy (d:=81) (b':=true) rfl (decide_eq_true (by decide +kernel)) ?_;refine af ?_;refine RW.cy (d:=85) (b':=true) rfl (decide_eq_true (by rfl)) ?_;refine xp rfl (b7 rfl (kk5.ah f13).row) ?_;refine xo rfl (aF rfl ((s5' f13))) ?_;rintro _ j4 ⟨rfl,f4⟩;refine af ?_;exact uD () (f13.trans f4) ⟨av rfl (by decide +kernel),sb rfl⟩
 · rintro u h' e';refine bw ?_;exact⟨_,rfl,rfl,E5.trans e'⟩
theorem Ef {α:Type}{e:gN α}{O:Nat->Prop}{h':ai}{base:Nat}{t:TypeId}{v v':Value}{xs ys:List α}{css dss:List (List Value)}(h1:css.length=xs.length)
 (h3:∀(i:Nat) (cs:List Value) (x:α),css[i]? =some cs->xs[i]? =some x->e.R h (fun b=>cx v.ownBlock b\/O b) cs x) (k1:dss.length=ys.length)
 (k3:∀(i:Nat) (cs:List Value) (x:α),dss[i]? =some cs->ys[i]? =some x->e.R h (fun b=>cx v.ownBlock b\/O b) cs x){n:Nat}(hn:xs.length+ys.length=n) (ho:aB h' base t e.sz v' n (css.flatten++dss.flatten))
 (hx:Ext (cx v.ownBlock) h h') (hv:∀b,v'.ownBlock=some b->v.ownBlock=some b\/h.size<=b):cF e O h' base t v' (xs++ys):=by
 have hm:Mv (fun b=>cx v.ownBlock b\/O b) (fun b=>cx v'.ownBlock b\/O b) h h':=⟨hx.size,fun b hlt hnb=>⟨hx.block b hlt (fun k=>hnb (.inl k)),fun k=>by
  rcases k with k|k
  · rcases hv b k.symm with k'|k'
    · exact hnb (.inl k'.symm)
    · omega
  · exact hnb (.inr k)⟩⟩
 subst hn;refine⟨css++dss,by simp[h1,k1],by simpa using ho,fun i cs' y' hc' hy'=>?_⟩
 rcases Nat.lt_or_ge i xs.length with hi|hi
 · rw[List.getElem?_append_left (by omega)] at hc' hy';exact e.mv (h3 i cs' y' hc' hy') hm
 · rw[List.getElem?_append_right (by omega)] at hc' hy';rw[h1] at hc';exact e.mv (k3 _ cs' y' hc' hy') hm
theorem Gt {er k:Int}{xs:List Bd}(q:(∀y∈xs,y.2.kind≠0)->(er≠0↔k=0)) (p:(!(decide (¬er=0) ==decide (k=0)))=true):∃y∈xs,y.2.kind=0:=Classical.byContradiction fun n=>by
 have:=q (fun y hy hk=>n ⟨y,hy,hk⟩)
 by_cases h1:er=0<;>by_cases h2:k=0<;>simp_all
theorem DT (hg:GQ h) (s:By){v:Value}{l:List Gv}(hv:aZ PN h (fun _=>False) v l) (hl:∀x∈l,Jy x) :
 au Tryz.prog 4 #[.string (bs s),v] h (bL fun r h'=>r= .bool true/\aj h h'):=by
 have hbz:=aK s;refine b9 ?_;refine bl ?_;refine cW ?_;refine bz ?_;refine dH ?_
 iterate 2 refine bl ?_
 refine MY (fun(b:Bool) (h':ai)=>(aj h h'/\(b=false->s.length<=300/\¬mV s Ft))) (fun(b:Bool)=>[(29,.bool b)]) rfl ?_ ?_
 · refine af ?_;refine dV 26 (fun p=>?_) (fun p=>?_)
   · refine af ?_;exact uD true ⟨Ext.refl _ _,fun q=>by cases q⟩
   · have p:=of_decide_eq_false p;refine af ?_;refine xo rfl (aF rfl ((Dg s Ft (by omega) (by decide)))) ?_;rintro _ _ ⟨⟨bt,rfl,hbt⟩,rfl⟩;refine af ?_;exact uD bt ⟨Ext.refl _ _,fun q=>⟨by omega,fun k=>by rw[hbt.2 k] at q;cases q⟩⟩
 · rintro bb h0 ⟨e0,hbb⟩;refine jo (fun hb=>?_) (fun hb=>?_)
   · refine af ?_;refine xo rfl (aF rfl (nq (hg.ah e0))) ?_;rintro _ h1 ⟨rfl,e1⟩;refine af ?_;refine bw ?_;exact⟨_,rfl,rfl,e0.trans e1⟩
   · obtain⟨hs3,hnt⟩:=hbb hb;have g0:=hg.ah e0;obtain⟨lim,hl1,hl2⟩:=g0.ex.lx.sg;obtain⟨K,pa,pe,hP⟩:=yu s (fM s).1 (fM s).2.1;have hKv:=qG (DA s) (by omega) hP;have hKu:=qG (J3 hnt) (by omega) hP;have hKw:=hP.wt;have hlen:(fM s).1.length<=s.length:=xd _ _ _ _;have hKl:mO K<=192600:=Nat.le_trans hKw (Nat.le_trans (Nat.mul_le_mul (Nat.le_trans hlen hs3) (show 2*s.length+42<=642 by omega)) (by decide));have hpb:(fM s).1.length*(s.length+2)<=1000000000000:=Nat.le_trans (Nat.mul_le_mul (Nat.le_trans hlen hs3) (show s.length+2<=302 by omega)) (by decide);refine af ?_;refine xo rfl (aF rfl (yO hl2 hl1 g0.ex.lx.tens g0.ex.lx.rules)) ?_;rintro px h1 ⟨kx,e1⟩;have g1:=g0.ah e1;refine af ?_;refine xo rfl (aF rfl (vR g1.ex.lx kx s (by omega))) ?_;rintro _ h2 ⟨⟨tv,rfl,htv⟩,e2⟩;refine af ?_;refine xo rfl (cH) ?_;rintro _ h3 ⟨rfl,k7,e3,z3⟩;refine af ?_;refine aN rfl (aV rfl rfl k7 (gR _)) ?_;rintro _ h4 ⟨rfl,k74,x4,z4⟩;have k74:aD h4 h2.size 54 (bR (fM s).2):=k74;have e24:aj h2 h4:=aj.only e3 x4 (Nat.le_refl _);have e04:=e1.trans (e2.trans e24);have hcall:=qn ((g0.ah e04).ex.esc) (htv.ah e24) s (fM s).2 hpb (by omega) hP;refine af ?_;refine xp rfl (b7 rfl k74.row) ?_;refine xo rfl (aF rfl hcall) ?_;rintro _ h5 ⟨e5,lv,rfl,s5⟩;have e05:=e04.trans e5;have s5:aZ eN h5 (fun _=>False) lv K:=s5.mv (GP (h:=h5) (fun _ q=>q.elim) h5);refine af ?_;refine xo rfl (aF rfl (HY (hv.mv (Mv.ah (e0.trans e05))) hl)) ?_;rintro ov h6 ⟨e6,xs,hxs,hov⟩;obtain⟨oa,on,oc,rfl,hos⟩:=id hov.open;have hon:xs.length=on:=hos.len;subst hon;have hx8:=hxs.1;refine af ?_;refine xp rfl (aq (H.fV _ _) rfl) ?_;refine xp rfl (aq (H.lJ _ _ _ _ _ _ _ _ _) rfl) ?_;refine xo rfl (rJ) ?_;rintro _ h7 ⟨rfl,hh7⟩;have e67:aj h6 h7:=by rw[hh7];exact Ext.push _ _ _
     have ho7:cF eB (fun _=>False) h7 h6.size 32 (.slice (some ⟨h6.size,0,none⟩) 1 1) [(([117,110,104,101,97,114,100,95,111,102],fR 5):Bd)]:=by rw[hh7];exact cF.mJ ⟨_,rfl,sn h6 _ 1 5 [] []⟩ (Nat.le_refl _)
     obtain⟨css,c1,c2,c3,c4,c5⟩:=(hos.mv (O':=fun b=>cx (Value.slice (some ⟨h6.size,0,none⟩) 1 1).ownBlock b\/False) (Mv.cu e67 fun b hb q=>⟨fun k=>k,fun k=>k.elim (fun k=>by have hk:b=h6.size:=Option.some.inj k;omega) id⟩)).Ns;obtain⟨cs1,d1,d2,d3⟩:=id ho7;refine af ?_;refine xo rfl (aQ.append underlying28 H.Ks rfl rfl d2 c3 c5 c4 (by simp only[maxLen,List.length_cons,List.length_nil];omega) (by simp only[List.length_cons,List.length_nil];omega) e67.size) ?_;rintro v1 h8 ⟨hw8,hx8',_,hv8⟩;have ho8:=Ef d1 d3 c1 c2 rfl hw8 hx8' hv8;obtain⟨cs8,f1,f2,f3⟩:=id ho8;have e68:aj h6 h8:=⟨by have:=hx8'.size;have:=e67.size;omega,fun b hb _=>(hx8'.block b (by have:=e67.size;omega) (fun q=>by have hk:b=h6.size:=Option.some.inj q;omega)).trans (e67.block b hb (fun k=>k))⟩
     refine xp rfl (aq (H.wV _ _) rfl) ?_;refine xp rfl (aq (H.lJ _ _ _ _ _ _ _ _ _) rfl) ?_;refine xo rfl (rJ) ?_;rintro _ _ ⟨rfl,rfl⟩;refine xo rfl (xO rfl rfl f2 rfl rfl (by simp only[List.length_append,List.length_cons,List.length_nil];omega) (by have:=e68.size;omega)) ?_;rintro v2 h9 ⟨hw9,hx9,hx9',hv9⟩;have ho9:cF eB (fun _=>False) h9 h6.size 32 v2 (ko xs):=cF.fq f1 f3 hw9 hx9 hv9 ⟨_,rfl,sn h8 _ 3 0 [115] []⟩;have e69:aj h6 h9:=⟨by have:=hx9.size;have:=e68.size;omega,fun b hb _=>(hx9.block b (by have:=e68.size;omega) (fun q=>by have:=(f2.lt q.symm).1;omega)).trans (e68.block b hb (fun k=>k))⟩
     have hmr:aZ eB h9 (fun _=>False) v2 (ko xs):=ho9.read (fun _ _ q=>q) (fun _ _ q=>q);have hov9:=hov.mv (Mv.ah e69);have e09:=(e05.trans e6).trans e69;have e59:=e6.trans e69;have g9:=g0.ah e09;obtain⟨ka,kn,kc,rfl,hks⟩:=s5.open;have hkn:K.length=kn:=hks.len;subst hkn;have hkm:=hks.cap;have hkc:=hks.le;unfold maxLen at hkm;refine af ?_;refine jd (σ:=Nat) (fun i=>[(13,.int .i64 (i:Nat))]) (fun i h'=>aj h9 h'/\i<=K.length) (fun i=>K.length-i) (0) ⟨Ext.refl _ _,Nat.zero_le _⟩ rfl ?_;rintro i w0 ⟨f0,hi⟩ ih;refine af ?_;refine aX (fun hlt=>?_) (fun hlt=>?_)
     · obtain⟨b,o,y,yk,yt,ya,yn,yc,ha,hy,hr,hR,_,_⟩:=si hks (i:=i) (by omega);have hym:=List.mem_of_getElem? hy;have hyw:=oe hym;have hE:=I6 hxs (hKv y hym) (hKu y hym) (by omega);have h1:∀{g:ai},aj h9 g->_:=fun {g} e=>qj (O:=fun _=>False) (n:=y) (g9.ah e) (hov9.mv (Mv.ah e)) (fun b q=>q.elim) hxs.ok (hR.mv (Mv.ah (e59.trans e))) (by omega)
       have h2:∀{g:ai},aj h9 g->_:=fun {g} e=>qj (O:=fun _=>False) (n:=y) (g9.ah e) (hmr.mv (Mv.ah e)) (fun b q=>q.elim) (J6 hxs) (hR.mv (Mv.ah (e59.trans e))) (by omega)
       unfold LG at hE;generalize cP xs y=o1 at h1 hE;generalize cP (ko xs) y=o2 at h2 hE;obtain⟨a,st,er⟩:=o1;obtain⟨c,k2⟩:=o2;obtain⟨q1,q2,q3,q4,q5,q6,sm1,sm2⟩:=hE;dsimp only at q1 q2 q3 q4 q5 q6 sm1 sm2 h1 h2;subst q3
       iterate 4 refine bl ?_
       refine cW ?_
       iterate 3 refine bz ?_
       refine xp rfl (cM rfl rfl i rfl ha) ?_;refine xp rfl (b7 rfl ((e59.trans f0).rowAt (fun k=>k) hr)) ?_;refine xo rfl (aF rfl (h1 f0)) ?_;rintro _ pA ⟨vA,rfl,hvA,eA⟩;obtain⟨nkA,ntA,yaA,ynA,ycA,eaA,enA,ecA,rfl,_,hRA,_⟩:=cQ.get hvA;refine af ?_;refine xo rfl (cH) ?_;rintro _ qA ⟨rfl,kA,fA,zA⟩;refine aN rfl (aV rfl rfl kA fT) ?_;rintro _ rA ⟨rfl,kkA,xA,zzA⟩;have dA:aj pA rA:=aj.only fA xA (Nat.le_refl _);have kkA:aD rA pA.size 30 (jV a.kind a.num a.gr a.self nkA ntA yaA ynA ycA eaA enA ecA):=kkA;have fA0:=f0.trans (eA.trans dA)
       iterate 2 refine bz ?_
       refine dH ?_;refine bl ?_;refine cW ?_
       iterate 3 refine bz ?_
       refine xp rfl (cM rfl rfl i rfl ha) ?_;refine xp rfl (b7 rfl ((e59.trans fA0).rowAt (fun k=>k) hr)) ?_;refine xo rfl (aF rfl (h1 fA0)) ?_;rintro _ pB ⟨vB,rfl,hvB,eB⟩;obtain⟨nkB,ntB,yaB,ynB,ycB,eaB,enB,ecB,rfl,_,hRB,_⟩:=cQ.get hvB;refine af ?_;refine xo rfl (cH) ?_;rintro _ qB ⟨rfl,kB,fB,zB⟩;refine aN rfl (aV rfl rfl kB fT) ?_;rintro _ rB ⟨rfl,kkB,xB,zzB⟩;have dB:aj pB rB:=aj.only fB xB (Nat.le_refl _);have kkB:aD rB pB.size 30 (jV a.kind a.num a.gr a.self nkB ntB yaB ynB ycB eaB enB ecB):=kkB;have eAB:=eB.trans dB;have fB0:=fA0.trans eAB
       iterate 2 refine bz ?_
       refine dH ?_;refine bl ?_;refine cW ?_
       iterate 3 refine bz ?_
       refine xp rfl (cM rfl rfl i rfl ha) ?_;refine xp rfl (b7 rfl ((e59.trans fB0).rowAt (fun k=>k) hr)) ?_;refine xo rfl (aF rfl (h2 fB0)) ?_;rintro _ pC ⟨vC,rfl,hvC,eC⟩;obtain⟨nkC,ntC,yaC,ynC,ycC,eaC,enC,ecC,rfl,_,hRC,_⟩:=cQ.get hvC;refine af ?_;refine xo rfl (cH) ?_;rintro _ qC ⟨rfl,kC,fC,zC⟩;refine aN rfl (aV rfl rfl kC fT) ?_;rintro _ rC ⟨rfl,kkC,xC,zzC⟩;have dC:aj pC rC:=aj.only fC xC (Nat.le_refl _);have kkC:aD rC pC.size 30 (jV c.kind c.num c.gr c.self nkC ntC yaC ynC ycC eaC enC ecC):=kkC;have eBC:=eC.trans dC;have fC0:=fB0.trans eBC;have kA:=kkA.ah (eAB.trans eBC);have kB:=kkB.ah eBC;have gC:=g9.ah fC0;have sA:∀{g:ai},aj rC g->_:=fun {g} e=>nV (gC.ah e) (cQ.of (eV.mv hRA (Mv.ah (dA.trans ((eAB.trans eBC).trans e))))) (fun _=>sm1.get.1) sm1.get.2.1 (Nat.le_trans sm1.get.2.2.1 (by decide))
       have sB:∀{g:ai},aj rC g->_:=fun {g} e=>nV (gC.ah e) (cQ.of (eV.mv hRB (Mv.ah (dB.trans (eBC.trans e))))) (fun _=>sm1.get.1) sm1.get.2.1 (Nat.le_trans sm1.get.2.2.1 (by decide))
       have sC:∀{g:ai},aj rC g->_:=fun {g} e=>nV (gC.ah e) (cQ.of (eV.mv hRC (Mv.ah (dC.trans e)))) (fun _=>sm2.get.1) sm2.get.2.1 (Nat.le_trans sm2.get.2.2.1 (by decide))
       rw[q5] at sC;have lA:=kA.lt;have lC:=kkC.lt
       iterate 2 refine bz ?_
       refine dH ?_;refine bl ?_;refine O7 60 (fun b=>Array.size rC<=b) (fun i=>Nat.blt i 60) (fun(u:Unit) (h':ai)=>aj rC h') (fun(u:Unit)=>[(152,.bool false)]) rfl ?_ ?_
       · refine aG 0 ?_;refine aG 1 ?_;refine aG 2 ?_;refine RD.cy (d:=95) (b':=false) rfl (decide_eq_false (by omega)) ?_;refine aG 3 ?_;refine aG 4 ?_;refine aG 5 ?_;refine aG 6 ?_;refine RD.cy (d:=99) (b':=false) rfl (decide_eq_false (by omega)) ?_;refine aG 7 ?_;refine aG 8 ?_;refine aG 9 ?_;refine aG 10 ?_;refine aG 11 ?_;refine RD.cy (d:=104) (b':=false) rfl (decide_eq_false (by exact fun q=>q rfl)) ?_;refine aG 12 ?_;refine aG 13 ?_;refine aG 14 ?_;refine aG 15 ?_;refine aG 16 ?_;refine RD.cy (d:=109) (b':=false) rfl (decide_eq_false (by exact fun q=>q rfl)) ?_;refine aG 17 ?_;refine aG 18 ?_;refine aG 19 ?_;refine aG 20 ?_;refine aG 21 ?_;refine RD.cy (d:=114) (b':=false) rfl (decide_eq_false (by exact fun q=>q rfl)) ?_;refine aG 22 ?_;refine aG 23 ?_;refine aG 24 ?_;refine aG 25 ?_;refine aG 26 ?_;refine RD.cy (d:=119) (b':=false) rfl (decide_eq_false (by exact fun q=>q rfl)) ?_;refine bJ 27 rfl (fun h' e=>b7 rfl (e.Ao kA.row)) ?_;refine bJ 29 rfl (fun h' e=>b7 rfl (e.Ao kB.row)) ?_;refine dR 28 rfl (aF rfl ((sA (Ext.refl _ _)))) ?_;rintro _ w1 ⟨rfl,j1⟩;refine⟨fun _=>j1.of,?_⟩;refine dR 30 rfl (aF rfl ((sB j1))) ?_;rintro _ w2 ⟨rfl,j2⟩;refine⟨fun _=>j2.of,?_⟩;refine aG 31 ?_;refine aG 32 ?_;refine aG 33 ?_;refine RD.cy (d:=126) (b':=false) rfl (decide_eq_false (by exact fun q=>q rfl)) ?_;refine bJ 34 rfl (fun h' e=>b7 rfl (e.rowAt (by omega) (kA.ah (j1.trans j2)).row)) ?_;refine bJ 36 rfl (fun h' e=>b7 rfl (e.rowAt (by omega) (kkC.ah (j1.trans j2)).row)) ?_;refine dR 35 rfl (aF rfl ((sA (j1.trans j2)))) ?_;rintro _ w3 ⟨rfl,j3⟩;refine⟨fun _=>j3.of,?_⟩;refine dR 37 rfl (aF rfl ((sC ((j1.trans j2).trans j3)))) ?_;rintro _ w4 ⟨rfl,j4⟩;refine⟨fun _=>j4.of,?_⟩;refine aG 38 ?_;refine aG 39 ?_;refine aG 40 ?_;refine RD.cy (d:=133) (b':=false) rfl (decide_eq_false (by exact fun q=>q rfl)) ?_;refine aG 41 ?_;refine bJ 42 rfl (fun h' e=>aA rfl (e.cell (by dsimp only;omega) ((kA.ah (((j1.trans j2).trans j3).trans j4)).cell (i:=0) rfl))) ?_;refine aG 43 ?_;refine bJ 44 rfl (fun h' e=>aA rfl (e.cell (by dsimp only;omega) ((kkC.ah (((j1.trans j2).trans j3).trans j4)).cell (i:=0) rfl))) ?_;refine aG 45 ?_;refine aG 46 ?_;refine aG 47 ?_;refine RD.cy (d:=140) (b':=false) rfl (decide_eq_false (by exact fun q=>q q4.symm)) ?_;refine aG 48 ?_;refine aG 49 ?_;refine aG 50 ?_;refine bJ 51 rfl (fun h' e=>aA rfl (e.cell (by dsimp only;omega) ((kA.ah (((j1.trans j2).trans j3).trans j4)).cell (i:=0) rfl))) ?_;refine aG 52 ?_;refine bJ 53 rfl (fun h' e=>az.J0 underlying4 rfl rfl) ?_;refine aG 54 ?_;refine P6 147 (fun p=>?_) (fun p=>?_)
         · refine aG 55 ?_;refine dR 56 rfl (aF rfl ((yf (hov9.mv (Mv.ah (fC0.trans (((j1.trans j2).trans j3).trans j4))))))) ?_;rintro _ _ ⟨⟨bn,rfl,hbn⟩,rfl⟩;refine⟨fun _=>Ext.refl _ _,?_⟩;refine aG 57 ?_;refine aG 58 ?_;refine aG 59 ?_;exact MX () ((((j1.trans j2).trans j3).trans j4)) ⟨av rfl (by rw[hbn.2 (Gt q6 p)];rfl),sb rfl⟩
         · refine Bf 55 ?_;refine Bf 56 ?_;refine Bf 57 ?_;refine aG 58 ?_;refine aG 59 ?_;exact MX () ((((j1.trans j2).trans j3).trans j4))
       · rintro u w9 f9;refine gm rfl (by simp) ?_;refine af ?_;exact ih (i+1) ⟨fC0.trans f9,by omega⟩
     · refine af ?_;refine xo rfl (aF rfl (nq (g9.ah f0))) ?_;rintro _ w1 ⟨rfl,j1⟩;refine af ?_;refine bw ?_;exact⟨_,rfl,rfl,((e0.trans e09).trans f0).trans j1⟩
end
end Go.Proofs.YtdgckfkoihcmjaaGreatDoor
