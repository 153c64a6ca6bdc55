/- What the proof of the statement leans on (part 30). -/
import Derived.Shelf.Strings.Builder1
import Derived.Shelf.Strings.Builder2
import Derived.Shelf.Strings.OnBuilder
import Derived.Shelf.Small.Utf8
import Derived.Shelf.Small.Strs
import Derived.Shelf.Strings.BuilderF
import Derived.Shelf.Strings.BuilderK
import Derived.Shelf.Strings.Builder2Cap
import Derived.Shelf.Strconv.Atoi
import Derived.Shelf.Strconv.Itoa0
import Derived.Shelf.Strconv.Itoa1
import Derived.Shelf.LaysM
import Derived.Shelf.Strconv.Itoa2
import Derived.Shelf.Strconv.Itoa3
import Derived.Shelf.Strconv.AtoiErrFast
import Derived.Shelf.Strconv.ParseIntEmpty
import Derived.Shelf.Strconv.AtoiFail
import Derived.Shelf.Strconv.Clone
import Derived.Shelf.Strconv.SyntaxError
import Derived.Shelf.LaysC
import Derived.Shelf.Strconv.ToError
import Derived.Shelf.Strconv.Lower
import Derived.Shelf.Strconv.ParseUint10
import Derived.Shelf.Strconv.ParseUint10Empty
import Derived.Shelf.Strconv.ParseUint10Any
import Derived.Shelf.Strconv.ParseInt10
import Derived.Shelf.Strconv.AtoiLong
import Derived.Shelf.Strconv.AtoiInnerAll
import Derived.Shelf.Strconv.RangeError
import Derived.Shelf.Strconv.ToErrorRange
import Derived.Shelf.Strconv.AtoiAll
import Derived.Shelf.Strings.Search1
import Derived.Shelf.Strings.Search2
import Derived.Shelf.Strings.Search3
import Derived.Shelf.Strings.Cut
import Derived.Shelf.Strings.Shaped
import Derived.Shelf.Strings.LastIndex
import Derived.Shelf.Strings.LastIndexAll
import Derived.Shelf.Strings.Prefix
import Derived.Shelf.Unicode.Decode
import Derived.Shelf.Bits.Mul64
import Derived.Shelf.Strings.Repeat
import Derived.Shelf.Unicode.DecodeSlow
import Derived.Shelf.Unicode.DecodeAny
import Derived.Shelf.Unicode.DecodeLast
import Derived.Test.YtckomlgchbkekaaGreatDoorProg
import Derived.Lib.MakeNoZero
import Derived.Laws.CopyOwn
import Derived.Laws.Small
import Derived.Test.YtckomlgchbkekaaGreatDoorQzc

namespace Go.Proofs.YtckomlgchbkekaaGreatDoor
open Go.Proofs.Tryz
open Go Go.Lw
set_option maxRecDepth 20000 set_option maxHeartbeats 4000000
section
variable {h:ai}{v:Value}{xs:List (Int×Int)}{r:Int}{l:List Int}{i c g:Nat}
theorem CU (l:By) (p:Nat):Utf8.decode (bs l) p=(ij (l.drop p),cA (l.drop p)):=by
 have e:∀i,(bs l).get! i=l.getD i 0:=fun i=>by
  show (l.toArray)[i]! =_
  rw[getElem!_def,List.getElem?_toArray,List.getD_eq_getElem?_getD];cases l[i]? <;>rfl
 rw[Lib.decode_at];unfold ij cA;rw[e,e,e,e,aC,mj,mj,mj,mj,List.length_drop];rfl
theorem nK:∀(n k:Nat) (l:By) (a:Nat),l.length<=n->l.length<=k->cj n l a=cj k l a
 | 0,0,_,_,_,_=>rfl
 | 0,k+1,l,a,h,_=>by
  have:l=[]:=List.length_eq_zero_iff.1 (by omega);rw[cj,cj,if_pos this]
 |n+1,0,l,a,_,h=>by
  have:l=[]:=List.length_eq_zero_iff.1 (by omega);rw[cj,cj,if_pos this]
 |n+1,k+1,l,a,h1,h2=>by
  rw[cj,cj]
  by_cases hl:l=[]
  · rw[if_pos hl,if_pos hl]
  · have:=lD hl;rw[if_neg hl,if_neg hl,nK n k _ _ (by rw[List.length_drop];omega) (by rw[List.length_drop];omega)]
def wm (s:By) (p:Nat):List Nat:=cj s.length (s.drop p) p
theorem E2 {s:By}{p:Nat}(h:s.length<=p):wm s p=[]:=by
 unfold wm;rw[List.drop_of_length_le h];cases s.length<;>rfl
theorem CE {s:By}{p:Nat}(h:p<s.length):wm s p=p::wm s (p+cA (s.drop p))/\1<=cA (s.drop p)/\p+cA (s.drop p)<=s.length:=by
 have hne:s.drop p≠[]:=by intro e;have:=congrArg List.length e;rw[List.length_drop,List.length_nil] at this;omega
 have hr:=lD hne;have hd:(s.drop p).length=s.length-p:=List.length_drop;refine⟨?_,hr.1,by omega⟩;unfold wm;obtain⟨n,hn⟩:∃n,s.length=n+1:=⟨s.length-1,by omega⟩
 conv=>lhs;rw[hn,cj,if_neg hne,List.drop_drop]
 rw[nK n s.length _ _ (by rw[List.length_drop];omega) (by rw[List.length_drop];omega)]
theorem w9 (s:By) (hs:s.length<=1000000):aj Tryz.prog 273 #[.string (bs s)] h (aN fun r h'=>bF cJ h' h.size 3 r (dU s)/\ah h h'):=by
 have hbs:=aC s;refine bf ?_;refine aa ?_;refine xo rfl (aH.rT underlying9 rfl) ?_;rintro _ h1 ⟨rfl,i1,e1,z1⟩;refine aa ?_;refine eR (σ:=Nat×Value×List Nat) (fun w=>[(3,w.2.1)]) (fun w g=>fQ g h.size (bs s) w.1/\bF cJ g (h.size+1) 3 w.2.1 w.2.2/\Ext (fun b=>b=h.size) h1 g/\w.2.2++wm s w.1=dU s/\w.1<=s.length/\w.2.2.length<=w.1) (fun w=>s.length-w.1) ((0,.slice none 0 0,[])) ⟨i1,bF.nil cJ h1 (h.size+1) 3,av _ _,rfl,Nat.zero_le _,Nat.le_refl _⟩ rfl ?_;rintro⟨p,v,xs⟩ g ⟨hI,hw,hx,hf,hp,hl⟩ ih
 try dsimp only
 dsimp only at hI hw hx hf hp hl;have hgz:=hx.size
 by_cases hlt:p<s.length
 · obtain⟨f1,f2,f3⟩:=CE hlt;have hz:p<(bs s).size:=by omega
   refine aa ?_;refine xo rfl (aH.xS rfl (hI) (hz)) ?_;rintro _ g1 ⟨rfl,i2,x2,z2⟩;rw[CU] at *;refine aa ?_;refine fH rfl (by simp) ?_;have hw1:bF cJ g1 (h.size+1) 3 v xs:=ay.ext x2 hw (fun b hb k=>by have:=ay.lt hw hb;omega);refine aa ?_;refine xo rfl (kI [_]) ?_;rintro _ _ ⟨rfl,rfl⟩;refine xo rfl (Dr rfl rfl hw1 rfl rfl) ?_;rintro v2 g2 ⟨ho2,hx2,hx2',hv2⟩;refine aa ?_;have i3:=i2.ext hx2 (fun k=>by have:=ay.lt hw1 (b:=h.size) k.symm;omega);have ho2:bF cJ g2 (h.size+1) 3 v2 (xs++[p]):=bF.of ho2 rfl rfl rfl;exact ih (p+cA (s.drop p),v2,xs++[p]) ⟨i3,ho2,(hx.trans x2).Pv hx2 (fun b hb k=>by have:=ay.lt hw1 (b:=b) k.symm;omega),by rw[List.append_assoc,List.singleton_append,<-f1];exact hf,f3,by rw[List.length_append];simp only[List.length_cons,List.length_nil];omega⟩
 · refine aa ?_;refine xo rfl (aH.xT rfl (hI) ((by omega))) ?_;rintro _ g1 ⟨rfl,rfl⟩;refine aa ?_;refine bV rfl (by simp) ?_;refine aa ?_;refine aW ?_;rw[E2 (by omega),List.append_nil] at hf;subst hf;exact⟨_,rfl,hw.lower (by omega),ah.only e1 hx (Nat.le_refl _)⟩
theorem tI (hg:BM h) (l:By) (hl:l≠[]):aj Tryz.prog 195 #[.string (bs l)] h (aN fun r h'=>r= .tuple #[.int .i32 (ij l:Nat),.int .i64 (cA l:Nat)]/\ah h h'):=by
 refine aj.qO fun w hw=>?_
 subst hw;have hT:Lib.Utf8Tabs 9 10 w:=⟨fun c hc=>by rw[dm];exact hg.utf.1 c hc,fun i hi=>⟨by rw[dm];exact(hg.utf.2 i hi).1,by rw[dm];exact(hg.utf.2 i hi).2⟩⟩
 refine(Tryz.utf8_DecodeRuneInString (bs l) w hT).mono ?_;rintro e w' ⟨rfl,hb⟩
 have hn:Lib.decodeGo (bs l)=(ij l,cA l):=by
  have h0:¬(bs l).size=0:=by rw[aC];have:=List.length_pos_iff.2 hl;omega
  unfold Lib.decodeGo;rw[if_neg h0,Lib.decode_N,zf];rfl
 rw[hn];exact⟨_,rfl,⟨rfl,⟨hb.size,fun b hlt _=>hb.block b hlt⟩⟩,hb.os,hb.tape,hb.output⟩
theorem E5 (l:List Nat) (a:Int) (i x:Nat) (h:l[i]? =some x):(l.take (i+1)).foldl (fun(o k:Nat)=>if (k:Int)<=a then k else o) 0=if (x:Int)<=a then x else (l.take i).foldl (fun(o k:Nat)=>if (k:Int)<=a then k else o) 0:=by
 rw[List.take_add_one,h,Option.toList_some,List.foldl_append];rfl
theorem E3 (s:By) (a:Int) (hs:s.length<=1000000):aj Tryz.prog 218 #[.string (bs s),.int .i64 a] h (aN fun r h'=>r= .int .i64 (A4 s a:Nat)/\ah h h'):=by
 have hbs:=aC s;refine bf ?_;refine aa ?_;refine aQ (fun c=>?_) (fun c=>?_)
 · refine aa ?_;refine aW ?_;have e:A4 s a=s.length:=by unfold A4;rw[if_pos (by omega)]
   exact⟨_,rfl,congrArg (Value.int .i64) (by rw[e,hbs]),av _ _⟩
 · refine aa ?_;refine xo rfl (aG rfl (w9 s hs)) ?_;rintro v g ⟨hw,e1⟩;have hr:aR gQ g (fun _=>False) v (dU s):=hw.read (fun _ _ k=>k);obtain⟨oa,n,cp,rfl,hsl⟩:=hr.open;have hn:=hsl.len;subst hn;have hcap:=hsl.cap;have hle:=hsl.le;unfold maxLen at hcap;refine aa ?_;refine eR (σ:=Nat) (fun i=>[(5,.int .i64 (((dU s).take i).foldl (fun(o k:Nat)=>if (k:Int)<=a then k else o) 0:Nat)),(17,.int .i64 (i:Nat))]) (fun i g'=>g'=g/\i<=(dU s).length) (fun i=>(dU s).length-i) (0) ⟨rfl,Nat.zero_le _⟩ rfl ?_;rintro i g' ⟨rfl,hi⟩ ih;refine aa ?_;refine aQ (fun hlt=>?_) (fun hlt=>?_)
   · have hil:i<(dU s).length:=by omega
     obtain⟨b,o,x,ha,_,hx,hc⟩:=hsl.at hil;have hst:=E5 (dU s) a i x hx
     iterate 4 refine aI ?_
     refine bU ?_;refine xp rfl (bT rfl rfl i rfl ha) ?_;refine xp rfl (aA rfl hc) ?_;refine aa ?_;refine aQ (fun hk=>?_) (fun hk=>?_)
     · refine aa ?_;rw[if_pos hk] at hst;rw[<-hst];exact ih (i+1) ⟨rfl,by omega⟩
     · refine aa ?_;rw[if_neg hk] at hst;rw[<-hst];exact ih (i+1) ⟨rfl,by omega⟩
   · refine aa ?_;refine aW ?_;have hil:i=(dU s).length:=by omega
     have e:A4 s a=(dU s).foldl (fun(o k:Nat)=>if (k:Int)<=a then k else o) 0:=by unfold A4;rw[if_neg (by omega)]
     exact⟨_,rfl,congrArg (Value.int .i64) (by rw[e,hil,List.take_length]),e1⟩
def Qj:fS Bool:=.flat Value.bool fun _=>rfl
def M3 (s:MS) (rv hv lv fv:Value):List Value:=[.string (bs s.text),.int .i64 s.cur,.int .i64 s.mode,.int .i64 s.mark,rv,hv,.int .i64 s.at_,.string (bs s.draft),.int .i64 s.last,.int .i64 s.from_,.int .i64 s.to_,.string (bs s.query),.int .i64 s.found,.string (bs s.saved),.int .i64 s.savedAt,.int .i64 s.was,lv,fv,.int .i64 s.bells]
structure Lv (O:Nat->Prop) (h:ai) (s:MS) (rv hv lv fv:Value):Prop where
 ring:aR I4 h O rv s.ring
 hist:aR I4 h O hv s.hist
 lines:aR I4 h O lv s.lines
 flags:aR Qj h O fv s.flags
theorem Lv.mv {O O':Nat->Prop}{h h':ai}{s:MS}{rv hv lv fv:Value}(k:Lv O h s rv hv lv fv) (m:Mv O O' h h'):Lv O' h' s rv hv lv fv:=⟨k.ring.mv m,k.hist.mv m,k.lines.mv m,k.flags.mv m⟩
theorem Lv.af {O:Nat->Prop}{h h':ai}{s:MS}{rv hv lv fv:Value}(k:Lv O h s rv hv lv fv) (e:ah h h'):Lv O h' s rv hv lv fv:=k.mv (Mv.af e)
theorem ms1 {s:MS}{xa ya za ua:Option Addr}{xn xc yn yc zn zc un uc:Nat}:∀v∈M3 s (.slice xa xn xc) (.slice ya yn yc) (.slice za zn zc) (.slice ua un uc),v.oneCell'=true:=by
 intro v hv;simp only[M3,List.mem_cons,List.not_mem_nil,or_false] at hv
 rcases hv with rfl|rfl|rfl|rfl|rfl|rfl|rfl|rfl|rfl|rfl|rfl|rfl|rfl|rfl|rfl|rfl|rfl|rfl|rfl<;>rfl
section
variable {O:Nat->Prop}{h g g':ai}{b r:Nat}{s t:MS}{rv hv lv fv rv' hv' lv' fv':Value}
end
def lS (x:Int×Int):List Value:=[.int .i32 x.1,.int .i32 x.2]
def Le:fS (Int×Int):=.record 2 (by decide) lS (fun _=>rfl) (fun _ v hv=>by simp[lS] at hv;rcases hv with rfl|rfl<;>rfl)
def hidL:List (Int×Int):=[(0,31),(127,159),(768,879),(8203,8207),(8232,8238),(55296,57343),(65024,65039),(65279,65279)]
def rz:List (Int×Int):=[(4352,4447),(11904,12350),(12353,13311),(13312,19903),(19968,40959),(40960,42191),(44032,55203),(63744,64255),(65072,65135),(65281,65376),(65504,65510),(127744,128591),(129280,129535),(131072,262141)]
def kC (r:Nat):List Value:=[.int .i32 (r:Nat),.int .i64 1,.int .i64 0,.bool false,.bool false,.bool false]
theorem LK (r:Nat):∀v∈kC r,v.oneCell'=true:=fun v hv=>by simp[kC] at hv;rcases hv with rfl|rfl|rfl|rfl|rfl|rfl<;>rfl
def Oq:fS Nat:=.record 6 (by decide) kC (fun _=>rfl) LK
structure jH (h:ai):Prop where
 lx:BM h
 hid:Lw.rowAt h 3 0 (hidL.flatMap lS)
 wid:Lw.rowAt h 4 0 (rz.flatMap lS)
 gb:Lw.rowAt h 0 0 (kC 32)
 tb:Lw.rowAt h 5 0 (kC 32)
theorem jH.af {h h':ai}(k:jH h) (e:ah h h'):jH h':=⟨k.lx.af e,e.rowAt (fun q=>q) k.hid,e.rowAt (fun q=>q) k.wid,e.rowAt (fun q=>q) k.gb,e.rowAt (fun q=>q) k.tb⟩
theorem nM {α:Type}{sz:Nat}{pos:0<sz}{enc:α->List Value} {hl:∀x,(enc x).length=sz} {h1:∀x,∀v∈enc x,v.oneCell'=true}{O:Nat->Prop}{b:Nat}(ho:¬O b){xs:List α}{n:Nat}(hr:Lw.rowAt h b 0 (xs.flatMap enc)) (hn:xs.length=n) (hm:n<=maxLen):aR (.record sz pos enc hl h1) h O (.slice (some ⟨b,0,none⟩) n n) xs :=
 ⟨_,n,n,rfl,hn,Nat.le_refl _,hm,fun i x hx=>⟨b,0,enc x,rfl,ho,fun j v hv=>by
  have h2:=hr _ _ (dG hl xs i x j v hx hv);rw[Nat.zero_add] at h2 ⊢;exact h2,rfl⟩⟩
def IY (xs:List (Int×Int)) (r:Int) (k:Nat):Bool:=decide (k<xs.length) && decide ((xs.getD k (0,0)).1<=r)
def Df (xs:List (Int×Int)) (r:Int) (k:Nat):Bool:=decide (r<=(xs.getD k (0,0)).2)
theorem wh {b1 b2:Nat}(k1:az h b1 297 [v]) (k2:az h b2 21 [.int .i32 r]) (hv:aR Le h (fun _=>False) v xs) (i:Nat) (hi:i<xs.length) :
 aj Tryz.prog 258 #[.int .i64 (i:Nat),.pointer (some ⟨b1,0,none⟩),.pointer (some ⟨b2,0,none⟩)] h (aN fun q h'=>q= .bool (Df xs r i)/\h'=h):=by
 obtain⟨va,vn,vc,rfl,hvs⟩:=hv.open;have hl:xs.length=vn:=hvs.len;obtain⟨bb,o,t,ha,_,ht,hrow⟩:=hvs.fC (i:=i) (by omega);have hgt:xs.getD i (0,0)=t:=by rw[List.getD_eq_getElem?_getD,ht];rfl
 unfold Df;rw[hgt];refine bf ?_;refine aa ?_;refine bP rfl (aA rfl (k1.cell (i:=0) rfl)) ?_;refine mU ?_;refine bP rfl (bT rfl rfl i rfl ha) ?_;refine aa ?_;refine bP rfl (aA rfl (hrow 1 _ rfl)) ?_;refine bP rfl (aA rfl (k2.cell (i:=0) rfl)) ?_;refine aa ?_;refine aW ?_;exact⟨_,rfl,rfl,rfl⟩
theorem we (hv:aR Le h (fun _=>False) v xs) (hx:xs.length<=1000) (r:Int) (hno:∀k,k<=xs.length->(0<k->Df xs r (k-1)=false)->(k<xs.length->Df xs r k=true)->IY xs r k=false) :
 aj Tryz.prog 197 #[v,.int .i32 r] h (aN fun q h'=>q= .bool false/\ah h h'):=by
 obtain⟨va,vn,vc,rfl,hvs⟩:=id hv.open;have hl:xs.length=vn:=hvs.len;subst hl;refine bf ?_;refine aa ?_;refine xo rfl (cM) ?_;rintro _ h1 ⟨rfl,k1,e1,z1⟩;refine xo rfl (cM) ?_;rintro _ h2 ⟨rfl,k2,e2,z2⟩;have k1:az h2 h.size 297 [.slice va xs.length vc]:=k1.af e2;have k2:az h2 h1.size 21 [.int .i32 r]:=k2;have e02:=e1.trans e2;have hv2:=hv.af e02;have hsr:=ig (h:=h2) (g:=258) (caps:=[.pointer (some ⟨h.size,0,none⟩),.pointer (some ⟨h1.size,0,none⟩)]) ⟨_,func258,rfl,by kernel_rfl⟩ xs.length (by omega) (Df xs r) (fun i hi=>wh k1 k2 hv2 i hi);refine aa ?_;refine xp rfl (aA rfl (k1.cell (i:=0) rfl)) ?_;refine aa ?_;refine xp rfl (an.makeFunc (vs:=[_,_]) rfl) ?_;refine xo rfl (aG rfl hsr) ?_;rintro _ h3 ⟨⟨k,rfl,hk,hk1,hk2⟩,hh3⟩;subst hh3;have hf:=hno k hk hk1 hk2;refine aU ?_;refine bJ ?_;refine aI ?_;refine G.eB [(4,.bool false)] [(0,_),(1,_),(2,_),(3,_),(5,_)] ⟨rfl,rfl,rfl,rfl,rfl,trivial⟩ func197 H.mixed rfl (by kernel_rfl) ?_ ?_
 · refine mU ?_;refine bP rfl (aA rfl (k1.cell (i:=0) rfl)) ?_;refine aa ?_;refine Ic 14 (fun g1=>?_) (fun g1=>?_)
   · have g1:=of_decide_eq_true g1;obtain⟨bb,o,t,ha,_,ht,hrow⟩:=hv2.open_slice.fC (i:=k) (by omega);have hgt:xs.getD k (0,0)=t:=by rw[List.getD_eq_getElem?_getD,ht];rfl
     rw[IY,hgt,decide_eq_true (by omega),Bool.true_and] at hf;refine bP rfl (aA rfl (k1.cell (i:=0) rfl)) ?_;refine mU ?_;refine bP rfl (bT rfl rfl k rfl ha) ?_;refine aa ?_;refine bP rfl (aA rfl (hrow 0 _ rfl)) ?_;refine bP rfl (aA rfl (k2.cell (i:=0) rfl)) ?_;refine aa ?_;exact jq rfl ⟨ak rfl (hf),sb rfl⟩
   · refine aa ?_;exact jq rfl ⟨ak rfl (rfl),sb rfl⟩
 · refine aW ?_;exact⟨_,rfl,rfl,e02⟩
def Qa (xs:List (Int×Int)):Bool:=(List.range 95).all fun r=>(List.range (xs.length+1)).all fun k=> !((Nat.beq k 0 || !Df xs ((r+32:Nat):Int) (k-1)) && (Nat.beq k xs.length ||Df xs ((r+32:Nat):Int) k) && IY xs ((r+32:Nat):Int) k)
theorem J3 (hb:Qa xs=true){r:Nat}(h0:32<=r) (h1:r<127) (k:Nat) (hk:k<=xs.length) (q1:0<k->Df xs r (k-1)=false) (q2:k<xs.length->Df xs r k=true):IY xs r k=false:=by
 have h:=List.all_eq_true.1 (List.all_eq_true.1 hb (r-32) (List.mem_range.2 (by omega))) k (List.mem_range.2 (by omega));rw[show r-32+32=r by omega] at h
 have e1:(Nat.beq k 0 || !Df xs r (k-1))=true:=by
  rcases Nat.eq_zero_or_pos k with rfl|hp
  · rfl
  · rw[q1 hp];simp
 have e2:(Nat.beq k xs.length ||Df xs r k)=true:=by
  rcases Nat.lt_or_ge k xs.length with hp|hp
  · rw[q2 hp];simp
  · rw[show k=xs.length by omega,Nat.beq_refl];rfl
 rw[e1,e2] at h;simpa using h
theorem l7 (hW:jH h){r:Nat}(h0:32<=r) (h1:r<127):aj Tryz.prog 137 #[.int .i32 (r:Nat)] h (aN fun q h'=>q= .int .i64 1/\ah h h'):=by
 have hv1:aR Le h (fun _=>False) (.slice (aP (some ⟨3,0,none⟩) 0 2 8) (8-0) (8-0)) hidL:=by rw[lZ];exact nM (fun q=>q) hW.hid rfl (by decide)
 have hc1:=we hv1 (by decide) r (J3 (by decide +kernel) h0 h1);refine bf ?_;refine aa ?_;refine bV rfl (by simp) ?_;refine aa ?_;refine bV rfl (by simp;omega) ?_;refine aa ?_;refine xp rfl (an.iR underlying300 H.zU rfl  ) ?_;refine aa ?_;refine xo rfl (aG rfl hc1) ?_;rintro _ g1 ⟨rfl,e1⟩;refine aa ?_;refine bV rfl (by decide) ?_;have hv2:aR Le g1 (fun _=>False) (.slice (aP (some ⟨4,0,none⟩) 0 2 14) (14-0) (14-0)) rz:=by rw[lZ];exact nM (fun q=>q) (hW.af e1).wid rfl (by decide)
 have hc2:=we hv2 (by decide) r (J3 (by decide +kernel) h0 h1);refine aa ?_;refine xp rfl (an.iR underlying301 H.zU rfl  ) ?_;refine aa ?_;refine xo rfl (aG rfl hc2) ?_;rintro _ g2 ⟨rfl,e2⟩;refine aa ?_;refine bV rfl (by decide) ?_;refine aa ?_;refine aW ?_;exact⟨_,rfl,rfl,e1.trans e2⟩
theorem xh (hW:jH h){r:Nat}(h0:32<=r) (h1:r<127):aj Tryz.prog 85 #[.int .i32 (r:Nat)] h (aN fun q h'=>q= .int .i32 (r:Nat)/\ah h h'):=by
 refine bf ?_;refine aa ?_;refine xo rfl (aG rfl (l7 hW h0 h1)) ?_;rintro _ g1 ⟨rfl,e1⟩;refine aa ?_;refine bV rfl (by decide) ?_;refine aa ?_;refine aW ?_;exact⟨_,rfl,rfl,e1⟩
def Ik (xs:List (Int×Int)) (r:Int):Bool:=xs.any fun x=>decide (x.1<=r) && decide (r<=x.2)
def pJ (xs:List (Int×Int)):Prop:=∀i,i<xs.length->∀j,j<xs.length->i<j->(xs.getD i (0,0)).2<(xs.getD j (0,0)).1/\(xs.getD i (0,0)).2<=(xs.getD j (0,0)).2
theorem G4 (hs:pJ xs){k:Nat}(hk:k<=xs.length) (h1:0<k->Df xs r (k-1)=false) (h2:k<xs.length->Df xs r k=true):IY xs r k=Ik xs r:=by
 rw[Bool.eq_iff_iff];unfold IY Ik Df at *;simp only[Bool.and_eq_true,decide_eq_true_eq,List.any_eq_true];constructor
 · rintro⟨hl,hf⟩;have h3:=of_decide_eq_true (h2 hl);refine⟨xs[k],List.getElem_mem hl,?_⟩;have e:xs.getD k (0,0)=xs[k]:=by rw[List.getD_eq_getElem?_getD,List.getElem?_eq_getElem hl];rfl
   rw[e] at hf h3;exact⟨hf,h3⟩
 · rintro⟨x,hx,h3,h4⟩;obtain⟨i,hi,rfl⟩:=List.mem_iff_getElem.1 hx;have e:xs.getD i (0,0)=xs[i]:=by rw[List.getD_eq_getElem?_getD,List.getElem?_eq_getElem hi];rfl
   rw[<-e] at h3 h4
   rcases Nat.lt_trichotomy i k with h5|h5|h5
   · have h6:=of_decide_eq_false (h1 (by omega))
     rcases Nat.lt_or_ge i (k-1) with h7|h7
     · have:=(hs i hi (k-1) (by omega) h7).2;omega
     · obtain rfl:i=k-1:=by omega
       exact absurd h4 h6
   · subst h5;exact⟨hi,h3⟩
   · have h6:=of_decide_eq_true (h2 (by omega));have:=(hs k (by omega) i hi h5).1;omega
theorem Ge:pJ hidL:=by unfold pJ;decide
theorem EB:pJ rz:=by unfold pJ;decide
theorem wg (hv:aR Le h (fun _=>False) v xs) (hx:xs.length<=1000) (hs:pJ xs) (r:Int) :
 aj Tryz.prog 197 #[v,.int .i32 r] h (aN fun q h'=>q= .bool (Ik xs r)/\ah h h'):=by
 obtain⟨va,vn,vc,rfl,hvs⟩:=id hv.open;have hl:xs.length=vn:=hvs.len;subst hl;refine bf ?_;refine aa ?_;refine xo rfl (cM) ?_;rintro _ h1 ⟨rfl,k1,e1,z1⟩;refine xo rfl (cM) ?_;rintro _ h2 ⟨rfl,k2,e2,z2⟩;have k1:az h2 h.size 297 [.slice va xs.length vc]:=k1.af e2;have k2:az h2 h1.size 21 [.int .i32 r]:=k2;have e02:=e1.trans e2;have hv2:=hv.af e02;have hsr:=ig (h:=h2) (g:=258) (caps:=[.pointer (some ⟨h.size,0,none⟩),.pointer (some ⟨h1.size,0,none⟩)]) ⟨_,func258,rfl,by kernel_rfl⟩ xs.length (by omega) (Df xs r) (fun i hi=>wh k1 k2 hv2 i hi);refine aa ?_;refine xp rfl (aA rfl (k1.cell (i:=0) rfl)) ?_;refine aa ?_;refine xp rfl (an.makeFunc (vs:=[_,_]) rfl) ?_;refine xo rfl (aG rfl hsr) ?_;rintro _ h3 ⟨⟨k,rfl,hk,hk1,hk2⟩,hh3⟩;subst hh3;rw[<-G4 hs hk hk1 hk2];refine aU ?_;refine bJ ?_;refine aI ?_;refine G.eB [(4,.bool (IY xs r k))] [(0,_),(1,_),(2,_),(3,_),(5,_)] ⟨rfl,rfl,rfl,rfl,rfl,trivial⟩ func197 H.mixed rfl (by kernel_rfl) ?_ ?_
 · refine mU ?_;refine bP rfl (aA rfl (k1.cell (i:=0) rfl)) ?_;refine aa ?_;refine Ic 14 (fun g1=>?_) (fun g1=>?_)
   · have g1:=of_decide_eq_true g1;obtain⟨bb,o,t,ha,_,ht,hrow⟩:=hv2.open_slice.fC (i:=k) (by omega);have hgt:xs.getD k (0,0)=t:=by rw[List.getD_eq_getElem?_getD,ht];rfl
     refine bP rfl (aA rfl (k1.cell (i:=0) rfl)) ?_;refine mU ?_;refine bP rfl (bT rfl rfl k rfl ha) ?_;refine aa ?_;refine bP rfl (aA rfl (hrow 0 _ rfl)) ?_;refine bP rfl (aA rfl (k2.cell (i:=0) rfl)) ?_;refine aa ?_;exact jq rfl ⟨ak rfl (by unfold IY;rw[hgt,decide_eq_true (show k<xs.length by omega),Bool.true_and]),sb rfl⟩
   · have g1:=of_decide_eq_false g1;refine aa ?_;exact jq rfl ⟨ak rfl (by unfold IY;rw[decide_eq_false (show ¬k<xs.length by omega)];rfl),sb rfl⟩
 · refine aW ?_;exact⟨_,rfl,rfl,e02⟩
def cU (r:Int):Int:=if r<0\/1114111<r\/Ik hidL r=true then 0 else if Ik rz r=true then 2 else 1
def JW (r:Int):Int:=if cU r=0 then 65533 else r
theorem EM (r:Int):cU r=0\/cU r=1\/cU r=2:=by unfold cU;(repeat' split)<;>simp
theorem Cl (r:Int):cU (JW r)=1\/cU (JW r)=2:=by
 unfold JW;split
 · exact .inl (by decide)
 · rename_i h;exact(EM r).resolve_left h
theorem oV (hW:jH h) (r:Int):aj Tryz.prog 137 #[.int .i32 r] h (aN fun q h'=>q= .int .i64 (cU r)/\ah h h'):=by
 have hv1:aR Le h (fun _=>False) (.slice (aP (some ⟨3,0,none⟩) 0 2 8) (8-0) (8-0)) hidL:=by rw[lZ];exact nM (fun q=>q) hW.hid rfl (by decide)
 have hc1:=wg hv1 (by decide) Ge r;unfold cU;refine bf ?_;refine aa ?_;refine aQ (fun q1=>?_) (fun q1=>?_)
 · rw[if_pos (.inl q1)];refine aa ?_;refine fH rfl (by simp[q1]) ?_;refine aa ?_;refine aW ?_;exact⟨_,rfl,rfl,av _ _⟩
 · refine aa ?_;refine aQ (fun q2=>?_) (fun q2=>?_)
   · rw[if_pos (.inr (.inl q2))];refine aa ?_;refine fH rfl (by simp[q2]) ?_;refine aa ?_;refine aW ?_;exact⟨_,rfl,rfl,av _ _⟩
   · refine aa ?_;refine xp rfl (an.iR underlying300 H.zU rfl  ) ?_;refine aa ?_;refine xo rfl (aG rfl hc1) ?_;rintro _ g1 ⟨rfl,e1⟩;refine aa ?_;refine oL (fun q3=>?_) (fun q3=>?_)
     · rw[if_pos (.inr (.inr q3))];refine aa ?_;refine aW ?_;exact⟨_,rfl,rfl,e1⟩
     · rw[if_neg (by rintro(q|q|q);exact q1 q;exact q2 q;rw[q] at q3;cases q3)];have hv2:aR Le g1 (fun _=>False) (.slice (aP (some ⟨4,0,none⟩) 0 2 14) (14-0) (14-0)) rz:=by rw[lZ];exact nM (fun q=>q) (hW.af e1).wid rfl (by decide)
       have hc2:=wg hv2 (by decide) EB r;refine aa ?_;refine xp rfl (an.iR underlying301 H.zU rfl  ) ?_;refine aa ?_;refine xo rfl (aG rfl hc2) ?_;rintro _ g2 ⟨rfl,e2⟩;refine aa ?_;refine oL (fun q4=>?_) (fun q4=>?_)
       · rw[if_pos q4];refine aa ?_;refine aW ?_;exact⟨_,rfl,rfl,e1.trans e2⟩
       · rw[if_neg (by rw[q4];decide)];refine aa ?_;refine aW ?_;exact⟨_,rfl,rfl,e1.trans e2⟩
theorem Ez (hW:jH h) (r:Int):aj Tryz.prog 85 #[.int .i32 r] h (aN fun q h'=>q= .int .i32 (JW r)/\ah h h'):=by
 unfold JW;refine bf ?_;refine aa ?_;refine xo rfl (aG rfl (oV hW r)) ?_;rintro _ g1 ⟨rfl,e1⟩;refine aa ?_;refine aQ (fun q=>?_) (fun q=>?_)
 · rw[if_pos q];refine aa ?_;refine aW ?_;exact⟨_,rfl,rfl,e1⟩
 · rw[if_neg q];refine aa ?_;refine aW ?_;exact⟨_,rfl,rfl,e1⟩
abbrev Ou:fS Int:=.flat (fun n:Int=>Value.int .i32 n) (fun _=>rfl)
theorem AX (h:ai) (t:TypeId) (xs:List Int) (n:Nat) (hn:xs.length=n) (hm:n<=maxLen){us:List Value}(hu:us=xs.map fun b=>Value.int .i32 b):aR Ou (h.push (.cells us.toArray t)) (fun _=>False) (.slice (some ⟨h.size,0,none⟩) n n) xs :=
 bF.read (h1:=fun _=>rfl) (jD (fun b:Int=>Value.int .i32 b) h t xs n hn hm 0 (Nat.zero_le _) hu) (fun _ _ k=>k)
def qH (r:Int):List Int->Bool
 |a::b::t=>decide (a<=r/\r<=b) ||qH r t
 |_=>false
theorem HS (hi:i+1<l.length):qH r (l.drop i)=(decide (l.getD i 0<=r/\r<=l.getD (i+1) 0) ||qH r (l.drop (i+2))):=by
 rw[List.drop_eq_getElem_cons (by omega),List.drop_eq_getElem_cons hi,qH,List.getD_eq_getElem?_getD,List.getD_eq_getElem?_getD,List.getElem?_eq_getElem hi,List.getElem?_eq_getElem (show i<l.length by omega)];rfl
theorem Jo (hi:¬i+1<l.length):qH r (l.drop i)=false:=by
 have hl:(l.drop i).length<=1:=by rw[List.length_drop];omega
 match l.drop i,hl with
 | [],_=>rfl
 | [_],_=>rfl
theorem qv {O:Nat->Prop}(hv:aR Ou h O v l) (hl:l.length<=1000) (r:Int):aj Tryz.prog 148 #[.int .i32 r,v] h (aN fun q h'=>q= .bool (qH r l)/\h'=h):=by
 obtain⟨va,vn,vc,rfl,hvs⟩:=id hv.open;have hvl:l.length=vn:=hvs.len;subst hvl;refine bf ?_;refine aa ?_;refine eR (σ:=Nat) (fun i=>[(5,.int .i64 (i:Nat))]) (fun i g=>i<=1001/\qH r l=qH r (l.drop i)/\g=h) (fun i=>1001-i) (0) ⟨Nat.zero_le _,rfl,rfl⟩ rfl ?_;rintro i g ⟨hi,ha,hg⟩ ih;subst hg;refine aa ?_;refine aQ (fun hlt=>?_) (fun hlt=>?_)
 · have hlt2:i+1<l.length:=by omega
   obtain⟨b1,o1,x,ha1,_,hx,hrow1⟩:=hvs.at (i:=i) (by omega);obtain⟨b2,o2,y,ha2,_,hy,hrow2⟩:=hvs.at (i:=i+1) hlt2;have hgx:l.getD i 0=x:=by rw[List.getD_eq_getElem?_getD,hx];rfl
   have hgy:l.getD (i+1) 0=y:=by rw[List.getD_eq_getElem?_getD,hy];rfl
   rw[HS hlt2,hgx,hgy] at ha
   iterate 4 refine aI ?_
   refine dM [(27,.bool (decide (x<=r/\r<=y)))] rfl ?_ ?_
   · iterate 3 refine aU ?_
     refine xp rfl (bT rfl rfl i rfl ha1) ?_;refine xp rfl (aA rfl hrow1) ?_;refine aa ?_;refine dx 19 (fun g1=>?_) (fun g1=>?_)
     · have g1:=of_decide_eq_true g1
       iterate 4 refine aU ?_
       refine xp rfl (bT rfl rfl (i+1) rfl ha2) ?_;refine xp rfl (aA rfl hrow2) ?_;refine aa ?_;exact aL rfl ⟨ak rfl (by rw[decide_eq_decide];exact⟨fun q=>⟨g1,q⟩,fun q=>q.2⟩),sb rfl⟩
     · have g1:=of_decide_eq_false g1;refine aa ?_;exact aL rfl ⟨ak rfl (by rw[decide_eq_false (fun q=>g1 q.1)]),sb rfl⟩
   · refine aQ (fun hq=>?_) (fun hq=>?_)
     · rw[decide_eq_true hq,Bool.true_or] at ha;rw[ha];refine aa ?_;refine aW ?_;exact⟨_,rfl,rfl,rfl⟩
     · rw[decide_eq_false hq,Bool.false_or] at ha;refine aa ?_;exact ih (i+2) ⟨by omega,ha,rfl⟩
 · rw[Jo (by omega)] at ha;rw[ha];refine aa ?_;refine aW ?_;exact⟨_,rfl,rfl,rfl⟩
def IZ:List Int:=[127,159,768,879,8203,8207,8232,8238,65024,65039,65279,65279]
def Iu:List Int:=[4352,4447,11904,12350,12353,13311,13312,19903,19968,40959,40960,42191,44032,55203,63744,64255,65072,65135,65281,65376,65504,65510,127744,128591,129280,129535,131072,262141]
theorem IG (r:Nat):fj r=[]↔1114111<r\/(55296<=r/\r<=57343):=by
 unfold fj
 repeat' split
 all_goals simp_all
theorem K5 (r:Nat):(fj r=[]\/r<32\/qH r IZ=true)↔((r:Int)<0\/1114111<(r:Int)\/Ik hidL r=true):=by
 rw[IG];simp only[qH,IZ,Ik,hidL,List.any_cons,List.any_nil,Bool.or_eq_true,Bool.and_eq_true,decide_eq_true_eq,Bool.or_false];omega
theorem KC (r:Nat):qH r Iu=Ik rz r:=by
 rw[Bool.eq_iff_iff];simp only[qH,Iu,Ik,rz,List.any_cons,List.any_nil,Bool.or_eq_true,Bool.and_eq_true,decide_eq_true_eq,Bool.or_false]
theorem jQ (r:Nat) (hr:r<2147483648):aj Tryz.prog 97 #[.int .i32 (r:Nat)] h (aN fun q h'=>q= .int .i64 (cU r)/\ah h h'):=by
 have hp:=vQ (h:=h) r hr;have hbz:=aC (fj r);have hhid:=K5 r;unfold cU;refine bf ?_;refine aI ?_;refine bU ?_;refine aU ?_;refine bJ ?_
 iterate 2 refine aI ?_
 refine BS (fun(z:Unit) (h':ai)=>ah h h') (fun(z:Unit)=>[(14,.bool (decide ((r:Int)<0\/1114111<(r:Int)\/Ik hidL r=true)))]) rfl ?_ ?_
 · refine aa ?_;refine xo rfl (aG rfl hp) ?_;rintro _ h1 ⟨rfl,e1⟩;refine aa ?_;refine dx 6 (fun g1=>?_) (fun g1=>?_)
   · have g1:=of_decide_eq_true g1;refine aa ?_;exact ef () e1 ⟨ak rfl (by rw[decide_eq_true (hhid.1 (.inl (by have:=congrArg ByteArray.size g1;rw[hbz] at this;exact List.length_eq_zero_iff.1 this)))]),sb rfl⟩
   · have g1:=of_decide_eq_false g1;have g1:¬fj r=[]:=fun q=>g1 (by rw[q];rfl)
     refine aa ?_;refine dx 10 (fun g2=>?_) (fun g2=>?_)
     · have g2:=of_decide_eq_true g2;refine aa ?_;exact ef () e1 ⟨ak rfl (by rw[decide_eq_true (hhid.1 (.inr (.inl (by omega))))]),sb rfl⟩
     · have g2:=of_decide_eq_false g2;refine aa ?_;refine xo rfl (kI [_,_,_,_,_,_,_,_,_,_,_,_]) ?_;rintro _ h2 ⟨rfl,hh2⟩;have hv2:aR Ou h2 (fun _=>False) (.slice (some ⟨h1.size,0,none⟩) 12 12) IZ:=by rw[hh2];exact AX h1 _ IZ 12 rfl (by decide) rfl
       refine xo rfl (aG rfl (qv hv2 (by decide) r)) ?_;rintro _ h3 ⟨rfl,hh3⟩;refine aa ?_;subst hh3;exact ef () (e1.trans (by rw[hh2];exact Ext.push _ _ _)) ⟨ak rfl (by rw[Bool.eq_iff_iff,decide_eq_true_iff,<-hhid];exact⟨fun q=>.inr (.inr q),fun q=>q.elim (fun q=>absurd q g1) (fun q=>q.elim (fun q=>absurd q (by omega)) id)⟩),sb rfl⟩
 · rintro-h1 e1;refine aQ (fun q1=>?_) (fun q1=>?_)
   · rw[if_pos q1];refine aa ?_;refine aW ?_;exact⟨_,rfl,rfl,e1⟩
   · rw[if_neg q1];refine aa ?_;refine xo rfl (kI [_,_,_,_,_,_,_,_,_,_,_,_,_,_,_,_,_,_,_,_,_,_,_,_,_,_,_,_]) ?_;rintro _ h2 ⟨rfl,hh2⟩;have hv2:aR Ou h2 (fun _=>False) (.slice (some ⟨h1.size,0,none⟩) 28 28) Iu:=by rw[hh2];exact AX h1 _ Iu 28 rfl (by decide) rfl
     have e2:ah h1 h2:=by rw[hh2];exact Ext.push _ _ _
     refine xo rfl (aG rfl (qv hv2 (by decide) r)) ?_;rintro _ h3 ⟨rfl,hh3⟩;subst hh3;rw[KC r];refine aa ?_;refine oL (fun q2=>?_) (fun q2=>?_)
     · rw[if_pos q2];refine aa ?_;refine aW ?_;exact⟨_,rfl,rfl,e1.trans e2⟩
     · rw[if_neg (by rw[q2];decide)];refine aa ?_;refine aW ?_;exact⟨_,rfl,rfl,e1.trans e2⟩
theorem Cc (r:Nat) (hr:r<2147483648):aj Tryz.prog 60 #[.int .i32 (r:Nat)] h (aN fun q h'=>q= .int .i32 (JW r)/\ah h h'):=by
 unfold JW;refine bf ?_;refine aa ?_;refine xo rfl (aG rfl (jQ r hr)) ?_;rintro _ g1 ⟨rfl,e1⟩;refine aa ?_;refine aQ (fun q=>?_) (fun q=>?_)
 · rw[if_pos q];refine aa ?_;refine aW ?_;exact⟨_,rfl,rfl,e1⟩
 · rw[if_neg q];refine aa ?_;refine aW ?_;exact⟨_,rfl,rfl,e1⟩
def cy (rows cols:Int) (v:Value) (row col:Int):List Value:=[.int .i64 rows,.int .i64 cols,v,.int .i64 row,.int .i64 col]
theorem jw {a b c d:Int}(hv:v.oneCell'=true):∀u∈cy a b v c d,u.oneCell'=true:=fun u hu=>by
 simp only[cy,List.mem_cons,List.not_mem_nil,or_false] at hu
 rcases hu with rfl|rfl|rfl|rfl|rfl
 · rfl
 · rfl
 · exact hv
 · rfl
 · rfl
theorem Fj (xs:List Nat):(xs.flatMap kC).length=xs.length*6:=dz (enc:=kC) (sz:=6) (fun _=>rfl) xs
theorem C3 {L:List Value}{xs:List Nat}(hL:L=xs.flatMap kC) (r:Nat) (hi:i<xs.length):over L (0+i*6) (kC r)=(xs.set i r).flatMap kC:=by
 subst hL;have h:=lQ (sz:=6) (xs.map kC) i (kC r) (fun c hc=>by obtain⟨x,_,rfl⟩:=List.mem_map.1 hc;rfl) rfl (by simpa using hi);rw[<-List.map_set] at h;rw[List.flatMap_def,List.flatMap_def,h,over,Nat.zero_add];rfl
structure qI (h:ai) (g:Nat) (xs:List Nat):Prop where
 blk:az h g 58 (xs.flatMap kC)
 len:xs.length=80
abbrev xl (g:Nat):Value:=.slice (some ⟨g,0,none⟩) 80 80
section
variable {h h':ai}{g:Nat}{xs:List Nat}
theorem qI.af (k:qI h g xs) (e:ah h h'):qI h' g xs:=⟨k.blk.af e,k.len⟩
structure Im (h:ai) (g:Nat) (xs:List Nat):Prop where
 row:Lw.rowAt h g 0 (xs.flatMap kC)
 len:xs.length=80
abbrev LD (g c:Nat):Value:=.slice (some ⟨g,0,none⟩) 80 c
theorem qI.rZ (k:qI h g xs):Im h g xs:=⟨k.blk.row,k.len⟩
theorem Im.af (k:Im h g xs) (e:ah h h'):Im h' g xs:=⟨e.rowAt (fun q=>q) k.row,k.len⟩
theorem Im.at (k:Im h g xs) (hi:i<80):∃r,xs[i]? =some r/\Lw.rowAt h g (0+i*6) (kC r):=by
 have hl:=k.len;obtain⟨r,hx⟩:∃r,xs[i]? =some r:=⟨_,List.getElem?_eq_getElem (by omega)⟩
 exact⟨r,hx,fun j v hv=>by rw[Nat.add_assoc];exact k.row _ _ (dG (enc:=kC) (sz:=6) (fun _=>rfl) xs i r j v hx hv)⟩
theorem qI.at (k:qI h g xs){i:Nat}(hi:i<80):∃r,xs[i]? =some r/\Lw.rowAt h g (0+i*6) (kC r):=k.rZ.at hi
theorem qI.cells (k:qI h g xs):∃L,az h g 58 L/\L.length=480/\∀i r,i<80->over L (0+i*6) (kC r)=(xs.set i r).flatMap kC :=
 ⟨_,k.blk,by rw[Fj,k.len],fun i r hi=>C3 rfl r (by rw[k.len];exact hi)⟩
end
def fL (a b:Int):Bool:=decide (2<=a/\a<=100/\8<=b/\b<=200)
theorem jV (a b:Int):aj Tryz.prog 80 #[.int .i64 a,.int .i64 b] h (aN fun r h'=>r= .bool (fL a b)/\h'=h):=by
 unfold fL;refine bf ?_;refine aI ?_;refine bU ?_;refine aU ?_;refine bJ ?_;refine aI ?_;refine dM [(4,.bool (decide (2<=a/\a<=100/\8<=b/\b<=200)))] rfl ?_ ?_
 · refine aa ?_;refine dx 7 (fun g1=>?_) (fun g1=>?_)
   · have h1:=of_decide_eq_true g1;refine aa ?_;refine dx 11 (fun g2=>?_) (fun g2=>?_)
     · have h2:=of_decide_eq_true g2;refine aa ?_;refine dx 15 (fun g3=>?_) (fun g3=>?_)
       · have h3:=of_decide_eq_true g3;refine aa ?_;exact aL rfl ⟨ak rfl (by exact decide_eq_decide.2 (by omega)),sb rfl⟩
       · refine aa ?_;exact aL rfl ⟨ak rfl (by have:=of_decide_eq_false g3;exact(decide_eq_false (by omega)).symm),sb rfl⟩
     · refine aa ?_;exact aL rfl ⟨ak rfl (by have:=of_decide_eq_false g2;exact(decide_eq_false (by omega)).symm),sb rfl⟩
   · refine aa ?_;exact aL rfl ⟨ak rfl (by have:=of_decide_eq_false g1;exact(decide_eq_false (by omega)).symm),sb rfl⟩
 · refine aW ?_;exact⟨_,rfl,rfl,rfl⟩
theorem sY (hW:jH h):aj Tryz.prog 52 #[.int .i64 4,.int .i64 20] h (aN fun r h'=>(∃g,r= .tuple #[.agg (cy 4 20 (xl g) 0 0).toArray,.int .i64 0]/\h.size<=g/\qI h' g (List.replicate 80 32))/\ah h h'):=by
 refine bf ?_;refine aa ?_;refine xo rfl (cC) ?_;rintro _ h1 ⟨rfl,k4,e1,z1⟩;refine aa ?_;refine xo rfl (aG rfl (jV 4 20)) ?_;rintro _ h2 ⟨rfl,hh2⟩;refine aa ?_;subst hh2;refine bV rfl (by decide) ?_
 iterate 2 refine aI ?_
 refine bU ?_
 iterate 4 refine aU ?_
 refine xp rfl (an.dK rfl rfl ⟨by decide,by decide⟩) ?_;refine xo rfl (aH.sD underlying39 H.yB H.Kz rfl rfl (n:=80) (by decide) (by decide) (by decide)) ?_;rintro _ h3 ⟨rfl,kr,e3,z3⟩;refine xp rfl (au (H.tY _ _ _ _ _) rfl) ?_;refine xo rfl (cC) ?_;rintro _ h4 ⟨rfl,k6,e4,z4⟩;refine aY rfl (bM rfl rfl k6) ?_;rintro _ h5 ⟨rfl,k5,x5,z5⟩;have k5:az h5 h3.size 41 (cy 4 20 (xl h2.size) 0 0):=k5;have e05:ah h2 h5:=ah.only (e3.trans e4) x5 (by omega);have k4:=k4.af e05;obtain⟨L,hL,kL⟩:∃L:List Value,L.length=480/\az h5 h2.size 58 L:=⟨_,by simp[madeCells],(kr.af e4).ext x5 (by omega)⟩
 refine aa ?_;refine xp rfl (aA rfl (k5.cell (i:=2) rfl)) ?_;refine aa ?_;refine eR (σ:=Nat) (fun i=>[(23,.int .i64 (i:Nat))]) (fun i h'=>i<=80/\Ext (fun b=>b=h2.size) h5 h'/\∃L,L.length=480/\az h' h2.size 58 L/\L.take (i*6)=(List.replicate i 32).flatMap kC) (fun i=>80-i) (0) ⟨Nat.zero_le _,av _ _,L,hL,kL,rfl⟩ rfl ?_;rintro i g1 ⟨hi,eg,L,hL,kL,ht⟩ ih;have hn4:¬h.size=h2.size:=by omega
 have hn6:¬h3.size=h2.size:=by omega
 refine aa ?_;refine aQ (fun hlt=>?_) (fun hlt=>?_)
 · have hi80:i<80:=by omega
   have hb:Lw.rowAt g1 0 0 (kC 32):=eg.rowAt (fun q=>by have:=bS hW.gb (by decide);omega) ((hW.af (e1.trans e05)).gb);refine aa ?_;refine xp rfl (aA rfl ((k5.ext eg hn6).cell (i:=2) rfl)) ?_;refine aa ?_;refine xp rfl (bI rfl hb) ?_;refine xp rfl (bT rfl rfl i rfl rfl) ?_;refine aY rfl (bM rfl rfl kL ((LK 32))) ?_;rintro _ g2 ⟨rfl,k2,x2,z2⟩;refine aa ?_;have hlt6:(L.take (0+i*6)).length=i*6:=by rw[List.length_take,hL];omega
   have k2:az g2 h2.size 58 (L.take (0+i*6)++kC 32++L.drop (0+i*6+6)):=k2
   exact ih (i+1) ⟨hi80,eg.trans x2,_,by rw[List.length_append,List.length_append,hlt6,List.length_drop,hL];show i*6+6+_=480;omega,k2,by
    have e6:(i+1)*6=(L.take (0+i*6)++kC 32).length:=by rw[List.length_append,hlt6];show _=i*6+6;omega
    rw[e6,List.take_left,List.replicate_succ',List.flatMap_append,<-ht,Nat.zero_add];rfl⟩ (by omega)
 · obtain rfl:i=80:=by omega
   rw[List.take_of_length_le (by omega)] at ht;refine aa ?_;refine xp rfl (bI rfl ((k5.ext eg hn6).row)) ?_;refine aY rfl (bM rfl rfl ((k4.ext eg hn4)) ((jw rfl))) ?_;rintro _ g3 ⟨rfl,k3,x3,z3⟩;refine aa ?_;have k3:az g3 h.size 41 (cy 4 20 (xl h2.size) 0 0):=k3;refine fG (fT rfl k3.row (kZ fF)) ?_;exact⟨_,rfl,⟨h2.size,rfl,by omega,ht▸kL.ext x3 (by omega),rfl⟩,ah.only (ah.only (e1.trans e05) eg (by omega)) x3 (Nat.le_refl _)⟩
abbrev qY:=Int×Bool×Bool×Bool
abbrev cY:=Int×Int×qY
abbrev pP:qY:=(0,false,false,false)
abbrev cu:cY:=(32,1,pP)
def jL (s:qY):List Value:=[.int .i64 s.1,.bool s.2.1,.bool s.2.2.1,.bool s.2.2.2]
def cz (c:cY):List Value:=[.int .i32 c.1,.int .i64 c.2.1,.int .i64 c.2.2.1,.bool c.2.2.2.1,.bool c.2.2.2.2.1,.bool c.2.2.2.2.2]
theorem qT (c:cY):∀v∈cz c,v.oneCell'=true:=fun v hv=>by simp[cz] at hv;rcases hv with rfl|rfl|rfl|rfl|rfl|rfl<;>rfl
theorem PK (c:qY):∀v∈jL c,v.oneCell'=true:=fun v hv=>by simp[jL] at hv;rcases hv with rfl|rfl|rfl|rfl<;>rfl
def Pk:fS cY:=.record 6 (by decide) cz (fun _=>rfl) qT
abbrev zA (h:ai) (g:Nat) (xs:List cY):Prop:=az h g 58 (xs.flatMap cz)
abbrev qS (g n:Nat):Value:=.slice (some ⟨g,0,none⟩) n n
theorem cZ (xs:List cY):(xs.flatMap cz).length=xs.length*6:=dz (enc:=cz) (sz:=6) (fun _=>rfl) xs
theorem Bo {L:List Value}{xs:List cY}(hL:L=xs.flatMap cz) (c:cY) (hi:i<xs.length):over L (0+i*6) (cz c)=(xs.set i c).flatMap cz:=by
 subst hL;have h:=lQ (sz:=6) (xs.map cz) i (cz c) (fun c hc=>by obtain⟨x,_,rfl⟩:=List.mem_map.1 hc;rfl) rfl (by simpa using hi);rw[<-List.map_set] at h;rw[List.flatMap_def,List.flatMap_def,h,over,Nat.zero_add];rfl
abbrev bX (xs:List cY) (i:Nat):cY:=xs.getD i cu
section
variable {h h':ai}{g n:Nat}{xs:List cY}
theorem iI (k:zA h g xs) (hn:xs.length=n):∃L,az h g 58 L/\L.length=n*6/\∀i c,i<n->over L (0+i*6) (cz c)=(xs.set i c).flatMap cz :=
 ⟨_,k,by rw[cZ,hn],fun i r hi=>Bo rfl r (by rw[hn];exact hi)⟩
theorem jA {v:Nat}(k:Lw.rowAt h g v (xs.flatMap cz)) (hi:i<xs.length):Lw.rowAt h g (v+i*6) (cz (bX xs i)):=by
 have hx:xs[i]? =some (bX xs i):=by rw[bX,List.getD_eq_getElem?_getD,List.getElem?_eq_getElem hi];rfl
 exact fun j v hv=>by rw[Nat.add_assoc];exact k _ _ (dG (enc:=cz) (sz:=6) (fun _=>rfl) xs i _ j v hx hv)
theorem HB (k:zA h g xs) (hi:i<xs.length):Lw.rowAt h g (0+i*6) (cz (bX xs i)):=jA k.row hi
end
theorem qf (hW:jH h){rows cols:Nat}(hr:2<=rows/\rows<=100) (hc:8<=cols/\cols<=200):aj Tryz.prog 52 #[.int .i64 (rows:Nat),.int .i64 (cols:Nat)] h (aN fun r h'=>(∃g,r= .tuple #[.agg (cy rows cols (qS g (rows*cols)) 0 0).toArray,.int .i64 0]/\h.size<=g/\zA h' g (List.replicate (rows*cols) cu))/\ah h h'):=by
 have hm:fL (rows:Nat) (cols:Nat)=true:=decide_eq_true (by omega);have hmul:(rows:Int)*(cols:Int)=((rows*cols:Nat):Int):=by push_cast;rfl
 have hlo:rows*cols<=20000:=Nat.mul_le_mul hr.2 hc.2;refine bf ?_;refine aa ?_;refine xo rfl (cC) ?_;rintro _ h1 ⟨rfl,k4,e1,z1⟩;refine aa ?_;refine xo rfl (aG rfl (jV rows cols)) ?_;rintro _ h2 ⟨rfl,hh2⟩;subst hh2;rw[hm];refine aa ?_;refine bV rfl (by decide) ?_
 iterate 2 refine aI ?_
 refine bU ?_
 iterate 4 refine aU ?_
 refine xp rfl (an.dK rfl rfl (by rw[hmul];omega)) ?_;rw[hmul];generalize rows*cols=n at *;refine xo rfl (aH.sD underlying39 H.yB H.Kz rfl rfl (n:=n) (by omega) (by omega) (by decide)) ?_;rintro _ h3 ⟨rfl,kr,e3,z3⟩;refine xp rfl (au (H.tY _ _ _ _ _) rfl) ?_;refine xo rfl (cC) ?_;rintro _ h4 ⟨rfl,k6,e4,z4⟩;refine aY rfl (bM rfl rfl k6) ?_;rintro _ h5 ⟨rfl,k5,x5,z5⟩;have k5:az h5 h3.size 41 (cy rows cols (qS h2.size n) 0 0):=k5;have e05:ah h2 h5:=ah.only (e3.trans e4) x5 (by omega);have k4:=k4.af e05;obtain⟨L,hL,kL⟩:∃L:List Value,L.length=n*6/\az h5 h2.size 58 L:=⟨_,by simp[madeCells],(kr.af e4).ext x5 (by omega)⟩
 refine aa ?_;refine xp rfl (aA rfl (k5.cell (i:=2) rfl)) ?_;refine aa ?_;refine eR (σ:=Nat) (fun i=>[(23,.int .i64 (i:Nat))]) (fun i h'=>i<=n/\Ext (fun b=>b=h2.size) h5 h'/\∃L,L.length=n*6/\az h' h2.size 58 L/\L.take (i*6)=(List.replicate i cu).flatMap cz) (fun i=>n-i) (0) ⟨Nat.zero_le _,av _ _,L,hL,kL,rfl⟩ rfl ?_;rintro i g1 ⟨hi,eg,L,hL,kL,ht⟩ ih;have hn4:¬h.size=h2.size:=by omega
 have hn6:¬h3.size=h2.size:=by omega
 refine aa ?_;refine aQ (fun hlt=>?_) (fun hlt=>?_)
 · have hin:i<n:=by omega
   have hb:Lw.rowAt g1 0 0 (cz cu):=eg.rowAt (fun q=>by have:=bS hW.gb (by decide);omega) ((hW.af (e1.trans e05)).gb);refine aa ?_;refine xp rfl (aA rfl ((k5.ext eg hn6).cell (i:=2) rfl)) ?_;refine aa ?_;refine xp rfl (bI rfl hb) ?_;refine xp rfl (bT rfl rfl i rfl rfl) ?_;refine aY rfl (bM rfl rfl kL ((qT cu))) ?_;rintro _ g2 ⟨rfl,k2,x2,z2⟩;refine aa ?_;have hlt6:(L.take (0+i*6)).length=i*6:=by rw[List.length_take,hL];omega
   have k2:az g2 h2.size 58 (L.take (0+i*6)++cz cu++L.drop (0+i*6+6)):=k2
   exact ih (i+1) ⟨hin,eg.trans x2,_,by rw[List.length_append,List.length_append,hlt6,List.length_drop,hL];show i*6+6+_=n*6;omega,k2,by
    have e6:(i+1)*6=(L.take (0+i*6)++cz cu).length:=by rw[List.length_append,hlt6];show _=i*6+6;omega
    rw[e6,List.take_left,List.replicate_succ',List.flatMap_append,<-ht,Nat.zero_add];rfl⟩ (by omega)
 · obtain rfl:i=n:=by omega
   rw[List.take_of_length_le (by omega)] at ht;refine aa ?_;refine xp rfl (bI rfl ((k5.ext eg hn6).row)) ?_;refine aY rfl (bM rfl rfl ((k4.ext eg hn4)) ((jw rfl))) ?_;rintro _ g3 ⟨rfl,k3,x3,z3⟩;refine aa ?_;have k3:az g3 h.size 41 (cy rows cols (qS h2.size i) 0 0):=k3;refine fG (fT rfl k3.row (kZ fF)) ?_;exact⟨_,rfl,⟨h2.size,rfl,by omega,by have:=kL.ext x3 (by omega);rw[ht] at this;exact this⟩,ah.only (ah.only (e1.trans e05) eg (by omega)) x3 (Nat.le_refl _)⟩
abbrev Pr (xs:List Nat):Prop:=∀r∈xs,32<=r/\r<127
theorem yu:aj Tryz.prog 199 #[.agg #[.int .i64 0,.bool false,.bool false,.bool false]] h (aN fun r h'=>r= .bool true/\ah h h'):=by
 refine bf ?_;refine aa ?_;refine xo rfl (cM) ?_;rintro _ h1 ⟨rfl,k1,e1,z1⟩;have k1:az h1 h.size 56 [.int .i64 0,.bool false,.bool false,.bool false]:=k1;refine aU ?_;refine bJ ?_;refine aI ?_;refine dM [(2,.bool true)] rfl ?_ ?_
 · refine aa ?_;refine xp rfl (aA rfl (k1.cell (i:=0) rfl)) ?_;refine aa ?_;refine RW.aO (d:=6) (b':=true) rfl (by simp) ?_;refine aa ?_;refine xp rfl (aA rfl (k1.cell (i:=0) rfl)) ?_;refine aa ?_;exact aL rfl ⟨ak rfl (by simp),sb rfl⟩
 · refine aW ?_;exact⟨_,rfl,rfl,e1⟩
theorem CW (hW:jH h){xs:List Nat}(hv:aR Oq h (fun _=>False) v xs) (hp:Pr xs) (hl:xs.length<=1000):aj Tryz.prog 145 #[v] h (aN fun r h'=>r= .bool true/\ah h h'):=by
 refine bf ?_;refine aa ?_;refine zB (σ:=Value×List Nat) (fun q=>[(0,q.1)]) (fun q h'=>aR Oq h' (fun _=>False) q.1 q.2/\ah h h'/\Pr q.2/\q.2.length<=1000) (fun q=>q.2.length) ((v,xs)) ⟨hv,av _ _,hp,hl⟩ ?_;rintro⟨v,xs⟩ g ⟨hv,eg,hp,hl⟩ ih
 try dsimp only
 dsimp only at hv hp hl;obtain⟨oa,n,c,rfl,hs⟩:=hv.open;have hn:=hs.len;have hc:=hs.le;refine aa ?_;refine aQ (fun hgt=>?_) (fun hgt=>?_)
 · obtain⟨b,o,r,ha,_,hr,hrow⟩:=hs.fC (i:=0) (by omega);obtain⟨p0,p1⟩:=hp r (List.mem_of_getElem? hr)
   iterate 3 refine aI ?_
   refine bU ?_;refine aU ?_;refine xp rfl (bT rfl rfl 0 rfl ha) ?_;refine xp rfl (bI rfl hrow) ?_;refine xo rfl (cC) ?_;rintro _ g1 ⟨rfl,k1,e1,z1⟩;refine aY rfl (bM rfl rfl k1 ((LK r))) ?_;rintro _ g2 ⟨rfl,k2,x2,z2⟩;have e2:ah g g2:=ah.only e1 x2 (Nat.le_refl _);have k2:az g2 g.size 58 (kC r):=k2;refine aa ?_;refine xp rfl (aA rfl (k2.cell (i:=1) rfl)) ?_;refine aa ?_;refine bV rfl (by decide) ?_;refine aa ?_;refine bV rfl (by decide) ?_;refine aa ?_;refine bV rfl (by simp;omega) ?_;refine aa ?_;refine xp rfl (aA rfl (k2.cell (i:=0) rfl)) ?_;refine xo rfl (aG rfl (l7 ((hW.af eg).af e2) p0 p1)) ?_;rintro _ g3 ⟨rfl,e3⟩;refine aa ?_;refine bV rfl (by decide) ?_
   have k3:Lw.rowAt g3 g.size (0+2) [.int .i64 0,.bool false,.bool false,.bool false]:=fun j v hv=>by
    have k:=k2.af e3
    match j,hv with
    | 0,hv=>cases hv;exact k.cell (i:=2) rfl
    | 1,hv=>cases hv;exact k.cell (i:=3) rfl
    | 2,hv=>cases hv;exact k.cell (i:=4) rfl
    | 3,hv=>cases hv;exact k.cell (i:=5) rfl
   refine aa ?_;refine xp rfl (bI rfl k3) ?_;refine xo rfl (aG rfl yu) ?_;rintro _ g4 ⟨rfl,e4⟩;refine aa ?_;refine bV rfl (by decide) ?_;refine aI ?_;refine G.eB [(31,.bool false)] [(0,_),(3,_),(4,_),(7,_),(13,_)] ⟨rfl,rfl,rfl,rfl,rfl,trivial⟩ func145 H.mixed rfl (by kernel_rfl) ?_ ?_
   · iterate 3 refine mU ?_
     refine RQ.aO (d:=34) (b':=false) rfl (by simp) ?_;refine aa ?_;exact jq rfl ⟨ak rfl (rfl),sb rfl⟩
   · refine bV rfl (by decide) ?_;refine aa ?_;refine xp rfl (an.fI underlying39 H.lu rfl rfl 1 rfl (by omega)) ?_;refine aa ?_;have e24:=(e2.trans e3).trans e4;exact ih (.slice (aP oa 1 6 c) (n-1) (c-1),(xs.take n).drop 1) ⟨((hs.part (i:=1) (j:=n) (by omega) (Nat.le_refl _)).shut).af e24,eg.trans e24,fun r hr=>hp r (List.mem_of_mem_take (List.mem_of_mem_drop hr)),by show ((xs.take n).drop 1).length<=1000;rw[List.length_drop,List.length_take];omega⟩ (by show ((xs.take n).drop 1).length<xs.length;rw[List.length_drop,List.length_take];omega)
 · refine aa ?_;refine aW ?_;exact⟨_,rfl,rfl,eg⟩
theorem yM {l cs cn:Nat}(hc:80<=c){J:Nat->ai->Prop}(hread:∀j h,J j h->az h cs 39 [LD g c]/\az h cn 3 [.int .i64 20])
 (hy:∀j h,J j h->j<4->cV Tryz.prog l #[.slice (some ⟨g,j*20*6,none⟩) 20 20] h (aN fun r h'=>r= .bool true/\J (j+1) h')) (h0:J 0 h) :
 aj Tryz.prog 198 #[.func (.yield l) #[] #[],.pointer (some ⟨cs,0,none⟩),.pointer (some ⟨cn,0,none⟩)] h (aN fun _ h'=>J 4 h'):=by
 refine bf ?_;refine aI ?_;refine bU ?_;refine aU ?_;refine bJ ?_;refine aI ?_;refine nC (σ:=Nat) (fun j=>[(0,.func (.yield l) #[] #[]),(1,.pointer (some ⟨cs,0,none⟩)),(2,.pointer (some ⟨cn,0,none⟩)),(4,.int .i64 (j*20:Nat))]) (fun j h'=>J j h'/\j<=4) (fun j=>4-j) (0) rfl ⟨rfl,rfl,rfl,rfl,trivial⟩ ⟨h0,Nat.zero_le _⟩ ?_;rintro j h1 ⟨hJ,hj⟩ ih;obtain⟨ks,kn⟩:=hread j h1 hJ;refine G.seq rfl ?_;refine Ma func198 1 rfl ?_;refine xp rfl (bn H.Di rfl (ks.cell (i:=0) rfl)) ?_;refine xp rfl (an.gO underlying39 rfl) ?_;refine uv 1 [0,1,2,4,9] rfl ?_;refine wI rfl rfl (fun hlt=>?_) (fun hlt=>?_)
 · have hj4:j<4:=by omega
   refine fR rfl ?_;refine G.seq rfl ?_;refine G.block rfl rfl ?_;refine G.seq rfl ?_;refine G.eB [(5,.int .i64 20)] [(0,_),(1,_),(2,_),(4,_),(9,_)] ⟨rfl,rfl,rfl,rfl,rfl,trivial⟩ func198 H.mixed rfl (by kernel_rfl) ?_ ?_
   · refine RQ.aB rfl rfl rfl rfl (bn H.BC rfl (kn.cell (i:=0) rfl)) ?_;refine RQ.aB rfl rfl rfl rfl (bn H.Di rfl (ks.cell (i:=0) rfl)) ?_;refine RQ.aB rfl rfl rfl rfl (aD rfl) ?_;refine RQ.aB rfl rfl rfl rfl (an.fI underlying39 H.lu rfl rfl (j*20) rfl (by omega)) ?_;refine RQ.aB rfl rfl rfl rfl (an.gO underlying39 rfl) ?_;refine RQ.aB rfl rfl rfl rfl (an.min2 rfl rfl) ?_;refine RQ.aB rfl rfl rfl rfl (an.assign rfl) ?_;refine qZ rfl ?_;exact⟨rfl,congrArg (fun x:Int=>some (Value.int .i64 x)) (by split<;>omega),rfl,rfl,rfl,rfl,rfl,trivial⟩
   · have hp:aP (some ⟨g,0,none⟩) (j*20) 6 (j*20+20)=some ⟨g,j*20*6,none⟩:=by
      unfold aP;rw[if_neg (by omega),Option.map_some,Addr.add,Nat.zero_add];split
      · rename_i e;rw[e]
      · rfl
     refine G.seq rfl ?_;refine G.Cf func198 rfl ?_;refine aV.aB rfl rfl rfl rfl rfl (aD rfl) ?_;refine aV.aB rfl rfl rfl rfl rfl (bn H.Di rfl (ks.cell (i:=0) rfl)) ?_;refine aV.aB rfl rfl rfl rfl rfl (aD rfl) ?_;refine aV.aB rfl rfl rfl rfl rfl (aD rfl) ?_;refine aV.aB rfl rfl rfl rfl rfl (aD rfl) ?_;refine aV.aB rfl rfl rfl rfl rfl (an.dZ rfl rfl ⟨by omega,by omega⟩) ?_;refine aV.aB rfl rfl rfl rfl rfl (aD rfl) ?_;refine aV.aB rfl rfl rfl rfl rfl (aD rfl) ?_;refine aV.aB rfl rfl rfl rfl rfl (an.dZ rfl rfl ⟨by omega,by omega⟩) ?_;refine aV.aB rfl rfl rfl rfl rfl (an.pR underlying39 H.lu rfl rfl (j*20) rfl rfl (j*20+20) rfl rfl (j*20+20) rfl (by omega) (by omega) (by omega)) ?_;refine aV.yield (vs:=[_]) rfl rfl rfl rfl rfl rfl rfl (((by rw[hp,show j*20+20-j*20=20 by omega];exact hy j h1 hJ hj4))) ?_;rintro _ h2 ⟨rfl,hJ2⟩;refine aV.aB rfl rfl rfl rfl rfl (an.se rfl) ?_;refine aX rfl ?_;refine xu [0,1,2,4,5,9,30] rfl ?_;refine jm rfl rfl (fun hc=>absurd hc (by decide)) (fun _=>?_);obtain⟨ks2,kn2⟩:=hread (j+1) h2 hJ2;refine fR rfl ?_;refine G.gr ?_;refine G.eE func198 rfl ?_;refine oH 1 rfl ?_;refine xp rfl (bn H.BC rfl (kn2.cell (i:=0) rfl)) ?_;refine xp rfl (an.dZ rfl rfl ⟨by omega,by omega⟩) ?_;refine uv 1 [0,1,2,4,5,9,30] rfl ?_;exact ih (j+1) _ _ ⟨rfl,rfl,rfl,congrArg (fun x:Int=>some (Value.int .i64 x)) (by omega),trivial⟩ ⟨hJ2,by omega⟩ (by omega)
 · obtain rfl:j=4:=by omega
   refine aa ?_;refine gE ?_;exact⟨_,rfl,hJ⟩
theorem Bm:aj Tryz.prog 144 #[LD g c,.int .i64 20] h (aN fun r h'=>r= .func (.func 198) #[] #[.pointer (some ⟨h.size,0,none⟩),.pointer (some ⟨h.size+1,0,none⟩)]/\az h' h.size 39 [LD g c]/\az h' (h.size+1) 3 [.int .i64 20]/\ah h h'/\h'.size=h.size+2):=by
 refine bf ?_;refine aa ?_;refine xo rfl (cM) ?_;rintro _ h1 ⟨rfl,k1,e1,z1⟩;refine xo rfl (cM) ?_;rintro _ h2 ⟨rfl,k2,e2,z2⟩;have k1:az h2 h.size 39 [LD g c]:=k1.af e2;have k2:az h2 h1.size 3 [.int .i64 20]:=k2;refine aa ?_;refine xp rfl (aA rfl (k2.cell (i:=0) rfl)) ?_;refine aa ?_;refine bV rfl (by decide) ?_;refine aa ?_;refine xp rfl (an.makeFunc (vs:=[_,_]) rfl) ?_;refine aa ?_;refine aW ?_;rw[z1] at k2;exact⟨_,rfl,by rw[z1];rfl,k1,k2,e1.trans e2,by omega⟩
theorem Im.part {xs:List Nat}(k:Im h g xs){j:Nat}(hj:j<4):aR Oq h (fun _=>False) (.slice (some ⟨g,j*20*6,none⟩) 20 20) ((xs.drop (j*20)).take 20):=by
 have hl:=k.len;refine⟨_,20,20,rfl,by rw[List.length_take,List.length_drop];omega,Nat.le_refl _,by decide,fun i x hx=>?_⟩
 have hi:i<20:=by
  have:=(List.getElem?_eq_some_iff.1 hx).1;rw[List.length_take,List.length_drop] at this;omega
 rw[List.getElem?_take_of_lt hi,List.getElem?_drop] at hx;refine⟨g,j*20*6,kC x,rfl,fun q=>q,fun m v hv=>?_,rfl⟩;have:=k.row _ _ (dG (enc:=kC) (sz:=6) (fun _=>rfl) xs (j*20+i) x m v hx hv);rw[Nat.zero_add] at this
 show cellAt h ⟨g,j*20*6+i*6+m,none⟩=some v
 rw[show j*20*6+i*6+m=(j*20+i)*6+m by omega];exact this
theorem DX {L:Nat}{g1 g2:ai}(e:ah h g1) (x:Ext (fun b=>b=L+1) g1 g2) (hL:h.size<=L):ah h g2:=ah.only e x (by omega)
theorem pO (hW:jH h) (hcc:80<=c){xs:List Nat}(k:Im h g xs) (hp:Pr xs){row col:Int}(hr:0<=row/\row<4) (hc:0<=col/\col<20) :
 aj Tryz.prog 88 #[.agg (cy 4 20 (LD g c) row col).toArray] h (aN fun r h'=>r= .bool true/\ah h h'):=by
 refine bf ?_;refine aa ?_;refine xo rfl (cM) ?_;rintro _ h1 ⟨rfl,k1,e1,z1⟩;refine xo rfl (cC) ?_;rintro _ h2 ⟨rfl,k2,e2,z2⟩;have k1:az h2 h.size 41 (cy 4 20 (LD g c) row col):=k1.af e2;have k2:az h2 h1.size 4 [.bool false]:=k2;have e02:=e1.trans e2;refine bJ ?_
 iterate 2 refine aI ?_
 refine dM [(44,.bool false)] rfl ?_ ?_
 · refine aa ?_;refine xp rfl (aA rfl (k1.cell (i:=0) rfl)) ?_;refine aa ?_;refine xp rfl (aA rfl (k1.cell (i:=1) rfl)) ?_;refine xo rfl (aG rfl (jV 4 20)) ?_;rintro _ h3 ⟨rfl,hh3⟩;subst hh3;refine aa ?_;refine RW.aO (d:=10) (b':=false) rfl (by decide) ?_;refine aa ?_;refine xp rfl (aA rfl (k1.cell (i:=2) rfl)) ?_;refine aa ?_;refine xp rfl (aA rfl (k1.cell (i:=0) rfl)) ?_;refine aa ?_;refine xp rfl (aA rfl (k1.cell (i:=1) rfl)) ?_;refine xp rfl (an.dK rfl rfl ⟨by decide,by decide⟩) ?_;refine aa ?_;refine RW.aO (d:=21) (b':=false) rfl (by decide) ?_;refine aa ?_;refine xp rfl (aA rfl (k1.cell (i:=3) rfl)) ?_;refine aa ?_;refine RW.aO (d:=26) (b':=false) rfl (decide_eq_false (by omega)) ?_;refine aa ?_;refine xp rfl (aA rfl (k1.cell (i:=3) rfl)) ?_;refine aa ?_;refine xp rfl (aA rfl (k1.cell (i:=0) rfl)) ?_;refine aa ?_;refine RW.aO (d:=33) (b':=false) rfl (decide_eq_false (by omega)) ?_;refine aa ?_;refine xp rfl (aA rfl (k1.cell (i:=4) rfl)) ?_;refine aa ?_;refine RW.aO (d:=38) (b':=false) rfl (decide_eq_false (by omega)) ?_;refine aa ?_;refine xp rfl (aA rfl (k1.cell (i:=4) rfl)) ?_;refine aa ?_;refine xp rfl (aA rfl (k1.cell (i:=1) rfl)) ?_;refine aa ?_;exact aL rfl ⟨ak rfl (by rw[decide_eq_false (by omega)]),sb rfl⟩
 · refine bV rfl (by decide) ?_;refine aa ?_;refine xp rfl (aA rfl (k1.cell (i:=2) rfl)) ?_;refine aa ?_;refine xp rfl (aA rfl (k1.cell (i:=1) rfl)) ?_;refine xo rfl (aG rfl Bm) ?_;rintro _ h4 ⟨rfl,kc1,kc2,e4,z4⟩;have k24:=k2.af e4;have k04:Im h4 g xs:=k.af (e02.trans e4);have hW4:=hW.af (e02.trans e4);refine aa ?_;refine G.Gr (assign:=FG (Lw.sub (aq f88) [0,1,0,1,1])) (body:=FF (Lw.sub (aq f88) [0,1,0,1,1])) (fun g'=>ah h4 g') rfl rfl func198 rfl (by decide +kernel) (fun fid tmps hL hfits eL R0=>?_) (fun g2 g3 hJ hdf hlt x=>?_)
   skip
   · refine(yM (c:=c) hcc (l:=h4.size+1) (cs:=h2.size) (cn:=h2.size+1) (g:=g) (J:=fun _ g'=>wE h4.size (bK fid tmps #[50] (FG (Lw.sub (aq f88) [0,1,0,1,1])) (FF (Lw.sub (aq f88) [0,1,0,1,1])) h4.size) (fun g'=>ah h4 g') g') (fun j g' q=>⟨kc1.af q.j,kc2.af q.j⟩) (fun j g' q hj=>?_) ⟨R0.lp,R0.df,eL⟩).ret fun _ _ q=>q
     refine q.FN rfl rfl rfl (om hfits rfl) rfl rfl (fun g1 g2 e x=>DX e x (Nat.le_refl _)) ?_;refine GI.eE func88 rfl ?_;refine aV.aB rfl rfl rfl rfl rfl (an.assign rfl) ?_;refine aX rfl ?_;refine⟨av _ _,fun g3 x3=>?_⟩;have e3:=DX q.j x3 (Nat.le_refl _);have hlt:=q.lp.lt;have hz3:=x3.size;have hrow:=CW (hW4.af e3) ((k04.af e3).part hj) (fun r hr=>hp r (List.mem_of_mem_drop (List.mem_of_mem_take hr))) (by rw[List.length_take];omega);refine GI.block rfl rfl ?_;refine GI.seq rfl ?_;refine GI.eE func88 rfl ?_;refine aV.aB rfl rfl rfl rfl rfl (aD rfl) ?_;refine aV.r9 rfl rfl rfl rfl rfl (bu (vs:=[_]) func145 rfl H.J4 rfl (aj.jF (hrow))) ?_;rintro _ g4 ⟨rfl,e4'⟩;refine aV.aB rfl rfl rfl rfl rfl (an.se rfl) ?_;refine aX rfl ?_;refine GI.sub (ρ':=[(0,_),(1,_),(2,_),(3,_),(44,_),(49,_),(50,_),(53,_)]) ⟨rfl,rfl,rfl,rfl,rfl,rfl,rfl,rfl,trivial⟩ ?_;refine GI.cond rfl rfl (fun hc=>absurd hc (by decide)) (fun _=>?_);refine GI.skip rfl ?_;exact⟨rfl,⟨e4'.block _ (by omega) (fun q=>q),e4'.block _ (by omega) (fun q=>q)⟩,e3.trans e4'⟩
   · have z12:=e2.size;have z24:=e4.size;refine GD.gr ?_;refine GD.seq rfl ?_;refine GD.eE func88 rfl ?_;refine fE.mL rfl rfl rfl (aH.br H.zC rfl rfl ((k24.af hJ).ext x (by omega)) (by first|decide|exact of_decide_eq_true rfl|(simp;done)|(simp;omega)) rfl) ?_;rintro _ g4 ⟨rfl,k5,x5,z5⟩;refine eD rfl ?_;refine GD.sub (ρ':=[(0,_),(1,_),(2,_),(44,_),(49,_)]) ⟨rfl,rfl,rfl,rfl,rfl,trivial⟩ ?_
     have hdf5:g4[h4.size]? =some (.deferred (some [])):=by
      rw[x5.block h4.size (by have:=x.size;omega) (by omega),x.block h4.size (by omega) (by omega)];exact hdf
     have x6:Ext (fun b=>b=h4.size) g4 (Lw.bA g4 h4.size (.deferred none)):=Ext.bA _ _ _ rfl;have k6:=k5.ext x6 (by omega);refine GD.nS func88 rfl hdf5 (.cons (cX.cell (t:=4) (by kernel_rfl) rfl (k6.cell (i:=0) rfl)) .nil) ?_;exact⟨_,rfl,rfl,ah.only (ah.only (ah.only ((e02.trans e4).trans hJ) x (by omega)) x5 (by omega)) x6 (by omega)⟩
theorem IA {w:Value}{a b c d e:Int}(hne:d≠e) (hv:v.oneCell'=true) (hw:w.oneCell'=true):aj Tryz.prog 161 #[.agg (cy a b v c d).toArray,.agg (cy a b w c e).toArray] h (aN fun r h'=>r= .bool false/\ah h h'):=by
 refine bf ?_;refine aa ?_;refine xo rfl (cM) ?_;rintro _ h1 ⟨rfl,k1,e1,z1⟩;refine xo rfl (cM) ?_;rintro _ h2 ⟨rfl,k2,e2,z2⟩;have k1:az h2 h.size 41 (cy a b v c d):=k1.af e2;have k2:az h2 h1.size 41 (cy a b w c e):=k2;refine aU ?_;refine bJ ?_;refine aI ?_;refine dM [(4,.bool false)] rfl ?_ ?_
 · refine aa ?_;refine xp rfl (aA rfl (k1.cell (i:=0) rfl)) ?_;refine aa ?_;refine xp rfl (aA rfl (k2.cell (i:=0) rfl)) ?_;refine aa ?_;refine RW.aO (d:=10) (b':=true) rfl (by simp) ?_;refine aa ?_;refine xp rfl (aA rfl (k1.cell (i:=1) rfl)) ?_;refine aa ?_;refine xp rfl (aA rfl (k2.cell (i:=1) rfl)) ?_;refine aa ?_;refine RW.aO (d:=17) (b':=true) rfl (by simp) ?_;refine aa ?_;refine xp rfl (aA rfl (k1.cell (i:=3) rfl)) ?_;refine aa ?_;refine xp rfl (aA rfl (k2.cell (i:=3) rfl)) ?_;refine aa ?_;refine RW.aO (d:=24) (b':=true) rfl (by simp) ?_;refine aa ?_;refine xp rfl (aA rfl (k1.cell (i:=4) rfl)) ?_;refine aa ?_;refine xp rfl (aA rfl (k2.cell (i:=4) rfl)) ?_;refine aa ?_;refine RW.aO (d:=31) (b':=false) rfl (by simp[hne]) ?_;refine aa ?_;exact aL rfl ⟨ak rfl (rfl),sb rfl⟩
 · refine aW ?_;exact⟨_,rfl,rfl,e1.trans e2⟩
end
end Go.Proofs.YtckomlgchbkekaaGreatDoor
namespace Go.Proofs.YtckomlgchbkekaaGreatDoor
open Go
structure LL where
 t:By
 c:Int
 were:List (By×Int)
 gone:List (By×Int)
 o:Int
def JH (t:By) (c:Int):LL:=⟨t,c,[],[],0⟩
def fN:List By->By
 | []=>[]
 |s::r=>s++fN r
theorem jZ:∀(a b:List By),fN (a++b)=fN a++fN b
 | [],_=>rfl
 |s::r,b=>by simp only[List.cons_append,fN,jZ r b,List.append_assoc]
theorem CG (l:List By) (i:Nat):fN (l.take i)++fN (l.drop i)=fN l:=by rw[<-jZ,List.take_append_drop]
end Go.Proofs.YtckomlgchbkekaaGreatDoor
namespace Go.Proofs.YtckomlgchbkekaaGreatDoor
open Go.Proofs.Tryz
open Go Go.Lw
set_option maxRecDepth 20000 set_option maxHeartbeats 4000000
section
variable {h h':ai}{O Z M:Nat->Prop}{v:Value}
abbrev FI (x:By):Value:=.string (bs x)
def NE (l:List By):Prop:=∀s∈l,s≠[]
def Dk (h:ai) (O:Nat->Prop) (v:Value) (s:By):Prop :=
 ∃b vl l,v= .pointer (some ⟨b,0,none⟩)/\¬O b/\az h b 303 [.bool true,vl,.int .i64 (s.length:Nat)]/\aR I4 h O vl l/\fN l=s/\NE l
theorem Dk.mv {h h':ai}{O O':Nat->Prop}{v:Value}{s:By}(k:Dk h O v s) (m:Mv O O' h h'):Dk h' O' v s:=by
 obtain⟨b,vl,l,hv,ho,hk,h1,h2,h3⟩:=k;have hm:=m.block b hk.lt ho;exact⟨b,vl,l,hv,hm.2,hm.1.trans hk,h1.mv m,h2,h3⟩
theorem Fk {s:By}(h:decide (bs s=⟨#[]⟩)=true):s=[]:=jg (of_decide_eq_true h:bs s=bs [])
theorem EL {l:List By}(hv:aR I4 h O v l) (hl:(fN l).length<=100000000) :
 aj Tryz.prog 151 #[v] h (aN fun r h'=>(∃b:Nat,r= .pointer (some ⟨b,0,none⟩)/\h.size<=b/\az h' b 303 [.bool true,v,.int .i64 ((fN l).length:Nat)])/\ah h h'):=by
 obtain⟨oa,n,c,rfl,hsl⟩:=id hv.open;have hn:=hsl.len;have hcap:=hsl.cap;have hle:=hsl.le;simp only[maxLen] at hcap;refine bf ?_;refine aa ?_;refine xp rfl (au (H.Fo _ _ _ _) rfl) ?_;refine xo rfl (cM) ?_;rintro _ h1 ⟨rfl,k1,e1,z1⟩;have k1:az h1 h.size 303 [.bool true,.slice oa n c,.int .i64 0]:=k1;refine aa ?_;refine eR (σ:=Nat) (fun i=>[(11,.int .i64 (i:Nat))]) (fun i h'=>i<=n/\az h' h.size 303 [.bool true,.slice oa n c,.int .i64 ((fN (l.take i)).length:Nat)]/\ah h h') (fun i=>n-i) (0) ⟨Nat.zero_le _,k1,e1⟩ rfl ?_;rintro i g ⟨hi,kg,eg⟩ ih;refine aa ?_;refine aQ (fun hlt=>?_) (fun hlt=>?_)
 · obtain⟨s,hs⟩:∃s,l[i]? =some s:=⟨_,List.getElem?_eq_getElem (by omega)⟩
   obtain⟨b,o,cs,ha,_,hrow,rfl⟩:=(hsl.mv (Mv.af eg)).get i s hs;have hbs:=aC s;have htk:l.take (i+1)=l.take i++[s]:=by rw[List.take_add_one,hs];rfl
   have hfl:(fN (l.take (i+1))).length=(fN (l.take i)).length+s.length:=by rw[htk,jZ,List.length_append];simp[fN]
   have hle2:(fN (l.take (i+1))).length<=(fN l).length:=by rw[<-CG l (i+1),List.length_append];omega
   have hz:=eg.size
   iterate 4 refine aI ?_
   refine bU ?_;refine xp rfl (bT rfl rfl i rfl ha) ?_;refine xp rfl (aA rfl (hrow 0 _ rfl)) ?_;refine aa ?_;refine xp rfl (aA rfl (kg.cell (i:=2) rfl)) ?_;refine aa ?_;refine aY rfl (b7 rfl rfl kg) ?_;rintro _ g2 ⟨rfl,k2,x2,z2⟩;have k2:az g2 h.size 303 [.bool true,.slice oa n c,.int .i64 ((fN (l.take (i+1))).length:Nat)]:=by rw[hfl,<-hbs];exact k2
   refine aa ?_;exact ih (i+1) ⟨by omega,k2,ah.only eg x2 (Nat.le_refl _)⟩
 · rw[List.take_of_length_le (by omega)] at kg;refine aa ?_;refine aW ?_;exact⟨_,rfl,⟨_,rfl,Nat.le_refl _,kg⟩,eg⟩
theorem Ab {l:List By}(hv:aR I4 h O v l) (s:By) (hl:l.length<=100000000) :
 aj Tryz.prog 152 #[v,.string (bs s)] h (aN fun r h'=>((s=[]/\r=v)\/(s≠[]/\ay h' h.size 9 1 r (l.length+1) (l.map FI++[FI s])))/\ah h h'):=by
 obtain⟨oa,n,c,rfl,hsl⟩:=id hv.open;have hn:=hsl.len;have hle:=hsl.le;have hcap:=hsl.cap;have hrow:=(aR.row (h1:=fun _=>rfl) hv).2.1;refine bf ?_;refine aa ?_;refine oL (fun hs=>?_) (fun hs=>?_)
 · refine aa ?_;refine aW ?_;exact⟨_,rfl,.inl ⟨Fk hs,rfl⟩,av _ _⟩
 · have hs0:s≠[]:=fun e=>by subst e;simp[bs] at hs
   refine aa ?_;refine xp rfl (an.uC underlying47 H.BP rfl rfl n rfl rfl n rfl (Nat.le_refl _) hle) ?_;refine aa ?_;refine xo rfl (kI [_]) ?_;rintro _ h1 ⟨rfl,hh1⟩;have e1:ah h h1:=by rw[hh1];exact Ext.push _ _ _
   have hr1:Lw.rowAt h1 h.size 0 [FI s]:=by rw[hh1];exact fJ h [FI s] _
   refine xo rfl (aH.Dg underlying47 H.Kg rfl rfl (xs:=l.map FI) (news:=[FI s]) (by simp[hn]) (hrow.imp id fun⟨b,o,q1,q2⟩=>⟨b,o,q1,e1.rowAt (fun q=>q) q2⟩) rfl (by simp) ⟨_,_,rfl,hr1⟩ (by decide) (by simp only[maxLen];omega) (by omega)) ?_;rintro v2 h2 ⟨ho2,e2⟩;refine aa ?_;refine aW ?_;have hz:=e1.size;have ho3:ay h2 h.size 9 1 v2 (l.length+1) (l.map FI++[FI s]):=by rw[hn];exact ay.lower ho2 hz
   exact⟨_,rfl,.inr ⟨hs0,ho3⟩,e1.trans e2⟩
def Ot (Z:Nat->Prop) (h:ai):Nat->Prop:=fun b=>¬((cq h b 303\/cq h b 9)/\¬Z b)
theorem Ky (x:Ext M h h') (hM:∀b,M b->Ot Z h b):Mv (Ot Z h) (Ot Z h') h h':=Mv.dI x fun b _ hn=>⟨fun q=>hn (hM b q),fun q=>hn fun q2=>q ⟨q2.1.imp (fun k=>k.ext x (fun q3=>hM b q3 q2)) (fun k=>k.ext x (fun q3=>hM b q3 q2)),q2.2⟩⟩
theorem Mv.LF (x:ah h h'):Mv (Ot Z h) (Ot Z h') h h':=Ky x fun _ q=>q.elim
abbrev Oy (Z:Nat->Prop) (h:ai) (v:Value) (s:By):Prop:=Dk h (Ot Z h) v s
theorem yA (l:List By):∀u∈l.map FI,u.oneCell'=true:=fun u hu=>by obtain⟨_,_,rfl⟩:=List.mem_map.1 hu;rfl
theorem Ck (hZ:∀b,Z b->b<h.size):aj Tryz.prog 105 #[.string ⟨#[]⟩] h (aN fun r h'=>(∃u,r= .tuple #[u,.int .i64 0]/\Oy Z h' u [])/\ah h h'):=by
 refine bf ?_;refine aa ?_;refine bV rfl (by decide) ?_;refine aa ?_;refine xo rfl (aG rfl (Ab (O:=fun _=>False) (aR.nil _ _ _) [] (by simp))) ?_;rintro _ h1 ⟨hr,e1⟩
 rcases hr with ⟨_,rfl⟩|⟨q,_⟩
 · refine xo rfl (aG rfl (EL (O:=fun _=>False) (l:=[]) (aR.nil _ _ _) (by simp[fN]))) ?_;rintro _ h2 ⟨⟨b,rfl,hb,k2⟩,e2⟩;refine aa ?_;refine aW ?_;exact⟨_,rfl,⟨_,rfl,b,_,[],rfl,fun q=>q ⟨.inl k2.ty,fun z=>by have:=hZ _ z;have:=e1.size;omega⟩,k2,aR.nil _ _ _,rfl,fun _ q=>by cases q⟩,e1.trans e2⟩
 · exact absurd rfl q
theorem EF {b o:Nat}{xs ys:List Value}(k:Lw.rowAt h b o (xs++ys)):Lw.rowAt h b o xs:=fun j v hv=>k j v (by rw[List.getElem?_append_left (List.getElem?_eq_some_iff.1 hv).1];exact hv)
def Qq (h:ai) (O:Nat->Prop) (cs:List Value) (x:By×Int):Prop:=∃tv,cs=[tv,.int .i64 x.2]/\Dk h O tv x.1
theorem Dk.one {s:By}(k:Dk h O v s):v.oneCell'=true:=by obtain⟨_,_,_,rfl,_⟩:=k;rfl
def On:fS (By×Int):=⟨2,by decide,Qq,fun h=>by obtain⟨v,rfl,_⟩:=h;rfl,fun h=>by
 obtain⟨v,rfl,hv⟩:=h;intro u hu;simp at hu
 rcases hu with rfl|rfl
 · exact hv.one
 · rfl,fun h m=>by
 obtain⟨v,hc,hv⟩:=h;exact⟨v,hc,hv.mv m⟩⟩
structure BF (Z:Nat->Prop) (h:ai) (ub:Nat) (wv gv:Value) (u:LL):Prop where
 blk:∃tv,az h ub 229 [tv,.int .i64 u.c,wv,gv,.int .i64 u.o]/\Oy Z h tv u.t
 were:eY On (Ot Z h) h 0 226 wv u.were
 gone:eY On (Ot Z h) h 0 226 gv u.gone
 ne:∀b,wv.ownBlock=some b->gv.ownBlock≠some b
abbrev P7 (ub:Nat) (wv gv:Value):Nat->Prop:=fun b=>b=ub\/wv.ownBlock=some b\/gv.ownBlock=some b
theorem Gz {base:Nat}{t:TypeId}{xs:List (By×Int)}(k:eY On (Ot Z h) h base t v xs) (x:Ext M h h') (hown:∀b,v.ownBlock=some b->¬M b) (hM:∀b,M b->Ot Z h b):eY On (Ot Z h') h' base t v xs :=
 k.EO x hown (fun b _ q=>hM b q) (fun b hb q q2=>q ⟨q2.1.imp (fun k=>k.ext x (fun q3=>hM b q3 q2)) (fun k=>k.ext x (fun q3=>hM b q3 q2)),q2.2⟩)
section
variable {Z:Nat->Prop}{h:ai}{ub:Nat}{wv gv:Value}{u:LL}
theorem BF.ext' (k:BF Z h ub wv gv u) (x:Ext M h h') (h1:¬M ub) (h2:∀b,wv.ownBlock=some b->¬M b) (h3:∀b,gv.ownBlock=some b->¬M b) (hM:∀b,M b->Ot Z h b):BF Z h' ub wv gv u:=by
 obtain⟨tv,kb,kt⟩:=k.blk;exact⟨⟨tv,kb.ext x h1,kt.mv (Ky x hM)⟩,Gz k.were x h2 hM,Gz k.gone x h3 hM,k.ne⟩
theorem BF.af (k:BF Z h ub wv gv u) (x:ah h h'):BF Z h' ub wv gv u:=k.ext' x (fun q=>q) (fun _ _ q=>q) (fun _ _ q=>q) (fun _ q=>q.elim)
end
theorem BZ {tv:Value}{t:By}(k:Oy Z h tv t) (c:Int) :
 aj Tryz.prog 106 #[tv,.int .i64 c] h (aN fun r h'=>(∃ub:Nat,r= .pointer (some ⟨ub,0,none⟩)/\h.size<=ub/\BF Z h' ub (.slice none 0 0) (.slice none 0 0) (JH t c))/\ah h h'):=by
 have k0:=k;obtain⟨b,vl,l,rfl,_⟩:=k;refine bf ?_;refine aI ?_;refine bU ?_;refine aU ?_;refine bJ ?_
 iterate 2 refine aI ?_
 refine bU ?_;refine aU ?_;refine xp rfl (an.gp underlying164 rfl rfl) ?_;refine aa ?_;refine bV rfl (by simp) ?_;refine aa ?_;refine xp rfl (au (H.Fs _ _) rfl) ?_;refine xp rfl (au (H.Ji _ _) rfl) ?_;refine xo rfl (cM) ?_;rintro _ h1 ⟨rfl,k1,e1,z1⟩;refine aa ?_;have k1:az h1 h.size 229 [.pointer (some ⟨b,0,none⟩),.int .i64 c,.slice none 0 0,.slice none 0 0,.int .i64 0]:=k1;refine aW ?_;exact⟨_,rfl,⟨_,rfl,Nat.le_refl _,⟨⟨_,k1,k0.mv (Mv.LF e1)⟩,eY.nil _ _ _ _ _,eY.nil _ _ _ _ _,fun _ q=>by cases q⟩⟩,e1⟩
end
end Go.Proofs.YtckomlgchbkekaaGreatDoor
namespace Go.Proofs.YtckomlgchbkekaaGreatDoor
open Go
def LA (s:By):Prop:=∀c∈s,c.toNat<128
theorem Ln {s:By}(h:LA s){a:Nat}(ha:a<=s.length):Of s a:=by
 rcases Nat.lt_or_ge a s.length with hl|hl
 · refine .inl (w8 hl fun q=>?_);have hg:s.getD a 0=s[a]:=by rw[List.getD_eq_getElem?_getD,List.getElem?_eq_getElem hl];rfl
   have:=h _ (List.getElem_mem hl);rw[hg] at q;omega
 · exact .inr (by omega)
theorem Jn {s:By}(h:LA s){a:Nat}(ha:a<=s.length):A4 s a=a:=E6 (Ln h ha)
structure Lz where
 s:MS
 u:LL
def lT:Lz:=⟨⟨[],0,0,-1,[],[],0,[],0,0,0,[],0,[],0,0,[],[],0⟩,JH [] 0⟩
section
variable {s:MS}
end
end Go.Proofs.YtckomlgchbkekaaGreatDoor
namespace Go.Proofs.YtckomlgchbkekaaGreatDoor
open Go.Proofs.Tryz
open Go Go.Lw
set_option maxRecDepth 20000 set_option maxHeartbeats 4000000
section
variable {h:ai}{O:Nat->Prop}{b:Nat}{s:By}{tv sv pv l:Value}{en:wH}{n:Int}
def iF (p:Pt):List Value:=[.int .i64 p.1,.int .i64 p.2.1,.int .i64 p.2.2]
theorem xM (p:Pt):∀v∈iF p,v.oneCell'=true:=fun v hv=>by simp[iF] at hv;rcases hv with rfl|rfl|rfl<;>rfl
def Kn:fS Pt:=.record 3 (by decide) iF (fun _=>rfl) xM
def ox (l:Value) (s:By) (tv sv:Value) (en:wH) (pv:Value) (n:Int):List Value:=[l,.string (bs s),tv,sv,.int .i64 en.1,.int .i64 en.2,pv,.int .i64 n]
def jn (O:Nat->Prop) (h:ai) (b:Nat) (s:By) (n:Int):Prop :=
 ∃h0 lb tv sv pv,BM h0/\vB (fun x=>x=b\/O x) h (.pointer (some ⟨lb,0,none⟩))/\ah h0 h/\(h0.size<=b/\∀y,O y->h0.size<=y)/\az h b 238 (ox (.pointer (some ⟨lb,0,none⟩)) s tv sv (BB s).2 pv n) /\
  aR Il h (fun x=>x=b\/O x) tv (BB s).1/\aR Nj h (fun x=>x=b\/O x) sv (MD s)/\aR Kn h (fun x=>x=b\/O x) pv (OV s)
theorem oA {v:Value}{xs:List Tk}(hv:aR Il h O v xs) (hx:xs.length<=1000000) :
 aj Tryz.prog 203 #[v] h (aN fun r h'=>eP 3 iU h' h.size 308 r xs/\ah h h'):=by
 obtain⟨va,vn,vc,rfl,hvs⟩:=hv.open;have hl:xs.length=vn:=hvs.len;subst hl;refine bf ?_;refine aI ?_;refine bU ?_;refine aU ?_;refine bJ ?_
 iterate 2 refine aI ?_
 refine bU ?_;refine aU ?_;refine xp rfl (an.D0 underlying235 rfl rfl) ?_;refine aa ?_;refine oL (fun hn=>?_) (fun hn=>?_)
 · refine aa ?_;refine aW ?_
   have hx0:xs=[]:=by
    have hva:va=none:=by simpa using hn
    rcases xs with _|⟨x,xs⟩
    · rfl
    · obtain⟨b,o,cs,ha,_⟩:=hvs.get 0 x rfl;rw[hva] at ha;cases ha
   subst hx0;exact⟨_,rfl,eP.nil _ _ _ _ _,av _ _⟩
 · refine aa ?_;refine xo rfl (PG) ?_;rintro _ h1 ⟨rfl,hh1⟩;have e1:ah h h1:=by rw[hh1];exact Ext.push _ _ _
   have z1:h1.size=h.size+1:=by rw[hh1];simp
   have ho1:ay h1 h.size 308 3 (.slice (some ⟨h.size,0,none⟩) 0 0) 0 []:=by rw[hh1];exact uk h _ 3 h.size (Nat.le_refl _)
   have hrow:=(hvs.mv (Mv.af e1)).MM;refine aa ?_;refine xo rfl (bR underlying235 H.Ki rfl rfl ho1 (dz (enc:=iU) (sz:=3) (fun _=>rfl) xs) hrow (fun u hu=>by obtain⟨x,_,hx⟩:=List.mem_flatMap.1 hu;exact rC x u hx) (by simp only[maxLen];omega) (by omega) (by omega)) ?_;rintro v2 h2 ⟨ho2,hx2,_,hv2⟩;refine aa ?_;refine aW ?_;refine⟨_,rfl,?_,Ext.own e1 ho1 (Nat.le_refl _) hx2⟩;have:ay h2 h.size 308 3 v2 (0+xs.length) ([]++xs.flatMap iU):=ho2;rw[Nat.zero_add,List.nil_append] at this;exact this
theorem yJ {v:Value}{xs:List wH}(hv:aR Nj h O v xs) (hx:xs.length<=1000000) :
 aj Tryz.prog 204 #[v] h (aN fun r h'=>eP 2 jd h' h.size 231 r xs/\ah h h'):=by
 obtain⟨va,vn,vc,rfl,hvs⟩:=hv.open;have hl:xs.length=vn:=hvs.len;subst hl;refine bf ?_;refine aI ?_;refine bU ?_;refine aU ?_;refine bJ ?_
 iterate 2 refine aI ?_
 refine bU ?_;refine aU ?_;refine xp rfl (an.D0 underlying236 rfl rfl) ?_;refine aa ?_;refine oL (fun hn=>?_) (fun hn=>?_)
 · refine aa ?_;refine aW ?_
   have hx0:xs=[]:=by
    have hva:va=none:=by simpa using hn
    rcases xs with _|⟨x,xs⟩
    · rfl
    · obtain⟨b,o,cs,ha,_⟩:=hvs.get 0 x rfl;rw[hva] at ha;cases ha
   subst hx0;exact⟨_,rfl,eP.nil _ _ _ _ _,av _ _⟩
 · refine aa ?_;refine xo rfl (PG) ?_;rintro _ h1 ⟨rfl,hh1⟩;have e1:ah h h1:=by rw[hh1];exact Ext.push _ _ _
   have z1:h1.size=h.size+1:=by rw[hh1];simp
   have ho1:ay h1 h.size 231 2 (.slice (some ⟨h.size,0,none⟩) 0 0) 0 []:=by rw[hh1];exact uk h _ 2 h.size (Nat.le_refl _)
   have hrow:=(hvs.mv (Mv.af e1)).MM;refine aa ?_;refine xo rfl (bR underlying236 H.Kk rfl rfl ho1 (dz (enc:=jd) (sz:=2) (fun _=>rfl) xs) hrow (fun u hu=>by obtain⟨x,_,hx⟩:=List.mem_flatMap.1 hu;exact qQ x u hx) (by simp only[maxLen];omega) (by omega) (by omega)) ?_;rintro v2 h2 ⟨ho2,hx2,_,hv2⟩;refine aa ?_;refine aW ?_;refine⟨_,rfl,?_,Ext.own e1 ho1 (Nat.le_refl _) hx2⟩;have:ay h2 h.size 231 2 v2 (0+xs.length) ([]++xs.flatMap jd):=ho2;rw[Nat.zero_add,List.nil_append] at this;exact this
theorem An {lp:Option Addr}(k:az h b 238 (ox (.pointer lp) s tv sv en pv n)) :
 aj Tryz.prog 200 #[.pointer (some ⟨b,0,none⟩)] h (aN fun r h'=>r= .bool lp.isNone/\h'=h):=by
 refine bf ?_;refine aI ?_;refine bU ?_;refine aU ?_;refine bJ ?_;refine aI ?_;refine bU ?_;refine aU ?_;refine xp rfl (an.gp underlying172 rfl rfl) ?_;refine aa ?_;refine RW.aO (d:=5) (b':=false) rfl (rfl) ?_;refine aa ?_;refine xp rfl (aA rfl (k.cell (i:=0) rfl)) ?_;refine xp rfl (an.gp underlying174 rfl rfl) ?_;refine aa ?_;refine aW ?_;exact⟨_,rfl,rfl,rfl⟩
theorem vp {b1 b2:Nat}{pts:List Pt}{a:Int}(k1:az h b1 172 [.pointer (some ⟨b,0,none⟩)]) (k2:az h b2 3 [.int .i64 a])
 (k:az h b 238 (ox l s tv sv en pv n)) (hp:aR Kn h O pv pts) (i:Nat){t:Pt}(ht:pts[i]? =some t) (ha : -1000000<=a/\a<=1000000) :
 aj Tryz.prog 259 #[.int .i64 (i:Nat),.pointer (some ⟨b1,0,none⟩),.pointer (some ⟨b2,0,none⟩)] h (aN fun r h'=>r= .bool (decide (a-3<t.1))/\h'=h):=by
 obtain⟨va,vn,vc,rfl,hvs⟩:=hp.open;have hl:pts.length=vn:=hvs.len;have hi:=(List.getElem?_eq_some_iff.1 ht).1;obtain⟨bb,o,t',hva,_,ht',hrow⟩:=hvs.fC (i:=i) (by omega);obtain rfl:t'=t:=Option.some.inj (ht'.symm.trans ht);refine bf ?_;refine aa ?_;refine bP rfl (aA rfl (k1.cell (i:=0) rfl)) ?_;refine aa ?_;refine bP rfl (aA rfl (k.cell (i:=6) rfl)) ?_;refine mU ?_;refine bP rfl (bT rfl rfl i rfl hva) ?_;refine aa ?_;refine bP rfl (aA rfl (hrow 0 _ rfl)) ?_;refine bP rfl (aA rfl (k2.cell (i:=0) rfl)) ?_;refine aa ?_;refine aW ?_;exact⟨_,rfl,rfl,rfl⟩
theorem zj {pts:List Pt}(k:az h b 238 (ox l s tv sv en pv n)) (hp:aR Kn h O pv pts) (hpl:pts.length<=1000000) (h0:pts[0]? =some (0,(0,0)))
 (hs:pts.Pairwise fun p q=>p.1<q.1) (a:Int) (ha : -1000000<=a/\a<=1000000) :
 aj Tryz.prog 201 #[.pointer (some ⟨b,0,none⟩),.int .i64 a] h (aN fun r h'=>(∃p,r= .agg (iF p).toArray/\Og pts a p)/\ah h h'):=by
 obtain⟨va,vn,vc,rfl,hvs⟩:=id hp.open;have hl:pts.length=vn:=hvs.len;subst hl;have hpos:0<pts.length:=(List.getElem?_eq_some_iff.1 h0).1;refine bf ?_;refine aa ?_;refine xo rfl (cM) ?_;rintro _ h1 ⟨rfl,k1,e1,z1⟩;refine xo rfl (cM) ?_;rintro _ h2 ⟨rfl,k2,e2,z2⟩;refine xo rfl (cC) ?_;rintro _ h3 ⟨rfl,k3,e3,z3⟩;have k1:az h1 h.size 172 [.pointer (some ⟨b,0,none⟩)]:=k1;have k2:az h2 h1.size 3 [.int .i64 a]:=k2;have k3:az h3 h2.size 233 (iF (0,(0,0))):=k3;have e03:=(e1.trans e2).trans e3;have y1:=e1.size;have y2:=e2.size;have q1:=(k1.af e2).af e3;have q2:=k2.af e3;have q:=k.af e03;have hp3:=hp.af e03
 have hsr:=ig (h:=h3) (g:=259) (caps:=[.pointer (some ⟨h.size,0,none⟩),.pointer (some ⟨h1.size,0,none⟩)]) ⟨_,func259,rfl,by kernel_rfl⟩ pts.length hpl (fun i=>match pts[i]? with|some t=>decide (a-3<t.1)|none=>false) (fun i hi=>by
  have ht:pts[i]? =some pts[i]:=List.getElem?_eq_getElem hi;simp only[ht];exact vp q1 q2 q hp3 i ht ha)
 refine aa ?_;refine xp rfl (aA rfl (q1.cell (i:=0) rfl)) ?_;refine aa ?_;refine xp rfl (aA rfl (q.cell (i:=6) rfl)) ?_;refine aa ?_;refine xp rfl (an.makeFunc (vs:=[_,_]) rfl) ?_;refine xo rfl (aG rfl hsr) ?_;rintro _ h4 ⟨⟨j,rfl,hj,hj1,hj2⟩,hh4⟩;subst hh4;have hmx:(if (j:Int)-1<0 then 0 else (j:Int)-1)=((j-1:Nat):Int):=by split<;>omega
 have hjl:j-1<pts.length:=by omega
 obtain⟨bb,o,t,hva,_,ht,hrow⟩:=(hvs.mv (Mv.af e03)).fC hjl;refine aa ?_;refine xp rfl (aA rfl (q1.cell (i:=0) rfl)) ?_;refine aa ?_;refine xp rfl (aA rfl (q.cell (i:=6) rfl)) ?_
 iterate 3 refine aU ?_
 refine xp rfl (bT rfl rfl (j-1) hmx hva hjl) ?_;refine xp rfl (bI rfl hrow) ?_;refine aY rfl (bM rfl rfl k3 (xM _)) ?_;rintro _ h5 ⟨rfl,k5,x5,z5⟩;refine aa ?_;have k5:az h5 h2.size 233 (iF t):=k5;refine fG (fT rfl k5.row fF) ?_
 have hlt:∀(x y:Nat) (p q:Pt),x<y->pts[x]? =some p->pts[y]? =some q->p.1<q.1:=fun x y p q hxy hx hy=>by
  obtain⟨hx',rfl⟩:=List.getElem?_eq_some_iff.1 hx;obtain⟨hy',rfl⟩:=List.getElem?_eq_some_iff.1 hy;exact List.pairwise_iff_getElem.1 hs x y hx' hy' hxy
 refine⟨_,rfl,⟨t,rfl,List.mem_of_getElem? ht,?_,fun q hq hqa=>?_⟩,ah.only e03 x5 (by omega)⟩
 · rcases Nat.eq_zero_or_pos j with h6|h6
   · subst h6;rw[h0] at ht;exact .inr (Option.some.inj ht).symm
   · have:=hj1 h6;simp only[ht] at this;have:=of_decide_eq_false this;exact .inl (by omega)
 · obtain⟨i,hi,rfl⟩:=List.getElem_of_mem hq;have hiq:pts[i]? =some pts[i]:=List.getElem?_eq_getElem hi
   rcases Nat.lt_trichotomy i (j-1) with h6|h6|h6
   · have:=hlt i (j-1) _ _ h6 hiq ht;omega
   · rw[<-h6,hiq] at ht;rw[Option.some.inj ht];exact Int.le_refl _
   · exfalso;have hjj:j<=i:=by omega
     have hq2:pts[j]? =some pts[j]:=List.getElem?_eq_getElem (by omega);have:=hj2 (by omega);simp only[hq2] at this;have h7:=of_decide_eq_true this
     rcases Nat.lt_or_ge j i with h8|h8
     · have:=hlt j i _ _ h8 hq2 hiq;omega
     · obtain rfl:j=i:=by omega
       omega
theorem jn.none {O:Nat->Prop}{h:ai}{b:Nat}{s:By}{n:Int}(k:jn O h b s n):aj Tryz.prog 200 #[.pointer (some ⟨b,0,none⟩)] h (aN fun r h'=>r= .bool false/\h'=h):=by
 obtain⟨h0,lb,tv,sv,pv,_,_,_,_,kb,_⟩:=k;exact An kb
theorem jn.af {O:Nat->Prop}{h h':ai}{b:Nat}{s:By}{n:Int}(k:jn O h b s n) (e:ah h h'):jn O h' b s n:=by
 obtain⟨h0,lb,tv,sv,pv,k1,k2,k3,k4,k5,k6,k7,k8⟩:=k;exact⟨h0,lb,tv,sv,pv,k1,k2.mv (Mv.af e),k3.trans e,k4,k5.af e,k6.af e,k7.af e,k8.af e⟩
theorem wR (k:jn O h b s n) (hs:(BB s).1.length<=1000000):aj Tryz.prog 224 #[.pointer (some ⟨b,0,none⟩)] h (aN fun r h'=>eP 3 iU h' h.size 308 r (BB s).1/\ah h h'):=by
 have hn:=k.none;have hal:=hs;obtain⟨h0,lb,tv,sv,pv,_,_,_,_,kb,ht,_⟩:=k;refine bf ?_;refine aa ?_;refine xo rfl (aG rfl hn) ?_;rintro _ h1 ⟨rfl,hh1⟩;refine aa ?_;subst hh1;refine bV rfl (by decide) ?_;refine aa ?_;refine xp rfl (aA rfl (kb.cell (i:=2) rfl)) ?_;refine xo rfl (aG rfl (oA ht (by omega))) ?_;rintro v2 h2 ⟨ho,e2⟩;refine aa ?_;refine aW ?_;exact⟨_,rfl,ho,e2⟩
theorem Cv {toks:List Tk}{sts:List wH}(k:az h b 238 (ox l s tv sv en pv n)) (ht:aR Il h (fun x=>x=b\/O x) tv toks) (hs:aR Nj h (fun x=>x=b\/O x) sv sts)
 (hl:sts.length=toks.length) (htl:toks.length<=900000) (hpos:∀t∈toks,-1000000<=t.2.1/\t.2.1<=1000000) (hO:∀y,O y->y<h.size:=by first|exact fun _ q=>False.elim q|assumption) :
 aj Tryz.prog 206 #[.pointer (some ⟨b,0,none⟩)] h (aN fun _ h'=>(∃pv',az h' b 238 (ox l s tv sv en pv' n)/\aR Kn h' (fun x=>x=b\/O x) pv' ((0,(0,0))::Au toks sts 0))/\Ext (fun x=>x=b) h h'):=by
 have hb:=k.lt;obtain⟨ta,tn,tc,rfl,hts⟩:=id ht.open;obtain⟨sa,sn,sc,rfl,hss⟩:=id hs.open;have htn:toks.length=tn:=hts.len;have hsn:sts.length=sn:=hss.len;generalize htgt:((0,(0,0))::Au toks sts 0:List Pt)=tgt;refine bf ?_;refine aa ?_;refine xp rfl (au (H.HP ) rfl) ?_;refine xo rfl (mz) ?_;rintro _ h1 ⟨rfl,hh1⟩;have e1:ah h h1:=by rw[hh1];exact Ext.push _ _ _
 have z1:h1.size=h.size+1:=by rw[hh1];simp
 have ho1:eP 3 iF h1 h.size 233 (.slice (some ⟨h.size,0,none⟩) 1 1) [(0,(0,0))]:=by rw[hh1];exact eP.mM (fun _=>rfl) h ((0,(0,0)):Pt) 233 h.size (Nat.le_refl _) rfl
 refine aa ?_;refine aY rfl (b7 rfl rfl ((k.af e1))) ?_;rintro _ h2 ⟨rfl,k2,x2,z2⟩;have k2:az h2 b 238 (ox l s (.slice ta tn tc) (.slice sa sn sc) en (.slice (some ⟨h.size,0,none⟩) 1 1) n):=k2;have ho2:eP 3 iF h2 h.size 233 (.slice (some ⟨h.size,0,none⟩) 1 1) [(0,(0,0))]:=ay.ext x2 ho1 (fun x hx (q:x=b)=>by have:=(ay.lt ho1 hx).1;omega);have e02:Ext (fun x=>x=b) h h2:=(ah.of e1).trans x2;refine aa ?_;refine xp rfl (aA rfl (k2.cell (i:=2) rfl)) ?_;refine aa ?_;refine eR (σ:=Nat×Value×List Pt×Pt) (fun q=>[(14,.int .i64 (q.1:Nat))]) (fun q h'=>(q.1<=tn/\q.2.2.1.length<=q.1/\ -1000000<=q.2.2.2.1/\q.2.2.2.1<=1000000)/\Ext (fun x=>x=b) h h'/\az h' b 238 (ox l s (.slice ta tn tc) (.slice sa sn sc) en q.2.1 n)/\eP 3 iF h' h.size 233 q.2.1 (q.2.2.1++[q.2.2.2])/\(q.2.2.1++[q.2.2.2])++Au (toks.drop q.1) (sts.drop q.1) q.2.2.2.1=tgt) (fun q=>tn-q.1) ((0,.slice (some ⟨h.size,0,none⟩) 1 1,[],(0,(0,0)))) ⟨⟨Nat.zero_le _,Nat.le_refl _,show (-1000000:Int)<=0 by decide,show (0:Int)<=1000000 by decide⟩,e02,k2,ho2,htgt⟩ rfl ?_;rintro⟨i,pv,pre,last⟩ g ⟨⟨hi,hpl,hl1,hl2⟩,eg,kg,hp,hcon⟩ ih
 try dsimp only
 dsimp only at hi hpl hl1 hl2 kg hp hcon;have zg:=eg.size;refine aa ?_;refine aQ (fun hlt=>?_) (fun hlt=>?_)
 · have hit:i<tn:=by omega
   obtain⟨bt,ot,t,hta,hbt,htk,hrow⟩:=((ht.tP eg).open_slice).fC hit;obtain⟨bs',os',st,hsa,hbs',hst,hrow0⟩:=hss.fC (i:=i) (by omega);have hrow2:=eg.rowAt (fun q=>hbs' (.inl q)) hrow0;have hbsz:bs'<h.size:=bS hrow0 (List.cons_ne_nil _ _);have hdt:toks.drop i=t::toks.drop (i+1):=by obtain⟨h3,h4⟩:=List.getElem?_eq_some_iff.1 htk;rw[<-h4];exact List.drop_eq_getElem_cons h3
   have hds:sts.drop i=st::sts.drop (i+1):=by obtain⟨h3,h4⟩:=List.getElem?_eq_some_iff.1 hst;rw[<-h4];exact List.drop_eq_getElem_cons h3
   have htp:=hpos t (List.mem_of_getElem? htk);rw[hdt,hds,Au] at hcon
   iterate 4 refine aI ?_
   refine bU ?_;refine aU ?_;refine xp rfl (bT rfl rfl i rfl hta hit) ?_;refine xp rfl (bI rfl hrow) ?_;refine xo rfl (cC) ?_;rintro _ g1 ⟨rfl,k3,f1,y1⟩;refine aa ?_;refine aY rfl (bM rfl rfl k3 (rC _)) ?_;rintro _ g2 ⟨rfl,k3,x3,y3⟩;have k3:az g2 g.size 308 (iU t):=k3;have eg2:ah g g2:=ah.only (h0:=g) f1 x3 (Nat.le_refl _);have kg2:=kg.af eg2;have hp2:=hp.af eg2;have zg2:=eg2.size;have hpr:aR Kn g2 (fun _=>False) pv (pre++[last]):=eP.read hp2 (fun _ _ k=>k);obtain⟨pa,pn,pc,rfl,hps⟩:=hpr.open;have hpn:(pre++[last]).length=pn:=hps.len;have hpn1:pre.length+1=pn:=by rw[<-hpn];simp
   obtain⟨bp,op,lp,hpa,_,hlp,hrow3⟩:=hps.fC (i:=pre.length) (by omega);obtain rfl:last=lp:=by simpa using hlp
   have hrowS:=eg2.rowAt (fun k=>k) hrow2;refine aa ?_;refine bP rfl (aA rfl (k3.cell (i:=1) rfl)) ?_;refine aa ?_;refine bP rfl (aA rfl (kg2.cell (i:=6) rfl)) ?_;refine aa ?_;refine bP rfl (aA rfl (kg2.cell (i:=6) rfl)) ?_
   iterate 2 refine mU ?_
   refine bP rfl (bT rfl rfl pre.length (by omega) hpa) ?_;refine aa ?_;refine bP rfl (aA rfl (hrow3 0 _ rfl)) ?_;refine aa ?_;refine aQ (fun hge=>?_) (fun hge=>?_)
   · have hge':last.1+64<=t.2.1:=hge;rw[if_pos hge'] at hcon;have hpo:=(ay.lt hp2 (b:=bp) (by rw[hpa];rfl))
     have hMb:¬(b8 (Value.slice pa pn pc).ownBlock b\/Array.size g2<=b):=by
      rintro(q|q)
      · have:=(ay.lt hp2 q.symm).1;omega
      · have:=kg2.lt;omega
     have hM3:¬(b8 (Value.slice pa pn pc).ownBlock g.size\/Array.size g2<=g.size):=by
      rintro(q|q)
      · have:=(ay.lt hp q.symm).2;omega
      · have:=k3.lt;omega
     have hMS:¬(b8 (Value.slice pa pn pc).ownBlock bs'\/Array.size g2<=bs'):=by
      rintro(q|q)
      · have:=(ay.lt hp2 q.symm).1;omega
      · omega
     have hho2:ay g2 h.size 233 3 (.slice pa pn pc) (pre++[last]).length ((pre++[last]).flatMap iF):=hp2;refine uq 20 (fun x=>b8 (Value.slice pa pn pc).ownBlock x\/Array.size g2<=x) (fun i=>Nat.blt i 19) ?_;refine ax 0 ?_;refine ax 1 ?_;refine ax 2 ?_;refine ax 3 ?_;refine aS 4 rfl (fun h' e=>aA rfl (e.cell hMb (kg2.cell (i:=6) rfl))) ?_;refine ax 5 ?_;refine aS 6 rfl (fun h' e=>aA rfl (e.cell hM3 (k3.cell (i:=1) rfl))) ?_;refine ax 7 ?_;refine ax 8 ?_;refine ax 9 ?_;refine aS 10 rfl (fun h' e=>aA rfl (e.cell hMb (kg2.cell (i:=3) rfl))) ?_;refine ax 11 ?_;refine aS 12 rfl (fun h' e=>bT rfl rfl i rfl hsa) ?_;refine aS 13 rfl (fun h' e=>bI rfl (e.rowAt hMS hrowS)) ?_;refine aS 14 rfl (fun h' e=>au (H.Fq _ _ _) rfl) ?_;refine ct 15 rfl (mz) ?_;rintro _ g3 ⟨rfl,hg3⟩;refine⟨fun _=>by rw[hg3];exact Ext.push _ _ _,?_⟩;have f3:ah g2 g3:=by rw[hg3];exact Ext.push _ _ _
     have y3:g3.size=g2.size+1:=by rw[hg3];simp
     have hrA:Lw.rowAt g3 g2.size 0 (iF (t.2.1,st)):=by rw[hg3];exact fJ _ _ _
     refine ct 16 rfl (bR underlying234 H.Kj rfl rfl (hho2.DY f3) rfl (.inr ⟨_,_,rfl,hrA⟩) (xM _) (by simp only[maxLen];omega) (by omega) (by omega)) ?_;rintro v4 g4 ⟨ho4,hx4,_,hv4⟩;refine⟨fun _=>hx4.mono (fun _ _ k=>.inl k),?_⟩;have kg4:=(kg2.af f3).ext hx4 (fun q=>hMb (.inl q));have z4:=hx4.size;obtain⟨qa,qc,hvq,_⟩:=ay.open ho4;refine BO 17 ?_;refine ax 18 ?_;refine eK 19 rfl (b7 rfl rfl kg4 (by rw[hvq];rfl)) ?_;rintro _ g5 ⟨rfl,kg5,x5,z5⟩;refine⟨nofun,?_⟩;refine dP ?_;refine aa ?_;have kg5:az g5 b 238 (ox l s (.slice ta tn tc) (.slice sa sn sc) en v4 n):=kg5;have ho4':eP 3 iF g4 h.size 233 v4 ((pre++[last])++[(t.2.1,st)]):=eP.of ho4 rfl rfl;have ho5:eP 3 iF g5 h.size 233 v4 ((pre++[last])++[(t.2.1,st)]):=ay.ext x5 ho4' (fun x hx (q:x=b)=>by have:=(ay.lt ho4' hx).1;omega)
     have eg5:Ext (fun x=>x=b) h g5:=⟨by have:=x5.size;omega,fun x hx hn=>by
      rw[x5.block x (by omega) hn,hx4.block x (by omega) (fun q=>by have:=(ay.lt hp q.symm).1;omega),f3.block x (by omega) (fun q=>q),eg2.block x (by omega) (fun q=>q)];exact eg.block x hx hn⟩
     exact ih (i+1,v4,pre++[last],(t.2.1,st)) ⟨⟨by show i+1<=tn;omega,by simp;omega,htp.1,htp.2⟩,eg5,kg5,ho5,by rw[<-hcon];simp⟩
   · have hge':¬last.1+64<=t.2.1:=hge;rw[if_neg hge'] at hcon;refine aa ?_;exact ih (i+1,.slice pa pn pc,pre,last) ⟨⟨by show i+1<=tn;omega,by show pre.length<=i+1;omega,hl1,hl2⟩,eg.trans (ah.of eg2),kg2,hp2,hcon⟩
 · obtain rfl:i=tn:=by omega
   have hdt:toks.drop i=[]:=List.drop_of_length_le (by omega);rw[hdt] at hcon;have hcon:(pre++[last])=tgt:=by rw[<-hcon];simp[Au]
   refine aa ?_;refine gE ?_;exact⟨_,rfl,⟨pv,kg,by rw[<-hcon];exact eP.read hp (fun x hx q=>by rcases q with q|q;omega;have:=hO x q;omega)⟩,eg⟩
end
end Go.Proofs.YtckomlgchbkekaaGreatDoor
namespace Go.Proofs.YtckomlgchbkekaaGreatDoor
open Go.Proofs.Tryz
open Go Go.Lw
set_option maxRecDepth 20000 set_option maxHeartbeats 4000000
set_option maxHeartbeats 4000000 in
theorem yC {O:Nat->Prop}{h:ai}{b:Nat}{n:Int}(k:jn O h b [] n) (hO:∀y,O y->y<h.size) :
 aj Tryz.prog 153 #[.pointer (some ⟨b,0,none⟩),.int .i64 0,.int .i64 0,.string (bs [])] h (aN fun r h'=>(r= .int .i64 0/\∃m,jn O h' b [] m)/\Ext (fun y=>y=b) h h'):=by
 obtain⟨h0,lb,tv,sv,pv,kG,kL,k3,hb0,kd,ht,hsv,hp⟩:=k;have ht:aR Il h (fun x=>x=b\/O x) tv []:=ht;have hsv:aR Nj h (fun x=>x=b\/O x) sv []:=hsv;have hp:aR Kn h (fun x=>x=b\/O x) pv [(0,(0,0))]:=hp;have hb:=kd.lt;obtain⟨ta,tn,tc,rfl,hts⟩:=id ht.open;obtain⟨sa,sn,sc,rfl,hss⟩:=id hsv.open;have htn:0=tn:=hts.len;have hsn:0=sn:=hss.len;subst htn hsn;have hq0:(bs ([]:By)).extract 0 0=bs []:=rfl;have hz0:(bs ([]:By)).size=0:=rfl;have htc:=hts.le;have hsc:=hss.le;refine bf ?_;refine aa ?_;refine xo rfl (aG rfl ((An kd))) ?_;rintro _ h ⟨rfl,hg0⟩;refine aa ?_;subst hg0;refine bV rfl (by simp) ?_;refine aI ?_;refine dM [(26,.bool false)] rfl ?_ ?_
 · refine aa ?_;refine RW.aO (d:=29) (b':=false) rfl (by simp) ?_;refine aa ?_;refine RW.aO (d:=34) (b':=false) rfl (by simp) ?_;refine aa ?_;refine xp rfl (aA rfl (kd.cell (i:=1) rfl)) ?_;refine aa ?_;exact aL rfl ⟨ak rfl (by decide),sb rfl⟩
 · refine bV rfl (by decide) ?_;refine aa ?_;refine xp rfl (aA rfl (kd.cell (i:=1) rfl)) ?_;refine aa ?_;refine bV rfl (by decide) ?_;refine aa ?_;refine bP rfl (aA rfl (kd.cell (i:=1) rfl)) ?_;refine aa ?_;refine bP rfl (an.jM underlying9 rfl rfl 0 rfl (by decide)) ?_;refine mU ?_;refine bP rfl (an.bL rfl rfl (by decide)) ?_;refine aa ?_;refine bP rfl (aA rfl (kd.cell (i:=1) rfl)) ?_;refine aa ?_;refine bP rfl (an.dB underlying9 rfl rfl 0 rfl (by decide)) ?_;refine bP rfl (an.bL rfl rfl (by decide)) ?_;have hbef:=zj kd hp (by decide) rfl (by simp) 0 (by decide);refine aa ?_;refine xp rfl (aA rfl (kd.cell (i:=1) rfl)) ?_;refine aU ?_;refine xp rfl (an.pQ rfl rfl ⟨by decide,by decide⟩) ?_;refine aa ?_;refine xo rfl (aG rfl hbef) ?_;rintro _ g1 ⟨⟨p,rfl,hbp⟩,e1⟩;refine xo rfl (cC) ?_;rintro _ g2 ⟨rfl,k11,e2,z2⟩;refine aY rfl (bM rfl rfl k11 (xM _)) ?_;rintro _ g3 ⟨rfl,k11,x3,z3⟩;obtain rfl:p=(0,(0,0)):=List.mem_singleton.1 hbp.1;have k11:az g3 g1.size 233 (iF (0,(0,0))):=k11;have z1:=e1.size;have e03:ah h g3:=ah.only (e1.trans e2) x3 z1;have kd3:=kd.af e03;have hM1:¬Array.size g3<=b:=by have:=kd3.lt;omega
   have hM2:¬Array.size g3<=g1.size:=by have:=k11.lt;omega
   have hfst:=wV (ht.af e03) (by decide) (fun i j t u _ h2 _=>by simp at h2) 0;refine aa ?_;refine ic 8 8 ?_;refine ax 0 ?_;refine ax 1 ?_;refine ax 2 ?_;refine aS 3 rfl (fun h' e=>aA rfl (e.cell hM1 (kd3.cell (i:=2) rfl))) ?_;refine ax 4 ?_;refine aS 5 rfl (fun h' e=>aA rfl (e.cell hM2 (k11.cell (i:=0) rfl))) ?_;refine ct 6 rfl (aG rfl hfst) ?_;rintro _ g4 ⟨⟨q,rfl,hqk,-,-⟩,e4⟩;refine⟨fun _=>e4.of,?_⟩;obtain rfl:q=0:=Nat.le_zero.1 hqk;have e04:ah h g4:=e03.trans e4;have kd4:=kd.af e04;have k11:=k11.af e4;have hM1:¬Array.size g4<=b:=by have:=kd4.lt;omega
   have hct:=oA (v:=.slice (aP ta 0 3 tc) 0 tc) (xs:=[]) (((ht.af e04).open_slice).part (i:=0) (j:=0) (Nat.zero_le _) (Nat.le_refl _)).shut (by decide);have hcs:∀g5,ah g4 g5->_:=fun g5 e5=>yJ (v:=.slice (aP sa 0 2 sc) 0 sc) (xs:=[]) (((hsv.af (e04.trans e5)).open_slice).part (i:=0) (j:=0) (Nat.zero_le _) (Nat.le_refl _)).shut (by decide)
   refine ax 7 ?_;refine dP ?_;refine aa ?_;refine ic 16 16 ?_;refine ax 0 ?_;refine ax 1 ?_;refine ax 2 ?_;refine aS 3 rfl (fun h' e=>aA rfl (e.cell hM1 (kd4.cell (i:=2) rfl))) ?_;refine ax 4 ?_;refine aS 5 rfl (fun h' e=>an.ie underlying235 H.JM rfl rfl 0 rfl (by omega)) ?_;refine ax 7 ?_;refine ax 8 ?_;refine ax 9 ?_;refine aS 10 rfl (fun h' e=>aA rfl (e.cell hM1 (kd4.cell (i:=3) rfl))) ?_;refine ax 11 ?_;refine aS 12 rfl (fun h' e=>an.ie underlying236 H.Dx rfl rfl 0 rfl (by omega)) ?_;refine ct 6 rfl (aG rfl hct) ?_;rintro tv1 g5 ⟨ho5,e5⟩;refine⟨fun _=>e5.of,?_⟩;refine ct 13 rfl (aG rfl (hcs _ e5)) ?_;rintro sv1 g6 ⟨hp6,e6⟩;refine⟨fun _=>e6.of,?_⟩;have z5:=e5.size;have z6:=e6.size;have e46:ah g4 g6:=e5.trans e6;have ho6:=ho5.af e6;have k11:=k11.af e46;have kd6:=kd4.af e46;have hp6:eP 2 jd g6 g4.size 231 sv1 []:=ay.lower hp6 z5;have hM2:¬Array.size g6<=g1.size:=by have:=k11.lt;omega
   have hr11:Lw.rowAt g6 g1.size (0+1) (jd (0,0)):=k11.part 1 (fun j v hj=>by match j,hj with| 0,hj=>exact hj| 1,hj=>exact hj|j+2,hj=>simp[jd] at hj);refine ax 14 ?_;refine ax 15 ?_;refine dP ?_;refine aa ?_;refine ic 7 7 ?_;refine ax 0 ?_;refine aS 1 rfl (fun h' e=>aA rfl (e.cell hM2 (k11.cell (i:=0) rfl))) ?_;refine ax 2 ?_;refine aS 3 rfl (fun h' e=>bI rfl (e.rowAt hM2 hr11)) ?_;refine ct 4 rfl (cC) ?_;rintro _ g7 ⟨rfl,k16,e7,z7⟩;refine⟨fun _=>e7.of,?_⟩;refine ax 5 ?_;refine eK 6 rfl (bM rfl rfl k16 (qQ _)) ?_;rintro _ g8 ⟨rfl,k16,x8,z8⟩;refine⟨fun _=>x8.mono (fun b _ k=>by have k:b=g6.size:=k;omega),?_⟩;have k16:az g8 g6.size 231 (jd (0,0)):=k16;have e68:ah g6 g8:=ah.only (h0:=g6) e7 x8 (Nat.le_refl _);refine dP ?_;refine aa ?_;refine aY rfl (b7 rfl rfl ((kd6.af e68))) ?_;rintro _ g9 ⟨rfl,kd9,x9,z9⟩;have kd9:az g9 b 238 (ox (.pointer (some ⟨lb,0,none⟩)) [] (.slice ta 0 tc) (.slice sa 0 sc) (0,0) pv 0):=kd9;have hbg:b<g6.size:=kd6.lt;have hb4:b<g4.size:=kd4.lt;have x09:Ext (fun y=>y=b) h g9:=(ah.of (e04.trans (e46.trans e68))).trans x9;have k169:=k16.ext x9 (by omega);have ho9:=ay.ext x9 (ho6.af e68) (fun y hy k=>by have:=ay.lt ho6 (b:=y) hy;omega);have hp9:=ay.ext x9 (hp6.af e68) (fun y hy k=>by have:=ay.lt hp6 (b:=y) hy;omega);have z4:=e04.size;have hth:aR Il g9 (fun y=>y=b\/O y) tv1 []:=eP.read ho9 (fun y hy k=>by rcases k with k|k;omega;have:=hO y k;omega);have hsh:aR Nj g9 (fun y=>y=b\/O y) sv1 []:=eP.read hp9 (fun y hy k=>by rcases k with k|k;omega;have:=hO y k;omega);have c6:g4.size<=g6.size:=e46.size;obtain⟨qa,qc,hvq,_⟩:=ay.open ho9;obtain⟨qa',qc',hvq',_⟩:=ay.open hp9;generalize hcc:g6.size=c at *;refine aa ?_;refine eR (σ:=Unit) (fun _i=>[(13,tv1),(14,sv1),(15,.int .i64 0),(17,.int .i64 0)]) (fun _i g=>g=g9) (fun _i=>0) (()) rfl rfl ?_;rintro _i g hg ih;subst hg;refine aa ?_;refine bV rfl (by decide) ?_
   iterate 3 refine aI ?_
   refine dM [(231,.bool false)] rfl ?_ ?_
   · refine aa ?_;refine RW.aO (d:=223) (b':=false) rfl ((by decide)) ?_;refine aa ?_;exact aL rfl ⟨ak rfl (rfl),sb rfl⟩
   · refine bV rfl (by decide) ?_;have hcsz:=k169.lt;have hMc:¬(c=b\/Array.size g<=c):=by omega
     refine aa ?_;refine uq 20 (fun y=>y=b\/Array.size g<=y) (fun i=>Nat.blt i 20) ?_;refine ax 0 ?_;refine ax 1 ?_;refine ax 2 ?_;refine ax 3 ?_;refine ax 4 ?_;refine ax 5 ?_;refine ax 6 ?_;refine aS 7 rfl (fun h' e=>bI rfl (e.rowAt hMc k169.row)) ?_;refine ax 8 ?_;refine ax 9 ?_;refine eK 10 rfl (b7 rfl rfl kd9) ?_;rintro _ g1 ⟨rfl,k1,x1,z1⟩;refine⟨fun _=>x1.mono (fun _ _ k=>.inl k),?_⟩;refine ax 11 ?_;refine ax 12 ?_;refine eK 13 rfl (b7 rfl rfl k1 (by rw[hvq];rfl)) ?_;rintro _ g2 ⟨rfl,k2,x2,z2⟩;refine⟨fun _=>x2.mono (fun _ _ k=>.inl k),?_⟩;refine ax 14 ?_;refine ax 15 ?_;refine eK 16 rfl (b7 rfl rfl k2 (by rw[hvq'];rfl)) ?_;rintro _ g3 ⟨rfl,k3',x3,z3⟩;refine⟨fun _=>x3.mono (fun _ _ k=>.inl k),?_⟩;refine ax 17 ?_;refine ax 18 ?_;refine eK 19 rfl (bM rfl rfl k3' (qQ _)) ?_;rintro _ g4 ⟨rfl,k4,x4,z4⟩;refine⟨fun _=>x4.mono (fun _ _ k=>.inl k),?_⟩;refine dP ?_;refine aa ?_;have k4:az g4 b 238 (ox (.pointer (some ⟨lb,0,none⟩)) [] tv1 sv1 (0,0) pv 0):=k4;have x04:Ext (fun y=>y=b) g g4:=((x1.trans x2).trans x3).trans x4;have hmk:=Cv k4 (hth.tP x04) (hsh.tP x04) rfl (by decide) (fun t ht=>by cases ht) (fun y hy=>by have:=hO y hy;have:=x09.size;have:=x04.size;omega);refine xo rfl (aG rfl hmk) ?_;rintro _ g5 ⟨⟨pv',k5,hpt⟩,x5⟩;refine aa ?_;refine aW ?_;have x05:Ext (fun y=>y=b) g g5:=x04.trans x5;have x0:Ext (fun y=>y=b) h g5:=x09.trans x05;exact⟨_,rfl,⟨rfl,0,⟨h0,lb,tv1,sv1,pv',kG,kL.tP x0,ah.only k3 x0 hb0.1,hb0,k5,hth.tP x05,hsh.tP x05,hpt⟩⟩,x0⟩
end Go.Proofs.YtckomlgchbkekaaGreatDoor
namespace Go.Proofs.YtckomlgchbkekaaGreatDoor
open Go.Proofs.Tryz
open Go Go.Lw
set_option maxRecDepth 20000 set_option maxHeartbeats 4000000
section
variable {Z:Nat->Prop}{h:ai}{b:Nat}
theorem I5 {h0:ai}{lb:Nat}{pv:Value}(kG:BM h0) (kL:vB (fun x=>x=b\/Z x) h (.pointer (some ⟨lb,0,none⟩))) (e:ah h0 h) (hb:h0.size<=b) (hZ:∀y,Z y->h0.size<=y) (kd:az h b 238 (ox (.pointer (some ⟨lb,0,none⟩)) [] (.slice none 0 0) (.slice none 0 0) (0,0) pv 0)) (hp:aR Kn h (fun y=>y=b\/Z y) pv [(0,(0,0))]):jn Z h b [] 0 :=
 ⟨h0,lb,_,_,pv,kG,kL,e,⟨hb,hZ⟩,kd,aR.nil _ _ _,aR.nil _ _ _,hp⟩
theorem jn.steps {O:Nat->Prop}{s:By}{n:Int}(k:jn O h b s n):∃lp tv sv pv,az h b 238 (ox (.pointer (some lp)) s tv sv (BB s).2 pv n)/\∀h' m,az h' b 238 (ox (.pointer (some lp)) s tv sv (BB s).2 pv m)->Ext (fun y=>y=b) h h'->jn O h' b s m:=by
 obtain⟨h0,lb,tv,sv,pv,kG,kL,k3,hb0,kd,ht,hs,hp⟩:=k;exact⟨_,tv,sv,pv,kd,fun h' m k' x=>⟨h0,lb,tv,sv,pv,kG,kL.tP x,ah.only k3 x hb0.1,hb0,k',ht.tP x,hs.tP x,hp.tP x⟩⟩
theorem yD {h00:ai}{lp:Value}(kG:BM h00) (e00:ah h00 h) (hZ:∀y,Z y->h00.size<=y/\y<h.size) (kL:vB Z h lp) (s:By) (hs:s.length=0) :
 aj Tryz.prog 107 #[lp,.string (bs s)] h (aN fun r h'=>(∃b:Nat,r= .pointer (some ⟨b,0,none⟩)/\h.size<=b/\jn Z h' b s 0)/\ah h h'):=by
 have hbs:=aC s;obtain rfl:s=[]:=List.length_eq_zero_iff.1 hs;obtain⟨lb,vm,rfl,kLo,kL1,kL2⟩:=id kL;have hz00:=e00.size;refine bf ?_;refine aI ?_;refine bU ?_;refine aU ?_;refine bJ ?_
 iterate 2 refine aI ?_
 refine dM [(12,.bool false)] rfl ?_ ?_
 · refine aU ?_;refine xp rfl (an.gp underlying174 rfl rfl) ?_;refine aa ?_;refine RW.aO (d:=8) (b':=false) rfl (rfl) ?_;refine aa ?_;exact aL rfl ⟨ak rfl (by decide),sb rfl⟩
 · refine bV rfl (by decide) ?_;refine aa ?_;refine xp rfl (au (H.HP ) rfl) ?_;refine xo rfl (mz) ?_;rintro _ h1 ⟨rfl,hh1⟩;refine xp rfl (au (H.Fp _ _ _ _) rfl) ?_;refine xo rfl (cM) ?_;rintro _ h2 ⟨rfl,k2,e2,z2⟩;have e1:ah h h1:=by rw[hh1];exact Ext.push _ _ _
   have z1:h1.size=h.size+1:=by rw[hh1];simp
   have ho1:eP 3 iF h1 h.size 233 (.slice (some ⟨h.size,0,none⟩) 1 1) [(0,(0,0))]:=by rw[hh1];exact eP.mM (fun _=>rfl) h ((0,(0,0)):Pt) 233 h.size (Nat.le_refl _) rfl
   have ho2:=ho1.af e2
   have hd:jn Z h2 h1.size [] 0:=I5 kG (kL.mv (Mv.dI (e1.trans e2) fun y hy hn=>⟨fun q=>q,fun q=>q.elim (fun q=>by omega) hn⟩)) (e00.trans (e1.trans e2)) (by omega) (fun y q=>(hZ y q).1) k2 (by
    have hp:aR Kn h2 (fun y=>y=h1.size\/Z y) (.slice (some ⟨h.size,0,none⟩) 1 1) [(0,(0,0))]:=ay.KI ho2 (fun y hy (q:y=h1.size\/Z y)=>by have h5:h.size=y:=Option.some.inj hy;rcases q with q|q;omega;have:=(hZ y q).2;omega);exact hp)
   have hed:=yC hd (fun y q=>by have:=(hZ y q).2;omega);refine aa ?_;refine xo rfl (aG rfl hed) ?_;rintro _ h3 ⟨⟨rfl,m,hd3⟩,x3⟩;obtain⟨lp,tv,sv,pv,kd,hset⟩:=hd3.steps;refine aa ?_;refine aY rfl (b7 rfl rfl kd) ?_;rintro _ h4 ⟨rfl,kd4,x4,z4⟩;refine aa ?_;have hd4:=hset h4 0 kd4 x4;refine aW ?_;exact⟨_,rfl,⟨_,rfl,by omega,hd4⟩,ah.only (ah.only (e1.trans e2) x3 (by omega)) x4 (by omega)⟩
theorem jn.grow {O O':Nat->Prop}{h':ai}{s:By}{n:Int}(k:jn O h b s n) (e:ah h h') (hO:∀y,O' y->O y\/h.size<=y):jn O' h' b s n:=by
 obtain⟨h0,lb,tv,sv,pv,kG,kL,k3,hb0,kd,ht,hs,hp⟩:=k
 have m:Mv (fun x=>x=b\/O x) (fun x=>x=b\/O' x) h h':=⟨e.size,fun y hy hn=>⟨e.block y hy (fun q=>q),fun q=>by
  rcases q with q|q
  · exact hn (.inl q)
  · rcases hO y q with q|q
    · exact hn (.inr q)
    · omega⟩⟩
 have hz:=k3.size;exact⟨h0,lb,tv,sv,pv,kG,kL.mv m,k3.trans e,⟨hb0.1,fun y hy=>by rcases hO y hy with q|q;exact hb0.2 y q;omega⟩,kd.af e,ht.mv m,hs.mv m,hp.mv m⟩
abbrev Ph (Z:Nat->Prop) (eb db ub:Nat) (wv gv:Value):Nat->Prop:=fun y=>y=eb\/y=db\/P7 ub wv gv y\/Z y
abbrev MX:Nat->Prop:=fun _=>False
def Pj (s:MS) (rv hv lv fv tv:Value) (ub db:Nat):List Value:=M3 s rv hv lv fv++[tv,.pointer (some ⟨ub,0,none⟩),.pointer (some ⟨db,0,none⟩),.int .i64 0,.bool false,.int .i64 0,.int .i32 0]
structure Oz (Z:Nat->Prop) (base:Nat) (h:ai) (eb db ub:Nat) (wv gv tv rv hv lv fv:Value) (n:Int) (s:MS) (u:LL):Prop where
 blk:az h eb 181 (Pj s rv hv lv fv tv ub db)
 txt:Oy Z h tv s.text
 un:BF Z h ub wv gv u
 doc:jn (Ph Z eb db ub wv gv) h db s.text n
 ms:Lv (Ph Z eb db ub wv gv) h s rv hv lv fv
 low:∀y,Ph MX eb db ub wv gv y->base<=y
 zt:∀y,Z y->cq h y 9
def nE (Z:Nat->Prop) (base:Nat) (h:ai) (eb:Nat) (e:Lz):Prop:=∃db ub wv gv tv rv hv lv fv n,Oz Z base h eb db ub wv gv tv rv hv lv fv n e.s e.u
section
variable {Z:Nat->Prop}{base:Nat}{h h':ai}{eb db ub:Nat}{wv gv tv rv hv lv fv:Value}{n:Int}{s:MS}{u:LL}
theorem Oz.af (k:Oz Z base h eb db ub wv gv tv rv hv lv fv n s u) (x:ah h h'):Oz Z base h' eb db ub wv gv tv rv hv lv fv n s u :=
 ⟨k.blk.af x,k.txt.mv (Mv.LF x),k.un.af x,k.doc.af x,k.ms.af x,k.low,fun y q=>(k.zt y q).ext x (fun q=>q)⟩
end
theorem nE.af {Z:Nat->Prop}{base:Nat}{h h':ai}{eb:Nat}{e:Lz}(k:nE Z base h eb e) (x:ah h h'):nE Z base h' eb e:=by
 obtain⟨_,_,_,_,_,_,_,_,_,_,k⟩:=k;exact⟨_,_,_,_,_,_,_,_,_,_,k.af x⟩
theorem Bb {eb ub db:Nat}{s:MS}{rv hv lv fv tv:Value}(k:az h eb 181 (Pj s rv hv lv fv tv ub db)) :
 aj Tryz.prog 175 #[.pointer (some ⟨eb,0,none⟩)] h (aN fun r h'=>r= .bool false/\h'=h):=by
 refine bf ?_;refine aI ?_;refine bU ?_;refine aU ?_;refine bJ ?_;refine aI ?_;refine dM [(2,.bool false)] rfl ?_ ?_
 · refine aU ?_;refine xp rfl (an.gp underlying131 rfl rfl) ?_;refine aa ?_;refine RW.aO (d:=5) (b':=false) rfl (rfl) ?_;refine aa ?_;refine xp rfl (aA rfl (k.cell (i:=21) rfl)) ?_;refine xp rfl (an.gp underlying172 rfl rfl) ?_;refine aa ?_;exact aL rfl ⟨ak rfl (rfl),sb rfl⟩
 · refine aW ?_;exact⟨_,rfl,rfl,rfl⟩
theorem zZ {base:Nat}{eb:Nat}{e:Lz}(k:nE Z base h eb e){B:Nat}(hI:MI B e.s) (hB:B<=5000000) :
 aj Tryz.prog 159 #[.pointer (some ⟨eb,0,none⟩)] h (aN fun r h'=>(∃xa xn xc ya yn yc za zn zc ua un uc,r= .agg (M3 e.s (.slice xa xn xc) (.slice ya yn yc) (.slice za zn zc) (.slice ua un uc)).toArray)/\ah h h'):=by
 obtain⟨db,ub,wv,gv,tv,rv,hv,lv,fv,m,K⟩:=k;obtain⟨s,u⟩:=e;dsimp only at K hI;obtain⟨xa,xn,xc,rfl,_⟩:=K.ms.ring.open;obtain⟨ya,yn,yc,rfl,_⟩:=K.ms.hist.open;obtain⟨za,zn,zc,rfl,_⟩:=K.ms.lines.open;obtain⟨ua,un,uc,rfl,_⟩:=K.ms.flags.open;have l1:=K.ms.ring.open_slice.len;have l2:=K.ms.hist.open_slice.len;have l3:=K.ms.lines.open_slice.len;have l4:=K.ms.flags.open_slice.len;have i2:=hI.ringn;have i3:=hI.histn;have i4:=hI.flags;have i5:=hI.linesn;refine bf ?_;refine aa ?_;refine xo rfl (cC) ?_;rintro _ h1 ⟨rfl,k1,e1,z1⟩;refine aa ?_;refine xo rfl (aG rfl (Bb (K.af e1).blk)) ?_;rintro _ h2 ⟨rfl,hh2⟩;refine aa ?_;subst hh2;refine bV rfl (by decide) ?_;have K2:=K.af e1;refine aa ?_;refine xp rfl (bI rfl (EF K2.blk.row)) ?_;refine xo rfl (cC) ?_;rintro _ h3 ⟨rfl,k3,e3,z3⟩;refine aY rfl (bM rfl rfl k3 ms1) ?_;rintro _ h4 ⟨rfl,k4,x4,z4⟩;have hle:h.size<=h2.size:=e1.size;have hne:¬h.size=h2.size:=by omega
 have E:ah h h4:=ah.only (e1.trans e3) x4 hle;have k1:=(k1.af e3).ext x4 hne;refine aa ?_;refine xp rfl (aA rfl (k4.cell (i:=4) rfl)) ?_;refine xo rfl (bR underlying47 H.Kg rfl rfl (ay.nil h4 h4.size 9 1) (show (s.ring.map FI).length=xn*1 by simp;omega) (aR.row (h1:=fun _=>rfl) (K.ms.ring.af E)).2.1 (yA _) (by simp only[maxLen];omega) (by omega) (by omega)) ?_;rintro v5 h5 ⟨ho5,hx5,_,_⟩;obtain⟨pa,pc,rfl,_⟩:=ho5.open;have e5:ah h4 h5:=hx5.mono fun _ _ q=>by cases q
 refine aa ?_;refine aY rfl (b7 rfl rfl ((k4.af e5))) ?_;rintro _ h6 ⟨rfl,k6,x6,z6⟩;have E:=ah.only (E.trans e5) x6 hle;have k1:=(k1.af e5).ext x6 hne;refine aa ?_;refine xp rfl (aA rfl (k6.cell (i:=5) rfl)) ?_;refine xo rfl (bR underlying47 H.Kg rfl rfl (ay.nil h6 h6.size 9 1) (show (s.hist.map FI).length=yn*1 by simp;omega) (aR.row (h1:=fun _=>rfl) (K.ms.hist.af E)).2.1 (yA _) (by simp only[maxLen];omega) (by omega) (by omega)) ?_;rintro v5 h5 ⟨ho5,hx5,_,_⟩;obtain⟨pa,pc,rfl,_⟩:=ho5.open;have e5:ah h6 h5:=hx5.mono fun _ _ q=>by cases q
 refine aa ?_;refine aY rfl (b7 rfl rfl ((k6.af e5))) ?_;rintro _ h6 ⟨rfl,k6,x6,z6⟩;have E:=ah.only (E.trans e5) x6 hle;have k1:=(k1.af e5).ext x6 hne;refine aa ?_;refine xp rfl (aA rfl (k6.cell (i:=16) rfl)) ?_;refine xo rfl (bR underlying47 H.Kg rfl rfl (ay.nil h6 h6.size 9 1) (show (s.lines.map FI).length=zn*1 by simp;omega) (aR.row (h1:=fun _=>rfl) (K.ms.lines.af E)).2.1 (yA _) (by simp only[maxLen];omega) (by omega) (by omega)) ?_;rintro v5 h5 ⟨ho5,hx5,_,_⟩;obtain⟨pa,pc,rfl,_⟩:=ho5.open;have e5:ah h6 h5:=hx5.mono fun _ _ q=>by cases q
 refine aa ?_;refine aY rfl (b7 rfl rfl ((k6.af e5))) ?_;rintro _ h6 ⟨rfl,k6,x6,z6⟩;have E:=ah.only (E.trans e5) x6 hle;have k1:=(k1.af e5).ext x6 hne;refine aa ?_;refine xp rfl (aA rfl (k6.cell (i:=17) rfl)) ?_;refine xo rfl (bR underlying167 H.Pf rfl rfl (ay.nil h6 h6.size 4 1) (show (s.flags.map Value.bool).length=un*1 by simp;omega) (aR.row (h1:=fun _=>rfl) (K.ms.flags.af E)).2.1 (fun u hu=>by obtain⟨_,_,rfl⟩:=List.mem_map.1 hu;rfl) (by simp only[maxLen];omega) (by omega) (by omega)) ?_;rintro v5 h5 ⟨ho5,hx5,_,_⟩;obtain⟨pa,pc,rfl,_⟩:=ho5.open;have e5:ah h6 h5:=hx5.mono fun _ _ q=>by cases q
 refine aa ?_;refine aY rfl (b7 rfl rfl ((k6.af e5))) ?_;rintro _ h6 ⟨rfl,k6,x6,z6⟩;have E:=ah.only (E.trans e5) x6 hle;have k1:=(k1.af e5).ext x6 hne;refine aa ?_;refine xp rfl (bI rfl k6.row) ?_;refine aY rfl (bM rfl rfl k1 ms1) ?_;rintro _ gz ⟨rfl,kz,xz,zz⟩;refine aa ?_;refine fG (fT rfl kz.row fF) ?_;exact⟨_,rfl,⟨_,_,_,_,_,_,_,_,_,_,_,_,rfl⟩,ah.only E xz (Nat.le_refl _)⟩
theorem yH (r:Int) (h0:0<=r) (h1:r<128):aj Tryz.prog 279 #[.int .i32 r] h (aN fun v h'=>v= .bool true/\h'=h):=by
 refine bf ?_;refine aI ?_;refine bU ?_;refine aU ?_;refine bJ ?_
 iterate 3 refine aI ?_
 refine dM [(3,.bool true)] rfl ?_ ?_
 · refine aa ?_;refine RW.aO (d:=6) (b':=true) rfl (decide_eq_true (by omega)) ?_;refine aa ?_;exact aL rfl ⟨ak rfl (by simp;omega),sb rfl⟩
 · refine fH rfl (by decide) ?_;refine aa ?_;refine aW ?_;exact⟨_,rfl,rfl,rfl⟩
theorem CX (r:Int) (h0:0<=r) (h1:r<128):aj Tryz.prog 228 #[.int .i32 r] h (aN fun v h'=>v= .string (Utf8.encode r)/\h'=h):=by
 refine bf ?_;refine aa ?_;refine xo rfl (aG rfl (yH r h0 h1)) ?_;rintro _ h1 ⟨rfl,hh1⟩;refine aa ?_;subst hh1;refine bV rfl (by decide) ?_
 iterate 2 refine aI ?_
 refine bU ?_;refine aU ?_;refine xp rfl (an.K3 underlying21 underlying9 rfl) ?_;refine aa ?_;refine aW ?_;exact⟨_,rfl,rfl,rfl⟩
end
end Go.Proofs.YtckomlgchbkekaaGreatDoor
namespace Go.Proofs.YtckomlgchbkekaaGreatDoor
open Go Go.Lw
set_option maxRecDepth 20000
theorem Lc:∀r:Nat,r<127->Utf8.encode ((r:Nat):Int)=bs [UInt8.ofNat r]:=by decide +kernel
theorem Ba {M:Nat->Prop}{L:Nat}{h g1 g2:ai}(e:Ext M h g1) (x:Ext (fun b=>b=L+1) g1 g2) (hL:h.size<=L):Ext M h g2 :=
 ⟨Nat.le_trans e.size x.size,fun b hb hm=>(x.block b (Nat.lt_of_lt_of_le hb e.size) (by omega)).trans (e.block b hb hm)⟩
theorem qI.Ba {M:Nat->Prop}{h h':ai}{g:Nat}{xs:List Nat}(k:qI h g xs) (x:Ext M h h') (hm:¬M g):qI h' g xs:=⟨k.blk.ext x hm,k.len⟩
theorem vG {α:Type}{l:List α}{i:Nat}{x:α}(hx:l[i]? =some x):l.take i++[x]=l.take (i+1):=by rw[List.take_add_one,hx];rfl
end Go.Proofs.YtckomlgchbkekaaGreatDoor
namespace Go.Proofs.YtckomlgchbkekaaGreatDoor
open Go.Proofs.Tryz
open Go Go.Lw
set_option maxRecDepth 20000 set_option maxHeartbeats 4000000
section
variable {pb g b i n cols:Nat}{h:ai}{t:TypeId}{v st:Value}{xs:List Nat}{l s pr mo:By}{x:UInt8}{at_:Int}
abbrev uA:List Value:=[.int .i64 0,.bool false,.bool false,.bool false]
abbrev F7:Value:=.agg #[.int .i64 0,.bool false,.bool false,.bool false]
def I3:fS Unit:=.record 4 (by decide) (fun _=>uA) (fun _=>rfl) (fun _ v hv=>by simp at hv;rcases hv with rfl|rfl<;>rfl)
def cR (h:ai) (pb:Nat) (xs:List Nat):Prop:=∃v,az h pb 253 [.int .i64 20,v]/\eP 6 kC h (pb+1) 58 v xs
def kJ (T:TypeId) (pb:Nat) (h:ai):Nat->Prop:=fun b=>b=pb\/(pb<b/\cq h b T)
theorem kJ.trans {T:TypeId}{pb:Nat}{h h1 h2:ai}(x:Ext (kJ T pb h) h h1) (y:Ext (kJ T pb h1) h1 h2):Ext (kJ T pb h) h h2 :=
 ⟨Nat.le_trans x.size y.size,fun b hb hm=>(y.block b (Nat.lt_of_lt_of_le hb x.size) fun q=>hm (q.imp (fun q=>q) fun⟨q1,c,f,q2⟩=>⟨q1,c,f,(x.block b hb hm).symm.trans q2⟩)).trans (x.block b hb hm)⟩
theorem kJ.lx {T:TypeId}{h0 g:ai}(e0:ah h0 h) (hb:h0.size<=pb) (x:Ext (kJ T pb h) h g):ah h0 g:=⟨Nat.le_trans e0.size x.size,fun b hb' _=>(x.block b (by have:=e0.size;omega) (fun q=>by rcases q with q|q<;>omega)).trans (e0.block b hb' (fun q=>q))⟩
theorem kJ.keep {T:TypeId}{g:ai}(x:Ext (kJ T pb h) h g){cs:List Value}(k:az h b t cs) (hb:b≠pb) (ht:t≠T):az g b t cs:=k.ext x fun q=>by
 rcases q with q|⟨_,q⟩
 · exact hb q
 · exact k.ty.ne q ht rfl
abbrev mY (pb:Nat) (h:ai):Nat->Prop:=kJ 58 pb h
theorem cR.own (k:eP 6 kC h (pb+1) 58 v xs) (hb:b8 v.ownBlock b):mY pb h b:=.inr ⟨by have:=(ay.lt k hb.symm).1;omega,ay.ty k hb.symm⟩
theorem cR.af {h h':ai}{pb:Nat}{xs:List Nat}(k:cR h pb xs) (e:ah h h'):cR h' pb xs:=by
 obtain⟨v,k1,k2⟩:=k;exact⟨v,k1.af e,k2.af e⟩
theorem Cx (k:cR h pb xs) (hx:xs.length<=1000) (r:Nat){w:Int}(hw:w=1) :
 aj Tryz.prog 276 #[.pointer (some ⟨pb,0,none⟩),.int .i32 (r:Nat),.int .i64 w,F7] h (aN fun _ h'=>cR h' pb (xs++[r])/\Ext (mY pb h) h h'):=by
 subst hw;obtain⟨v,kp,kv⟩:=k;have hpl:=kp.lt;refine bf ?_;refine aa ?_;refine xo rfl (cM) ?_;rintro _ h1 ⟨rfl,k7,e1,z1⟩;have k7:az h1 h.size 56 uA:=k7;have kp1:=kp.af e1;have kv1:eP 6 kC h1 (pb+1) 58 v xs:=kv.af e1
 have hn1:¬(b8 v.ownBlock pb\/Array.size h1<=pb):=fun q=>by
  rcases q with q|q
  · have:=(ay.lt kv q.symm).1;omega
  · omega
 have hn2:¬(b8 v.ownBlock h.size\/Array.size h1<=h.size):=fun q=>by
  rcases q with q|q
  · have:=(ay.lt kv q.symm).2;omega
  · omega
 refine aa ?_;refine uq 14 (fun y=>b8 v.ownBlock y\/Array.size h1<=y) (fun i=>Nat.blt i 13) ?_;refine ax 0 ?_;refine ax 1 ?_;refine ax 2 ?_;refine ax 3 ?_;refine aS 4 rfl (fun h' e=>aA rfl (e.cell hn1 (kp1.cell (i:=1) rfl))) ?_;refine ax 5 ?_;refine ax 6 ?_;refine aS 7 rfl (fun h' e=>bI rfl (e.rowAt hn2 k7.row)) ?_;refine aS 8 rfl (fun h' e=>au (H.nA _ _ _ _ _ _) rfl) ?_;refine ct 9 rfl (mz) ?_;rintro _ h3 ⟨rfl,hh3⟩;refine⟨fun _=>by rw[hh3];exact Ext.push _ _ _,?_⟩;have e3:ah h1 h3:=by rw[hh3];exact Ext.push _ _ _
 subst hh3;refine ct 10 rfl (aH.dO underlying39 H.yB rfl rfl (kv1) rfl rfl ((LK r)) (by omega) (by decide) (by omega)) ?_;rintro v4 h4 ⟨ho4,hx4,hx4',hv4⟩;refine⟨fun _=>hx4'.mono (fun _ _ q=>.inl q),?_⟩;have kp4:=(kp1.af e3).ext hx4' (fun q=>hn1 (.inl q));obtain⟨na,nc,rfl,_⟩:=ay.open ho4;refine BO 11 ?_;refine ax 12 ?_;refine eK 13 rfl (b7 rfl rfl kp4) ?_;rintro _ h5 ⟨rfl,k5,x5,z5⟩;refine⟨nofun,?_⟩;refine dP ?_;refine aa ?_;refine bV rfl (by decide) ?_;refine aa ?_;refine gE ?_;have ho5:eP 6 kC h4 (pb+1) 58 _ (xs++[r]):=eP.of ho4 rfl rfl;exact⟨_,rfl,⟨_,k5,ay.ext x5 ho5 (fun b hb q=>by have:=ay.lt ho5 hb;omega)⟩,kJ.trans (kJ.trans (ah.of e1) (hx4.mono fun b _ q=>cR.own kv1 q)) (x5.mono fun b _ q=>.inl q)⟩
theorem th (hW:jH h){r:Nat}(h0:32<=r) (h1:r<127):aj Tryz.prog 220 #[.pointer (some ⟨pb,0,none⟩),.int .i32 (r:Nat)] h (aN fun _ h'=>ah h h'):=by
 refine bf ?_;refine aI ?_;refine Ej 21 (fun b=>Array.size h<=b) (fun i=>Nat.blt i 21) (fun(_u:Unit) (h':ai)=>ah h h') (fun(_u:Unit)=>[(24,.bool false)]) rfl ?_ ?_
 · refine ax 0 ?_;refine ax 1 ?_;refine ax 2 ?_;refine RD.aO (d:=6) (b':=true) rfl (by simp;omega) ?_;refine ax 3 ?_;refine ax 4 ?_;refine ax 5 ?_;refine ax 6 ?_;refine RD.aO (d:=10) (b':=true) rfl (by simp;omega) ?_;refine ax 7 ?_;refine ct 8 rfl (aG rfl (l7 hW h0 h1)) ?_;rintro _ g ⟨rfl,e⟩;refine⟨fun _=>e.of,?_⟩;refine ax 9 ?_;refine ax 10 ?_;refine ax 11 ?_;refine RD.aO (d:=15) (b':=false) rfl (by decide) ?_;refine Dt 12 ?_;refine Dt 13 ?_;refine Dt 14 ?_;refine Dt 15 ?_;refine Dt 16 ?_;refine Dt 17 ?_;refine Dt 18 ?_;refine Dt 19 ?_;refine ax 20 ?_;exact qz () e ⟨ak rfl (rfl),sb rfl⟩
 · rintro _ g e;refine bV rfl (by decide) ?_;refine aa ?_;refine gE ?_;exact⟨_,rfl,e⟩
theorem pY (hW:jH h) (k:cR h pb xs) (hx:xs.length<=1000){r:Nat}(h0:32<=r) (h1:r<127) :
 aj Tryz.prog 222 #[.pointer (some ⟨pb,0,none⟩),.int .i32 (r:Nat),F7] h (aN fun _ h'=>cR h' pb (xs++[r])/\Ext (mY pb h) h h'):=by
 refine bf ?_;refine aa ?_;refine xo rfl (cM) ?_;rintro _ g1 ⟨rfl,k5,e1,z1⟩;refine aa ?_;have k5:az g1 h.size 56 uA:=k5;refine bV rfl (by simp;omega) ?_;refine aa ?_;refine xo rfl (aG rfl (th (hW.af e1) h0 h1)) ?_;rintro _ g2 e2;refine aa ?_;refine xo rfl (aG rfl (xh ((hW.af e1).af e2) h0 h1)) ?_;rintro _ g3 ⟨rfl,e3⟩;have e03:=(e1.trans e2).trans e3;have k53:=(k5.af e2).af e3;have hM:¬Array.size g3<=h.size:=by have:=e2.size;have:=e3.size;omega
 refine aa ?_;refine ic 7 6 ?_;refine ax 0 ?_;refine ax 1 ?_;refine ax 2 ?_;refine aS 5 rfl (fun h' e=>bI rfl (e.rowAt hM k53.row)) ?_;refine ct 3 rfl (aG rfl (l7 (hW.af e03) h0 h1)) ?_;rintro _ g4 ⟨rfl,e4⟩;refine⟨fun _=>e4.of,?_⟩;refine ax 4 ?_;refine ct 6 rfl (aG rfl (Cx ((k.af e03).af e4) hx r (by decide))) ?_;rintro _ g5 ⟨k6,x5⟩;refine⟨nofun,?_⟩;refine dP ?_;refine gE ?_;exact⟨_,rfl,k6,kJ.trans (ah.of (e03.trans e4)) x5⟩
theorem qX (hl:l[0]? =some x) (h:x.toNat<128):ij l=x.toNat/\cA l=1:=by
 have hg:l.getD 0 0=x:=by rw[List.getD_eq_getElem?_getD,hl];rfl
 unfold ij cA Lib.decodeN;rw[hg,if_pos h];exact⟨rfl,rfl⟩
abbrev LM (s:By):Prop:=∀x∈s,32<=x.toNat/\x.toNat<127
abbrev FE (s:By):List Nat:=s.map UInt8.toNat
theorem zP (hx:s[i]? =some x):(FE s).take i++[x.toNat]=(FE s).take (i+1):=vG (by rw[List.getElem?_map,hx];rfl)
section
variable {h0 h:ai}{pb:Nat}
theorem xN (hW:jH h0) (e0:ah h0 h) (hb:h0.size<=pb) (k:cR h pb []) (hs:LM s) (hl:s.length<=500) :
 aj Tryz.prog 219 #[.pointer (some ⟨pb,0,none⟩),.string (bs s)] h (aN fun _ h'=>cR h' pb (FE s)/\Ext (mY pb h) h h'):=by
 have hbs:=aC s;have hpl:pb<h.size:=by obtain⟨v,kp,_⟩:=k;exact kp.lt
 refine bf ?_;refine aa ?_;refine xo rfl (aH.rT underlying9 rfl) ?_;rintro _ h1 ⟨rfl,i1,e1,z1⟩;refine aa ?_;refine eR (σ:=Nat) (fun _=>[]) (fun i g=>i<=s.length/\fQ g h.size (bs s) i/\cR g pb ((FE s).take i)/\Ext (mY pb h) h g) (fun i=>s.length-i) (0) ⟨Nat.zero_le _,i1,k.af e1,e1.of⟩ rfl ?_;rintro i g ⟨hi,hI,kg,xg⟩ ih
 by_cases hlt:i<s.length
 · obtain⟨x,hx⟩:∃x,s[i]? =some x:=⟨_,List.getElem?_eq_getElem hlt⟩
   obtain⟨p0,p1⟩:=hs x (List.mem_of_getElem? hx);obtain⟨d1,d2⟩:=qX (l:=s.drop i) (x:=x) (by rw[List.getElem?_drop];exact hx) (by omega);have hz:i<(bs s).size:=by omega
   refine aa ?_;refine xo rfl (aH.xS rfl (hI) (hz)) ?_;rintro _ g1 ⟨rfl,i2,x2,z2⟩;rw[CU,d1,d2] at *;refine aa ?_;refine fH rfl (by simp) ?_
   have hns:¬mY pb g h.size:=fun q=>by
    rcases q with q|⟨_,c,f,q⟩
    · omega
    · have q2:g[h.size]? =_:=hI;rw[q2] at q;cases q
   have kg1:cR g1 pb ((FE s).take i):=by
    obtain⟨v,kp,kv⟩:=kg;exact⟨v,kp.ext x2 (by omega),ay.ext x2 kv (fun b hb q=>hns (by subst q;exact cR.own kv hb.symm))⟩
   have xg1:Ext (fun b=>mY pb h b\/b=h.size) h g1:=(xg.mono fun _ _ q=>.inl q).trans (x2.mono fun _ _ q=>.inr q)
   have e0g:ah h0 g1:=⟨Nat.le_trans e0.size xg1.size,fun b hb' _=>(xg1.block b (by have:=e0.size;omega) (fun q=>by
    rcases q with q|q
    · rcases q with q|q<;>omega
    · have:=e0.size;omega)).trans (e0.block b hb' (fun q=>q))⟩
   refine aa ?_;refine fH rfl (by simp;omega) ?_;refine aa ?_;refine xp rfl (au (H.qu ) rfl) ?_;refine xo rfl (aG rfl (pY (hW.af e0g) kg1 (by rw[List.length_take];omega) p0 p1)) ?_;rintro _ g3 ⟨k3,x3⟩;refine aa ?_;rw[zP hx] at k3
   exact ih (i+1) ⟨hlt,i2.ext x3 (fun q=>by
    rcases q with q|⟨_,c,f,q⟩
    · omega
    · have q2:g1[h.size]? =_:=i2;rw[q2] at q;cases q),k3,⟨by have:=xg1.size;have:=x3.size;omega,fun b hb' hm=>by
    have hbs:¬b=h.size:=(by omega)
    have hm1:¬mY pb g1 b:=fun q=>hm (q.imp (fun q=>q) fun⟨q1,c,f,q2⟩=>⟨q1,c,f,(xg1.block b hb' (fun q=>q.elim hm hbs)).symm.trans q2⟩)
    exact(x3.block b (by have:=xg1.size;omega) hm1).trans (xg1.block b hb' (fun q=>q.elim hm hbs))⟩⟩ (by omega)
 · refine aa ?_;refine xo rfl (aH.xT rfl (hI) ((by omega))) ?_;rintro _ g1 ⟨rfl,rfl⟩;refine aa ?_;refine bV rfl (by simp) ?_;refine aa ?_;refine gE ?_;rw[List.take_of_length_le (by rw[List.length_map];omega)] at kg;exact⟨_,rfl,kg,xg⟩
end
theorem AF (hg:BM h){a:Nat}(hx:s[a]? =some x) (h1:x.toNat<128):aj Tryz.prog 135 #[.string (bs s),.int .i64 (a:Nat)] h (aN fun r h'=>r= .tuple #[.int .i32 (x.toNat:Nat),.int .i64 1,.bool true]/\ah h h'):=by
 have hbs:=aC s;have ha:=(List.getElem?_eq_some_iff.1 hx).1;obtain⟨d1,d2⟩:=qX (l:=s.drop a) (x:=x) (by rw[List.getElem?_drop];exact hx) h1;have hne:s.drop a≠[]:=by intro e;have:=congrArg List.length e;rw[List.length_drop,List.length_nil] at this;omega
 refine bf ?_;refine aI ?_;refine bU ?_
 iterate 3 refine aU ?_
 refine bJ ?_
 iterate 2 refine aI ?_
 refine dM [(14,.bool false)] rfl ?_ ?_
 · refine aa ?_;refine RW.aO (d:=9) (b':=false) rfl (decide_eq_false (by omega)) ?_;refine aa ?_;exact aL rfl ⟨ak rfl (by rw[decide_eq_false (by omega)]),sb rfl⟩
 · refine bV rfl (by decide) ?_;refine aa ?_;refine xp rfl (an.dB underlying9 rfl rfl a (by omega) (by omega)) ?_;rw[iX s a];refine xo rfl (aG rfl (tI hg (s.drop a) hne)) ?_;rintro _ h1 ⟨rfl,e1⟩
   iterate 5 refine aU ?_
   refine bJ ?_;refine aI ?_;rw[d1,d2];refine dM [(4,.int .i32 (x.toNat:Nat)),(5,.int .i64 1),(6,.bool true)] rfl ?_ ?_
   · refine aa ?_;refine RW.aO (d:=26) (b':=true) rfl (decide_eq_true (by omega)) ?_;refine aa ?_;exact aL rfl ⟨rfl,rfl,ak rfl (rfl),sb rfl⟩
   · refine aW ?_;exact⟨_,rfl,rfl,e1⟩
def BX (s:By) (st:Value) (cur:Int) (pr mo:By):List Value:=[.string (bs s),st,.int .i64 cur,.string (bs pr),.string (bs mo)]
theorem wM {cur:Int}(hst:aR I3 h (fun _=>False) st (List.replicate n ())) (hi:i<n) :
 aj Tryz.prog 223 #[.agg (BX s st cur pr mo).toArray,.int .i64 (i:Nat)] h (aN fun r h'=>r=F7/\ah h h'):=by
 obtain⟨oa,m,c,rfl,hs⟩:=hst.open;have hm:(List.replicate n ()).length=m:=hs.len;rw[List.length_replicate] at hm;subst hm;refine bf ?_;refine aa ?_;refine xo rfl (cM) ?_;rintro _ h1 ⟨rfl,k2,e1,z1⟩;refine xo rfl (cC) ?_;rintro _ h2 ⟨rfl,k4,e2,z2⟩;have k2:az h2 h.size 185 (BX s (.slice oa n c) cur pr mo):=k2.af e2;obtain⟨b,o,u,ha,_,hu,hrow⟩:=(hs.mv (Mv.af (e1.trans e2))).fC (i:=i) hi;refine aa ?_;refine xp rfl (aA rfl (k2.cell (i:=1) rfl)) ?_;refine aa ?_;refine fH rfl (by simp;omega) ?_;refine aa ?_;refine xp rfl (aA rfl (k2.cell (i:=1) rfl)) ?_;refine aU ?_;refine xp rfl (bT rfl rfl i rfl ha) ?_;refine xp rfl (bI rfl hrow) ?_;refine aY rfl (bM rfl rfl k4) ?_;rintro _ h3 ⟨rfl,k3,x3,z3⟩;refine aa ?_;refine fG (fT rfl k3.row fF) ?_;exact⟨_,rfl,rfl,ah.only (e1.trans e2) x3 (by omega)⟩
section
variable {h0 h:ai}{pb:Nat}
theorem EU (hW:jH h0) (e0:ah h0 h) (hb:h0.size<=pb) (k:cR h pb []) (hst:aR I3 h0 (fun _=>False) st (List.replicate s.length ())) (hs:LM s) (hpr:LM pr) (hl:s.length<=400) (hlp:pr.length<=100) :
 aj Tryz.prog 158 #[.pointer (some ⟨pb,0,none⟩),.agg (BX s st (s.length:Nat) pr mo).toArray] h (aN fun r h'=>r= .int .i64 ((pr++s).length:Nat)/\cR h' pb (FE (pr++s))/\Ext (mY pb h) h h'):=by
 have hbs:=aC s;have hasc:LA s:=fun c hc=>by have:=hs c hc;omega
 obtain⟨oa,m,c,rfl,_⟩:=id hst.open;have hpl:pb<h.size:=by obtain⟨v,kp,_⟩:=k;exact kp.lt
 refine bf ?_;refine aa ?_;refine xo rfl (cM) ?_;rintro _ h1 ⟨rfl,k3,e1,z1⟩;have k3:az h1 h.size 185 (BX s (.slice oa m c) (s.length:Nat) pr mo):=k3;refine aa ?_;refine xp rfl (aA rfl (k3.cell (i:=0) rfl)) ?_;refine aa ?_;refine xp rfl (aA rfl (k3.cell (i:=2) rfl)) ?_;refine xo rfl (aG rfl (E3 s (s.length:Nat) (by omega))) ?_;rintro _ h2 ⟨rfl,e2⟩;rw[Jn hasc (Nat.le_refl _)];have k32:=k3.af e2;have e02:=e0.trans (e1.trans e2);refine aa ?_;refine xp rfl (aA rfl (k32.cell (i:=3) rfl)) ?_;refine xo rfl (aG rfl (xN hW e02 hb ((k.af e1).af e2) hpr (by omega))) ?_;rintro _ h3 ⟨kp3,x3⟩;refine aa ?_;have x03:Ext (mY pb h) h h3:=kJ.trans (ah.of (e1.trans e2)) x3
 have hnv:∀g,az g h.size 185 (BX s (.slice oa m c) (s.length:Nat) pr mo)->¬mY pb g h.size:=fun g k q=>by
  rcases q with q|⟨_,q⟩
  · omega
  · exact q.ne k.ty (by decide) rfl
 refine eR (σ:=Nat) (fun i=>[(4,.int .i64 0),(6,.int .i64 (i:Nat))]) (fun i g=>i<=s.length/\cR g pb (FE pr++(FE s).take i)/\Ext (mY pb h) h g/\az g h.size 185 (BX s (.slice oa m c) (s.length:Nat) pr mo)) (fun i=>s.length-i) (0) ⟨Nat.zero_le _,by rw[List.take_zero,List.append_nil];exact kp3,x03,k32.ext x3 (hnv _ k32)⟩ rfl ?_;rintro i g ⟨hi,kg,xg,kv⟩ ih;have e0g:=kJ.lx e0 hb xg;refine aa ?_;refine xp rfl (aA rfl (kv.cell (i:=0) rfl)) ?_;refine aa ?_;refine aQ (fun hlt=>?_) (fun hlt=>?_)
 · have hil:i<s.length:=by omega
   obtain⟨x,hx⟩:∃x,s[i]? =some x:=⟨_,List.getElem?_eq_getElem hil⟩
   obtain⟨p0,p1⟩:=hs x (List.mem_of_getElem? hx);refine aa ?_;refine xp rfl (aA rfl (kv.cell (i:=0) rfl)) ?_;refine aa ?_;refine xo rfl (aG rfl (AF (hW.af e0g).lx hx (by omega))) ?_;rintro _ g1 ⟨rfl,f1⟩;refine aa ?_;refine bV rfl (by decide) ?_;refine aa ?_;refine xo rfl (aG rfl (th ((hW.af e0g).af f1) p0 p1)) ?_;rintro _ g2 f2;refine aa ?_;refine bV rfl (by simp;omega) ?_;refine aa ?_;refine bV rfl (by simp;omega) ?_;have f12:=f1.trans f2;have kv2:=kv.af f12;have xg2:Ext (mY pb h) h g2:=kJ.trans xg (ah.of f12);have e02:=kJ.lx e0 hb xg2;refine aa ?_;refine xp rfl (bI rfl kv2.row) ?_;refine aa ?_;refine xo rfl (aG rfl (wM (hst.af e02) hil)) ?_;rintro _ g3 ⟨rfl,f3⟩;have xg3:Ext (mY pb h) h g3:=kJ.trans xg2 (ah.of f3);have e03:=kJ.lx e0 hb xg3;refine xo rfl (aG rfl (pY (hW.af e03) ((kg.af f12).af f3) (by rw[List.length_append,List.length_take,List.length_map,List.length_map];omega) p0 p1)) ?_;rintro _ g4 ⟨k4,x4⟩;refine aa ?_;rw[List.append_assoc,zP hx] at k4;exact ih (i+1) ⟨hil,k4,kJ.trans xg3 x4,(kv2.af f3).ext x4 (hnv _ (kv2.af f3))⟩
 · obtain rfl:i=s.length:=by omega
   rw[List.take_of_length_le (by rw[List.length_map];omega),<-List.map_append] at kg;obtain⟨v,kp,kvv⟩:=kg;obtain⟨va,vc,rfl,hvv⟩:=ay.open kvv;refine aa ?_;refine xp rfl (aA rfl (kv.cell (i:=0) rfl)) ?_;refine aa ?_;refine fH rfl (by simp;omega) ?_;refine aa ?_;refine xp rfl (aA rfl (kp.cell (i:=1) rfl)) ?_;refine aa ?_;refine aW ?_;exact⟨_,rfl,by rw[List.length_map];rfl,⟨_,kp,kvv⟩,xg⟩
end
def rY (xs:List Nat):List Nat:=xs++List.replicate (80-xs.length) 32
theorem IJ (h:xs.length<=80):(rY xs).length=80:=by unfold rY;rw[List.length_append,List.length_replicate];omega
def upTo (p:List Nat) (i:Nat):List Nat:=p.take i++List.replicate (80-i) 32
theorem zI {p:List Nat}{x:Nat}(hp:p.length=80) (hx:p[i]? =some x):(upTo p i).set i x=upTo p (i+1):=by
 have hi:=(List.getElem?_eq_some_iff.1 hx).1;have hl:(p.take i).length=i:=by rw[List.length_take];omega
 unfold upTo;rw[List.take_add_one,hx,List.set_append_right _ _ (by omega),hl,Nat.sub_self,show 80-i=(80-(i+1))+1 by omega,List.replicate_succ,List.set_cons_zero,List.append_assoc];rfl
theorem En {p:List Nat}(hp:p.length=80) (hx:p[i]? =some 32):upTo p i=upTo p (i+1):=by
 have hi:=(List.getElem?_eq_some_iff.1 hx).1;unfold upTo;rw[List.take_add_one,hx,show 80-i=(80-(i+1))+1 by omega,List.replicate_succ,List.append_assoc];rfl
theorem A3 (hW:jH h) (hst:aR I3 h (fun _=>False) st (List.replicate s.length ())) (hs:LM s) (hpr:LM pr) (hn:(pr++s).length=n) (hl:n<20) :
 aj Tryz.prog 109 #[.agg (BX s st (s.length:Nat) pr mo).toArray,.int .i64 4,.int .i64 20] h (aN fun r h'=>(∃g,r= .tuple #[.agg (cy 4 20 (xl g) 0 (n:Nat)).toArray,.int .i64 0]/\h.size<=g/\qI h' g (rY (FE (pr++s))))/\ah h h'):=by
 have hsl:s.length<20:=by rw[List.length_append] at hn;omega
 have hprl:pr.length<20:=by rw[List.length_append] at hn;omega
 have hq0:IntKind.i64.wrap (Int.tdiv (n:Int) 20)=0:=by rw[Int.tdiv_eq_zero_of_lt (by omega) (by omega)];decide
 have hr0:Int.tmod (n:Int) 20=n:=Int.tmod_eq_of_lt (by omega) (by omega);have hxl:(FE (pr++s)).length=n:=by rw[List.length_map];exact hn
 generalize hps:FE (pr++s)=xs at *;obtain⟨oa,m,c,rfl,_⟩:=id hst.open;refine bf ?_;refine aa ?_;refine xo rfl (cM) ?_;rintro _ h1 ⟨rfl,k3,e1,z1⟩;refine xo rfl (cC) ?_;rintro _ h2 ⟨rfl,k6,e2,z2⟩;have k3:az h2 h.size 185 (BX s (.slice oa m c) (s.length:Nat) pr mo):=k3.af e2;refine aa ?_;refine xo rfl (aG rfl (sY (hW.af (e1.trans e2)))) ?_;rintro _ h3 ⟨⟨gb,rfl,hgb,kS⟩,e3⟩;refine aa ?_;refine aY rfl (bM rfl rfl ((k6.af e3)) ((jw rfl))) ?_;rintro _ h4 ⟨rfl,k4,x4,z4⟩;refine aa ?_;refine bV rfl (by decide) ?_;have k4:az h4 h1.size 41 (cy 4 20 (xl gb) 0 0):=k4;have e34:ah h h4:=ah.only ((e1.trans e2).trans e3) x4 e1.size;have zz3:=e3.size;have kS4:qI h4 gb (List.replicate 80 32):=kS.Ba x4 (by omega);have hgl:=kS4.blk.lt;refine aa ?_;refine xp rfl (au (H.Jh _) rfl) ?_;refine xo rfl (cM) ?_;rintro _ h5 ⟨rfl,k8,e5,z5⟩;have k8:az h5 h4.size 253 [.int .i64 20,.slice none 0 0]:=k8;have k35:=((k3.af e3).ext x4 (by omega)).af e5;refine aa ?_;refine xp rfl (bI rfl k35.row) ?_;refine xo rfl (aG rfl (EU (hW.af e34) e5 (Nat.le_refl _) ⟨_,k8,eP.nil _ _ _ _ _⟩ (hst.af e34) hs hpr (by omega) (by omega))) ?_;rintro _ h6 ⟨rfl,kL,x6⟩;rw[hn];rw[hps] at kL;have hsm:∀b,b<h4.size->¬mY h4.size h5 b:=fun b hb q=>by rcases q with q|q<;>omega
 have k46:az h6 h1.size 41 (cy 4 20 (xl gb) 0 0):=(k4.af e5).ext x6 (hsm _ (by omega));have kS6:qI h6 gb (List.replicate 80 32):=(kS4.af e5).Ba x6 (hsm _ hgl);have e06:ah h h6:=⟨by have:=e34.size;have:=x6.size;omega,fun b hb _=>by rw[x6.block b (by have:=e34.size;omega) (hsm _ (by have:=e34.size;omega)),e5.block b (by have:=e34.size;omega) (fun q=>q)];exact e34.block b hb (fun q=>q)⟩
 obtain⟨vS,kp,kvS⟩:=kL;obtain⟨sa,sc,rfl,hvv⟩:=ay.open kvS;rw[hxl] at kvS;have hplt:=kp.lt;have hf6:=k46.lt;refine aU ?_;refine bJ ?_;refine aI ?_;refine dM [(10,.int .i64 0)] rfl ?_ ?_
 · iterate 2 refine aU ?_
   refine xp rfl (dh rfl rfl (by decide)) ?_;rw[hq0];refine aU ?_;refine xp rfl (an.pQ rfl rfl ⟨by decide,by decide⟩) ?_;refine xp rfl (an.dZ rfl rfl ⟨by decide,by decide⟩) ?_;refine aa ?_;exact aL rfl
 · iterate 2 refine aI ?_
   refine bU ?_
   iterate 2 refine aU ?_
   refine xp rfl (an.dK rfl rfl ⟨by decide,by decide⟩) ?_;refine aa ?_;have hpl:=IJ (xs:=xs) (by omega);refine eR (σ:=Nat) (fun i=>[(39,.int .i64 (i:Nat))]) (fun i g=>i<=80/\qI g gb (upTo (rY xs) i)/\Ext (fun b=>b=gb) h6 g) (fun i=>80-i) (0) ⟨Nat.zero_le _,kS6,av _ _⟩ rfl ?_;rintro i g ⟨hi,kg,xg⟩ ih;have zxg:=xg.size;have kfg:=k46.ext xg (by omega);have kpg:=kp.ext xg (by omega);refine aa ?_;refine aQ (fun hlt=>?_) (fun hlt=>?_)
   · have hi80:i<80:=by omega
     iterate 4 refine aI ?_
     refine bU ?_
     iterate 2 refine aU ?_
     refine bJ ?_;refine aI ?_;refine bU ?_
     iterate 2 refine aU ?_
     refine xp rfl (an.dK rfl rfl ⟨by omega,by omega⟩) ?_;refine aa ?_;refine xp rfl (aA rfl (kpg.cell (i:=1) rfl)) ?_;rw[hxl];refine aa ?_;refine aQ (fun hin=>?_) (fun hin=>?_)
     · have hin':i<n:=by omega
       obtain⟨x,hx⟩:∃x,xs[i]? =some x:=⟨_,List.getElem?_eq_getElem (by omega)⟩
       have hpx:(rY xs)[i]? =some x:=by unfold rY;rw[List.getElem?_append_left (by omega)];exact hx
       obtain⟨b,o,cs,ha,hob,hrow,rfl⟩:=(show aR Oq h6 (fun b=>b=gb) (.slice sa n sc) xs from ay.Gc kvS (fun b hb q=>by omega)).open_slice.get i x hx;obtain⟨L,kLc,hLl,hov⟩:=kg.cells;have hobl:b<h6.size:=bS hrow (List.cons_ne_nil _ _);have hm1:¬Array.size g<=h1.size:=by omega
       have hm2:¬Array.size g<=h4.size:=by omega
       have hm3:¬Array.size g<=b:=by omega
       refine ic 12 11 ?_;refine ax 0 ?_;refine aS 1 rfl (fun h' e=>aA rfl (e.cell hm1 (kfg.cell (i:=2) rfl))) ?_;refine ax 2 ?_;refine ax 3 ?_;refine ax 4 ?_;refine ax 5 ?_;refine aS 6 rfl (fun h' e=>aA rfl (e.cell hm2 (kpg.cell (i:=1) rfl))) ?_;refine ax 7 ?_;refine aS 8 rfl (fun h' e=>bT rfl rfl i (by omega) ha) ?_;refine aS 9 rfl (fun h' e=>bI rfl (e.rowAt hm3 (xg.rowAt hob hrow))) ?_;refine aS 10 rfl (fun h' e=>bT rfl rfl i rfl rfl) ?_;refine eK 11 rfl (bM rfl rfl kLc ((LK x))) ?_;rintro _ g2 ⟨rfl,k2,x2,z2⟩;refine⟨nofun,?_⟩;refine dP ?_;refine aa ?_;exact ih (i+1) ⟨hi80,⟨by rw[<-zI hpl hpx,<-hov i x hi80];exact k2,by rw[<-zI hpl hpx,List.length_set];exact kg.len⟩,xg.trans x2⟩
     · have hpx:(rY xs)[i]? =some 32:=by unfold rY;rw[List.getElem?_append_right (by omega),List.getElem?_replicate,if_pos (by omega)]
       refine aa ?_;exact ih (i+1) ⟨hi80,by rw[<-En hpl hpx];exact kg,xg⟩
   · obtain rfl:i=80:=by omega
     have hup:upTo (rY xs) 80=rY xs:=by unfold upTo;rw[List.take_of_length_le (by omega)];simp
     rw[hup] at kg;refine aa ?_;refine ic 12 9 ?_;refine ax 0 ?_;refine ax 1 ?_;refine aS 2 rfl (fun h' e=>dh rfl rfl (by decide)) ?_;refine ax 3 ?_;refine aS 4 rfl (fun h' e=>an.pQ rfl rfl ⟨by rw[hq0];decide,by rw[hq0];decide⟩) ?_;refine ax 8 ?_;refine RD.bq 5 (listed':= #[true,true,true,true,true,true,false,false,true,false,false,false]) rfl (by kernel_rfl) (by kernel_rfl) (by kernel_rfl) rfl rfl rfl (fun _=>aD rfl) rfl ?_;refine RD.bq 6 (listed':= #[true,true,true,true,true,true,true,false,true,false,false,false]) rfl (by kernel_rfl) (by kernel_rfl) (by kernel_rfl) rfl rfl rfl (fun _=>aD rfl) rfl ?_;refine RD.bq 7 (listed':= #[true,true,true,true,true,true,true,true,true,false,false,false]) rfl (by kernel_rfl) (by kernel_rfl) (by kernel_rfl) rfl rfl rfl (fun _=>cI rfl rfl (by decide)) rfl ?_;refine eK 9 rfl (b7 rfl rfl kfg) ?_;rintro _ g2 ⟨rfl,k2,x2,z2⟩;refine⟨nofun,?_⟩;refine ax 10 ?_;refine eK 11 rfl (b7 rfl rfl k2) ?_;rintro _ g3 ⟨rfl,k5,x5,z5'⟩;refine⟨nofun,?_⟩;have k5:az g3 h1.size 41 (cy 4 20 (xl gb) 0 (n:Nat)):=by rw[hq0,hr0] at k5;exact k5
     refine dP ?_;refine aa ?_;refine xp rfl (bI rfl k5.row) ?_;refine aY rfl (bM rfl rfl k5 ((jw rfl))) ?_;rintro _ g4 ⟨rfl,k7,x7,z7⟩;refine aa ?_;have k7:az g4 h1.size 41 (cy 4 20 (xl gb) 0 (n:Nat)):=k7;refine fG (fT rfl k7.row (kZ fF)) ?_;have X:Ext (fun b=>b=h1.size) g g4:=(x2.trans x5).trans x7;have hz0:=e1.size;have hz1:=e2.size;exact⟨_,rfl,⟨gb,rfl,by omega,kg.Ba X (by omega)⟩,ah.only (ah.only e06 xg (by omega)) X (by omega)⟩
def kP (a b:Int):By:=[27,91]++Lib.itoa (a+1)++[59]++Lib.itoa (b+1)++[72]
theorem sA (hT:kY h){a b:Int}(ha:0<=a/\a<=100) (hb:0<=b/\b<=100) (l1:(Lib.itoa (a+1)).length<=100) (l2:(Lib.itoa (b+1)).length<=100) :
 aj Tryz.prog 165 #[.int .i64 a,.int .i64 b] h (aN fun r h'=>r= .string (bs (kP a b))/\ah h h'):=by
 have s1:=aC (Lib.itoa (a+1));have s2:=aC (Lib.itoa (b+1));have s3:(⟨#[27,91]⟩:ByteArray)=bs [27,91]:=rfl;have s4:(⟨#[59]⟩:ByteArray)=bs [59]:=rfl;have s5:(⟨#[72]⟩:ByteArray)=bs [72]:=rfl;refine bf ?_;refine aa ?_;refine xo rfl (aG rfl (fq hT (a+1) (by omega))) ?_;rintro _ h1 ⟨rfl,e1⟩;refine xp rfl (an.bL rfl rfl (by rw[s1];show 2+_<=_;omega)) ?_;rw[s3,bg];refine xp rfl (an.bL rfl rfl (by rw[aC,List.length_append];show 2+_+1<=_;omega)) ?_;rw[s4,bg];refine aa ?_;refine xo rfl (aG rfl (fq (hT.af e1) (b+1) (by omega))) ?_;rintro _ h2 ⟨rfl,e2⟩;refine xp rfl (an.bL rfl rfl (by rw[s2,aC,List.length_append,List.length_append];show 2+_+1+_<=_;omega)) ?_;rw[bg];refine xp rfl (an.bL rfl rfl (by rw[aC,List.length_append,List.length_append,List.length_append];show 2+_+1+_+1<=_;omega)) ?_;rw[s5,bg];refine aa ?_;refine aW ?_;exact⟨_,rfl,rfl,e1.trans e2⟩
def Br (p v:Value) (at_:Int):List Value:=[p,v,.int .i64 at_,.int .i64 0,.bool false,.bool false,.bool false]
def mT (h:ai) (b:Nat) (l:By) (at_:Int):Prop:=∃p v,az h b 259 (Br p v at_)/\(p= .pointer none\/p= .pointer (some ⟨b,0,none⟩))/\FL h (b+1) 5 v l
theorem mT.af {h h':ai}{b:Nat}{l:By}{at_:Int}(k:mT h b l at_) (e:ah h h'):mT h' b l at_:=by
 obtain⟨p,v,hk,hp,hv⟩:=k;exact⟨p,v,hk.af e,hp,bF.af hv e⟩
theorem Jb:liesAt Tryz.prog Tryz.prog.depth 259 (7 / Tryz.prog.cellsOf 259) 0 63 1=true:=by kernel_rfl
theorem HD (hb:az h b 259 (Br (.pointer none) v at_)) :
 aj Tryz.prog 47 #[.pointer (some ⟨b,0,none⟩)] h (aN fun _ h'=>az h' b 259 (Br (.pointer (some ⟨b,0,none⟩)) v at_)/\Ext (fun i=>i=b) h h'/\h'.size=h.size):=by
 obtain⟨j,hj,hj0⟩:=bInfo;refine bf ?_;refine aa ?_;refine xp rfl (aA rfl (hb.cell (i:=0) rfl)) ?_;refine xp rfl (an.gp underlying60 rfl rfl) ?_;refine aa ?_;refine fH rfl (by decide) ?_;refine bU ?_
 iterate 2 refine aU ?_
 refine xp rfl (an.zO underlying60 underlying142 hj hj0 hb (by simp[Br]) rfl) ?_;refine xp rfl (an.AB func77 (by decide +kernel) (by kernel_rfl) (by kernel_rfl) (by kernel_rfl) rfl) ?_;refine xp rfl (an.s9 underlying142 underlying60 hj hb Jb rfl) ?_;refine aa ?_;refine aY rfl (b7 rfl rfl hb) ?_;rintro _ h1 ⟨rfl,hb1,hx1,hs1⟩;refine aa ?_;refine gE ?_;exact⟨_,rfl,hb1,hx1,hs1⟩
theorem HE {p:Value}(hb:az h b 259 (Br p v at_)) (hp:p= .pointer none\/p= .pointer (some ⟨b,0,none⟩)) :
 aj Tryz.prog 47 #[.pointer (some ⟨b,0,none⟩)] h (aN fun _ h'=>az h' b 259 (Br (.pointer (some ⟨b,0,none⟩)) v at_)/\Ext (fun i=>i=b) h h'/\h'.size=h.size):=by
 rcases hp with rfl|rfl
 · exact HD hb
 obtain⟨j,hj,hj0⟩:=bInfo;refine bf ?_;refine aa ?_;refine xp rfl (aA rfl (hb.cell (i:=0) rfl)) ?_;refine xp rfl (an.gp underlying60 rfl rfl) ?_;refine aa ?_;refine bV rfl Bool.false_ne_true ?_;refine aa ?_;refine xp rfl (aA rfl (hb.cell (i:=0) rfl)) ?_;refine aU ?_;refine xp rfl (an.sw underlying60 hj rfl rfl) ?_;refine aa ?_;refine bV rfl Bool.false_ne_true ?_;refine aa ?_;refine gE ?_;exact⟨_,rfl,hb,av _ _,rfl⟩
theorem tR (t:By) (k:mT h b l at_) (hl:l.length+t.length<=100000) :
 aj Tryz.prog 19 #[.pointer (some ⟨b,0,none⟩),.string (bs t)] h (aN fun _ h'=>mT h' b (l++t) at_/\Ext (kJ 5 b h) h h'):=by
 obtain⟨i,hi,hi0,hi1,hi2⟩:=FT;obtain⟨p,v,hk,hp,hv⟩:=k;have hlt:=hk.lt;have hts:=aC t;refine bf ?_;refine aa ?_;refine xo rfl (aG rfl (HE hk hp)) ?_;rintro _ h1 ⟨hk1,hx1,hs1⟩;refine aa ?_;have hv1:FL h1 (b+1) 5 v l:=ay.ext hx1 hv (fun g hg=>by have:=Go.Lw.gU hv g hg.symm;omega);refine xp rfl (aA rfl (hk1.cell (i:=1) rfl)) ?_;refine aa ?_;refine xo rfl (aH.wB underlying61 underlying9 hi hi0 hi1 hi2 rfl rfl hv1 (by omega) (by omega)) ?_;rintro v2 h2 ⟨ho2,hx2⟩;refine aa ?_;have hk2:=hk1.ext hx2 (fun hm=>by have:=Go.Lw.gU hv1 b hm;omega);obtain⟨oa2,c2,rfl,-⟩:=ay.open ho2;refine aY rfl (b7 rfl rfl hk2) ?_;rintro _ h3 ⟨rfl,hk3,hx3,hs3⟩;refine aa ?_;refine aW ?_;have ho3:FL h3 (b+1) 5 _ (l++t):=ay.ext hx3 ho2 (fun g hg=>by have:=Go.Lw.gU ho2 g hg.symm;omega);exact⟨_,rfl,⟨_,_,hk3,.inr rfl,ho3⟩,kJ.trans (kJ.trans (hx1.mono fun _ _ k=>.inl k) (hx2.mono fun g _ k=>.inr ⟨Go.Lw.gU hv1 g k,ay.ty hv1 k.symm⟩)) (hx3.mono fun _ _ k=>.inl k)⟩
theorem Fl (k:mT h b l at_) (hl:l.length<=100000) :
 aj Tryz.prog 22 #[.pointer (some ⟨b,0,none⟩)] h (aN fun r h'=>r= .string (bs l)/\Ext (fun i=>b<=i) h h'):=by
 obtain⟨p,v,hk,hp,hv⟩:=k;obtain⟨oa,c,rfl,hw⟩:=ay.open hv;have hc1:=hk.cell (i:=1) rfl;refine bf ?_;refine aa ?_;refine uq 12 (fun i=>b+1<=i) (fun i=>Nat.blt i 12) ?_;refine ax 0 ?_;refine ax 1 ?_;refine ax 2 ?_;refine aS 3 rfl (fun h' e=>aA rfl (e.cell (by show ¬b+1<=b;omega) hc1)) ?_;refine ax 5 ?_;refine ax 6 ?_;refine ax 7 ?_;refine aS 8 rfl (fun h' e=>aA rfl (e.cell (by show ¬b+1<=b;omega) hc1)) ?_;refine ax 9 ?_;refine ct 4 rfl (aH.vJ underlying104 rfl hv) ?_;rintro u h1 ⟨⟨q,rfl,hs⟩,he⟩;refine⟨fun _=>he.of,?_⟩;refine ct 10 rfl (jE underlying104 Du rfl rfl hs (by omega)) ?_;rintro _ h2 ⟨rfl,hx2⟩;refine⟨fun _=>hx2,?_⟩;refine ax 11 ?_;refine dP ?_;refine aW ?_;exact⟨_,rfl,rfl,(ah.of he).trans (hx2.mono (fun g _ k=>by have:b+1<=g:=k;show b<=g;omega))⟩
theorem Lh (k:mT h b l at_):aj Tryz.prog 164 #[.pointer (some ⟨b,0,none⟩)] h (aN fun r h'=>r= .int .i64 (l.length:Nat)/\h'=h):=by
 obtain⟨p,v,hk,hp,hv⟩:=k;obtain⟨oa,c,rfl,hw⟩:=ay.open hv;refine bf ?_;refine aa ?_;refine xp rfl (aA rfl (hk.cell (i:=1) rfl)) ?_;refine aa ?_;refine aW ?_;exact⟨_,rfl,rfl,rfl⟩
theorem oq:Tryz.prog.underlying 56=some (.struct (Tryz.prog.fieldsOf 56)):=by kernel_rfl
theorem qL:Tryz.prog.stoodInHeld 56=false:=by kernel_rfl
theorem yp:Tryz.prog.eqGuardType Tryz.prog.depth 56=false:=by kernel_rfl
theorem MB (w:World):(Op.eqFields 9999 uA.toArray uA.toArray (Tryz.prog.fieldsOf 56).toList).run Tryz.prog w= .ok true w:=by kernel_rfl
theorem tA:Tryz.prog.underlying 58=some (.struct (Tryz.prog.fieldsOf 58)):=by kernel_rfl
theorem wZ:Tryz.prog.stoodInHeld 58=false:=by kernel_rfl
theorem yq:Tryz.prog.eqGuardType Tryz.prog.depth 58=false:=by kernel_rfl
theorem Np (hf:∃(f0:Field) (fs:List Field),(Tryz.prog.fieldsOf t).toList=f0::fs/\(f0.name≠ "_" /\f0.type=21/\f0.offset=0)/\∀(x y:Nat) (w:World),(Op.eqFields 9999 (kC x).toArray (kC y).toArray fs).run Tryz.prog w= .ok true w)
 (hi:aJ Tryz.prog 21=some false) (x y:Nat) (w:World):(Op.eqFields 9999 (kC x).toArray (kC y).toArray (Tryz.prog.fieldsOf t).toList).run Tryz.prog w= .ok (decide (x=y)) w:=by
 obtain⟨f0,fs,e,⟨n0,t0,o0⟩,h1⟩:=hf;rw[e];have h0:=bN n0 (by rw[t0];exact hi) (u:=.int .i32 (x:Nat)) (v:=.int .i32 (y:Nat)) (by rw[o0];rfl) (by rw[o0];rfl) (by rw[t0];exact run_equalIn_int w 9998 _ _ _ _ _ underlying21) (h1 x y w);rw[h0]
 congr 1
 rw[Bool.eq_iff_iff];simp;omega
theorem Pm (x y:Nat) (w:World):(Op.eqFields 9999 (kC x).toArray (kC y).toArray (Tryz.prog.fieldsOf 58).toList).run Tryz.prog w= .ok (decide (x=y)) w :=
 Np ⟨_,_,rfl,⟨by decide,rfl,rfl⟩,fun x y w=>by kernel_rfl⟩ (by kernel_rfl) x y w
structure H7 (cols:Nat) (xs:List cY) (i:Nat):Prop where
 fg:0<=(bX xs i).2.2.1/\(bX xs i).2.2.1<=8
 w:(bX xs i).2.1=0\/(bX xs i).2.1=1\/(bX xs i).2.1=2
 of:(bX xs i).2.1≠0->cU (bX xs i).1=(bX xs i).2.1
 left:(bX xs i).2.1=2->i%cols+1<cols/\(bX xs (i+1)).2.1=0
 right:(bX xs i).2.1=0->0<i%cols/\(bX xs (i-1)).2.1=2/\(bX xs i).1=0/\(bX xs i).2.2=(bX xs (i-1)).2.2
def VF (cols:Nat) (xs:List cY):Prop:=∀i,i<xs.length->H7 cols xs i
theorem uJ (s:qY) (hs:0<=s.1/\s.1<=8):aj Tryz.prog 199 #[.agg (jL s).toArray] h (aN fun r h'=>r= .bool true/\ah h h'):=by
 refine bf ?_;refine aa ?_;refine xo rfl (cM) ?_;rintro _ h1 ⟨rfl,k1,e1,z1⟩;have k1:az h1 h.size 56 (jL s):=k1;refine aU ?_;refine bJ ?_;refine aI ?_;refine dM [(2,.bool true)] rfl ?_ ?_
 · refine aa ?_;refine xp rfl (aA rfl (k1.cell (i:=0) rfl)) ?_;refine aa ?_;refine RW.aO (d:=6) (b':=true) rfl (by simp;omega) ?_;refine aa ?_;refine xp rfl (aA rfl (k1.cell (i:=0) rfl)) ?_;refine aa ?_;exact aL rfl ⟨ak rfl (by simp;omega),sb rfl⟩
 · refine aW ?_;exact⟨_,rfl,rfl,e1⟩
theorem MA {d:Nat}(hf:∃f0 f1 f2 f3:Field,(Tryz.prog.fieldsOf t).toList=[f0,f1,f2,f3]/\(f0.name≠ "_" /\f0.type=3/\f0.offset=0)/\(f1.name≠ "_" /\f1.type=4/\f1.offset=1)/\(f2.name≠ "_" /\f2.type=4/\f2.offset=2)/\(f3.name≠ "_" /\f3.type=4/\f3.offset=3))
 (x y:qY) (w:World):(Op.eqFields (d+1) (jL x).toArray (jL y).toArray (Tryz.prog.fieldsOf t).toList).run Tryz.prog w= .ok (decide (x=y)) w:=by
 have hi:aJ Tryz.prog 3=some false:=by kernel_rfl
 have hb:aJ Tryz.prog 4=some false:=by kernel_rfl
 have ub:Tryz.prog.underlying 4=some .bool:=by kernel_rfl
 obtain⟨f0,f1,f2,f3,e,⟨n0,t0,o0⟩,⟨n1,t1,o1⟩,⟨n2,t2,o2⟩,⟨n3,t3,o3⟩⟩:=hf;rw[e];have h3:=bN (P:=Tryz.prog) (d:=d+1) (xs:=(jL x).toArray) (ys:=(jL y).toArray) (fs:=[]) (w:=w) n3 (by rw[t3];exact hb) (u:=.bool x.2.2.2) (v:=.bool y.2.2.2) (by rw[o3];rfl) (by rw[o3];rfl) (by rw[t3];exact run_equalIn_bool w d _ _ _ ub) rfl;have h2:=bN n2 (by rw[t2];exact hb) (u:=.bool x.2.2.1) (v:=.bool y.2.2.1) (by rw[o2];rfl) (by rw[o2];rfl) (by rw[t2];exact run_equalIn_bool w d _ _ _ ub) h3;have h1:=bN n1 (by rw[t1];exact hb) (u:=.bool x.2.1) (v:=.bool y.2.1) (by rw[o1];rfl) (by rw[o1];rfl) (by rw[t1];exact run_equalIn_bool w d _ _ _ ub) h2;have h0:=bN n0 (by rw[t0];exact hi) (u:=.int .i64 x.1) (v:=.int .i64 y.1) (by rw[o0];rfl) (by rw[o0];rfl) (by rw[t0];exact run_equalIn_int w d _ _ _ _ _ underlying3) h1;rw[h0]
 congr 1
 obtain⟨a,b,c,d⟩:=x;obtain⟨a',b',c',d'⟩:=y;rw[Bool.eq_iff_iff];simp
theorem JU (d:Nat) (x y:qY) (w:World):(Op.eqFields (d+1) (jL x).toArray (jL y).toArray (Tryz.prog.fieldsOf 56).toList).run Tryz.prog w= .ok (decide (x=y)) w :=
 MA ⟨_,_,_,_,rfl,⟨by decide,rfl,rfl⟩,⟨by decide,rfl,rfl⟩,⟨by decide,rfl,rfl⟩,⟨by decide,rfl,rfl⟩⟩ x y w
theorem F6 (c:cY) (w:World):(part 56 (cz c).toArray 2).run Tryz.prog w= .ok (.agg (jL c.2.2).toArray) w:=by kernel_rfl
theorem yz {x y:cY}{f:Field}{w:World}(hn:f.name≠ "_") (ht:f.type=56) (ho:f.offset=2):(Op.eqFields 9999 (cz x).toArray (cz y).toArray [f]).run Tryz.prog w= .ok (decide (x.2.2=y.2.2)) w:=by
 rw[Op.eqFields,if_pos hn,ht,ho];simp only[Sem.run_bind,F6,Result.andThen_ok];rw[run_equalIn_struct w 9998 _ _ _ oq qL,JU 9997];simp only[Result.andThen_ok];cases decide (x.2.2=y.2.2)<;>rfl
theorem NA (hf:∃f0 f1 f2:Field,(Tryz.prog.fieldsOf t).toList=[f0,f1,f2]/\(f0.name≠ "_" /\f0.type=21/\f0.offset=0)/\(f1.name≠ "_" /\f1.type=3/\f1.offset=1)/\(f2.name≠ "_" /\f2.type=56/\f2.offset=2))
 (x y:cY) (w:World):(Op.eqFields 9999 (cz x).toArray (cz y).toArray (Tryz.prog.fieldsOf t).toList).run Tryz.prog w= .ok (decide (x=y)) w:=by
 have hi:aJ Tryz.prog 3=some false:=by kernel_rfl
 have hj:aJ Tryz.prog 21=some false:=by kernel_rfl
 obtain⟨f0,f1,f2,e,⟨n0,t0,o0⟩,⟨n1,t1,o1⟩,⟨n2,t2,o2⟩⟩:=hf;rw[e];have h1:=bN n1 (by rw[t1];exact hi) (u:=.int .i64 x.2.1) (v:=.int .i64 y.2.1) (by rw[o1];rfl) (by rw[o1];rfl) (by rw[t1];exact run_equalIn_int w 9998 _ _ _ _ _ underlying3) (yz (x:=x) (y:=y) (w:=w) n2 t2 o2);have h0:=bN n0 (by rw[t0];exact hj) (u:=.int .i32 x.1) (v:=.int .i32 y.1) (by rw[o0];rfl) (by rw[o0];rfl) (by rw[t0];exact run_equalIn_int w 9998 _ _ _ _ _ underlying21) h1;rw[h0]
 congr 1
 obtain⟨a,b,c⟩:=x;obtain⟨a',b',c'⟩:=y;rw[Bool.eq_iff_iff];simp
theorem NB (x y:cY) (w:World):(Op.eqFields 9999 (cz x).toArray (cz y).toArray (Tryz.prog.fieldsOf 58).toList).run Tryz.prog w= .ok (decide (x=y)) w :=
 NA ⟨_,_,_,rfl,⟨by decide,rfl,rfl⟩,⟨by decide,rfl,rfl⟩,⟨by decide,rfl,rfl⟩⟩ x y w
theorem Bi (hW:jH h){zs:List cY}(hv:aR Pk h (fun _=>False) v zs) (hl:zs.length=cols) (hc:cols<=200){xs:List cY}{s:Nat}(hV:VF cols xs) (hs:s%cols=0) (hx:zs=(xs.drop s).take cols) :
 aj Tryz.prog 145 #[v] h (aN fun r h'=>r= .bool true/\ah h h'):=by
 have hz:∀i,i<cols->bX zs i=bX xs (s+i)/\s+i<xs.length:=fun i hi=>by
  have h1:s+i<xs.length:=by have:=congrArg List.length hx;rw[List.length_take,List.length_drop] at this;omega
  refine⟨?_,h1⟩;rw[hx,bX,bX,List.getD_eq_getElem?_getD,List.getD_eq_getElem?_getD,List.getElem?_take_of_lt hi,List.getElem?_drop]
 have hmod:∀i,i<cols->(s+i)%cols=i:=fun i hi=>by rw[Nat.add_mod,hs,Nat.zero_add,Nat.mod_mod,Nat.mod_eq_of_lt hi]
 have hok:∀i,i<cols->H7 cols xs (s+i):=fun i hi=>hV _ (hz i hi).2
 refine bf ?_;refine aa ?_;refine zB (σ:=Value×Nat) (fun q=>[(0,q.1)]) (fun q h'=>aR Pk h' (fun _=>False) q.1 (zs.drop q.2)/\ah h h'/\q.2<=cols/\(q.2<cols->(bX zs q.2).2.1≠0)) (fun q=>cols-q.2) ((v,0)) ⟨hv,av _ _,Nat.zero_le _,fun hp he=>by have k:=(hok 0 hp).right (by rw[<-(hz 0 hp).1];exact he);rw[hmod 0 hp] at k;omega⟩ ?_;rintro⟨v,p⟩ g ⟨hv,eg,hp,hne⟩ ih
 try dsimp only
 dsimp only at hv hp hne;obtain⟨oa,n,c,rfl,hsl⟩:=hv.open;have hn:cols-p=n:=by rw[<-hsl.len,List.length_drop,hl]
 have hcc:=hsl.le;refine aa ?_;refine aQ (fun hgt=>?_) (fun hgt=>?_)
 · have hpc:p<cols:=by omega
   obtain⟨b,o,r,ha,_,hr,hrow⟩:=hsl.fC (i:=0) (by omega);obtain rfl:bX zs p=r:=by rw[List.getElem?_drop,Nat.add_zero] at hr;rw[bX,List.getD_eq_getElem?_getD,hr];rfl
   have ok:=hok p hpc;have hw:=hne hpc;have hof:=ok.of (by rw[<-(hz p hpc).1];exact hw);have hfg:=ok.fg;have hww:=ok.w;have hleft:=ok.left;rw[<-(hz p hpc).1] at hof hfg hww hleft;rw[hmod p hpc] at hleft
   rcases hce:bX zs p with ⟨r,w,st⟩
   rw[hce] at hrow hw hof hfg hww hleft;dsimp only at hw hof hfg hww hleft
   iterate 3 refine aI ?_
   refine bU ?_;refine aU ?_;refine xp rfl (bT rfl rfl 0 rfl ha) ?_;refine xp rfl (bI rfl hrow) ?_;refine xo rfl (cC) ?_;rintro _ g1 ⟨rfl,k1,e1,z1⟩;refine aY rfl (bM rfl rfl k1 ((qT (r,w,st)))) ?_;rintro _ g2 ⟨rfl,k2,x2,z2⟩;have e2:ah g g2:=ah.only e1 x2 (Nat.le_refl _);have k2:az g2 g.size 58 (cz (r,w,st)):=k2;have hwn:w<=n:=by rcases hww with q|q|q<;>omega
   refine aa ?_;refine xp rfl (aA rfl (k2.cell (i:=1) rfl)) ?_;refine aa ?_;refine bV rfl (by simp;omega) ?_;refine aa ?_;refine bV rfl (by simp;omega) ?_;refine aa ?_;refine bV rfl (by simp;omega) ?_;refine aa ?_;refine xp rfl (aA rfl (k2.cell (i:=0) rfl)) ?_;refine xo rfl (aG rfl (oV ((hW.af eg).af e2) r)) ?_;rintro _ g3 ⟨rfl,e3⟩;rw[hof];refine aa ?_;refine bV rfl (by simp) ?_
   have k3:Lw.rowAt g3 g.size (0+2) (jL st):=fun j v hv=>by
    have k:=k2.af e3
    match j,hv with
    | 0,hv=>cases hv;exact k.cell (i:=2) rfl
    | 1,hv=>cases hv;exact k.cell (i:=3) rfl
    | 2,hv=>cases hv;exact k.cell (i:=4) rfl
    | 3,hv=>cases hv;exact k.cell (i:=5) rfl
   refine aa ?_;refine xp rfl (bI rfl k3) ?_;refine xo rfl (aG rfl (uJ st hfg)) ?_;rintro _ g4 ⟨rfl,e4⟩;refine aa ?_;refine bV rfl (by decide) ?_;have e24:=(e2.trans e3).trans e4;refine aI ?_;refine G.eB [(31,.bool false)] [(0,_),(3,_),(4,_),(7,_),(13,_)] ⟨rfl,rfl,rfl,rfl,rfl,trivial⟩ func145 H.mixed rfl (by kernel_rfl) ?_ ?_
   · iterate 3 refine mU ?_
     refine Ic 34 (fun q2=>?_) (fun q2=>?_)
     · have q2:=of_decide_eq_true q2;subst q2;obtain⟨hl1,hl2⟩:=hleft rfl;have hp1:=hz (p+1) (by omega);obtain⟨b1,o1,r1,ha1,_,hr1,hrow1⟩:=(hv.af e24).open_slice.fC (i:=1) (by omega);obtain rfl:bX zs (p+1)=r1:=by rw[List.getElem?_drop] at hr1;rw[bX,List.getD_eq_getElem?_getD,hr1];rfl
       have hrt:=(hok (p+1) (by omega)).right hl2;rw[<-Nat.add_assoc] at hp1 hrt;rw[Nat.add_sub_cancel,<-hp1.1,<-(hz p hpc).1,hce] at hrt;have hc1:bX zs (p+1)=(0,0,st):=Prod.ext hrt.2.2.1 (Prod.ext (by rw[hp1.1];exact hl2) hrt.2.2.2);rw[hc1] at hrow1;refine mU ?_;refine bP rfl (bT rfl rfl 1 rfl ha1) ?_;refine bP rfl (bI rfl hrow1) ?_;refine aa ?_;refine bP rfl (bI rfl (e4.rowAt (fun q=>q) k3)) ?_;refine bP rfl (au (H.Db _ _ _ _) rfl) ?_;refine bP rfl (an.nh tA wZ yq rfl rfl (NB (0,0,st) (0,0,st))) ?_;refine aa ?_;exact jq rfl ⟨ak rfl (by simp),sb rfl⟩
     · have q2:=of_decide_eq_false q2;refine aa ?_;exact jq rfl ⟨ak rfl (by simp[q2]),sb rfl⟩
   · refine bV rfl (by decide) ?_
     have hwm:∃m:Nat,w=m/\(m=1\/m=2):=by
      rcases hww with q|q|q
      · exact absurd q hw
      · exact⟨1,q,.inl rfl⟩
      · exact⟨2,q,.inr rfl⟩
     obtain⟨m,rfl,hm⟩:=hwm;refine aa ?_;refine xp rfl (an.fI underlying39 H.lu rfl rfl m rfl (by omega)) ?_;refine aa ?_
     exact ih (.slice (aP oa m 6 c) (n-m) (c-m),p+m) ⟨by
      have:=((hsl.part (i:=m) (j:=n) (by omega) (Nat.le_refl _)).shut).af e24
      rw[List.take_of_length_le (by rw[List.length_drop];omega),List.drop_drop] at this;exact this,eg.trans e24,by show p+m<=cols;omega,fun hlt he=>by
       have hlt:p+m<cols:=hlt;have k:=(hok (p+m) hlt).right (by rw[<-(hz (p+m) hlt).1];exact he)
       rcases hm with rfl|rfl
       · have h1:=k.2.1;rw[<-Nat.add_assoc,Nat.add_sub_cancel,<-(hz p hpc).1,hce] at h1;cases h1
       · have h1:=k.2.1;rw[show s+(p+2)-1=s+p+1 by omega,(hleft rfl).2] at h1;cases h1⟩ (by show cols-(p+m)<cols-p;omega)
 · obtain rfl:p=cols:=by omega
   refine aa ?_;refine aW ?_;exact⟨_,rfl,rfl,eg⟩
theorem uP {l cs cn rows:Nat}(hn:rows*cols=n) (hlo:n<=20000) (hc0:1<=cols){J:Nat->ai->Prop}(hread:∀j h,J j h->az h cs 39 [qS g n]/\az h cn 3 [.int .i64 (cols:Nat)])
 (hy:∀j h,J j h->j<rows->cV Tryz.prog l #[.slice (some ⟨g,j*cols*6,none⟩) cols cols] h (aN fun r h'=>r= .bool true/\J (j+1) h')) (h0:J 0 h) :
 aj Tryz.prog 198 #[.func (.yield l) #[] #[],.pointer (some ⟨cs,0,none⟩),.pointer (some ⟨cn,0,none⟩)] h (aN fun _ h'=>J rows h'):=by
 refine bf ?_;refine aI ?_;refine bU ?_;refine aU ?_;refine bJ ?_;refine aI ?_;refine nC (σ:=Nat×Nat) (fun q=>[(0,.func (.yield l) #[] #[]),(1,.pointer (some ⟨cs,0,none⟩)),(2,.pointer (some ⟨cn,0,none⟩)),(4,.int .i64 (q.2:Nat))]) (fun q h'=>J q.1 h'/\q.1<=rows/\q.1*cols=q.2) (fun q=>rows-q.1) ((0,0)) rfl ⟨rfl,rfl,rfl,rfl,trivial⟩ ⟨h0,Nat.zero_le _,Nat.zero_mul _⟩ ?_;rintro⟨j,m⟩ h1 ⟨hJ,hj,hm⟩ ih
 try dsimp only
 dsimp only at hJ hj hm;obtain⟨ks,kn⟩:=hread j h1 hJ;have hle:j<rows->j*cols+cols<=n:=fun q=>by rw[<-Nat.succ_mul,<-hn];exact Nat.mul_le_mul_right _ q
 have hge:¬j<rows->j*cols=n:=fun q=>by rw[show j=rows by omega,hn]
 have hsc:(j+1)*cols=j*cols+cols:=Nat.succ_mul _ _;rw[hm] at hle hge hsc;refine G.seq rfl ?_;refine Ma func198 1 rfl ?_;refine xp rfl (bn H.Di rfl (ks.cell (i:=0) rfl)) ?_;refine xp rfl (an.gO underlying39 rfl) ?_;refine uv 1 [0,1,2,4,9] rfl ?_;refine wI rfl rfl (fun hlt=>?_) (fun hlt=>?_)
 · have hj4:j<rows:=by omega
   have hle:=hle hj4;refine fR rfl ?_;refine G.seq rfl ?_;refine G.block rfl rfl ?_;refine G.seq rfl ?_;refine G.eB [(5,.int .i64 (cols:Nat))] [(0,_),(1,_),(2,_),(4,_),(9,_)] ⟨rfl,rfl,rfl,rfl,rfl,trivial⟩ func198 H.mixed rfl (by kernel_rfl) ?_ ?_
   · refine RQ.aB rfl rfl rfl rfl (bn H.BC rfl (kn.cell (i:=0) rfl)) ?_;refine RQ.aB rfl rfl rfl rfl (bn H.Di rfl (ks.cell (i:=0) rfl)) ?_;refine RQ.aB rfl rfl rfl rfl (aD rfl) ?_;refine RQ.aB rfl rfl rfl rfl (an.fI underlying39 H.lu rfl rfl m rfl (by omega)) ?_;refine RQ.aB rfl rfl rfl rfl (an.gO underlying39 rfl) ?_;refine RQ.aB rfl rfl rfl rfl (an.min2 rfl rfl) ?_;refine RQ.aB rfl rfl rfl rfl (an.assign rfl) ?_;refine qZ rfl ?_;exact⟨rfl,congrArg (fun x:Int=>some (Value.int .i64 x)) (by split<;>omega),rfl,rfl,rfl,rfl,rfl,trivial⟩
   · have hp:aP (some ⟨g,0,none⟩) m 6 (m+cols)=some ⟨g,m*6,none⟩:=by
      unfold aP;rw[if_neg (by omega),Option.map_some,Addr.add,Nat.zero_add];split
      · rename_i e;rw[e]
      · rfl
     refine G.seq rfl ?_;refine G.Cf func198 rfl ?_;refine aV.aB rfl rfl rfl rfl rfl (aD rfl) ?_;refine aV.aB rfl rfl rfl rfl rfl (bn H.Di rfl (ks.cell (i:=0) rfl)) ?_;refine aV.aB rfl rfl rfl rfl rfl (aD rfl) ?_;refine aV.aB rfl rfl rfl rfl rfl (aD rfl) ?_;refine aV.aB rfl rfl rfl rfl rfl (aD rfl) ?_;refine aV.aB rfl rfl rfl rfl rfl (an.dZ rfl rfl ⟨by omega,by omega⟩) ?_;refine aV.aB rfl rfl rfl rfl rfl (aD rfl) ?_;refine aV.aB rfl rfl rfl rfl rfl (aD rfl) ?_;refine aV.aB rfl rfl rfl rfl rfl (an.dZ rfl rfl ⟨by omega,by omega⟩) ?_;refine aV.aB rfl rfl rfl rfl rfl (an.pR underlying39 H.lu rfl rfl m rfl rfl (m+cols) rfl rfl (m+cols) rfl (by omega) (by omega) (by omega)) ?_;refine aV.yield (vs:=[_]) rfl rfl rfl rfl rfl rfl rfl (((by rw[hp,show m+cols-m=cols by omega,<-hm];exact hy j h1 hJ hj4))) ?_;rintro _ h2 ⟨rfl,hJ2⟩;refine aV.aB rfl rfl rfl rfl rfl (an.se rfl) ?_;refine aX rfl ?_;refine xu [0,1,2,4,5,9,30] rfl ?_;refine jm rfl rfl (fun hc=>absurd hc (by decide)) (fun _=>?_);obtain⟨ks2,kn2⟩:=hread (j+1) h2 hJ2;refine fR rfl ?_;refine G.gr ?_;refine G.eE func198 rfl ?_;refine oH 1 rfl ?_;refine xp rfl (bn H.BC rfl (kn2.cell (i:=0) rfl)) ?_;refine xp rfl (an.dZ rfl rfl ⟨by omega,by omega⟩) ?_;refine uv 1 [0,1,2,4,5,9,30] rfl ?_;exact ih (j+1,m+cols) _ _ ⟨rfl,rfl,rfl,congrArg (fun x:Int=>some (Value.int .i64 x)) (by push_cast;rfl),trivial⟩ ⟨hJ2,hj4,hsc⟩ (by show rows-(j+1)<rows-j;omega)
 · obtain rfl:j=rows:=by omega
   refine aa ?_;refine gE ?_;exact⟨_,rfl,hJ⟩
theorem yL (hc0:1<=cols):aj Tryz.prog 144 #[qS g n,.int .i64 (cols:Nat)] h (aN fun r h'=>r= .func (.func 198) #[] #[.pointer (some ⟨h.size,0,none⟩),.pointer (some ⟨h.size+1,0,none⟩)]/\az h' h.size 39 [qS g n]/\az h' (h.size+1) 3 [.int .i64 (cols:Nat)]/\ah h h'/\h'.size=h.size+2):=by
 refine bf ?_;refine aa ?_;refine xo rfl (cM) ?_;rintro _ h1 ⟨rfl,k1,e1,z1⟩;refine xo rfl (cM) ?_;rintro _ h2 ⟨rfl,k2,e2,z2⟩;have k1:az h2 h.size 39 [qS g n]:=k1.af e2;have k2:az h2 h1.size 3 [.int .i64 (cols:Nat)]:=k2;refine aa ?_;refine xp rfl (aA rfl (k2.cell (i:=0) rfl)) ?_;refine aa ?_;refine bV rfl (by simp;omega) ?_;refine aa ?_;refine xp rfl (an.makeFunc (vs:=[_,_]) rfl) ?_;refine aa ?_;refine aW ?_;rw[z1] at k2;exact⟨_,rfl,by rw[z1];rfl,k1,k2,e1.trans e2,by omega⟩
theorem HA {xs:List cY}(k:zA h g xs){s:Nat}(hj:s+cols<=xs.length) (hc:cols<=200):aR Pk h (fun _=>False) (.slice (some ⟨g,s*6,none⟩) cols cols) ((xs.drop s).take cols):=by
 refine⟨_,cols,cols,rfl,by rw[List.length_take,List.length_drop];omega,Nat.le_refl _,by simp only[maxLen];omega,fun i x hx=>?_⟩
 have hi:i<cols:=by
  have:=(List.getElem?_eq_some_iff.1 hx).1;rw[List.length_take,List.length_drop] at this;omega
 rw[List.getElem?_take_of_lt hi,List.getElem?_drop] at hx;refine⟨g,s*6,cz x,rfl,fun q=>q,fun m v hv=>?_,rfl⟩;have:=k.row _ _ (dG (enc:=cz) (sz:=6) (fun _=>rfl) xs (s+i) x m v hx hv);rw[Nat.zero_add] at this
 show cellAt h ⟨g,s*6+i*6+m,none⟩=some v
 rw[show s*6+i*6+m=(s+i)*6+m by omega];exact this
theorem wN (hW:jH h){rows:Nat}(hr:2<=rows/\rows<=100) (hc:8<=cols/\cols<=200) (hn:rows*cols=n){xs:List cY}(k:zA h g xs) (hx:xs.length=n) (hV:VF cols xs){row col:Int}(hr1:0<=row/\row<rows) (hc1:0<=col/\col<cols) :
 aj Tryz.prog 88 #[.agg (cy rows cols (qS g n) row col).toArray] h (aN fun r h'=>r= .bool true/\ah h h'):=by
 have hm:fL (rows:Nat) (cols:Nat)=true:=decide_eq_true (by omega);have hmul:(rows:Int)*(cols:Int)=(n:Nat):=by rw[<-hn];push_cast;rfl
 have hlo:n<=20000:=by rw[<-hn];exact Nat.mul_le_mul hr.2 hc.2
 refine bf ?_;refine aa ?_;refine xo rfl (cM) ?_;rintro _ h1 ⟨rfl,k1,e1,z1⟩;refine xo rfl (cC) ?_;rintro _ h2 ⟨rfl,k2,e2,z2⟩;have k1:az h2 h.size 41 (cy rows cols (qS g n) row col):=k1.af e2;have k2:az h2 h1.size 4 [.bool false]:=k2;have e02:=e1.trans e2;refine bJ ?_
 iterate 2 refine aI ?_
 refine dM [(44,.bool false)] rfl ?_ ?_
 · refine aa ?_;refine xp rfl (aA rfl (k1.cell (i:=0) rfl)) ?_;refine aa ?_;refine xp rfl (aA rfl (k1.cell (i:=1) rfl)) ?_;refine xo rfl (aG rfl (jV rows cols)) ?_;rintro _ h3 ⟨rfl,hh3⟩;subst hh3;rw[hm];refine aa ?_;refine RW.aO (d:=10) (b':=false) rfl (by decide) ?_;refine aa ?_;refine xp rfl (aA rfl (k1.cell (i:=2) rfl)) ?_;refine aa ?_;refine xp rfl (aA rfl (k1.cell (i:=0) rfl)) ?_;refine aa ?_;refine xp rfl (aA rfl (k1.cell (i:=1) rfl)) ?_;refine xp rfl (an.dK rfl rfl (by rw[hmul];omega)) ?_;rw[hmul];refine aa ?_;refine RW.aO (d:=21) (b':=false) rfl (by simp) ?_;refine aa ?_;refine xp rfl (aA rfl (k1.cell (i:=3) rfl)) ?_;refine aa ?_;refine RW.aO (d:=26) (b':=false) rfl (decide_eq_false (by omega)) ?_;refine aa ?_;refine xp rfl (aA rfl (k1.cell (i:=3) rfl)) ?_;refine aa ?_;refine xp rfl (aA rfl (k1.cell (i:=0) rfl)) ?_;refine aa ?_;refine RW.aO (d:=33) (b':=false) rfl (decide_eq_false (by omega)) ?_;refine aa ?_;refine xp rfl (aA rfl (k1.cell (i:=4) rfl)) ?_;refine aa ?_;refine RW.aO (d:=38) (b':=false) rfl (decide_eq_false (by omega)) ?_;refine aa ?_;refine xp rfl (aA rfl (k1.cell (i:=4) rfl)) ?_;refine aa ?_;refine xp rfl (aA rfl (k1.cell (i:=1) rfl)) ?_;refine aa ?_;exact aL rfl ⟨ak rfl (by rw[decide_eq_false (by omega)]),sb rfl⟩
 · refine bV rfl (by decide) ?_;refine aa ?_;refine xp rfl (aA rfl (k1.cell (i:=2) rfl)) ?_;refine aa ?_;refine xp rfl (aA rfl (k1.cell (i:=1) rfl)) ?_;refine xo rfl (aG rfl (yL (by omega))) ?_;rintro _ h4 ⟨rfl,kc1,kc2,e4,z4⟩;have k24:=k2.af e4;have k04:zA h4 g xs:=k.af (e02.trans e4);have hW4:=hW.af (e02.trans e4);refine aa ?_;refine G.Gr (assign:=FG (Lw.sub (aq f88) [0,1,0,1,1])) (body:=FF (Lw.sub (aq f88) [0,1,0,1,1])) (fun g'=>ah h4 g') rfl rfl func198 rfl (by decide +kernel) (fun fid tmps hL hfits eL R0=>?_) (fun g2 g3 hJ hdf hlt x=>?_)
   skip
   · refine(uP hn hlo (by omega) (l:=h4.size+1) (cs:=h2.size) (cn:=h2.size+1) (g:=g) (J:=fun _ g'=>wE h4.size (bK fid tmps #[50] (FG (Lw.sub (aq f88) [0,1,0,1,1])) (FF (Lw.sub (aq f88) [0,1,0,1,1])) h4.size) (fun g'=>ah h4 g') g') (fun j g' q=>⟨kc1.af q.j,kc2.af q.j⟩) (fun j g' q hj=>?_) ⟨R0.lp,R0.df,eL⟩).ret fun _ _ q=>q
     refine q.FN rfl rfl rfl (om hfits rfl) rfl rfl (fun g1 g2 e x=>DX e x (Nat.le_refl _)) ?_;refine GI.eE func88 rfl ?_;refine aV.aB rfl rfl rfl rfl rfl (an.assign rfl) ?_;refine aX rfl ?_;refine⟨av _ _,fun g3 x3=>?_⟩;have e3:=DX q.j x3 (Nat.le_refl _);have hlt:=q.lp.lt;have hz3:=x3.size;have hle:j*cols+cols<=xs.length:=by rw[hx,<-hn,<-Nat.succ_mul];exact Nat.mul_le_mul_right _ hj
     have hrow:=Bi (hW4.af e3) (HA (k04.af e3) hle hc.2) (by rw[List.length_take,List.length_drop];omega) hc.2 hV (Nat.mul_mod_left _ _) rfl;refine GI.block rfl rfl ?_;refine GI.seq rfl ?_;refine GI.eE func88 rfl ?_;refine aV.aB rfl rfl rfl rfl rfl (aD rfl) ?_;refine aV.r9 rfl rfl rfl rfl rfl (bu (vs:=[_]) func145 rfl H.J4 rfl (aj.jF (hrow))) ?_;rintro _ g4 ⟨rfl,e4'⟩;refine aV.aB rfl rfl rfl rfl rfl (an.se rfl) ?_;refine aX rfl ?_;refine GI.sub (ρ':=[(0,_),(1,_),(2,_),(3,_),(44,_),(49,_),(50,_),(53,_)]) ⟨rfl,rfl,rfl,rfl,rfl,rfl,rfl,rfl,trivial⟩ ?_;refine GI.cond rfl rfl (fun hc=>absurd hc (by decide)) (fun _=>?_);refine GI.skip rfl ?_;exact⟨rfl,⟨e4'.block _ (by omega) (fun q=>q),e4'.block _ (by omega) (fun q=>q)⟩,e3.trans e4'⟩
   · have z12:=e2.size;have z24:=e4.size;refine GD.gr ?_;refine GD.seq rfl ?_;refine GD.eE func88 rfl ?_;refine fE.mL rfl rfl rfl (aH.br H.zC rfl rfl ((k24.af hJ).ext x (by omega)) (by first|decide|exact of_decide_eq_true rfl|(simp;done)|(simp;omega)) rfl) ?_;rintro _ g4 ⟨rfl,k5,x5,z5⟩;refine eD rfl ?_;refine GD.sub (ρ':=[(0,_),(1,_),(2,_),(44,_),(49,_)]) ⟨rfl,rfl,rfl,rfl,rfl,trivial⟩ ?_
     have hdf5:g4[h4.size]? =some (.deferred (some [])):=by
      rw[x5.block h4.size (by have:=x.size;omega) (by omega),x.block h4.size (by omega) (by omega)];exact hdf
     have x6:Ext (fun b=>b=h4.size) g4 (Lw.bA g4 h4.size (.deferred none)):=Ext.bA _ _ _ rfl;have k6:=k5.ext x6 (by omega);refine GD.nS func88 rfl hdf5 (.cons (cX.cell (t:=4) (by kernel_rfl) rfl (k6.cell (i:=0) rfl)) .nil) ?_;exact⟨_,rfl,rfl,ah.only (ah.only (ah.only ((e02.trans e4).trans hJ) x (by omega)) x5 (by omega)) x6 (by omega)⟩
theorem Bq (h:ai) (b:UInt8) (t:TypeId):aR .byte (h.push (.cells #[.int .u8 b.toNat] t)) (fun _=>False) (.slice (some ⟨h.size,0,none⟩) 1 1) [b] :=
 ⟨_,1,1,rfl,rfl,Nat.le_refl _,by decide,fun i x hx=>by
  match i,hx with
  | 0,hx=>cases hx;exact⟨h.size,0,_,rfl,fun q=>q,fJ h [.int .u8 b.toNat] t,rfl⟩⟩
def Ib (h:ai) (b:Nat):Prop:=az h b 163 [.iface 9 (.string ⟨#[]⟩)]
theorem uI:aj Tryz.prog 64 #[] h (aN fun r h'=>r= .pointer (some ⟨h.size,0,none⟩)/\Ib h' h.size/\ah h h'):=by
 refine bf ?_;refine aa ?_;refine xp rfl (au (H.Jk _ _) rfl) ?_;refine xo rfl (cM) ?_;rintro _ h1 ⟨rfl,k1,e1,z1⟩;refine aa ?_;refine aW ?_;exact⟨_,rfl,rfl,k1,e1⟩
theorem ry:∀r:Nat,r<200->IntKind.i32.wrap (r:Nat)=(r:Nat):=by decide +kernel
def lf (a:Nat) (t:By):List Value:=[.int .i64 (a:Nat),.string (bs t)]
theorem Ij (a:Nat) (t:By):∀v∈lf a t,v.oneCell'=true:=fun v hv=>by simp[lf] at hv;rcases hv with rfl|rfl<;>rfl
def jo (k r:Int) (p:Value) (f:Int):List Value:=[.int .i64 k,.int .i32 r,p,.int .u8 f]
theorem Hi:Tryz.prog.underlying 111=some (.struct (Tryz.prog.fieldsOf 111)):=by kernel_rfl
theorem Iz:Tryz.prog.stoodInHeld 111=false:=by kernel_rfl
theorem I0:Tryz.prog.eqGuardType Tryz.prog.depth 111=false:=by kernel_rfl
structure TM where
 rows:Nat
 cols:Nat
 xs:List cY
 row:Nat
 col:Nat
 sy:qY
 waits:Bool
def BR (xs:List cY) (i:Nat):List cY:=(if (bX xs i).2.1=2 then xs.set (i+1) cu else if (bX xs i).2.1=0 then xs.set (i-1) cu else xs).set i cu
def fP (xs:List cY) (i:Nat):Nat->List cY
 | 0=>xs
 |k+1=>BR (fP xs i k) (i+k)
theorem DZ (xs:List cY) (i:Nat):(BR xs i).length=xs.length:=by
 unfold BR;rw[List.length_set];split
 · rw[List.length_set]
 · split
   · rw[List.length_set]
   · rfl
theorem cw (xs:List cY) (i k:Nat):(fP xs i k).length=xs.length:=by
 induction k with
 |zero=>rfl
 |succ k ih=>rw[fP,DZ,ih]
def dX (t:TM):TM:=if t.row+1<t.rows then { t with row:=t.row+1 } else { t with xs:=t.xs.drop t.cols++List.replicate t.cols cu }
def qK (xs:List cY):Prop:=∀i,i<xs.length->((bX xs i).2.1=2->i+1<xs.length)/\((bX xs i).2.1=0->0<i)
structure dw (t:TM):Prop where
 rows:2<=t.rows/\t.rows<=100
 cols:8<=t.cols/\t.cols<=200
 len:t.xs.length=t.rows*t.cols
 row:t.row<t.rows
 col:t.col<t.cols
 fg:0<=t.sy.1/\t.sy.1<=8
 vf:VF t.cols t.xs
def qB (rows cols g n:Nat) (row col:Int) (a:Nat) (u:By) (sy:qY) (w:Bool) (bl:Int):List Value:=[.bool true,.int .i64 (rows:Nat),.int .i64 (cols:Nat),qS g n,.int .i64 row,.int .i64 col,.int .i64 (a:Nat),.string (bs u),.int .i64 sy.1,.bool sy.2.1,.bool sy.2.2.1,.bool sy.2.2.2,.bool w,.int .i64 bl]
structure kF (h:ai) (tb g n:Nat) (t:TM) (a:Nat) (u:By):Prop where
 b:∃bl:Int,az h tb 113 (qB t.rows t.cols g n t.row t.col a u t.sy t.waits bl)
 s:zA h g t.xs
 n:t.xs.length=n
 ne:tb≠g
theorem kF.af {h h':ai}{tb g n:Nat}{t:TM}{a:Nat}{u:By}(k:kF h tb g n t a u) (e:ah h h'):kF h' tb g n t a u:=⟨let ⟨x,q⟩:=k.b;⟨x,q.af e⟩,k.s.af e,k.n,k.ne⟩
section
variable {h h':ai}{tb g n:Nat}{t:TM}{a:Nat}{u:By}
theorem jH.blank (hW:jH h):Lw.rowAt h 5 0 (cz cu):=hW.tb
theorem rD (hW:jH h) (k:kF h tb g n t a u) (hn:n<=20000) (hg:5<g) (hi:i<n) (h2:(bX t.xs i).2.1=2->i+1<n) (h0:(bX t.xs i).2.1=0->0<i) :
 aj Tryz.prog 139 #[.pointer (some ⟨tb,0,none⟩),.int .i64 (i:Nat)] h (aN fun _ h'=>kF h' tb g n { t with xs:=BR t.xs i } a u/\Ext (fun b=>b=g) h h'):=by
 obtain⟨bl,kb⟩:=k.b;have hrow:=HB k.s (i:=i) (by rw[k.n];exact hi);have hne:=k.ne
 rcases hce:bX t.xs i with ⟨r,w,st⟩
 rw[hce] at hrow h2 h0;dsimp only at h2 h0;refine bf ?_;refine aa ?_;refine xp rfl (aA rfl (kb.cell (i:=3) rfl)) ?_;refine aU ?_;refine xp rfl (bT rfl rfl i rfl rfl) ?_;refine aa ?_;refine xp rfl (aA rfl (hrow 1 _ rfl)) ?_;refine aa ?_
 have fin:∀(ys:List cY) (h':ai) (ρ':Env),Sub [(0,.pointer (some ⟨tb,0,none⟩)),(1,.int .i64 (i:Nat))] ρ'->zA h' g ys->ys.length=n->ys.set i cu=BR t.xs i->Ext (fun b=>b=g) h h'->G Tryz.prog 139 f139 [.code [1]] ρ' h' (aN fun _ h'=>kF h' tb g n { t with xs:=BR t.xs i } a u/\Ext (fun b=>b=g) h h'):=by
  rintro ys g2 ρ' hsub ks hn2 hys x2;refine G.sub (ρ':=[(0,.pointer (some ⟨tb,0,none⟩)),(1,.int .i64 (i:Nat))]) hsub ?_;obtain⟨L,kL,hL,hov⟩:=iI ks hn2;have kb2:=kb.ext x2 hne;have hb2:Lw.rowAt g2 5 0 (cz cu):=x2.rowAt (by omega) hW.blank;refine ic 9 8 ?_;refine ax 0 ?_;refine ax 1 ?_;refine ax 2 ?_;refine ax 3 ?_;refine aS 4 rfl (fun h' e=>aA rfl (e.old (kb2.cell (i:=3) rfl))) ?_;refine ax 5 ?_;refine aS 6 rfl (fun h' e=>bI rfl (e.lK hb2)) ?_;refine aS 7 rfl (fun h' e=>bT rfl rfl i rfl rfl) ?_;refine eK 8 rfl (bM rfl rfl kL ((qT cu))) ?_;rintro _ g3 ⟨rfl,k3,x3,z3⟩;refine⟨nofun,?_⟩;refine dP ?_;have k3:az g3 g 58 (over L (0+i*6) (cz cu)):=k3;rw[hov i cu hi,hys] at k3;refine gE ?_;exact⟨_,rfl,⟨⟨bl,kb2.ext x3 hne⟩,k3,by show (BR t.xs i).length=n;rw[DZ,k.n],hne⟩,x2.trans x3⟩
 refine aQ (fun q2=>?_) (fun q2=>?_)
 · have q2:w=2:=by omega
   have h2:=h2 q2;obtain⟨L,kL,hL,hov⟩:=iI k.s k.n;refine ic 10 9 ?_;refine ax 0 ?_;refine ax 1 ?_;refine ax 2 ?_;refine ax 3 ?_;refine aS 4 rfl (fun h' e=>aA rfl (e.old (kb.cell (i:=3) rfl))) ?_;refine ax 5 ?_;refine ax 6 ?_;refine aS 7 rfl (fun h' e=>bI rfl (e.lK hW.blank)) ?_;refine aS 8 rfl (fun h' e=>bT rfl rfl (i+1) rfl rfl) ?_;refine eK 9 rfl (bM rfl rfl kL ((qT cu))) ?_;rintro _ g2 ⟨rfl,k2,x2,z2⟩;refine⟨nofun,?_⟩;refine dP ?_;refine aI ?_;have k2:az g2 g 58 (over L (0+(i+1)*6) (cz cu)):=k2;rw[hov (i+1) cu h2] at k2;exact fin _ _ _ (by exact sb rfl) k2 (by rw[List.length_set];exact k.n) (by unfold BR;rw[hce,if_pos q2]) x2
 · refine aa ?_;refine aQ (fun q0=>?_) (fun q0=>?_)
   · have q0:w=0:=by omega
     have h0:=h0 q0;obtain⟨L,kL,hL,hov⟩:=iI k.s k.n;refine ic 10 9 ?_;refine ax 0 ?_;refine ax 1 ?_;refine ax 2 ?_;refine ax 3 ?_;refine aS 4 rfl (fun h' e=>aA rfl (e.old (kb.cell (i:=3) rfl))) ?_;refine ax 5 ?_;refine ax 6 ?_;refine aS 7 rfl (fun h' e=>bI rfl (e.lK hW.blank)) ?_;refine aS 8 rfl (fun h' e=>bT rfl rfl (i-1) (by omega) rfl) ?_;refine eK 9 rfl (bM rfl rfl kL ((qT cu))) ?_;rintro _ g2 ⟨rfl,k2,x2,z2⟩;refine⟨nofun,?_⟩;refine dP ?_;refine aI ?_;have k2:az g2 g 58 (over L (0+(i-1)*6) (cz cu)):=k2;rw[hov (i-1) cu (by omega)] at k2;exact fin _ _ _ (by exact sb rfl) k2 (by rw[List.length_set];exact k.n) (by unfold BR;rw[hce,if_neg (by omega),if_pos q0]) x2
   · iterate 2 refine aI ?_
     exact fin _ _ _ (by exact sb rfl) k.s k.n (by unfold BR;rw[hce,if_neg (by omega),if_neg (by omega)]) (av _ _)
end
section
variable {h h':ai}{tb g n:Nat}{t:TM}{a:Nat}{u:By}
theorem nH (hW:jH h) (k:kF h tb g n t a u) (hn:n<=20000) (hg:5<g) (hc:1<=t.cols/\t.cols<n) (hr:t.row<t.rows/\t.rows<=100) :
 aj Tryz.prog 138 #[.pointer (some ⟨tb,0,none⟩)] h (aN fun _ h'=>kF h' tb g n (dX t) a u/\Ext (fun b=>b=tb\/b=g) h h'):=by
 obtain⟨bl,kb⟩:=k.b;have hne:=k.ne;unfold dX;refine bf ?_;refine aa ?_;refine bP rfl (aA rfl (kb.cell (i:=4) rfl)) ?_;refine aa ?_;refine bP rfl (aA rfl (kb.cell (i:=1) rfl)) ?_;refine aa ?_;refine aQ (fun q1=>?_) (fun q1=>?_)
 · rw[if_pos (by omega)];refine aa ?_;refine xp rfl (aA rfl (kb.cell (i:=4) rfl)) ?_;refine aa ?_;refine aY rfl (b7 rfl rfl kb) ?_;rintro _ g3 ⟨rfl,k3,x3,z3⟩;refine aa ?_;have k3:az g3 tb 113 (qB t.rows t.cols g n ((t.row+1:Nat):Int) t.col a u t.sy t.waits bl):=k3;refine aW ?_;exact⟨_,rfl,⟨⟨bl,k3⟩,k.s.ext x3 (fun q=>hne q.symm),k.n,hne⟩,x3.mono fun _ _ q=>.inl q⟩
 · rw[if_neg (by omega)]
   have hp:aP (some ⟨g,0,none⟩) t.cols 6 n=some ⟨g,t.cols*6,none⟩:=by
    unfold aP;rw[if_neg (by omega),Option.map_some,Addr.add,Nat.zero_add];split
    · rename_i e;rw[e]
    · rfl
   have hcs:((t.xs.drop t.cols).flatMap cz).length=(n-t.cols)*6:=by rw[cZ,List.length_drop,k.n]
   have hsrc:∀j v,((t.xs.drop t.cols).flatMap cz)[j]? =some v->cellAt h ((⟨g,t.cols*6,none⟩:Addr).add j)=some v:=fun j v hv=>by
    have hd:(t.xs.drop t.cols).flatMap cz=(t.xs.flatMap cz).drop (t.cols*6):=by
     conv=>rhs;rw[<-List.take_append_drop t.cols t.xs,List.flatMap_append]
     rw[List.drop_left' (by rw[cZ,List.length_take,k.n,Nat.min_eq_left (by omega)])]
    rw[hd,List.getElem?_drop] at hv;have:=k.s.cell hv;unfold Addr.add;split
    · rename_i e;subst e;exact this
    · exact this
   refine aa ?_;refine ic 18 16 ?_;refine ax 0 ?_;refine ax 1 ?_;refine ax 2 ?_;refine ax 3 ?_;refine aS 4 rfl (fun h' e=>aA rfl (e.old (kb.cell (i:=3) rfl))) ?_;refine ax 5 ?_;refine ax 6 ?_;refine ax 7 ?_;refine ax 8 ?_;refine aS 9 rfl (fun h' e=>aA rfl (e.old (kb.cell (i:=3) rfl))) ?_;refine BO 10 ?_;refine BO 11 ?_;refine BO 12 ?_;refine BO 13 ?_;refine Ip 14 rfl (aA rfl (kb.cell (i:=2) rfl)) ?_;refine aS 15 rfl (fun h' e=>an.fI underlying39 H.lu rfl rfl t.cols rfl (by omega)) ?_;refine ct 16 rfl (aH.Bj underlying39 H.yB rfl rfl (hp) (k.s) (hsrc) ((Nat.min_eq_left (by omega))) (hcs) ((by rw[hcs,cZ,k.n];omega)) ((fun v hv=>by obtain⟨x,_,hx⟩:=List.mem_flatMap.1 hv;exact qT x v hx))) ?_;rintro _ g1 ⟨rfl,k1,x1,z1⟩;refine⟨nofun,?_⟩;refine ax 17 ?_;refine dP ?_;refine aa ?_;have hgl:=k.s.lt
   have k1:zA g1 g (t.xs.drop t.cols++List.replicate 0 cu++t.xs.drop (n-t.cols+0)):=by
    have e:over (t.xs.flatMap cz) 0 ((t.xs.drop t.cols).flatMap cz)=(t.xs.drop t.cols++List.replicate 0 cu++t.xs.drop (n-t.cols+0)).flatMap cz:=by
     rw[List.replicate_zero,List.append_nil,Nat.add_zero,List.flatMap_append,over,hcs,List.take_zero,List.nil_append,Nat.zero_add]
     congr 1
     conv=>lhs;rw[<-List.take_append_drop (n-t.cols) t.xs,List.flatMap_append]
     rw[List.drop_left' (by rw[cZ,List.length_take,k.n,Nat.min_eq_left (by omega)])]
    have k1:=k1;rw[e] at k1;exact k1
   have kb1:=kb.ext x1 hne;refine eR (σ:=Nat) (fun j=>[(3,.int .i64 ((n-t.cols+j:Nat):Int))]) (fun j h'=>j<=t.cols/\zA h' g (t.xs.drop t.cols++List.replicate j cu++t.xs.drop (n-t.cols+j))/\Ext (fun b=>b=g) h h') (fun j=>t.cols-j) (0) ⟨Nat.zero_le _,k1,x1⟩ rfl ?_;rintro j g2 ⟨hj,ks,x2⟩ ih;have kb2:=kb.ext x2 hne
   have hyl:(t.xs.drop t.cols++List.replicate j cu++t.xs.drop (n-t.cols+j)).length=n:=by
    rw[List.length_append,List.length_append,List.length_drop,List.length_replicate,List.length_drop,k.n];omega
   refine aa ?_;refine xp rfl (aA rfl (kb2.cell (i:=3) rfl)) ?_;refine aa ?_;refine aQ (fun q3=>?_) (fun q3=>?_)
   · have hjc:j<t.cols:=by omega
     obtain⟨L,kL,hL,hov⟩:=iI ks hyl;have hb2:Lw.rowAt g2 5 0 (cz cu):=x2.rowAt (by omega) hW.blank;refine aa ?_;refine ic 9 8 ?_;refine ax 0 ?_;refine ax 1 ?_;refine ax 2 ?_;refine ax 3 ?_;refine aS 4 rfl (fun h' e=>aA rfl (e.old (kb2.cell (i:=3) rfl))) ?_;refine ax 5 ?_;refine aS 6 rfl (fun h' e=>bI rfl (e.lK hb2)) ?_;refine aS 7 rfl (fun h' e=>bT rfl rfl (n-t.cols+j) rfl rfl) ?_;refine eK 8 rfl (bM rfl rfl kL ((qT cu))) ?_;rintro _ g3 ⟨rfl,k3,x3,z3⟩;refine⟨nofun,?_⟩;refine dP ?_;refine aa ?_;have k3:az g3 g 58 (over L (0+(n-t.cols+j)*6) (cz cu)):=k3;rw[hov (n-t.cols+j) cu (by omega)] at k3
     have hset:(t.xs.drop t.cols++List.replicate j cu++t.xs.drop (n-t.cols+j)).set (n-t.cols+j) cu=t.xs.drop t.cols++List.replicate (j+1) cu++t.xs.drop (n-t.cols+(j+1)):=by
      have hd:(t.xs.drop t.cols++List.replicate j cu).length=n-t.cols+j:=by rw[List.length_append,List.length_drop,List.length_replicate,k.n]
      rw[List.set_append_right _ _ (by omega),hd,Nat.sub_self,List.drop_eq_getElem_cons (i:=n-t.cols+j) (by rw[k.n];omega),List.set_cons_zero,List.replicate_succ',<-List.append_assoc,List.append_assoc _ [cu]];rfl
     rw[hset] at k3;exact ih (j+1) ⟨hjc,k3,x2.trans x3⟩
   · obtain rfl:j=t.cols:=by omega
     refine aa ?_;refine gE ?_;rw[List.drop_of_length_le (i:=n-t.cols+t.cols) (by rw[k.n];omega),List.append_nil] at ks;exact⟨_,rfl,⟨⟨bl,kb2⟩,ks,by show (t.xs.drop t.cols++List.replicate t.cols cu).length=n;rw[List.length_append,List.length_drop,List.length_replicate,k.n];omega,hne⟩,x2.mono fun _ _ q=>.inr q⟩
end
end
end Go.Proofs.YtckomlgchbkekaaGreatDoor
namespace Go.Proofs.YtckomlgchbkekaaGreatDoor
open Go Go.Lw
set_option maxRecDepth 20000
section
variable {cols:Nat}
theorem eG (xs:List cY) (i:Nat) (c:cY) (j:Nat):bX (xs.set i c) j=if i=j/\i<xs.length then c else bX xs j:=by
 unfold bX;rw[List.getD_eq_getElem?_getD,List.getD_eq_getElem?_getD,List.getElem?_set]
 by_cases h:i=j
 · subst h
   by_cases h2:i<xs.length
   · simp[h2]
   · simp[h2]
 · simp[h]
theorem oC {xs:List cY}{i:Nat}(h:xs.length<=i):bX xs i=cu:=by
 unfold bX;rw[List.getD_eq_getElem?_getD,List.getElem?_eq_none h];rfl
theorem oD {xs ys:List cY}(hl:xs.length=ys.length) (h:∀i,i<xs.length->bX xs i=bX ys i):xs=ys:=by
 refine List.ext_getElem hl fun i h1 h2=>?_
 have:=h i h1;unfold bX at this;rw[List.getD_eq_getElem?_getD,List.getD_eq_getElem?_getD,List.getElem?_eq_getElem h1,List.getElem?_eq_getElem h2] at this;exact this
abbrev dH (xs:List cY) (i:Nat):Int:=(bX xs i).2.1
def vz (xs:List cY):Prop:=∀i,i<xs.length->(dH xs i=2->i+1<xs.length/\dH xs (i+1)=0)/\(dH xs i=0->0<i/\dH xs (i-1)=2)
theorem VF.link {rows:Nat}{xs:List cY}(h:VF cols xs) (hl:xs.length=rows*cols):vz xs:=fun i hi=>by
 have k:=h i hi;refine⟨fun q=>⟨?_,(k.left q).2⟩,fun q=>⟨?_,(k.right q).2.1⟩⟩
 · have h1:=(k.left q).1;rw[hl] at hi ⊢;have h2:=Nat.div_add_mod i cols;have h3:i / cols<rows:=Nat.div_lt_of_lt_mul (by rw[Nat.mul_comm];exact hi);have h4:cols*(i / cols)+cols<=rows*cols:=by rw[<-Nat.mul_succ,Nat.mul_comm rows];exact Nat.mul_le_mul_left _ h3
   omega
 · have h1:=(k.right q).1
   rcases Nat.eq_zero_or_pos i with rfl|h2
   · rw[Nat.zero_mod] at h1;omega
   · exact h2
theorem vz.pair {xs:List cY}(h:vz xs):qK xs:=fun i hi=>⟨fun q=>((h i hi).1 q).1,fun q=>((h i hi).2 q).1⟩
theorem qK.set {xs:List cY}(h:qK xs) (i:Nat):qK (xs.set i cu):=fun j hj=>by
 rw[List.length_set] at hj ⊢;rw[eG];split
 · exact⟨fun q=>by simp[cu] at q,fun q=>by simp[cu] at q⟩
 · exact h j hj
theorem qK.BR {xs:List cY}(h:qK xs) (i:Nat):qK (BR xs i):=by
 unfold Go.Proofs.YtckomlgchbkekaaGreatDoor.BR;refine qK.set ?_ i;split
 · exact h.set _
 · split
   · exact h.set _
   · exact h
theorem qK.fP {xs:List cY}(h:qK xs) (i:Nat):∀k,qK (fP xs i k)
 | 0=>h
 |k+1=>(qK.fP h i k).BR _
def uN (xs:List cY) (a b j:Nat):cY:=if a<b/\(a<=j/\j<b\/j+1=a/\dH xs a=0\/j=b/\dH xs b=0) then cu else bX xs j
theorem La {xs:List cY}(i j:Nat) (hi:i<xs.length):bX (BR xs i) j=if j=i\/dH xs i=2/\j=i+1/\j<xs.length\/dH xs i=0/\j=i-1 then cu else bX xs j:=by
 unfold BR;rw[eG]
 by_cases h2:dH xs i=2
 · rw[if_pos h2,eG,List.length_set]
   grind
 · rw[if_neg h2]
   by_cases h0:dH xs i=0
   · rw[if_pos h0,eG,List.length_set]
     grind
   · rw[if_neg h0]
     grind
theorem M5 {α:Type}{p q r:Prop}[Decidable p] [Decidable q] [Decidable r]{b z:α}(h:p\/q↔r):(if p then b else if q then b else z)=if r then b else z:=by
 by_cases hp:p
 · rw[if_pos hp,if_pos (h.1 (.inl hp))]
 · by_cases hq:q
   · rw[if_neg hp,if_pos hq,if_pos (h.1 (.inr hq))]
   · rw[if_neg hp,if_neg hq,if_neg fun hr=>(h.2 hr).elim hp hq]
theorem iE {xs:List cY}(hL:vz xs) (a:Nat):∀k,a+k<=xs.length->∀j,j<xs.length->bX (fP xs a k) j=uN xs a (a+k) j
 | 0,_,j,_=>by rw[uN,if_neg (by omega)];rfl
 |k+1,hk,j,hj=>by
  have hi:a+k<xs.length:=by omega
  have ih:=iE hL a k (by omega);have hl:=cw xs a k;have hw:=ih (a+k) hi;have h1:=hL (a+k) hi;have h3:a+k+1<xs.length->dH xs (a+k+1)=0->dH xs (a+k)=2:=fun q z=>by have:=((hL _ q).2 z).2;rwa [Nat.add_sub_cancel] at this
  have h5:=fun q=>(h1.1 q).2
  have h6:=fun q=>(h1.2 q).1
  have h7:dH (fP xs a k) (a+k)=if 0<k/\dH xs (a+k)=0 then 1 else dH xs (a+k):=by
   rw[dH,hw,uN]
   rcases Nat.eq_zero_or_pos k with rfl|hk0
   · rw[if_neg (by omega),if_neg (by omega)]
   · by_cases h0:dH xs (a+k)=0
     · rw[if_pos ⟨by omega,.inr (.inr ⟨rfl,h0⟩)⟩,if_pos ⟨hk0,h0⟩]
     · rw[if_neg (by omega),if_neg (by omega)]
  rw[fP,La _ _ (by rw[hl];exact hi),hl,ih j hj,h7];unfold uN;rw[show a+(k+1)=a+k+1 by omega];generalize bX xs j=z;generalize hwi:dH xs (a+k)=wi at *;generalize hwj:dH xs (a+k+1)=wj at *;clear h7 hw ih hL hl;refine M5 ?_
  rcases Nat.eq_zero_or_pos k with rfl|hk0
  · rw[if_neg (by omega)];rw[Nat.add_zero] at hwi;rw[hwi];constructor<;>omega
  · by_cases h0:wi=0
    · rw[if_pos ⟨hk0,h0⟩];constructor<;>omega
    · rw[if_neg (by omega)];constructor<;>omega
theorem H7.blank {ys:List cY}{j:Nat}(h:bX ys j=cu):H7 cols ys j:=by
 constructor<;>rw[h]
 · exact⟨by decide,by decide⟩
 · exact .inr (.inl rfl)
 · intro _;decide
 · intro q;cases q
 · intro q;cases q
theorem VF.over {xs ys:List cY}(hV:VF cols xs) (hy:ys.length=xs.length){a b:Nat}(hab:a<b)
 (h:∀j,j<xs.length->¬(a<=j/\j<b)->bX ys j=uN xs a b j) (hL:vz xs) (hF:∀j,a<=j->j<b->H7 cols ys j):VF cols ys:=fun j hj=>by
 rw[hy] at hj
 by_cases hin:a<=j/\j<b
 · exact hF j hin.1 hin.2
 have hj1:=h j hj hin;unfold uN at hj1
 by_cases hbl:j+1=a/\dH xs a=0\/j=b/\dH xs b=0
 · exact H7.blank (by rw[hj1,if_pos ⟨hab,.inr hbl⟩])
 rw[if_neg (by omega)] at hj1;have ok:=hV j hj;have lk:=hL j hj;constructor
 · rw[hj1];exact ok.fg
 · rw[hj1];exact ok.w
 · rw[hj1];exact ok.of
 · rw[hj1];intro q;refine⟨(ok.left q).1,?_⟩;obtain⟨q1,q2⟩:=lk.1 q
   have hn:¬(a<=j+1/\j+1<b):=by
    rintro⟨u1,u2⟩;obtain rfl:j+1=a:=by omega
    exact hbl (.inl ⟨rfl,q2⟩)
   rw[h (j+1) q1 hn,uN,if_neg ?_]
   · exact q2
   · rintro⟨-,u|⟨u1,u2⟩|⟨u1,u2⟩⟩
     · exact hn u
     · subst u1;have:=((hL _ (by by_cases hq:j+1+1<xs.length;exact hq;exfalso;rw[dH,oC (by omega)] at u2;cases u2)).2 u2).2;rw[Nat.add_sub_cancel,q2] at this;cases this
     · omega
 · rw[hj1];intro q;obtain⟨k1,k2,k3,k4⟩:=ok.right q;obtain⟨q1,q2⟩:=lk.2 q
   have hn:¬(a<=j-1/\j-1<b):=by
    rintro⟨u1,u2⟩;obtain rfl:j=b:=by omega
    exact hbl (.inr ⟨rfl,q⟩)
   have e:bX ys (j-1)=bX xs (j-1):=by
    rw[h (j-1) (by omega) hn,uN,if_neg ?_];rintro⟨-,u|⟨u1,u2⟩|⟨u1,u2⟩⟩
    · exact hn u
    · omega
    · subst u1;rw[q2] at u2;cases u2
   rw[e];exact⟨k1,k2,k3,k4⟩
theorem VF.fP {cols:Nat}{xs:List cY}(hV:VF cols xs) (hL:vz xs){a k:Nat}(hk:a+k<=xs.length):VF cols (fP xs a k):=by
 rcases Nat.eq_zero_or_pos k with rfl|h0
 · exact hV
 · exact hV.over (cw _ _ _) (a:=a) (b:=a+k) (by omega) (fun j hj _=>iE hL a k hk j hj) hL
    fun j h1 h2=>H7.blank (by rw[iE hL a k hk j (by omega),uN,if_pos ⟨by omega,.inl ⟨h1,h2⟩⟩])
theorem VF.feed {rows:Nat}{xs:List cY}(hV:VF cols xs) (hl:xs.length=rows*cols) (hr:1<=rows):VF cols (xs.drop cols++List.replicate cols cu)/\(xs.drop cols++List.replicate cols cu).length=rows*cols:=by
 obtain⟨m,rfl⟩:∃m,rows=m+1:=⟨rows-1,by omega⟩
 rw[Nat.succ_mul] at hl ⊢;have hlen:(xs.drop cols++List.replicate cols cu).length=m*cols+cols:=by rw[List.length_append,List.length_drop,List.length_replicate,hl];omega
 refine⟨fun j hj=>?_,hlen⟩
 have hat:∀i,i<m*cols->bX (xs.drop cols++List.replicate cols cu) i=bX xs (i+cols):=fun i hi=>by
  unfold bX;rw[List.getD_eq_getElem?_getD,List.getD_eq_getElem?_getD,List.getElem?_append_left (by rw[List.length_drop,hl];omega),List.getElem?_drop,Nat.add_comm]
 rw[hlen] at hj
 by_cases hb:j<m*cols
 · have ok:=hV (j+cols) (by omega);have e:=hat j hb;have hm:(j+cols)%cols=j%cols:=Nat.add_mod_right _ _;constructor
   · rw[e];exact ok.fg
   · rw[e];exact ok.w
   · rw[e];exact ok.of
   · rw[e];intro q;obtain⟨k1,k2⟩:=ok.left q;rw[hm] at k1
     have hb1:j+1<m*cols:=by
      by_cases hq:j+1<m*cols
      · exact hq
      · exfalso;have h1:j+1=m*cols:=by omega
        have h2:(j+1)%cols=0:=by rw[h1,Nat.mul_mod_left]
        rw[Nat.add_mod,Nat.mod_eq_of_lt (show 1<cols by omega),Nat.mod_eq_of_lt k1] at h2;omega
     rw[hat _ hb1];exact⟨k1,by rw[show j+1+cols=j+cols+1 by omega];exact k2⟩
   · rw[e];intro q;obtain⟨k1,k2,k3,k4⟩:=ok.right q;rw[hm] at k1;have h0:0<j:=by rcases Nat.eq_zero_or_pos j with rfl|h;(rw[Nat.zero_mod] at k1;omega);exact h
     rw[hat _ (by omega),show j-1+cols=j+cols-1 by omega];exact⟨k1,k2,k3,k4⟩
 · refine H7.blank ?_;unfold bX;rw[List.getD_eq_getElem?_getD,List.getElem?_append_right (by rw[List.length_drop,hl];omega),List.getElem?_replicate];split<;>rfl
theorem dw.link {t:TM}(h:dw t):vz t.xs:=h.vf.link h.len
theorem dw.feed {t:TM}(h:dw t):dw (dX t):=by
 unfold dX;split
 · exact⟨h.rows,h.cols,h.len,by assumption,h.col,h.fg,h.vf⟩
 · have k:=h.vf.feed h.len (by have:=h.rows;omega);exact⟨h.rows,h.cols,k.2,h.row,h.col,h.fg,k.1⟩
def wrapM (t:TM) (w:Int):TM:=if t.waits=true\/w=2/\t.col+1=t.cols then dX { t with col:=0,waits:=false } else t
def nU (t:TM) (r:Int):List cY :=
 let at_:=t.row*t.cols+t.col
 let ys:=(fP t.xs at_ (cU r).toNat).set at_ (r,cU r,t.sy)
 if cU r=2 then ys.set (at_+1) (0,0,t.sy) else ys
def nO (t:TM) (r:Int):TM :=
 let t:=wrapM t (cU r)
 if t.col+(cU r).toNat<t.cols then { t with xs:=nU t r,col:=t.col+(cU r).toNat } else { t with xs:=nU t r,col:=t.cols-1,waits:=true }
theorem dw.at_ {t:TM}(h:dw t):t.row*t.cols+t.col<t.xs.length/\(t.row*t.cols+t.col)%t.cols=t.col/\t.row*t.cols+t.cols<=t.xs.length:=by
 have h1:=h.col;have h2:t.row*t.cols+t.cols<=t.rows*t.cols:=by rw[<-Nat.succ_mul];exact Nat.mul_le_mul_right _ h.row
 rw[h.len];exact⟨by omega,by rw[Nat.add_comm,Nat.add_mul_mod_self_right];exact Nat.mod_eq_of_lt h1,h2⟩
end
end Go.Proofs.YtckomlgchbkekaaGreatDoor
namespace Go.Proofs.YtckomlgchbkekaaGreatDoor
open Go.Proofs.Tryz
open Go Go.Lw
set_option maxRecDepth 20000 set_option maxHeartbeats 4000000
section
variable {l:List Int}{v:Value}
section
variable {h0 h h':ai}{tb g n:Nat}{t:TM}{a:Nat}{u:By}
theorem jx (e0:ah h0 h) (x:Ext (fun b=>b=tb\/b=g) h h') (hb:h0.size<=tb) (hg:h0.size<=g):ah h0 h' :=
 ⟨Nat.le_trans e0.size x.size,fun b hb' hm=>(x.block b (by have:=e0.size;omega) (by omega)).trans (e0.block b hb' hm)⟩
theorem kF.PL (k:kF h tb g n t a u):Lw.rowAt h tb (0+8) (jL t.sy):=fun j v hv=>by
 obtain⟨bl,kb⟩:=k.b
 match j,hv with
 | 0,hv=>cases hv;exact kb.cell (i:=8) rfl
 | 1,hv=>cases hv;exact kb.cell (i:=9) rfl
 | 2,hv=>cases hv;exact kb.cell (i:=10) rfl
 | 3,hv=>cases hv;exact kb.cell (i:=11) rfl
theorem dw.wrap {t:TM}(h:dw t) (w:Int):dw (wrapM t w)/\(wrapM t w).cols=t.cols/\(wrapM t w).rows=t.rows/\(wrapM t w).sy=t.sy/\(w=2->(wrapM t w).col+1<t.cols)/\(wrapM t w).waits=false:=by
 unfold wrapM;have h8:=h.cols;split
 · rename_i q;have ok:dw ({ t with col:=0,waits:=false }:TM):=⟨h.rows,h.cols,h.len,h.row,by show 0<t.cols;omega,h.fg,h.vf⟩
   have e:∀t:TM,(dX t).cols=t.cols/\(dX t).rows=t.rows/\(dX t).sy=t.sy/\(dX t).col=t.col/\(dX t).waits=t.waits:=fun t=>by unfold dX;split<;>exact⟨rfl,rfl,rfl,rfl,rfl⟩
   obtain⟨e1,e2,e3,e4,e5⟩:=e { t with col:=0,waits:=false };exact⟨ok.feed,e1,e2,e3,fun _=>by rw[e4];show 0+1<t.cols;omega,e5⟩
 · rename_i q;refine⟨h,rfl,rfl,rfl,fun hw=>?_,by cases hwt:t.waits;rfl;exact absurd (.inl hwt) q⟩;have:=h.col;have:¬t.col+1=t.cols:=fun e=>q (.inr ⟨hw,e⟩)
   omega
theorem wO (hW:jH h0) (e0:ah h0 h) (hg:h0.size<=g) (hb:h0.size<=tb) (ok:dw t) (k:kF h tb g n t a u){r:Int}(hr:cU r=1\/cU r=2) :
 aj Tryz.prog 84 #[.pointer (some ⟨tb,0,none⟩),.int .i32 r] h (aN fun _ h'=>kF h' tb g n (nO t r) a u/\Ext (fun b=>b=tb\/b=g) h h'):=by
 have hgb:5<h0.size:=bS hW.blank (by decide);obtain⟨bl,kb⟩:=k.b;have hne:=k.ne;have h8:=ok.cols;have hcol:=ok.col;refine bf ?_;refine aa ?_;refine xo rfl (aG rfl (oV (hW.af e0) r)) ?_;rintro _ h1 ⟨rfl,e1⟩;refine aU ?_;refine bJ ?_
 iterate 2 refine aI ?_
 have k1:=k.af e1;have kb1:=kb.af e1;have hcond:(decide (t.waits=true\/cU r=2/\t.col+1=t.cols))=(t.waits ||decide (cU r=2/\t.col+1=t.cols)):=by cases t.waits<;>simp
 refine G.eB [(30,.bool (decide (t.waits=true\/cU r=2/\t.col+1=t.cols)))] [(0,_),(1,_),(4,_)] ⟨rfl,rfl,rfl,trivial⟩ func84 H.mixed rfl (by kernel_rfl) ?_ ?_
 · iterate 3 refine mU ?_
   refine bP rfl (aA rfl (kb1.cell (i:=12) rfl)) ?_;refine aa ?_;refine Ic 13 (fun g1=>?_) (fun g1=>?_)
   · refine aa ?_;exact jq rfl ⟨ak rfl (by rw[hcond,g1];rfl),sb rfl⟩
   · refine aa ?_;refine Ic 16 (fun g2=>?_) (fun g2=>?_)
     · have g2:=of_decide_eq_true g2;refine aa ?_;refine bP rfl (aA rfl (kb1.cell (i:=5) rfl)) ?_;refine aa ?_;refine bP rfl (aA rfl (kb1.cell (i:=2) rfl)) ?_;refine aa ?_;exact jq rfl ⟨ak rfl (by rw[hcond,g1,Bool.false_or,decide_eq_decide];omega),sb rfl⟩
     · have g2:=of_decide_eq_false g2;refine aa ?_;exact jq rfl ⟨ak rfl (by rw[hcond,g1,Bool.false_or,decide_eq_false (fun q=>g2 q.1)]),sb rfl⟩
 · obtain⟨okw,w1,w2,w3,w4,w5⟩:=ok.wrap (cU r)
   have fin:∀  (h':ai) (ρ':Env),Sub [(0,.pointer (some ⟨tb,0,none⟩)),(1,.int .i32 r),(4,.int .i64 (cU r))] ρ'->kF h' tb g n (wrapM t (cU r)) a u->Ext (fun b=>b=tb\/b=g) h1 h'->G Tryz.prog 84 f84 [.code [1,1]] ρ' h' (aN fun _ h'=>kF h' tb g n (nO t r) a u/\Ext (fun b=>b=tb\/b=g) h h'):=by
    rintro h2 ρ' hsub k2 x2;refine G.sub (ρ':=[(0,.pointer (some ⟨tb,0,none⟩)),(1,.int .i32 r),(4,.int .i64 (cU r))]) hsub ?_;generalize hw0:wrapM t (cU r)=t1 at *;have hshow:nO t r=if t1.col+(cU r).toNat<t1.cols then { t1 with xs:=nU t1 r,col:=t1.col+(cU r).toNat } else { t1 with xs:=nU t1 r,col:=t1.cols-1,waits:=true }:=by rw[<-hw0];rfl
    rw[hshow];clear hshow;have hn:=k2.n;obtain⟨p1,p2,p3⟩:=okw.at_;obtain⟨bl2,kb2⟩:=k2.b;have hlo:n<=20000:=by rw[<-hn,okw.len];exact Nat.mul_le_mul okw.rows.2 okw.cols.2
    have hm:(t1.row:Int)*(t1.cols:Int)=((t1.row*t1.cols:Nat):Int):=by push_cast;rfl
    have hpair:=okw.link.pair;have c1:=okw.cols;have c2:=okw.col;rw[w1] at c1 c2;have hput:nU t1 r=if cU r=2 then ((fP t1.xs (t1.row*t1.cols+t1.col) (cU r).toNat).set (t1.row*t1.cols+t1.col) (r,cU r,t1.sy)).set (t1.row*t1.cols+t1.col+1) (0,0,t1.sy) else (fP t1.xs (t1.row*t1.cols+t1.col) (cU r).toNat).set (t1.row*t1.cols+t1.col) (r,cU r,t1.sy):=rfl
    refine aa ?_;refine bP rfl (aA rfl (kb2.cell (i:=4) rfl)) ?_;refine aa ?_;refine bP rfl (aA rfl (kb2.cell (i:=2) rfl)) ?_;refine bP rfl (an.dK rfl rfl (by rw[hm];omega)) ?_;refine aa ?_;refine bP rfl (aA rfl (kb2.cell (i:=5) rfl)) ?_;refine bP rfl (an.dZ rfl rfl (by rw[hm];omega)) ?_;rw[hm,show ((t1.row*t1.cols:Nat):Int)+(t1.col:Int)=((t1.row*t1.cols+t1.col:Nat):Int) by push_cast;rfl];generalize hp:t1.row*t1.cols+t1.col=p at *;obtain⟨m,hm2,hm12⟩:∃m:Nat,cU r=m/\(m=1\/m=2):=by rcases hr with q|q;exact⟨1,q,.inl rfl⟩;exact⟨2,q,.inr rfl⟩
    have hpm:p+m<=n:=by have:=w4;omega
    rw[hm2,Int.toNat_natCast] at hput;rw[hm2] at *;refine aa ?_;refine eR (σ:=Nat) (fun j=>[(6,.int .i64 ((p+j:Nat):Int))]) (fun j g'=>j<=m/\kF g' tb g n { t1 with xs:=fP t1.xs p j } a u/\Ext (fun b=>b=tb\/b=g) h1 g') (fun j=>m-j) (0) ⟨Nat.zero_le _,k2,x2⟩ rfl ?_;rintro j g1 ⟨hj,kj,xj⟩ ih;have hpj:=hpair.fP p j;have hnj:(fP t1.xs p j).length=n:=kj.n;refine aa ?_;refine aQ (fun q1=>?_) (fun q1=>?_)
    · have hjm:j<m:=by omega
      have hc:=hpj (p+j) (by rw[hnj];omega);rw[hnj] at hc;refine aa ?_;refine xo rfl (aG rfl (rD (hW.af (jx (e0.trans e1) xj hb hg)) kj hlo (by omega) (i:=p+j) (by omega) hc.1 hc.2)) ?_;rintro _ g2 ⟨k3,x3⟩;refine aa ?_;exact ih (j+1) ⟨hjm,k3,xj.trans (x3.mono fun _ _ q=>.inr q)⟩
    · obtain rfl:j=m:=by omega
      obtain⟨bl3,kb3⟩:=kj.b;obtain⟨L,kL,hL,hov⟩:=iI kj.s hnj;refine aa ?_;refine ic 15 14 ?_;refine ax 0 ?_;refine ax 1 ?_;refine ax 2 ?_;refine ax 3 ?_;refine aS 4 rfl (fun h' e=>aA rfl (e.old (kb3.cell (i:=3) rfl))) ?_;refine ax 5 ?_;refine ax 6 ?_;refine ax 7 ?_;refine ax 8 ?_;refine ax 9 ?_;refine ax 10 ?_;refine aS 11 rfl (fun h' e=>bI rfl (e.lK kj.PL)) ?_;refine aS 12 rfl (fun h' e=>au (H.nA _ _ _ _ _ _) rfl) ?_;refine aS 13 rfl (fun h' e=>bT rfl rfl p rfl rfl) ?_;refine eK 14 rfl (bM rfl rfl kL ((qT (r,(j:Int),t1.sy)))) ?_;rintro _ g2 ⟨rfl,k4,x4,z4⟩;refine⟨nofun,?_⟩;refine dP ?_;refine aa ?_;have k4:az g2 g 58 (over L (0+p*6) (cz (r,(j:Int),t1.sy))):=k4;rw[hov p _ (by omega)] at k4;have kb4:=kb3.ext x4 hne;have kj4:kF g2 tb g n { t1 with xs:=(fP t1.xs p j).set p (r,(j:Int),t1.sy) } a u:=⟨⟨bl3,kb4⟩,k4,by rw[List.length_set];exact hnj,hne⟩
      have hn4:((fP t1.xs p j).set p (r,(j:Int),t1.sy)).length=n:=by rw[List.length_set];exact hnj
      rw[Int.toNat_natCast]
      have fin2:∀  (h':ai) (ρ':Env),Sub [(0,.pointer (some ⟨tb,0,none⟩)),(4,.int .i64 (j:Nat))] ρ'->az h' tb 113 (qB t1.rows t1.cols g n t1.row t1.col a u t1.sy t1.waits bl3)->zA h' g (nU t1 r)->(nU t1 r).length=n->Ext (fun b=>b=tb\/b=g) h1 h'->G Tryz.prog 84 f84 [.code [1,1,1,1,1,1]] ρ' h' (aN fun _ h'=>kF h' tb g n (if t1.col+j<t1.cols then { t1 with xs:=nU t1 r,col:=t1.col+j } else { t1 with xs:=nU t1 r,col:=t1.cols-1,waits:=true }) a u/\Ext (fun b=>b=tb\/b=g) h h'):=by
       rintro g5 ρ' hsub kb5 ks5 hn5 x5;refine G.sub (ρ':=[(0,.pointer (some ⟨tb,0,none⟩)),(4,.int .i64 (j:Nat))]) hsub ?_;have c3:=okw.cols;refine aa ?_;refine xp rfl (aA rfl (kb5.cell (i:=5) rfl)) ?_;refine aa ?_;refine aY rfl (b7 rfl rfl kb5) ?_;rintro _ g6 ⟨rfl,kb6,x6,z6⟩;refine aa ?_;have kb6:az g6 tb 113 (qB t1.rows t1.cols g n t1.row ((t1.col+j:Nat):Int) a u t1.sy t1.waits bl3):=kb6;have ks6:=ks5.ext x6 (fun q=>hne q.symm);have x06:Ext (fun b=>b=tb\/b=g) h g6:=((e1.mono fun _ _ q=>q.elim).trans x5).trans (x6.mono fun _ _ q=>.inl q);refine bP rfl (aA rfl (kb6.cell (i:=5) rfl)) ?_;refine aa ?_;refine bP rfl (aA rfl (kb6.cell (i:=2) rfl)) ?_;refine aa ?_;refine aQ (fun q3=>?_) (fun q3=>?_)
       · rw[if_neg (by omega)];refine aa ?_;refine xp rfl (aA rfl (kb6.cell (i:=2) rfl)) ?_;refine aU ?_;rw[show (t1.cols:Int)-1=((t1.cols-1:Nat):Int) by omega];refine aa ?_;refine aY rfl (b7 rfl rfl kb6) ?_;rintro _ g7 ⟨rfl,kb7,x7,z7⟩;refine aa ?_;refine aY rfl (b7 rfl rfl kb7) ?_;rintro _ g8 ⟨rfl,kb8,x8,z8⟩;refine aa ?_;have kb8:az g8 tb 113 (qB t1.rows t1.cols g n t1.row ((t1.cols-1:Nat):Int) a u t1.sy true bl3):=kb8;refine gE ?_;exact⟨_,rfl,⟨⟨bl3,kb8⟩,ks6.ext (x7.trans x8) (fun q=>hne q.symm),hn5,hne⟩,x06.trans ((x7.trans x8).mono fun _ _ q=>.inl q)⟩
       · rw[if_pos (by omega)];refine aa ?_;refine gE ?_;exact⟨_,rfl,⟨⟨bl3,kb6⟩,ks6,hn5,hne⟩,x06⟩
      have x14:Ext (fun b=>b=tb\/b=g) h1 g2:=xj.trans (x4.mono fun _ _ q=>.inr q);refine aQ (fun q2=>?_) (fun q2=>?_)
      · have q2':(j:Int)=2:=by omega
        rw[if_pos q2'] at hput;obtain⟨L2,kL2,hL2,hov2⟩:=iI k4 hn4;have hj2:p+1<n:=by omega
        refine ic 14 13 ?_;refine ax 0 ?_;refine ax 1 ?_;refine ax 2 ?_;refine ax 3 ?_;refine aS 4 rfl (fun h' e=>aA rfl (e.old (kb4.cell (i:=3) rfl))) ?_;refine ax 5 ?_;refine ax 6 ?_;refine ax 7 ?_;refine ax 8 ?_;refine ax 9 ?_;refine aS 10 rfl (fun h' e=>bI rfl (e.lK kj4.PL)) ?_;refine aS 11 rfl (fun h' e=>au (H.Db _ _ _ _) rfl) ?_;refine aS 12 rfl (fun h' e=>bT rfl rfl (p+1) rfl rfl) ?_;refine eK 13 rfl (bM rfl rfl kL2 ((qT (0,0,t1.sy)))) ?_;rintro _ g3 ⟨rfl,k6,x6,z6⟩;refine⟨nofun,?_⟩;refine dP ?_;have k6:az g3 g 58 (over L2 (0+(p+1)*6) (cz (0,0,t1.sy))):=k6;rw[hov2 (p+1) _ hj2,<-hput] at k6;exact fin2 _ _ (by exact sb rfl) (kb4.ext x6 hne) k6 (by rw[hput,List.length_set];exact hn4) (x14.trans (x6.mono fun _ _ q=>.inr q))
      · rw[if_neg (by omega)] at hput;refine aI ?_;exact fin2 _ _ (by exact sb rfl) kb4 (by rw[hput];exact k4) (by rw[hput];exact hn4) x14
   refine aQ (fun q0=>?_) (fun q0=>?_)
   · rw[show wrapM t (cU r)=dX { t with col:=0,waits:=false } from if_pos q0] at *;refine aa ?_;refine aY rfl (b7 rfl rfl kb1) ?_;rintro _ g2 ⟨rfl,k2,x2,z2⟩;refine aa ?_;refine aY rfl (b7 rfl rfl k2) ?_;rintro _ g3 ⟨rfl,k3,x3,z3⟩;refine aa ?_;have k3:az g3 tb 113 (qB t.rows t.cols g n t.row (0:Nat) a u t.sy false bl):=k3;have hn:=k.n;have hlo:n<=20000:=by rw[<-hn,ok.len];exact Nat.mul_le_mul ok.rows.2 ok.cols.2
     have hcn:t.cols<n:=by
      have:=ok.rows;rw[<-hn,ok.len];exact Nat.lt_of_lt_of_le (show t.cols<2*t.cols by omega) (Nat.mul_le_mul_right _ this.1)
     have x13:Ext (fun b=>b=tb\/b=g) h1 g3:=(x2.trans x3).mono fun _ _ q=>.inl q
     have kt3:kF g3 tb g n { t with col:=0,waits:=false } a u:=⟨⟨bl,k3⟩,k1.s.ext (x2.trans x3) (fun q=>hne q.symm),hn,hne⟩
     have hrw:=ok.row;have hrs:=ok.rows;refine xo rfl (aG rfl (nH (hW.af (jx (e0.trans e1) x13 hb hg)) kt3 hlo (by omega) ⟨by show 1<=t.cols;omega,hcn⟩ ⟨hrw,hrs.2⟩)) ?_;rintro _ g4 ⟨k4,x4⟩;refine bJ ?_;exact fin _ _ (by exact sb rfl) k4 (x13.trans x4)
   · rw[show wrapM t (cU r)=t from if_neg q0] at *;refine aI ?_;exact fin _ _ (by exact sb rfl) k1 (av _ _)
end
abbrev Bc:fS Int:=.flat (fun n:Int=>Value.int .i64 n) (fun _=>rfl)
def Fc (t:TM) (r:Int):TM:=if r=7 then t else if r=13 then { t with col:=0,waits:=false } else if r=8 then { t with col:=t.col-1,waits:=false } else if r=10 then { dX t with waits:=false } else t
def eO (t:TM) (how:Int) (from_ to_:Nat):TM :=
 if how=0 then { t with xs:=fP t.xs (t.row*t.cols+t.col) (to_-(t.row*t.cols+t.col)) }
 else if how=1 then { t with xs:=fP t.xs from_ (t.row*t.cols+t.col+1-from_) }
 else if how=2 then { t with xs:=fP t.xs from_ (to_-from_) } else t
def fy (n m:Int):Nat:=(min (max n 0) (m-1)).toNat
def eF (s:qY) (n:Int):qY :=
 if n=0 then pP else if n=1\/n=22 then (s.1,decide (n=1),s.2.2.1,s.2.2.2) else if n=4\/n=24 then (s.1,s.2.1,decide (n=4),s.2.2.2)
 else if n=7\/n=27 then (s.1,s.2.1,s.2.2.1,decide (n=7)) else if 30<=n/\n<=37 then (n-29,s.2.1,s.2.2.1,s.2.2.2) else if n=39 then (0,s.2.1,s.2.2.1,s.2.2.2) else s
section
variable {h0 h h':ai}{tb g n:Nat}{t:TM}{a:Nat}{u:By}
theorem dw.small {t:TM}(h:dw t) (hn:t.xs.length=n):n<=20000/\t.cols<n/\1<=t.cols:=by
 have:=h.rows;have:=h.cols;rw[<-hn,h.len];exact⟨Nat.mul_le_mul h.rows.2 h.cols.2,Nat.lt_of_lt_of_le (show t.cols<2*t.cols by omega) (Nat.mul_le_mul_right _ h.rows.1),by omega⟩
theorem zS (hW:jH h0) (e0:ah h0 h) (hg:h0.size<=g) (hb:h0.size<=tb) (ok:dw t) (k:kF h tb g n t a u) (r:Int) :
 aj Tryz.prog 86 #[.pointer (some ⟨tb,0,none⟩),.int .i32 r] h (aN fun _ h'=>kF h' tb g n (Fc t r) a u/\Ext (fun b=>b=tb\/b=g) h h'):=by
 have hgb:5<h0.size:=bS hW.blank (by decide);obtain⟨bl,kb⟩:=k.b;have hne:=k.ne;have h8:=ok.cols;have hcol:=ok.col;obtain⟨s1,s2,s3⟩:=ok.small k.n;unfold Fc;refine bf ?_;refine aa ?_;refine aQ (fun q7=>?_) (fun q7=>?_)
 · rw[if_pos q7];refine aa ?_;refine xp rfl (aA rfl (kb.cell (i:=13) rfl)) ?_;refine xp rfl (an.add rfl rfl) ?_;refine aa ?_;refine aY rfl (b7 rfl rfl kb) ?_;rintro _ g2 ⟨rfl,k2,x2,z2⟩;refine aa ?_;have k2:az g2 tb 113 (qB t.rows t.cols g n t.row t.col a u t.sy t.waits _):=k2;refine aW ?_;exact⟨_,rfl,⟨⟨_,k2⟩,k.s.ext x2 (fun q=>hne q.symm),k.n,hne⟩,x2.mono fun _ _ q=>.inl q⟩
 · rw[if_neg q7];refine aa ?_;refine aQ (fun q13=>?_) (fun q13=>?_)
   · rw[if_pos q13];refine aa ?_;refine aY rfl (b7 rfl rfl kb) ?_;rintro _ g2 ⟨rfl,k2,x2,z2⟩;refine aa ?_;refine aY rfl (b7 rfl rfl k2) ?_;rintro _ g3 ⟨rfl,k3,x3,z3⟩;refine aa ?_;have k3:az g3 tb 113 (qB t.rows t.cols g n t.row (0:Nat) a u t.sy false bl):=k3;refine gE ?_;exact⟨_,rfl,⟨⟨_,k3⟩,k.s.ext (x2.trans x3) (fun q=>hne q.symm),k.n,hne⟩,(x2.trans x3).mono fun _ _ q=>.inl q⟩
   · rw[if_neg q13];refine aa ?_;refine aQ (fun q8=>?_) (fun q8=>?_)
     · rw[if_pos q8];refine aa ?_;refine xp rfl (aA rfl (kb.cell (i:=5) rfl)) ?_;refine aa ?_;rw[show (if (t.col:Int)-1<0 then 0 else (t.col:Int)-1)=((t.col-1:Nat):Int) by split<;>omega];refine aY rfl (b7 rfl rfl kb) ?_;rintro _ g2 ⟨rfl,k2,x2,z2⟩;refine aa ?_;refine aY rfl (b7 rfl rfl k2) ?_;rintro _ g3 ⟨rfl,k3,x3,z3⟩;refine aa ?_;have k3:az g3 tb 113 (qB t.rows t.cols g n t.row (t.col-1:Nat) a u t.sy false bl):=k3;refine gE ?_;exact⟨_,rfl,⟨⟨_,k3⟩,k.s.ext (x2.trans x3) (fun q=>hne q.symm),k.n,hne⟩,(x2.trans x3).mono fun _ _ q=>.inl q⟩
     · rw[if_neg q8];refine aa ?_;refine aQ (fun q10=>?_) (fun q10=>?_)
       · rw[if_pos q10];refine aa ?_;refine xo rfl (aG rfl (nH (hW.af e0) k s1 (by omega) ⟨s3,s2⟩ ⟨ok.row,ok.rows.2⟩)) ?_;rintro _ g4 ⟨k4,x4⟩;refine aa ?_;obtain⟨bl4,kb4⟩:=k4.b;refine aY rfl (b7 rfl rfl kb4) ?_;rintro _ g5 ⟨rfl,k5,x5,z5⟩;refine aa ?_;have k5:az g5 tb 113 (qB (dX t).rows (dX t).cols g n (dX t).row (dX t).col a u (dX t).sy false bl4):=k5;refine gE ?_;exact⟨_,rfl,⟨⟨_,k5⟩,k4.s.ext x5 (fun q=>hne q.symm),k4.n,hne⟩,x4.trans (x5.mono fun _ _ q=>.inl q)⟩
       · rw[if_neg q10];refine aW ?_;exact⟨_,rfl,k,av _ _⟩
theorem fA (n m:Int) (hm:1<=m/\m<=1000):aj Tryz.prog 141 #[.int .i64 n,.int .i64 m] h (aN fun r h'=>r= .int .i64 (fy n m:Nat)/\h'=h):=by
 unfold fy;refine bf ?_;refine aa ?_;refine aW ?_;exact⟨_,rfl,congrArg (Value.int .i64) (by omega),rfl⟩
theorem nV {p:Value}{i:Nat}{O:Nat->Prop}{k r f:Int}(hp:aR Bc h O p l):aj Tryz.prog 140 #[.agg (jo k r p f).toArray,.int .i64 (i:Nat)] h (aN fun q h'=>q= .int .i64 (l.getD i 0)/\ah h h'):=by
 obtain⟨va,vn,vc,rfl,hps⟩:=id hp.open;have hl:l.length=vn:=hps.len;subst hl;refine bf ?_;refine aa ?_;refine xo rfl (cM) ?_;rintro _ h1 ⟨rfl,k1,e1,z1⟩;have k1:az h1 h.size 119 (jo k r (.slice va l.length vc) f):=k1;refine aa ?_;refine xp rfl (aA rfl (k1.cell (i:=2) rfl)) ?_;refine aa ?_;refine aQ (fun q=>?_) (fun q=>?_)
 · obtain⟨b,o,x,ha,_,hx,hrow⟩:=(hp.af e1).open_slice.at (i:=i) (by omega);have hgt:l.getD i 0=x:=by rw[List.getD_eq_getElem?_getD,hx];rfl
   refine aa ?_;refine xp rfl (aA rfl (k1.cell (i:=2) rfl)) ?_;refine aU ?_;refine xp rfl (bT rfl rfl i rfl ha) ?_;refine xp rfl (aA rfl hrow) ?_;refine aa ?_;refine aW ?_;exact⟨_,rfl,by rw[hgt];rfl,e1⟩
 · refine aa ?_;refine aW ?_;exact⟨_,rfl,by rw[List.getD_eq_getElem?_getD,List.getElem?_eq_none (by omega)];rfl,e1⟩
theorem mD (hW:jH h0) (e0:ah h0 h) (hg:h0.size<=g) (hb:h0.size<=tb) (ok:dw t) (k:kF h tb g n t a u) (how:Int){from_ to_:Nat}(hf:to_<=n) :
 aj Tryz.prog 142 #[.pointer (some ⟨tb,0,none⟩),.int .i64 how,.int .i64 (from_:Nat),.int .i64 (to_:Nat)] h (aN fun _ h'=>kF h' tb g n (eO t how from_ to_) a u/\Ext (fun b=>b=tb\/b=g) h h'):=by
 have hgb:5<h0.size:=bS hW.blank (by decide);obtain⟨bl,kb⟩:=k.b;have hne:=k.ne;obtain⟨s1,s2,s3⟩:=ok.small k.n;obtain⟨p1,p2,p3⟩:=ok.at_;have hkn:=k.n;have hm:(t.row:Int)*(t.cols:Int)=((t.row*t.cols:Nat):Int):=by push_cast;rfl
 unfold eO;refine bf ?_;refine aa ?_;refine bP rfl (aA rfl (kb.cell (i:=4) rfl)) ?_;refine aa ?_;refine bP rfl (aA rfl (kb.cell (i:=2) rfl)) ?_;refine bP rfl (an.dK rfl rfl (by rw[hm];omega)) ?_;refine aa ?_;refine bP rfl (aA rfl (kb.cell (i:=5) rfl)) ?_;refine bP rfl (an.dZ rfl rfl (by rw[hm];omega)) ?_;rw[hm,show ((t.row*t.cols:Nat):Int)+(t.col:Int)=((t.row*t.cols+t.col:Nat):Int) by push_cast;rfl];generalize hp:t.row*t.cols+t.col=p at *;have hpair:=ok.link.pair;refine aa ?_
 have fin:∀(x y:Nat) (h':ai) (ρ':Env),Sub [(0,.pointer (some ⟨tb,0,none⟩)),(2,.int .i64 (x:Nat)),(3,.int .i64 (y:Nat))] ρ'->y<=n->h'=h->G Tryz.prog 142 f142 [.code [1,1]] ρ' h' (aN fun _ h'=>kF h' tb g n { t with xs:=fP t.xs x (y-x) } a u/\Ext (fun b=>b=tb\/b=g) h h'):=by
  rintro x y g1 ρ' hsub hy rfl;refine G.sub (ρ':=[(0,.pointer (some ⟨tb,0,none⟩)),(2,.int .i64 (x:Nat)),(3,.int .i64 (y:Nat))]) hsub ?_;refine aa ?_;refine eR (σ:=Nat) (fun j=>[(9,.int .i64 ((x+j:Nat):Int))]) (fun j g'=>(j=0\/x+j<=y)/\kF g' tb g n { t with xs:=fP t.xs x j } a u/\Ext (fun b=>b=tb\/b=g) g1 g') (fun j=>y-(x+j)) (0) ⟨.inl rfl,k,av _ _⟩ rfl ?_;rintro j g2 ⟨hj,kj,xj⟩ ih;have hpj:=hpair.fP x j;have hnj:(fP t.xs x j).length=n:=kj.n;refine aa ?_;refine aQ (fun q1=>?_) (fun q1=>?_)
  · have hc:=hpj (x+j) (by rw[hnj];omega);rw[hnj] at hc;have e2:ah h0 g2:=jx e0 xj hb hg;refine aa ?_;refine xo rfl (aG rfl (rD (hW.af e2) kj s1 (by omega) (i:=x+j) (by omega) hc.1 hc.2)) ?_;rintro _ g3 ⟨k3,x3⟩;refine aa ?_;exact ih (j+1) ⟨.inr (by omega),k3,xj.trans (x3.mono fun _ _ q=>.inr q)⟩
  · obtain rfl:j=y-x:=by omega
    refine aa ?_;refine gE ?_;exact⟨_,rfl,kj,xj⟩
 refine aQ (fun q0=>?_) (fun q0=>?_)
 · rw[if_pos q0];refine bU ?_
   iterate 2 refine aU ?_
   refine bJ ?_;refine aI ?_;exact fin p to_ _ _ (by exact sb rfl) hf rfl
 · rw[if_neg q0];refine aa ?_;refine aQ (fun q1=>?_) (fun q1=>?_)
   · rw[if_pos q1];refine bU ?_
     iterate 3 refine aU ?_
     refine bJ ?_;refine aI ?_;exact fin from_ (p+1) _ _ (by exact sb rfl) (by omega) rfl
   · rw[if_neg q1];refine aa ?_;refine aQ (fun q2=>?_) (fun q2=>?_)
     · rw[if_pos q2]
       iterate 2 refine aI ?_
       exact fin from_ to_ _ _ (by exact sb rfl) hf rfl
     · rw[if_neg q2];refine aW ?_;exact⟨_,rfl,k,av _ _⟩
end
section
variable {h0 h h':ai}{tb g n:Nat}{t:TM}{a:Nat}{u:By}
theorem wT (k:kF h tb g n t a u) (hv:aR Bc h (fun b=>b=tb) v l) (hl:l.length<=1000) :
 aj Tryz.prog 143 #[.pointer (some ⟨tb,0,none⟩),v] h (aN fun _ h'=>kF h' tb g n { t with sy:=if l=[] then pP else l.foldl eF t.sy } a u/\Ext (fun b=>b=tb\/h.size<=b) h h'):=by
 obtain⟨oa,m,c,rfl,hsl⟩:=id hv.open;have hm:l.length=m:=hsl.len;subst hm;have hne:=k.ne;have htl:tb<h.size:=let ⟨_,q⟩:=k.b;q.lt;refine bf ?_;refine aa ?_
 have fin:∀(l':List Int) (v':Value) (h':ai) (ρ':Env),Sub [(0,.pointer (some ⟨tb,0,none⟩)),(1,v')] ρ'->aR Bc h' (fun b=>b=tb) v' l'->l'.length<=1000->l'.foldl eF t.sy=(if l=[] then pP else l.foldl eF t.sy)->ah h h'->G Tryz.prog 143 Tryz.f143 [.code [1]] ρ' h' (aN fun _ h'=>kF h' tb g n { t with sy:=if l=[] then pP else l.foldl eF t.sy } a u/\Ext (fun b=>b=tb\/h.size<=b) h h'):=by
  rintro l' v' g1 ρ' hsub hv' hl' hf e1;refine G.sub (ρ':=[(0,.pointer (some ⟨tb,0,none⟩)),(1,v')]) hsub ?_;rw[<-hf];obtain⟨oa',m',c',rfl,hsl'⟩:=id hv'.open;have hm':l'.length=m':=hsl'.len;subst hm';have k1:=k.af e1;obtain⟨bl,kb1⟩:=k1.b;refine aa ?_;refine zB (σ:=Nat) (fun j=>[(0,.pointer (some ⟨tb,0,none⟩)),(10,.slice oa' l'.length c'),(11,.int .i64 (l'.length:Nat)),(12,.int .i64 (j:Nat))]) (fun j g'=>j<=l'.length/\az g' tb 113 (qB t.rows t.cols g n t.row t.col a u ((l'.take j).foldl eF t.sy) t.waits bl)/\Ext (fun b=>b=tb) g1 g') (fun j=>l'.length-j) (0) ⟨Nat.zero_le _,kb1,av _ _⟩ ?_;rintro j g2 ⟨hj,kb1,x1⟩ ih;refine aa ?_;refine aQ (fun hlt=>?_) (fun hlt=>?_)
  · have hjl:j<l'.length:=by omega
    obtain⟨b,o,x,ha,hnb,hx,hrow⟩:=hsl'.at (i:=j) hjl;have hrow:cellAt g2 ⟨b,o+j*1,none⟩=some (.int .i64 x):=x1.cell (fun q=>hnb q) hrow;have htk:(l'.take (j+1)).foldl eF t.sy=eF ((l'.take j).foldl eF t.sy) x:=by rw[List.take_add_one,hx,List.foldl_append];rfl
    generalize hs:(l'.take j).foldl eF t.sy=s at *
    iterate 4 refine aI ?_
    refine bU ?_;refine xp rfl (bT rfl rfl j rfl ha) ?_;refine xp rfl (aA rfl hrow) ?_;refine aa ?_
    have nx:∀(s':qY) (h':ai) (ρ':Env),Sub [(0,.pointer (some ⟨tb,0,none⟩)),(10,.slice oa' l'.length c'),(11,.int .i64 (l'.length:Nat)),(12,.int .i64 (j:Nat))] ρ'->s'=eF s x->az h' tb 113 (qB t.rows t.cols g n t.row t.col a u s' t.waits bl)->Ext (fun b=>b=tb) g2 h'->G Tryz.prog 143 Tryz.f143 [.blk 1,.code [1,1,1,0,0,1,1],.loop [0,0,1,1],.blk 0] ρ' h' (aN fun _ h'=>kF h' tb g n { t with sy:=l'.foldl eF t.sy } a u/\Ext (fun b=>b=tb\/h.size<=b) h h'):=by
     rintro s' g3 ρ' hsub hs' k3 x3;refine G.sub (ρ':=[(0,.pointer (some ⟨tb,0,none⟩)),(10,.slice oa' l'.length c'),(11,.int .i64 (l'.length:Nat)),(12,.int .i64 (j:Nat))]) hsub ?_;refine aa ?_;exact ih (j+1) ⟨hjl,by rw[htk,<-hs'];exact k3,x1.trans x3⟩
    unfold eF at nx;refine aQ (fun q0=>?_) (fun q0=>?_)
    · rw[if_pos q0] at nx;refine aa ?_;refine xp rfl (au (H.qu ) rfl) ?_;refine aa ?_;refine aY rfl (bM rfl rfl kb1) ?_;rintro _ g3 ⟨rfl,k3,x3,z3⟩;refine bJ ?_;refine aI ?_;have k3:az g3 tb 113 (qB t.rows t.cols g n t.row t.col a u pP t.waits bl):=k3;exact nx pP _ _ (by exact sb rfl) rfl k3 x3
    · rw[if_neg q0] at nx;refine aa ?_;refine aQ (fun q1=>?_) (fun q1=>?_)
      · rw[if_pos (.inl q1)] at nx;refine aa ?_;refine fH rfl (by simp[q1]) ?_;refine aa ?_;refine aY rfl (b7 rfl rfl kb1) ?_;rintro _ g3 ⟨rfl,k3,x3,z3⟩;refine bJ ?_;refine aI ?_;have k3:az g3 tb 113 (qB t.rows t.cols g n t.row t.col a u (s.1,decide (x=1),s.2.2.1,s.2.2.2) t.waits bl):=k3;exact nx (s.1,decide (x=1),s.2.2.1,s.2.2.2) _ _ (by exact sb rfl) rfl k3 x3
      · refine aa ?_;refine aQ (fun q2=>?_) (fun q2=>?_)
        · rw[if_pos (.inr q2)] at nx;refine aa ?_;refine aY rfl (b7 rfl rfl kb1) ?_;rintro _ g3 ⟨rfl,k3,x3,z3⟩;refine bJ ?_;refine aI ?_;have k3:az g3 tb 113 (qB t.rows t.cols g n t.row t.col a u (s.1,decide (x=1),s.2.2.1,s.2.2.2) t.waits bl):=k3;exact nx (s.1,decide (x=1),s.2.2.1,s.2.2.2) _ _ (by exact sb rfl) rfl k3 x3
        · rw[if_neg (fun q=>q.elim q1 q2)] at nx;refine aa ?_;refine aQ (fun q3=>?_) (fun q3=>?_)
          · rw[if_pos (.inl q3)] at nx;refine aa ?_;refine fH rfl (by simp[q3]) ?_;refine aa ?_;refine aY rfl (b7 rfl rfl kb1) ?_;rintro _ g3 ⟨rfl,k3,x3,z3⟩;refine bJ ?_;refine aI ?_;have k3:az g3 tb 113 (qB t.rows t.cols g n t.row t.col a u (s.1,s.2.1,decide (x=4),s.2.2.2) t.waits bl):=k3;exact nx (s.1,s.2.1,decide (x=4),s.2.2.2) _ _ (by exact sb rfl) rfl k3 x3
          · refine aa ?_;refine aQ (fun q4=>?_) (fun q4=>?_)
            · rw[if_pos (.inr q4)] at nx;refine aa ?_;refine aY rfl (b7 rfl rfl kb1) ?_;rintro _ g3 ⟨rfl,k3,x3,z3⟩;refine bJ ?_;refine aI ?_;have k3:az g3 tb 113 (qB t.rows t.cols g n t.row t.col a u (s.1,s.2.1,decide (x=4),s.2.2.2) t.waits bl):=k3;exact nx (s.1,s.2.1,decide (x=4),s.2.2.2) _ _ (by exact sb rfl) rfl k3 x3
            · rw[if_neg (fun q=>q.elim q3 q4)] at nx;refine aa ?_;refine aQ (fun q5=>?_) (fun q5=>?_)
              · rw[if_pos (.inl q5)] at nx;refine aa ?_;refine fH rfl (by simp[q5]) ?_;refine aa ?_;refine aY rfl (b7 rfl rfl kb1) ?_;rintro _ g3 ⟨rfl,k3,x3,z3⟩;refine bJ ?_;refine aI ?_;have k3:az g3 tb 113 (qB t.rows t.cols g n t.row t.col a u (s.1,s.2.1,s.2.2.1,decide (x=7)) t.waits bl):=k3;exact nx (s.1,s.2.1,s.2.2.1,decide (x=7)) _ _ (by exact sb rfl) rfl k3 x3
              · refine aa ?_;refine aQ (fun q6=>?_) (fun q6=>?_)
                · rw[if_pos (.inr q6)] at nx;refine aa ?_;refine aY rfl (b7 rfl rfl kb1) ?_;rintro _ g3 ⟨rfl,k3,x3,z3⟩;refine bJ ?_;refine aI ?_;have k3:az g3 tb 113 (qB t.rows t.cols g n t.row t.col a u (s.1,s.2.1,s.2.2.1,decide (x=7)) t.waits bl):=k3;exact nx (s.1,s.2.1,s.2.2.1,decide (x=7)) _ _ (by exact sb rfl) rfl k3 x3
                · rw[if_neg (fun q=>q.elim q5 q6)] at nx;refine aI ?_;refine dM [(56,.bool (decide (30<=x/\x<=37)))] rfl ?_ ?_
                  · refine aa ?_;refine dx 59 (fun g1=>?_) (fun g1=>?_)
                    · have g1:=of_decide_eq_true g1;refine aa ?_;exact aL rfl ⟨ak rfl (by rw[decide_eq_decide];omega),sb rfl⟩
                    · have g1:=of_decide_eq_false g1;refine aa ?_;exact aL rfl ⟨ak rfl (by rw[decide_eq_false];omega),sb rfl⟩
                  · refine aQ (fun q7=>?_) (fun q7=>?_)
                    · rw[if_pos q7] at nx;refine aa ?_;refine aY rfl (b7 rfl rfl kb1) ?_;rintro _ g3 ⟨rfl,k3,x3,z3⟩;refine bJ ?_;refine aI ?_;have k3:az g3 tb 113 (qB t.rows t.cols g n t.row t.col a u (x-29,s.2.1,s.2.2.1,s.2.2.2) t.waits bl):=k3;exact nx (x-29,s.2.1,s.2.2.1,s.2.2.2) _ _ (by exact sb rfl) rfl k3 x3
                    · rw[if_neg q7] at nx;refine aa ?_;refine aQ (fun q8=>?_) (fun q8=>?_)
                      · rw[if_pos q8] at nx;refine aa ?_;refine aY rfl (b7 rfl rfl kb1) ?_;rintro _ g3 ⟨rfl,k3,x3,z3⟩;refine bJ ?_;refine aI ?_;have k3:az g3 tb 113 (qB t.rows t.cols g n t.row t.col a u (0,s.2.1,s.2.2.1,s.2.2.2) t.waits bl):=k3;exact nx (0,s.2.1,s.2.2.1,s.2.2.2) _ _ (by exact sb rfl) rfl k3 x3
                      · rw[if_neg q8] at nx
                        iterate 2 refine aI ?_
                        exact nx s _ _ (by exact sb rfl) rfl kb1 (av _ _)
  · obtain rfl:j=l'.length:=by omega
    rw[List.take_length] at kb1;refine aa ?_;refine gE ?_;have x0:Ext (fun b=>b=tb\/h.size<=b) h g2:=(e1.mono fun _ _ q=>q.elim).trans (x1.mono fun _ _ q=>.inl q);exact⟨_,rfl,⟨⟨bl,kb1⟩,k1.s.ext x1 (fun q=>hne q.symm),k.n,hne⟩,x0⟩
 refine aQ (fun q0=>?_) (fun q0=>?_)
 · obtain rfl:l=[]:=List.length_eq_zero_iff.1 (by omega);refine aa ?_;refine xo rfl (kI [_]) ?_;rintro _ h4 ⟨rfl,hh4⟩;refine aU ?_;refine bJ ?_;have e4:ah h h4:=by rw[hh4];exact Ext.push _ _ _
   have hs4:aR Bc h4 (fun b=>b=tb) (.slice (some ⟨h.size,0,none⟩) 1 1) [0]:=by
    refine⟨_,1,1,rfl,rfl,Nat.le_refl _,by decide,fun i x hx=>?_⟩
    match i,hx with
    | 0,hx =>
     cases hx;refine⟨h.size,0,[.int .i64 0],rfl,by omega,fun j v hv=>?_,rfl⟩
     match j,hv with
     | 0,hv=>cases hv;rw[hh4];exact(cl _ _ _).cell rfl
   exact fin [0] _ _ _ (by exact sb rfl) hs4 (by decide) rfl e4
 · refine aI ?_;exact fin l _ _ _ (by exact sb rfl) hv hl (by rw[if_neg (by rintro rfl;exact q0 rfl)]) (av _ _)
end
def kW (t:TM) (l:List Int) (f:Int):TM :=
 if f=65 then { t with row:=fy (t.row+ -max (l.getD 0 0) 1) t.rows,waits:=false }
 else if f=66 then { t with row:=fy (t.row+max (l.getD 0 0) 1) t.rows,waits:=false }
 else if f=68 then { t with col:=fy (t.col+ -max (l.getD 0 0) 1) t.cols,waits:=false }
 else if f=67 then { t with col:=fy (t.col+max (l.getD 0 0) 1) t.cols,waits:=false }
 else if f=72 then { t with row:=fy (l.getD 0 0-1) t.rows,col:=fy (l.getD 1 0-1) t.cols,waits:=false }
 else if f=75 then { eO t (l.getD 0 0) (t.row*t.cols) (t.row*t.cols+t.cols) with waits:=false }
 else if f=74 then { eO t (l.getD 0 0) 0 t.xs.length with waits:=false }
 else if f=109 then { t with sy:=if l=[] then pP else l.foldl eF t.sy }
 else t
abbrev Ac:=Int×Int×List Int×Int
def ji (t:TM) (a:Ac):TM:=if a.1=1 then nO t (JW a.2.1) else if a.1=2 then Fc t a.2.1 else if a.1=3 then kW t a.2.2.1 a.2.2.2 else t
section
variable {h0 h h':ai}{tb g n:Nat}{t:TM}{a:Nat}{u:By}
theorem zK (hW:jH h0) (e0:ah h0 h) (hg:h0.size<=g) (hb:h0.size<=tb) (ok:dw t) (k:kF h tb g n t a u) (hv:aR Bc h (fun b=>b=tb) v l) (hl:l.length<=1000) (hr:∀x∈l,0<=x/\x<=9999) (kk rr f:Int) :
 aj Tryz.prog 87 #[.pointer (some ⟨tb,0,none⟩),.agg (jo kk rr v f).toArray] h (aN fun _ h'=>kF h' tb g n (kW t l f) a u/\Ext (fun b=>b=tb\/b=g) h h'):=by
 obtain⟨va,vn,vc,rfl,hps⟩:=id hv.open;have hne:=k.ne
 have hget:∀i,0<=l.getD i 0/\l.getD i 0<=9999:=fun i=>by
  rw[List.getD_eq_getElem?_getD];cases hi:l[i]? with
  |none=>exact⟨by decide,by decide⟩
  |some x=>exact hr x (List.mem_of_getElem? hi)
 obtain⟨c0,c9⟩:=hget 0;have h8:=ok.cols;have h9:=ok.rows;have hrow:=ok.row;have hcol:=ok.col;obtain⟨p1,p2,p3⟩:=ok.at_;have hkn:=k.n;obtain⟨s1,s2,s3⟩:=ok.small k.n;have htl:tb<h.size:=let ⟨_,q⟩:=k.b;q.lt;refine bf ?_;refine aa ?_;refine xo rfl (cM) ?_;rintro _ h1 ⟨rfl,k3,e1,z1⟩;have k3:az h1 h.size 119 (jo kk rr (.slice va vn vc) f):=k3;refine aa ?_;refine xp rfl (bI rfl k3.row) ?_;refine xo rfl (aG rfl (nV (i:=0) (hv.af e1))) ?_;rintro _ h2 ⟨rfl,e2⟩;have k2:=(k.af e1).af e2;have k32:=k3.af e2;have hv2:=(hv.af e1).af e2;have z2:=e2.size;obtain⟨bl,kb2⟩:=k2.b;have hM:¬Array.size h2<=tb:=by omega
 have hM3:¬Array.size h2<=h.size:=by omega
 have e02:Ext (fun b=>b=tb\/b=g) h h2:=(e1.trans e2).mono fun _ _ q=>q.elim
 refine aa ?_;refine bP rfl (aA rfl (kb2.cell (i:=3) rfl)) ?_;refine aa ?_;refine xp rfl (aA rfl (k32.cell (i:=3) rfl)) ?_;refine aa ?_;generalize hc:l.getD 0 0=c at *;rw[show (if c<1 then (1:Int) else c)=max c 1 by split<;>omega];have hneg:IntKind.i64.wrap (0-max c 1)= -max c 1:=by rw[Go.Lw.wrap_i64 ⟨by omega,by omega⟩];omega
 have hm:(t.row:Int)*(t.cols:Int)=((t.row*t.cols:Nat):Int):=by push_cast;rfl
 have fin:∀(t':TM) (h':ai) (ρ':Env),Sub [(0,.pointer (some ⟨tb,0,none⟩))] ρ'->kF h' tb g n t' a u-> { t' with waits:=false } =kW t l f->Ext (fun b=>b=tb\/b=g) h h'->G Tryz.prog 87 f87 [.code [1,1,1,1,1]] ρ' h' (aN fun _ h'=>kF h' tb g n (kW t l f) a u/\Ext (fun b=>b=tb\/b=g) h h'):=by
  rintro t' g4 ρ' hsub k4 hs x4;refine G.sub (ρ':=[(0,.pointer (some ⟨tb,0,none⟩))]) hsub ?_;obtain⟨bl4,kb4⟩:=k4.b;refine aa ?_;refine aY rfl (b7 rfl rfl kb4) ?_;rintro _ g5 ⟨rfl,k5,x5,z5⟩;refine aa ?_;refine gE ?_;rw[<-hs];exact⟨_,rfl,⟨⟨bl4,k5⟩,k4.s.ext x5 (fun q=>hne q.symm),k4.n,hne⟩,x4.trans (x5.mono fun _ _ q=>.inl q)⟩
 refine aQ (fun q1=>?_) (fun q1=>?_)
 · refine aa ?_;refine xp rfl (Ef rfl) ?_;refine aa ?_;refine ic 18 14 ?_;refine ax 0 ?_;refine ax 1 ?_;refine ax 2 ?_;refine ax 3 ?_;refine ax 4 ?_;refine aS 5 rfl (fun h' e=>aA rfl (e.cell hM (kb2.cell (i:=4) rfl))) ?_
   try rw[hneg]
   refine ax 6 ?_;refine ax 7 ?_;refine ax 8 ?_;refine ax 9 ?_;refine ax 10 ?_;refine ax 11 ?_;refine aS 12 rfl (fun h' e=>aA rfl (e.cell hM (kb2.cell (i:=1) rfl))) ?_;refine ct 13 rfl (aG rfl (fA _ _ ⟨by omega,by omega⟩)) ?_;rintro _ h3 ⟨rfl,hh3⟩;refine⟨fun _=>by rw[hh3];exact av _ _,?_⟩;subst hh3;refine RD.bq 14 (listed':= #[true,true,true,true,true,true,true,true,true,true,true,true,true,true,true,false,false,false]) rfl (by kernel_rfl) (by kernel_rfl) (by kernel_rfl) rfl rfl rfl (fun _=>bh rfl) rfl ?_;refine RD.bq 15 (listed':= #[true,true,true,true,true,true,true,true,true,true,true,true,true,true,true,true,false,false]) rfl (by kernel_rfl) (by kernel_rfl) (by kernel_rfl) rfl rfl rfl (fun _=>aM (off:=1) underlying113 rfl rfl H.iC rfl) rfl ?_;refine ax 16 ?_;refine eK 17 rfl (b7 rfl rfl kb2) ?_;rintro _ g3 ⟨rfl,k3,x3,z3⟩;refine⟨nofun,?_⟩;refine dP ?_;refine aI ?_;exact fin { t with row:=fy (t.row+ -max c 1) t.rows } _ _ (by exact sb rfl) ⟨⟨bl,k3⟩,k2.s.ext x3 (fun q=>hne q.symm),k2.n,hne⟩ (by unfold kW;rw[if_pos q1,hc]) (e02.trans (x3.mono fun _ _ q=>.inl q))
 · refine aa ?_;refine aQ (fun q2=>?_) (fun q2=>?_)
   · refine aa ?_;refine ic 18 14 ?_;refine ax 0 ?_;refine ax 1 ?_;refine ax 2 ?_;refine ax 3 ?_;refine ax 4 ?_;refine aS 5 rfl (fun h' e=>aA rfl (e.cell hM (kb2.cell (i:=4) rfl))) ?_
     try rw[hneg]
     refine ax 6 ?_;refine ax 7 ?_;refine ax 8 ?_;refine ax 9 ?_;refine ax 10 ?_;refine ax 11 ?_;refine aS 12 rfl (fun h' e=>aA rfl (e.cell hM (kb2.cell (i:=1) rfl))) ?_;refine ct 13 rfl (aG rfl (fA _ _ ⟨by omega,by omega⟩)) ?_;rintro _ h3 ⟨rfl,hh3⟩;refine⟨fun _=>by rw[hh3];exact av _ _,?_⟩;subst hh3;refine RD.bq 14 (listed':= #[true,true,true,true,true,true,true,true,true,true,true,true,true,true,true,false,false,false]) rfl (by kernel_rfl) (by kernel_rfl) (by kernel_rfl) rfl rfl rfl (fun _=>bh rfl) rfl ?_;refine RD.bq 15 (listed':= #[true,true,true,true,true,true,true,true,true,true,true,true,true,true,true,true,false,false]) rfl (by kernel_rfl) (by kernel_rfl) (by kernel_rfl) rfl rfl rfl (fun _=>aM (off:=1) underlying113 rfl rfl H.iC rfl) rfl ?_;refine ax 16 ?_;refine eK 17 rfl (b7 rfl rfl kb2) ?_;rintro _ g3 ⟨rfl,k3,x3,z3⟩;refine⟨nofun,?_⟩;refine dP ?_;refine aI ?_;exact fin { t with row:=fy (t.row+max c 1) t.rows } _ _ (by exact sb rfl) ⟨⟨bl,k3⟩,k2.s.ext x3 (fun q=>hne q.symm),k2.n,hne⟩ (by unfold kW;rw[if_neg q1,if_pos q2,hc]) (e02.trans (x3.mono fun _ _ q=>.inl q))
   · refine aa ?_;refine aQ (fun q3=>?_) (fun q3=>?_)
     · refine aa ?_;refine xp rfl (Ef rfl) ?_;refine aa ?_;refine ic 18 14 ?_;refine ax 0 ?_;refine ax 1 ?_;refine ax 2 ?_;refine ax 3 ?_;refine ax 4 ?_;refine aS 5 rfl (fun h' e=>aA rfl (e.cell hM (kb2.cell (i:=5) rfl))) ?_
       try rw[hneg]
       refine ax 6 ?_;refine ax 7 ?_;refine ax 8 ?_;refine ax 9 ?_;refine ax 10 ?_;refine ax 11 ?_;refine aS 12 rfl (fun h' e=>aA rfl (e.cell hM (kb2.cell (i:=2) rfl))) ?_;refine ct 13 rfl (aG rfl (fA _ _ ⟨by omega,by omega⟩)) ?_;rintro _ h3 ⟨rfl,hh3⟩;refine⟨fun _=>by rw[hh3];exact av _ _,?_⟩;subst hh3;refine RD.bq 14 (listed':= #[true,true,true,true,true,true,true,true,true,true,true,true,true,true,true,false,false,false]) rfl (by kernel_rfl) (by kernel_rfl) (by kernel_rfl) rfl rfl rfl (fun _=>bh rfl) rfl ?_;refine RD.bq 15 (listed':= #[true,true,true,true,true,true,true,true,true,true,true,true,true,true,true,true,false,false]) rfl (by kernel_rfl) (by kernel_rfl) (by kernel_rfl) rfl rfl rfl (fun _=>aM (off:=1) underlying113 rfl rfl H.iC rfl) rfl ?_;refine ax 16 ?_;refine eK 17 rfl (b7 rfl rfl kb2) ?_;rintro _ g3 ⟨rfl,k3,x3,z3⟩;refine⟨nofun,?_⟩;refine dP ?_;refine aI ?_;exact fin { t with col:=fy (t.col+ -max c 1) t.cols } _ _ (by exact sb rfl) ⟨⟨bl,k3⟩,k2.s.ext x3 (fun q=>hne q.symm),k2.n,hne⟩ (by unfold kW;rw[if_neg q1,if_neg q2,if_pos q3,hc]) (e02.trans (x3.mono fun _ _ q=>.inl q))
     · refine aa ?_;refine aQ (fun q4=>?_) (fun q4=>?_)
       · refine aa ?_;refine ic 18 14 ?_;refine ax 0 ?_;refine ax 1 ?_;refine ax 2 ?_;refine ax 3 ?_;refine ax 4 ?_;refine aS 5 rfl (fun h' e=>aA rfl (e.cell hM (kb2.cell (i:=5) rfl))) ?_
         try rw[hneg]
         refine ax 6 ?_;refine ax 7 ?_;refine ax 8 ?_;refine ax 9 ?_;refine ax 10 ?_;refine ax 11 ?_;refine aS 12 rfl (fun h' e=>aA rfl (e.cell hM (kb2.cell (i:=2) rfl))) ?_;refine ct 13 rfl (aG rfl (fA _ _ ⟨by omega,by omega⟩)) ?_;rintro _ h3 ⟨rfl,hh3⟩;refine⟨fun _=>by rw[hh3];exact av _ _,?_⟩;subst hh3;refine RD.bq 14 (listed':= #[true,true,true,true,true,true,true,true,true,true,true,true,true,true,true,false,false,false]) rfl (by kernel_rfl) (by kernel_rfl) (by kernel_rfl) rfl rfl rfl (fun _=>bh rfl) rfl ?_;refine RD.bq 15 (listed':= #[true,true,true,true,true,true,true,true,true,true,true,true,true,true,true,true,false,false]) rfl (by kernel_rfl) (by kernel_rfl) (by kernel_rfl) rfl rfl rfl (fun _=>aM (off:=1) underlying113 rfl rfl H.iC rfl) rfl ?_;refine ax 16 ?_;refine eK 17 rfl (b7 rfl rfl kb2) ?_;rintro _ g3 ⟨rfl,k3,x3,z3⟩;refine⟨nofun,?_⟩;refine dP ?_;refine aI ?_;exact fin { t with col:=fy (t.col+max c 1) t.cols } _ _ (by exact sb rfl) ⟨⟨bl,k3⟩,k2.s.ext x3 (fun q=>hne q.symm),k2.n,hne⟩ (by unfold kW;rw[if_neg q1,if_neg q2,if_neg q3,if_pos q4,hc]) (e02.trans (x3.mono fun _ _ q=>.inl q))
       · refine aa ?_;refine aQ (fun q5=>?_) (fun q5=>?_)
         · refine aa ?_;refine ic 27 19 ?_;refine ax 0 ?_;refine ax 2 ?_;refine ax 3 ?_;refine ax 4 ?_;refine ax 5 ?_;refine ax 6 ?_;refine ax 7 ?_;refine aS 8 rfl (fun h' e=>aA rfl (e.cell hM (kb2.cell (i:=1) rfl))) ?_;refine aS 10 rfl (fun h' e=>bI rfl (e.rowAt hM3 k32.row)) ?_;refine ax 13 ?_;refine ax 14 ?_;refine ax 15 ?_;refine ax 16 ?_;refine aS 17 rfl (fun h' e=>aA rfl (e.cell hM (kb2.cell (i:=2) rfl))) ?_;refine RD.bq 1 (listed':= #[true,true,true,true,true,true,true,true,true,false,true,false,false,true,true,true,true,true,false,false,false,false,false,false,false,false,false]) rfl (by kernel_rfl) (by kernel_rfl) (by kernel_rfl) rfl rfl rfl (fun _=>aD rfl) rfl ?_;refine ct 9 rfl (aG rfl (fA (c-1) t.rows ⟨by omega,by omega⟩)) ?_;rintro _ h3 ⟨rfl,hh3⟩;refine⟨fun _=>by rw[hh3];exact av _ _,?_⟩;subst hh3;have hpc:aj Tryz.prog 140 #[.agg (jo kk rr (.slice va vn vc) f).toArray,.int .i64 1] h3 (aN fun q h'=>q= .int .i64 (l.getD 1 0)/\ah h3 h'):=nV hv2 (i:=1);obtain⟨d0,d9⟩:=hget 1;generalize hd:l.getD 1 0=d at *;refine ct 11 rfl (aG rfl hpc) ?_;rintro _ h4 ⟨rfl,e4⟩;refine⟨fun _=>e4.of,?_⟩;refine RD.bq 12 (listed':= #[true,true,true,true,true,true,true,true,true,true,true,true,true,true,true,true,true,true,false,false,false,false,false,false,false,false,false]) rfl (by kernel_rfl) (by kernel_rfl) (by kernel_rfl) rfl rfl rfl (fun _=>an.pQ rfl rfl ⟨by omega,by omega⟩) rfl ?_;refine ct 18 rfl (aG rfl (fA (d-1) t.cols ⟨by omega,by omega⟩)) ?_;rintro _ h5 ⟨rfl,hh5⟩;refine⟨fun _=>by rw[hh5];exact av _ _,?_⟩;subst hh5;have k5:=k2.af e4;refine RD.bq 19 (listed':= #[true,true,true,true,true,true,true,true,true,true,true,true,true,true,true,true,true,true,true,true,false,false,false,false,false,false,false]) rfl (by kernel_rfl) (by kernel_rfl) (by kernel_rfl) rfl rfl rfl (fun _=>bh rfl) rfl ?_;refine RD.bq 20 (listed':= #[true,true,true,true,true,true,true,true,true,true,true,true,true,true,true,true,true,true,true,true,true,false,false,false,false,false,false]) rfl (by kernel_rfl) (by kernel_rfl) (by kernel_rfl) rfl rfl rfl (fun _=>aM (off:=1) underlying113 rfl rfl H.iC rfl) rfl ?_;refine ax 21 ?_;refine eK 22 rfl (b7 rfl rfl ((kb2.af e4))) ?_;rintro _ h6 ⟨rfl,k6,x6,z6⟩;refine⟨nofun,?_⟩;refine RD.bq 23 (listed':= #[true,true,true,true,true,true,true,true,true,true,true,true,true,true,true,true,true,true,true,true,true,true,true,true,false,false,false]) rfl (by kernel_rfl) (by kernel_rfl) (by kernel_rfl) rfl rfl rfl (fun _=>bh rfl) rfl ?_;refine RD.bq 24 (listed':= #[true,true,true,true,true,true,true,true,true,true,true,true,true,true,true,true,true,true,true,true,true,true,true,true,true,false,false]) rfl (by kernel_rfl) (by kernel_rfl) (by kernel_rfl) rfl rfl rfl (fun _=>aM (off:=1) underlying113 rfl rfl H.iC rfl) rfl ?_;refine ax 25 ?_;refine eK 26 rfl (b7 rfl rfl k6) ?_;rintro _ h7 ⟨rfl,k7,x7,z7⟩;refine⟨nofun,?_⟩;refine dP ?_;refine aI ?_;have k7:az h7 tb 113 (qB t.rows t.cols g n (fy (c-1) t.rows:Nat) (fy (d-1) t.cols:Nat) a u t.sy t.waits bl):=k7;have x57:=x6.trans x7;exact fin { t with row:=fy (c-1) t.rows,col:=fy (d-1) t.cols } _ _ (by exact sb rfl) ⟨⟨bl,k7⟩,k5.s.ext x57 (fun q=>hne q.symm),k5.n,hne⟩ (by unfold kW;rw[if_neg q1,if_neg q2,if_neg q3,if_neg q4,if_pos q5,hc,hd]) ((e02.trans (e4.mono fun _ _ q=>q.elim)).trans (x57.mono fun _ _ q=>.inl q))
         · refine aa ?_;refine aQ (fun q6=>?_) (fun q6=>?_)
           · refine aa ?_;refine bP rfl (aA rfl (kb2.cell (i:=4) rfl)) ?_;refine aa ?_;refine bP rfl (aA rfl (kb2.cell (i:=2) rfl)) ?_;refine bP rfl (an.dK rfl rfl (by rw[hm];omega)) ?_;rw[hm];refine aa ?_;refine xp rfl (aA rfl (kb2.cell (i:=2) rfl)) ?_;refine aU ?_;rw[show ((t.row*t.cols:Nat):Int)+(t.cols:Int)=((t.row*t.cols+t.cols:Nat):Int) by push_cast;rfl];refine aa ?_;refine xo rfl (aG rfl (mD hW (e0.trans (e1.trans e2)) hg hb ok k2 c (from_:=t.row*t.cols) (to_:=t.row*t.cols+t.cols) (by omega))) ?_;rintro _ g3 ⟨k4,x4⟩;refine bJ ?_;refine aI ?_;exact fin (eO t c (t.row*t.cols) (t.row*t.cols+t.cols)) _ _ (by exact sb rfl) k4 (by unfold kW;rw[if_neg q1,if_neg q2,if_neg q3,if_neg q4,if_neg q5,if_pos q6,hc]) (e02.trans x4)
           · refine aa ?_;refine aQ (fun q7=>?_) (fun q7=>?_)
             · refine aa ?_;refine xo rfl (aG rfl (mD hW (e0.trans (e1.trans e2)) hg hb ok k2 c (from_:=0) (to_:=n) (Nat.le_refl _))) ?_;rintro _ g3 ⟨k4,x4⟩;refine bJ ?_;refine aI ?_;exact fin (eO t c 0 n) _ _ (by exact sb rfl) k4 (by unfold kW;rw[if_neg q1,if_neg q2,if_neg q3,if_neg q4,if_neg q5,if_neg q6,if_pos q7,hc,hkn]) (e02.trans x4)
             · refine aa ?_;have hlast:kW t l f=if f=109 then { t with sy:=if l=[] then pP else l.foldl eF t.sy } else t:=by unfold kW;rw[if_neg q1,if_neg q2,if_neg q3,if_neg q4,if_neg q5,if_neg q6,if_neg q7]
               rw[hlast];refine aQ (fun q8=>?_) (fun q8=>?_)
               · rw[if_pos q8];refine aa ?_;refine xp rfl (aA rfl (k32.cell (i:=2) rfl)) ?_;refine xo rfl (aG rfl (wT k2 hv2 hl)) ?_;rintro _ g3 ⟨k4,x4⟩;refine aa ?_;refine aW ?_;exact⟨_,rfl,k4,e02.trans ⟨x4.size,fun b hb' hm=>x4.block b hb' (fun q=>q.elim (fun q=>hm (.inl q)) (fun q=>by omega))⟩⟩
               · rw[if_neg q8];refine aa ?_;refine aW ?_;exact⟨_,rfl,k2,e02⟩
theorem zT (hW:jH h0) (e0:ah h0 h) (hg:h0.size<=g) (hb:h0.size<=tb) (ok:dw t) (k:kF h tb g n t a u) (x:Ac) (hv:aR Bc h (fun b=>b=tb) v x.2.2.1) (hl:x.2.2.1.length<=1000) (hr:∀y∈x.2.2.1,0<=y/\y<=9999) :
 aj Tryz.prog 55 #[.pointer (some ⟨tb,0,none⟩),.agg (jo x.1 x.2.1 v x.2.2.2).toArray] h (aN fun _ h'=>kF h' tb g n (ji t x) a u/\Ext (fun b=>b=tb\/b=g) h h'):=by
 obtain⟨kk,r,l,f⟩:=x;obtain⟨va,vn,vc,rfl,hps⟩:=id hv.open;unfold ji;dsimp only at *;refine bf ?_;refine aa ?_;refine xo rfl (cM) ?_;rintro _ h1 ⟨rfl,k3,e1,z1⟩;have k3:az h1 h.size 119 (jo kk r (.slice va vn vc) f):=k3;have x1:Ext (fun b=>b=tb\/b=g) h h1:=e1.mono fun _ _ q=>q.elim
 refine aa ?_;refine xp rfl (aA rfl (k3.cell (i:=0) rfl)) ?_;refine aa ?_;refine aQ (fun q1=>?_) (fun q1=>?_)
 · rw[if_pos q1];refine aa ?_;refine xp rfl (aA rfl (k3.cell (i:=1) rfl)) ?_;refine xo rfl (aG rfl (Ez (hW.af (e0.trans e1)) r)) ?_;rintro _ h2 ⟨rfl,e2⟩;refine xo rfl (aG rfl (wO hW ((e0.trans e1).trans e2) hg hb ok ((k.af e1).af e2) (Cl r))) ?_;rintro _ h3 ⟨k4,x4⟩;refine aa ?_;refine gE ?_;exact⟨_,rfl,k4,(x1.trans (e2.mono fun _ _ q=>q.elim)).trans x4⟩
 · rw[if_neg q1];refine aa ?_;refine aQ (fun q2=>?_) (fun q2=>?_)
   · rw[if_pos q2];refine aa ?_;refine xp rfl (aA rfl (k3.cell (i:=1) rfl)) ?_;refine xo rfl (aG rfl (zS hW (e0.trans e1) hg hb ok (k.af e1) r)) ?_;rintro _ h3 ⟨k4,x4⟩;refine aa ?_;refine gE ?_;exact⟨_,rfl,k4,x1.trans x4⟩
   · rw[if_neg q2];refine aa ?_;refine aQ (fun q3=>?_) (fun q3=>?_)
     · rw[if_pos q3];refine aa ?_;refine xp rfl (bI rfl k3.row) ?_;refine xo rfl (aG rfl (zK hW (e0.trans e1) hg hb ok (k.af e1) (hv.af e1) hl hr kk r f)) ?_;rintro _ h3 ⟨k4,x4⟩;refine aa ?_;refine gE ?_;exact⟨_,rfl,k4,x1.trans x4⟩
     · rw[if_neg q3];refine aa ?_;refine gE ?_;exact⟨_,rfl,k.af e1,x1⟩
end
end
end Go.Proofs.YtckomlgchbkekaaGreatDoor
namespace Go.Proofs.YtckomlgchbkekaaGreatDoor
open Go Go.Lw
set_option maxRecDepth 20000
section
variable {r:Int}{a:Nat}
theorem As (t:TM) (r:Int):(nU t r).length=t.xs.length:=by
 unfold nU;dsimp only;split
 · rw[List.length_set,List.length_set,cw]
 · rw[List.length_set,cw]
theorem II {t:TM}(ok:dw t) (hr:cU r=1\/cU r=2) (hc:cU r=2->t.col+1<t.cols) (j:Nat) (hj:j<t.xs.length) :
 bX (nU t r) j=if j=t.row*t.cols+t.col then (r,cU r,t.sy) else if cU r=2/\j=t.row*t.cols+t.col+1 then (0,0,t.sy) else uN t.xs (t.row*t.cols+t.col) (t.row*t.cols+t.col+(cU r).toNat) j:=by
 obtain⟨p1,p2,p3⟩:=ok.at_
 have hk:t.row*t.cols+t.col+(cU r).toNat<=t.xs.length:=by
  have:=ok.col
  rcases hr with q|q
  · rw[q];show _+1<=_;omega
  · have:=hc q;rw[q];show _+2<=_;omega
 unfold nU;dsimp only;generalize hp:t.row*t.cols+t.col=p at *;have he:=iE ok.link p (cU r).toNat hk j hj
 rcases hr with q|q
 · rw[if_neg (by omega),eG,cw,he]
   by_cases h1:j=p
   · rw[if_pos ⟨h1.symm,p1⟩,if_pos h1]
   · rw[if_neg (fun q=>h1 q.1.symm),if_neg h1,if_neg (by omega)]
 · rw[if_pos q,eG,eG,List.length_set,cw,he];have h2:=hc q
   by_cases h1:j=p
   · rw[if_neg (by omega),if_pos ⟨h1.symm,p1⟩,if_pos h1]
   · rw[if_neg h1]
     by_cases h3:j=p+1
     · rw[if_pos ⟨h3.symm,by omega⟩,if_pos ⟨q,h3⟩]
     · rw[if_neg (fun z=>h3 z.1.symm),if_neg (fun z=>h1 z.1.symm),if_neg (fun z=>h3 z.2)]
theorem dw.put {t:TM}(ok:dw t) (hr:cU r=1\/cU r=2) (hc:cU r=2->t.col+1<t.cols):VF t.cols (nU t r):=by
 obtain⟨p1,p2,p3⟩:=ok.at_;have hat:=II ok hr hc
 have hk:t.row*t.cols+t.col+(cU r).toNat<=t.xs.length:=by
  have:=ok.col
  rcases hr with q|q
  · rw[q];show _+1<=_;omega
  · have:=hc q;rw[q];show _+2<=_;omega
 have h8:=ok.cols;generalize hp:t.row*t.cols+t.col=p at *;have hw:(cU r).toNat=1\/(cU r).toNat=2:=by rcases hr with q|q<;>rw[q];exact .inl rfl;exact .inr rfl
 have h1:=hat p p1;rw[if_pos rfl] at h1;refine ok.vf.over (As t r) (a:=p) (b:=p+(cU r).toNat) (by omega) (fun j hj hn=>?_) ok.link fun j ha hb=>?_
 · rw[hat j hj,if_neg (by omega),if_neg (by omega)]
 · by_cases hj:j=p
   · subst hj;constructor
     · rw[h1];exact ok.fg
     · rw[h1];exact .inr hr
     · rw[h1];exact fun _=>rfl
     · rw[h1];intro q;have q:cU r=2:=q;have h3:=hc q;refine⟨by rw[p2];exact h3,?_⟩;rw[hat (j+1) (by omega),if_neg (by omega),if_pos ⟨q,rfl⟩]
     · rw[h1];intro q;have q:cU r=0:=q;omega
   · have q:cU r=2:=by omega
     have h3:=hc q;obtain rfl:j=p+1:=by omega
     have h4:=hat (p+1) (by omega);rw[if_neg (by omega),if_pos ⟨q,rfl⟩] at h4;have h5:(p+1)%t.cols=t.col+1:=by rw[Nat.add_mod,p2,Nat.mod_eq_of_lt (show 1<t.cols by omega),Nat.mod_eq_of_lt h3]
     constructor
     · rw[h4];exact ok.fg
     · rw[h4];exact .inl rfl
     · rw[h4];exact fun q=>absurd rfl q
     · rw[h4];intro q;cases q
     · rw[h4,Nat.add_sub_cancel,h1];intro _;exact⟨by rw[h5];omega,q,rfl,rfl⟩
theorem dw.MJ {t:TM}(ok:dw t) (hr:cU r=1\/cU r=2):dw (nO t r):=by
 obtain⟨okw,w1,w2,w3,w4,w5⟩:=ok.wrap (cU r);unfold nO;dsimp only;generalize wrapM t (cU r)=t1 at *;rw[<-w1] at w4;have hv:=okw.put hr w4;have hl:=As t1 r;have h8:=okw.cols;split
 · exact⟨okw.rows,okw.cols,hl.trans okw.len,okw.row,by assumption,okw.fg,hv⟩
 · exact⟨okw.rows,okw.cols,hl.trans okw.len,okw.row,by show t1.cols-1<t1.cols;omega,okw.fg,hv⟩
theorem dw.Ql {t:TM}(ok:dw t) (r:Int):dw (Fc t r):=by
 have h8:=ok.cols;have hc:=ok.col;unfold Fc;split
 · exact ok
 · split
   · exact⟨ok.rows,ok.cols,ok.len,ok.row,by show 0<t.cols;omega,ok.fg,ok.vf⟩
   · split
     · exact⟨ok.rows,ok.cols,ok.len,ok.row,by show t.col-1<t.cols;omega,ok.fg,ok.vf⟩
     · split
       · have k:=ok.feed;exact⟨k.rows,k.cols,k.len,k.row,k.col,k.fg,k.vf⟩
       · exact ok
theorem Bk (n:Int){m:Nat}(h:1<=m):fy n m<m:=by unfold fy;omega
theorem dw.erase {t:TM}(ok:dw t){k:Nat}(hk:a+k<=t.xs.length):dw { t with xs:=fP t.xs a k }:=⟨ok.rows,ok.cols,(cw _ _ _).trans ok.len,ok.row,ok.col,ok.fg,ok.vf.fP ok.link hk⟩
theorem dw.erase' {t:TM}(ok:dw t){b:Nat}(hb:b<=t.xs.length):dw { t with xs:=fP t.xs a (b-a) }:=by
 by_cases h:a<=b
 · exact ok.erase (by omega)
 · rw[show b-a=0 by omega];exact ok
theorem dw.clear {t:TM}(ok:dw t) (how:Int){b:Nat}(hb:b<=t.xs.length):dw (eO t how a b):=by
 obtain⟨p1,p2,p3⟩:=ok.at_;unfold eO;split
 · exact ok.erase' hb
 · split
   · exact ok.erase' p1
   · split
     · exact ok.erase' hb
     · exact ok
theorem dw.PT {t:TM}(ok:dw t):dw { t with waits:=false }:=⟨ok.rows,ok.cols,ok.len,ok.row,ok.col,ok.fg,ok.vf⟩
theorem K0 (s:qY) (n:Int) (h:0<=s.1/\s.1<=8):0<=(eF s n).1/\(eF s n).1<=8:=by
 unfold eF
 repeat' split
 all_goals first|exact h|exact⟨by decide,by decide⟩|(dsimp only;omega)
theorem DN:∀(l:List Int) (s:qY),0<=s.1/\s.1<=8->0<=(l.foldl eF s).1/\(l.foldl eF s).1<=8
 | [],_,h=>h
 |x::l,s,h=>DN l (eF s x) (K0 s x h)
theorem dw.seq {t:TM}(ok:dw t) (l:List Int) (f:Int):dw (kW t l f):=by
 have h8:=ok.cols;have h9:=ok.rows;obtain⟨p1,p2,p3⟩:=ok.at_;have k1:=fun n=>Bk n (m:=t.rows) (by omega)
 have k2:=fun n=>Bk n (m:=t.cols) (by omega)
 unfold kW
 repeat' split
 · exact⟨ok.rows,ok.cols,ok.len,k1 _,ok.col,ok.fg,ok.vf⟩
 · exact⟨ok.rows,ok.cols,ok.len,k1 _,ok.col,ok.fg,ok.vf⟩
 · exact⟨ok.rows,ok.cols,ok.len,ok.row,k2 _,ok.fg,ok.vf⟩
 · exact⟨ok.rows,ok.cols,ok.len,ok.row,k2 _,ok.fg,ok.vf⟩
 · exact⟨ok.rows,ok.cols,ok.len,k1 _,k2 _,ok.fg,ok.vf⟩
 · exact(ok.clear _ p3).PT
 · exact(ok.clear _ (Nat.le_refl _)).PT
 · exact⟨ok.rows,ok.cols,ok.len,ok.row,ok.col,show (0:Int)<=0/\(0:Int)<=8 by decide,ok.vf⟩
 · exact⟨ok.rows,ok.cols,ok.len,ok.row,ok.col,DN _ _ ok.fg,ok.vf⟩
 · exact ok
theorem dw.act {t:TM}(ok:dw t) (x:Ac):dw (ji t x):=by
 unfold ji
 repeat' split
 · exact ok.MJ (Cl _)
 · exact ok.Ql _
 · exact ok.seq _ _
 · exact ok
end
end Go.Proofs.YtckomlgchbkekaaGreatDoor
