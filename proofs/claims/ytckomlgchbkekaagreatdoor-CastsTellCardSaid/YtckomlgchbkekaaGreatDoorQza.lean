/- What the proof of the statement leans on (part 27). -/
import Derived.Below
import Derived.Lib.TrimUEq
import Derived.Test.YtckomlgchbkekaaGreatDoorQz

namespace Go.Proofs.YtckomlgchbkekaaGreatDoor
open Go Go.Lw
set_option maxRecDepth 20000 set_option maxHeartbeats 4000000
def Kx (h:ai):Prop:=(∀c,c<256->cellAt h ⟨9,c,none⟩=some (.int .u8 (Lib.firstT c))) /\
 (∀i,i<16->cellAt h ⟨10,2*i,none⟩=some (.int .u8 (Lib.accLo i))/\cellAt h ⟨10,2*i+1,none⟩=some (.int .u8 (Lib.accHi i)))
structure BM (h:ai):Prop where
 sg:∃lim,lim<=h.size/\Sg h lim
 tens:kY h
 rules:kH h
 utf:Kx h
 most:∃m,cellAt h ⟨1,0,none⟩=some (.int .i64 m)
theorem BM.af {h h':ai}(k:BM h) (e:ah h h'):BM h':=by
 obtain⟨⟨lim,h1,h2⟩,h3,h4,h5,m,h6⟩:=k;have hz:=e.size;exact⟨⟨lim,by omega,h2.ext e (fun _ k=>k.elim)⟩,h3.af e,h4.af e,⟨fun c hc=>e.cell (fun k=>k) (h5.1 c hc),fun i hi=>⟨e.cell (fun k=>k) (h5.2 i hi).1,e.cell (fun k=>k) (h5.2 i hi).2⟩⟩,m,e.cell (fun k=>k) h6⟩
def jd (s:wH):List Value:=[.int .i64 s.1,.int .i64 s.2]
theorem qQ (s:wH):∀v∈jd s,v.oneCell'=true:=fun v hv=>by simp[jd] at hv;rcases hv with rfl|rfl<;>rfl
def iU (t:Tk):List Value:=[.int .i64 t.1,.int .i64 t.2.1,.int .i64 t.2.2]
theorem rC (t:Tk):∀v∈iU t,v.oneCell'=true:=fun v hv=>by simp[iU] at hv;rcases hv with rfl|rfl|rfl<;>rfl
end Go.Proofs.YtckomlgchbkekaaGreatDoor
namespace Go.Proofs.YtckomlgchbkekaaGreatDoor
open Go
def MC:Nat->By->wH->List wH
 | 0,_,st=>[st]
 |n+1,l,st=>if l=[] then [st] else st::MC n (l.drop (ET l st.1)) (KU l st)
def OS (s:By):List wH:=MC s.length s (0,0)
end Go.Proofs.YtckomlgchbkekaaGreatDoor
namespace Go.Proofs.YtckomlgchbkekaaGreatDoor
open Go.Proofs.Tryz
open Go Go.Lw
set_option maxRecDepth 20000 set_option maxHeartbeats 4000000
section
variable {h:ai}{r:Nat}
def Nj:fS wH:=.record 2 (by decide) jd (fun _=>rfl) qQ
def Il:fS Tk:=.record 3 (by decide) iU (fun _=>rfl) rC
theorem wrap_i32 {i:Int}(h : -2147483648<=i/\i<=2147483647):IntKind.i32.wrap i=i:=by
 have h1:(2:Int) ^ 32=4294967296:=by decide
 have h2:(2:Int) ^ 31=2147483648:=by decide
 simp only[IntKind.wrap,IntKind.bits,IntKind.signed,Bool.true_and,decide_eq_true_eq,Nat.reduceSub,h1,h2];split<;>omega
theorem GS (c:UInt8):(bC c.toNat).1<=4/\(bC c.toNat).2<128/\(1<(bC c.toNat).1->(bC c.toNat).2<32)/\(2<(bC c.toNat).1->(bC c.toNat).2<16)/\(3<(bC c.toNat).1->(bC c.toNat).2<8):=by
 have hc:=c.toNat_lt;unfold bC
 repeat' split
 all_goals simp only
 all_goals omega
theorem Bt (c:UInt8):aj Tryz.prog 146 #[.int .u8 (c.toNat:Nat)] h (aN fun r h'=>r= .tuple #[.int .i64 (bC c.toNat).1,.int .i32 (bC c.toNat).2]/\h'=h):=by
 have hc:=c.toNat_lt;generalize c.toNat=n at *;unfold bC;refine bf ?_;refine aa ?_;refine aQ (fun h0=>?_) (fun h0=>?_)
 · refine aI ?_;refine bU ?_;refine aU ?_;refine xp rfl (ur rfl (wrap_i32 (i:=(n:Int)) (by omega))) ?_;refine aa ?_;refine aW ?_;exact⟨_,rfl,by rw[if_pos (by omega)];rfl,rfl⟩
 · rw[if_neg (show ¬n<128 by omega)];refine aI ?_;refine dM [(9,.bool (decide (192<=n/\n<224)))] rfl ?_ ?_
   · refine aa ?_;refine dx 12 (fun c1=>?_) (fun c1=>?_)
     · have c1':=of_decide_eq_true c1;refine aa ?_;exact aL rfl ⟨ak rfl (by rw[decide_eq_decide];omega),sb rfl⟩
     · have c1':=of_decide_eq_false c1;refine aa ?_;exact aL rfl ⟨ak rfl (by rw[decide_eq_false];omega),sb rfl⟩
   · refine aQ (fun h1=>?_) (fun h1=>?_)
     · rw[if_pos h1];refine aI ?_;refine bU ?_;refine aU ?_;refine xp rfl (an.sub rfl rfl) ?_;refine xp rfl (ur rfl (wrap_i32  (by rw[wrap_u8 (by omega)];omega))) ?_;refine aa ?_;refine aW ?_;exact⟨_,rfl,by rw[show IntKind.u8.wrap ((n:Int)-192)=((n-192:Nat):Int) by rw[wrap_u8 (by omega)];omega];rfl,rfl⟩
     · rw[if_neg h1];refine aI ?_;refine dM [(19,.bool (decide (224<=n/\n<240)))] rfl ?_ ?_
       · refine aa ?_;refine dx 22 (fun c1=>?_) (fun c1=>?_)
         · have c1':=of_decide_eq_true c1;refine aa ?_;exact aL rfl ⟨ak rfl (by rw[decide_eq_decide];omega),sb rfl⟩
         · have c1':=of_decide_eq_false c1;refine aa ?_;exact aL rfl ⟨ak rfl (by rw[decide_eq_false];omega),sb rfl⟩
       · refine aQ (fun h2=>?_) (fun h2=>?_)
         · rw[if_pos h2];refine aI ?_;refine bU ?_;refine aU ?_;refine xp rfl (an.sub rfl rfl) ?_;refine xp rfl (ur rfl (wrap_i32  (by rw[wrap_u8 (by omega)];omega))) ?_;refine aa ?_;refine aW ?_;exact⟨_,rfl,by rw[show IntKind.u8.wrap ((n:Int)-224)=((n-224:Nat):Int) by rw[wrap_u8 (by omega)];omega];rfl,rfl⟩
         · rw[if_neg h2];refine aI ?_;refine dM [(29,.bool (decide (240<=n/\n<248)))] rfl ?_ ?_
           · refine aa ?_;refine dx 32 (fun c1=>?_) (fun c1=>?_)
             · have c1':=of_decide_eq_true c1;refine aa ?_;exact aL rfl ⟨ak rfl (by rw[decide_eq_decide];omega),sb rfl⟩
             · have c1':=of_decide_eq_false c1;refine aa ?_;exact aL rfl ⟨ak rfl (by rw[decide_eq_false];omega),sb rfl⟩
           · refine aQ (fun h3=>?_) (fun h3=>?_)
             · rw[if_pos h3];refine aI ?_;refine bU ?_;refine aU ?_;refine xp rfl (an.sub rfl rfl) ?_;refine xp rfl (ur rfl (wrap_i32  (by rw[wrap_u8 (by omega)];omega))) ?_;refine aa ?_;refine aW ?_;exact⟨_,rfl,by rw[show IntKind.u8.wrap ((n:Int)-240)=((n-240:Nat):Int) by rw[wrap_u8 (by omega)];omega];rfl,rfl⟩
             · rw[if_neg h3];refine aa ?_;refine aW ?_;exact⟨_,rfl,rfl,rfl⟩
theorem l9 {n:Nat}(h:n<256):((UInt8.ofNat n).toNat:Int)=n:=by rw[UInt8.toNat_ofNat'];omega
theorem zR (r q:Nat):(r:Int).tdiv (q:Int)=((r / q:Nat):Int):=by
 rw[Int.tdiv_eq_ediv_of_nonneg (by omega)];exact(Int.natCast_ediv r q).symm
theorem CO (hr:r<2147483648) (B Q:Int) (b q:Nat) (hB:B=b) (hQ:Q=q) (hlt:b+r / q<256):IntKind.u8.wrap (B+IntKind.u8.wrap (IntKind.i32.wrap ((r:Int).tdiv Q)))=((UInt8.ofNat (b+r / q)).toNat:Int):=by
 subst hB hQ;have:=Nat.div_le_self r q;rw[l9 hlt,zR];generalize r / q=x at *;rw[wrap_i32 (by omega),wrap_u8 (i:=(x:Int)) (by omega),wrap_u8 (by omega)];omega
theorem Hr (hr:r<2147483648) (Q:Int) (q:Nat) (hQ:Q=q):IntKind.u8.wrap (128+IntKind.u8.wrap (Int.tmod (IntKind.i32.wrap ((r:Int).tdiv Q)) 64))=((UInt8.ofNat (128+r / q%64)).toNat:Int):=by
 subst hQ;have:=Nat.div_le_self r q;rw[l9 (by omega),zR];generalize r / q=x at *;rw[wrap_i32 (by omega),Int.tmod_eq_emod_of_nonneg (by omega),wrap_u8 (i:=(x:Int)%64) (by omega),wrap_u8 (by omega)];omega
theorem CP:IntKind.u8.wrap (128+IntKind.u8.wrap (Int.tmod (r:Int) 64))=((UInt8.ofNat (128+r%64)).toNat:Int):=by
 rw[l9 (by omega),Int.tmod_eq_emod_of_nonneg (by omega),wrap_u8 (i:=(r:Int)%64) (by omega),wrap_u8 (by omega)];omega
theorem Ni (hr:r<256):IntKind.u8.wrap (r:Int)=((UInt8.ofNat r).toNat:Int):=by
 rw[l9 hr,wrap_u8 (by omega)]
theorem kD (h:ai) (t:TypeId) (xs:By) (n:Nat) (hn:xs.length=n) (hm:n<=maxLen){us:List Value}(hu:us=xs.map fun b=>Value.int .u8 b.toNat):aR .byte (h.push (.cells us.toArray t)) (fun _=>False) (.slice (some ⟨h.size,0,none⟩) n n) xs :=
 bF.read (h1:=fun _=>rfl) (jD (fun b:UInt8=>Value.int .u8 b.toNat) h t xs n hn hm 0 (Nat.zero_le _) hu) (fun _ _ k=>k)
theorem vQ (r:Nat) (hr:r<2147483648):aj Tryz.prog 147 #[.int .i32 (r:Nat)] h (aN fun v h'=>v= .string (bs (fj r))/\ah h h'):=by
 unfold fj;refine bf ?_;refine aI ?_;refine bU ?_;refine aU ?_;refine bJ ?_
 iterate 2 refine aI ?_
 refine dM [(16,.bool (decide (1114111<r\/(55296<=r/\r<=57343))))] rfl ?_ ?_
 · refine aa ?_;refine RW.aO (d:=5) (b':=false) rfl (by simp) ?_;refine aa ?_;refine dx 9 (fun c2=>?_) (fun c2=>?_)
   · have c2':=of_decide_eq_true c2;refine aa ?_;exact aL rfl ⟨ak rfl (by rw[decide_eq_true];omega),sb rfl⟩
   · have c2':=of_decide_eq_false c2;refine aa ?_;refine dx 12 (fun c3=>?_) (fun c3=>?_)
     · have c3':=of_decide_eq_true c3;refine aa ?_;exact aL rfl ⟨ak rfl (by rw[decide_eq_decide];omega),sb rfl⟩
     · have c3':=of_decide_eq_false c3;refine aa ?_;exact aL rfl ⟨ak rfl (by rw[decide_eq_false];omega),sb rfl⟩
 · refine aQ (fun c1=>?_) (fun c1=>?_)
   · rw[if_pos c1];refine aa ?_;refine aW ?_;exact⟨_,rfl,rfl,av _ _⟩
   · rw[if_neg c1];refine aa ?_;refine aQ (fun c2=>?_) (fun c2=>?_)
     · rw[if_pos (show r<128 by omega)];refine aa ?_;refine xo rfl (kI [_]) ?_;rintro _ _ ⟨rfl,rfl⟩;refine xp rfl (Ie rfl (kD h 5 [UInt8.ofNat r] 1 rfl (by decide) (by rw[Ni (show r<256 by omega)];rfl))) ?_;refine aa ?_;refine aW ?_;exact⟨_,rfl,rfl,Ext.push _ _ _⟩
     · rw[if_neg (show ¬r<128 by omega)];refine aa ?_;refine aQ (fun c3=>?_) (fun c3=>?_)
       · rw[if_pos (show r<2048 by omega)];refine aI ?_;refine bU ?_;refine aU ?_;refine xp rfl (dh rfl rfl (by decide)) ?_;refine aU ?_;refine xp rfl (an.add rfl rfl) ?_;refine aU ?_;refine xp rfl (cI rfl rfl (by decide)) ?_;refine aU ?_;refine xp rfl (an.add rfl rfl) ?_;refine xo rfl (kI [_,_]) ?_;rintro _ _ ⟨rfl,rfl⟩;refine xp rfl (Ie rfl (kD h 5 [UInt8.ofNat (192+r / 64),UInt8.ofNat (128+r%64)] 2 rfl (by decide) (by rw[CO hr 192 64 192 64 rfl rfl (by omega),CP];rfl))) ?_;refine aa ?_;refine aW ?_;exact⟨_,rfl,rfl,Ext.push _ _ _⟩
       · rw[if_neg (show ¬r<2048 by omega)];refine aa ?_;refine aQ (fun c4=>?_) (fun c4=>?_)
         · rw[if_pos (show r<65536 by omega)];refine aI ?_;refine bU ?_;refine aU ?_;refine xp rfl (dh rfl rfl (by decide)) ?_;refine aU ?_;refine xp rfl (an.add rfl rfl) ?_;refine aU ?_;refine xp rfl (dh rfl rfl (by decide)) ?_;refine xp rfl (cI rfl rfl (by decide)) ?_;refine aU ?_;refine xp rfl (an.add rfl rfl) ?_;refine aU ?_;refine xp rfl (cI rfl rfl (by decide)) ?_;refine aU ?_;refine xp rfl (an.add rfl rfl) ?_;refine xo rfl (kI [_,_,_]) ?_;rintro _ _ ⟨rfl,rfl⟩;refine xp rfl (Ie rfl (kD h 5 [UInt8.ofNat (224+r / 4096),UInt8.ofNat (128+r / 64%64),UInt8.ofNat (128+r%64)] 3 rfl (by decide) (by rw[CO hr 224 4096 224 4096 rfl rfl (by omega),Hr hr 64 64 rfl,CP];rfl))) ?_;refine aa ?_;refine aW ?_;exact⟨_,rfl,rfl,Ext.push _ _ _⟩
         · rw[if_neg (show ¬r<65536 by omega)]
           iterate 2 refine aI ?_
           refine bU ?_;refine aU ?_;refine xp rfl (dh rfl rfl (by decide)) ?_;refine aU ?_;refine xp rfl (an.add rfl rfl) ?_;refine aU ?_;refine xp rfl (dh rfl rfl (by decide)) ?_;refine xp rfl (cI rfl rfl (by decide)) ?_;refine aU ?_;refine xp rfl (an.add rfl rfl) ?_;refine aU ?_;refine xp rfl (dh rfl rfl (by decide)) ?_;refine xp rfl (cI rfl rfl (by decide)) ?_;refine aU ?_;refine xp rfl (an.add rfl rfl) ?_;refine aU ?_;refine xp rfl (cI rfl rfl (by decide)) ?_;refine aU ?_;refine xp rfl (an.add rfl rfl) ?_;refine xo rfl (kI [_,_,_,_]) ?_;rintro _ _ ⟨rfl,rfl⟩;refine xp rfl (Ie rfl (kD h 5 [UInt8.ofNat (240+r / 262144),UInt8.ofNat (128+r / 4096%64),UInt8.ofNat (128+r / 64%64),UInt8.ofNat (128+r%64)] 4 rfl (by decide) (by rw[CO hr 240 262144 240 262144 rfl rfl (by omega),Hr hr 4096 4096 rfl,Hr hr 64 64 rfl,CP];rfl))) ?_;refine aa ?_;refine aW ?_;exact⟨_,rfl,rfl,Ext.push _ _ _⟩
theorem AH:∀(l:By) (r:Nat),eM r l<(r+1)*64 ^ l.length
 | [],r=>by simp[eM]
 |b::l,r=>by
  have ih:=AH l (r*64+b.toNat%64);have e:eM r (b::l)=eM (r*64+b.toNat%64) l:=rfl;rw[e,List.length_cons,Nat.pow_succ];have h1:(r*64+b.toNat%64+1)*64 ^ l.length<=((r+1)*64)*64 ^ l.length:=Nat.mul_le_mul_right _ (by omega);have h2:((r+1)*64)*64 ^ l.length=(r+1)*(64 ^ l.length*64):=by rw[Nat.mul_assoc,Nat.mul_comm 64]
  omega
theorem NJ:∀n:Nat,n<256->IntKind.u8.wrap ((BitVec.ofInt IntKind.u8.bits (n:Int) &&& BitVec.ofInt IntKind.u8.bits 63).toNat:Int)=((n%64:Nat):Int):=by decide +kernel
theorem KV (b:UInt8) (hr:r*64+63<2147483648):IntKind.i32.wrap (IntKind.i32.wrap ((r:Int)*64)+IntKind.i32.wrap (IntKind.u8.wrap ((BitVec.ofInt IntKind.u8.bits (b.toNat:Int) &&& BitVec.ofInt IntKind.u8.bits 63).toNat:Int)))=((r*64+b.toNat%64:Nat):Int):=by
 rw[NJ _ b.toNat_lt,wrap_i32 (i:=((b.toNat%64:Nat):Int)) (by omega),wrap_i32 (i:=(r:Int)*64) (by omega),wrap_i32 (by omega)];omega
theorem Cp (r:Nat) (l:By) (i:Nat) (b:UInt8) (h:l[i]? =some b):eM r (l.take (i+1))=eM r (l.take i)*64+b.toNat%64:=by
 unfold eM;rw[List.take_add_one,h,List.foldl_append];rfl
def LG (l:By):Bool:=decide (0<(bC (l.getD 0 0).toNat).1/\(bC (l.getD 0 0).toNat).1<=l.length/\fj (jt l)=l.take (bC (l.getD 0 0).toNat).1)
def MW (l:By):Nat:=if 0<(bC (l.getD 0 0).toNat).1/\(bC (l.getD 0 0).toNat).1<=l.length/\fj (jt l)=l.take (bC (l.getD 0 0).toNat).1 then jt l else 65533
theorem AD (s:By) (k:Nat) (hk:k<s.length) (hs:s.length<=1000000):aj Tryz.prog 93 #[.string (bs s),.int .i64 (k:Nat)] h (aN fun r h'=>r= .tuple #[.int .i32 (MW (s.drop k):Nat),.int .i64 (AE (s.drop k):Nat),.bool (LG (s.drop k))]/\ah h h'):=by
 have hbs:=aC s;obtain⟨c,hc⟩:∃c,s[k]? =some c:=⟨_,List.getElem?_eq_getElem hk⟩
 have hd0:(s.drop k).getD 0 0=c:=by rw[List.getD_eq_getElem?_getD,List.getElem?_drop,Nat.add_zero,hc];rfl
 have hll:=GS c;unfold MW LG AE jt;rw[hd0];refine bf ?_;refine aI ?_;refine bU ?_
 iterate 3 refine aU ?_
 refine bJ ?_
 iterate 2 refine aI ?_
 refine dM [(18,.bool false)] rfl ?_ ?_
 · refine aa ?_;refine RW.aO (d:=13) (b':=false) rfl (by simp) ?_;refine aa ?_;exact aL rfl ⟨ak rfl (by simp;omega),sb rfl⟩
 · refine bV rfl (by decide) ?_;refine aa ?_;refine xp rfl (oK rfl rfl k rfl (cQ hc)) ?_;refine xo rfl (aG rfl (Bt c)) ?_;rintro _ h1 ⟨rfl,hh1⟩;refine aa ?_;subst hh1;obtain⟨n,r0,hlead⟩:∃n r0,bC c.toNat=(n,r0):=⟨_,_,rfl⟩
   rw[hlead] at hll ⊢;simp only at hll ⊢;obtain⟨hn4,hr128,hr2,hr3,hr4⟩:=hll;generalize hrest:(s.drop k).drop 1=rest;have hrl:rest.length=s.length-k-1:=by rw[<-hrest,List.length_drop,List.length_drop]
   have hra:∀i b,rest[i]? =some b->s[k+(i+1)]? =some b:=fun i b hb=>by
    rw[<-hrest,List.getElem?_drop,List.getElem?_drop] at hb;rw[<-hb];congr 1;omega
   have hml:∀j,j+1<=n\/j=0->eM r0 (rest.take j)<2097152:=fun j hj=>by
    have h1:=AH (rest.take j) r0;have h2:(rest.take j).length<=j:=by rw[List.length_take];omega
    have h3:64 ^ (rest.take j).length<=64 ^ j:=Nat.pow_le_pow_right (by decide) h2;have h4:(r0+1)*64 ^ (rest.take j).length<=(r0+1)*64 ^ j:=Nat.mul_le_mul_left _ h3
    have h5:(r0+1)*64 ^ j<=2097152:=by
     have:j=0\/j=1\/j=2\/j=3:=by omega
     rcases this with rfl|rfl|rfl|rfl
     · omega
     · omega
     · omega
     · omega
    omega
   refine eR (σ:=Nat) (fun q=>[(8,.int .i32 (eM r0 (rest.take q):Nat)),(9,.int .i64 ((q+1:Nat):Int))]) (fun q h'=>h'=h1/\(q+1<=n\/q=0)/\q<=rest.length) (fun q=>10-q) (0) ⟨rfl,.inr rfl,Nat.zero_le _⟩ rfl ?_;rintro q g ⟨rfl,hq,hqr⟩ ih;have hmq:=hml q hq
   iterate 2 refine aI ?_
   refine dM [(36,.bool (decide (q+1<n/\q<rest.length)))] rfl ?_ ?_
   · refine aa ?_;refine dx 29 (fun c1=>?_) (fun c1=>?_)
     · have c1':=of_decide_eq_true c1;refine aa ?_;exact aL rfl ⟨ak rfl (by rw[decide_eq_decide];omega),sb rfl⟩
     · have c1':=of_decide_eq_false c1;refine aa ?_;exact aL rfl ⟨ak rfl (by rw[decide_eq_false];omega),sb rfl⟩
   · refine aQ (fun hlt=>?_) (fun hlt=>?_)
     · obtain⟨hlt1,hlt2⟩:=hlt;obtain⟨b,hb⟩:∃b,rest[q]? =some b:=⟨_,List.getElem?_eq_getElem hlt2⟩
       have hbl:=b.toNat_lt;have hmt:=Cp r0 rest q b hb;have hm1:=hml (q+1) (.inl (by omega));generalize eM r0 (rest.take q)=r at *;rw[hmt] at hm1;have hr64:r*64+63<2147483648:=by omega
       iterate 3 refine aI ?_
       refine bU ?_;refine aU ?_;refine xp rfl (Eg rfl rfl) ?_;refine aa ?_;refine xp rfl (oK rfl rfl (k+(q+1)) (by omega) (cQ (hra q b hb))) ?_;refine xp rfl (an.tS rfl rfl) ?_;refine aU ?_;refine xp rfl (an.add rfl rfl) ?_;refine aa ?_;rw[KV b hr64,<-hmt];exact ih (q+1) ⟨rfl,.inl (by omega),by omega⟩
     · refine aa ?_;refine xo rfl (aG rfl (vQ (eM r0 (rest.take q)) (by omega))) ?_;rintro _ h2 ⟨rfl,e2⟩;have hdl:(s.drop k).length=rest.length+1:=by rw[hrl,List.length_drop];omega
       have hcond:(0<n/\n<=(s.drop k).length/\fj (eM r0 (rest.take q))=(s.drop k).take n)↔(0<n/\n<=(s.drop k).length/\fj (eM r0 (rest.take (n-1)))=(s.drop k).take n):=by
        constructor
        · rintro⟨h1,h2,h3⟩;have:n-1=q:=by omega
          rw[this];exact⟨h1,h2,h3⟩
        · rintro⟨h1,h2,h3⟩;have:n-1=q:=by omega
          rw[this] at h3;exact⟨h1,h2,h3⟩
       have hxq:(0<n/\n<=(s.drop k).length/\fj (eM r0 (rest.take q))=(s.drop k).take n)->eM r0 (rest.take (n-1))=eM r0 (rest.take q):=fun h=>congrArg (fun z=>eM r0 (rest.take z)) (show n-1=q by omega)
       generalize eM r0 (rest.take q)=r at *;refine aU ?_;refine bJ ?_
       iterate 2 refine aI ?_
       refine dM [(70,.bool (decide (0<n/\n<=(s.drop k).length/\fj r=(s.drop k).take n)))] rfl ?_ ?_
       · refine aa ?_;refine dx 53 (fun c1=>?_) (fun c1=>?_)
         · have c1':(0:Int)<(n:Nat):=of_decide_eq_true c1;refine aa ?_;refine dx 61 (fun c2=>?_) (fun c2=>?_)
           · have c2':((n:Nat):Int)<=(s.length:Nat)-(k:Nat):=of_decide_eq_true (by simpa [hbs] using c2);refine aa ?_;refine xp rfl (an.nN underlying9 rfl rfl k rfl rfl (k+n) rfl (by omega) (by omega)) ?_;refine aa ?_;have hcut:(bs s).extract k (k+n)=bs ((s.drop k).take n):=by rw[qV s k (k+n) (by omega),List.drop_take,Nat.add_sub_cancel_left]
             rw[hcut];exact aL rfl ⟨ak rfl (by rw[decide_eq_decide];exact⟨fun h=>⟨by omega,by omega,jg h⟩,fun h=>by rw[h.2.2]⟩),sb rfl⟩
           · have c2':¬((n:Nat):Int)<=(s.length:Nat)-(k:Nat):=of_decide_eq_false (by simpa [hbs] using c2);refine aa ?_;exact aL rfl ⟨ak rfl (by rw[decide_eq_false];omega),sb rfl⟩
         · have c1':¬(0:Int)<(n:Nat):=of_decide_eq_false c1;refine aa ?_;exact aL rfl ⟨ak rfl (by rw[decide_eq_false];omega),sb rfl⟩
       · refine aQ (fun hz=>?_) (fun hz=>?_)
         · refine aa ?_;refine aW ?_;simp only[hxq hz,if_pos hz,decide_eq_true hz];exact⟨_,rfl,rfl,e2⟩
         · refine aa ?_;refine aW ?_;simp only[if_neg (fun h=>hz (hcond.2 h)),decide_eq_false (fun h=>hz (hcond.2 h))];exact⟨_,rfl,rfl,e2⟩
end
end Go.Proofs.YtckomlgchbkekaaGreatDoor
namespace Go.Proofs.YtckomlgchbkekaaGreatDoor
open Go
abbrev Pt:=Int×wH
def Au:List Tk->List wH->Int->List Pt
 |t::ts,s::ss,a=>if a+64<=t.2.1 then (t.2.1,s)::Au ts ss t.2.1 else Au ts ss a
 |_,_,_=>[]
def MD (s:By):List wH:=(OS s).dropLast
def OV (s:By):List Pt:=(0,(0,0))::Au (BB s).1 (MD s) 0
def Og (pts:List Pt) (a:Int) (p:Pt):Prop:=p∈pts/\(p.1<=a-3\/p=(0,(0,0)))/\∀q∈pts,q.1<=a-3->q.1<=p.1
end Go.Proofs.YtckomlgchbkekaaGreatDoor
namespace Go.Proofs.YtckomlgchbkekaaGreatDoor
open Go.Proofs.Tryz
open Go Go.Lw
set_option maxRecDepth 20000 set_option maxHeartbeats 4000000
section
variable {h:ai}
theorem G7 {a b:Nat}(hb:a+b<4611686018427387904):Int.fdiv ((a:Int)+(b:Int)) (2 ^ min ((1:Int).toNat) IntKind.u64.bits)=(((a+b) / 2:Nat):Int):=by
 have:(2:Int) ^ min ((1:Int).toNat) IntKind.u64.bits=2:=by decide
 rw[this,Int.fdiv_eq_ediv_of_nonneg _ (by decide)];omega
theorem ig {g:FuncId}{caps:List Value}(hf:Oh Tryz.prog g) (n:Nat) (hn:n<=1000000) (p:Nat->Bool) (hp:∀i:Nat,i<n->aj Tryz.prog g ([Value.int .i64 (i:Nat)]++caps).toArray h (aN fun r h'=>r= .bool (p i)/\h'=h)) :
 aj Tryz.prog 257 #[.int .i64 (n:Nat),.func (.func g) #[] caps.toArray] h (aN fun r h'=>(∃k:Nat,r= .int .i64 (k:Nat)/\k<=n/\(0<k->p (k-1)=false)/\(k<n->p k=true))/\h'=h):=by
 refine bf ?_;refine aa ?_;refine eR (σ:=Nat×Nat) (fun q=>[(5,.int .i64 (q.1:Nat)),(6,.int .i64 (q.2:Nat))]) (fun q h'=>h'=h/\q.1<=q.2/\q.2<=n/\(0<q.1->p (q.1-1)=false)/\(q.2<n->p q.2=true)) (fun q=>q.2-q.1) ((0,n)) ⟨rfl,Nat.zero_le _,Nat.le_refl _,fun k=>absurd k (Nat.lt_irrefl _),fun k=>absurd k (Nat.lt_irrefl _)⟩ rfl ?_;rintro⟨i,j⟩ w ⟨rfl,hij,hj,h1,h2⟩ ih
 try dsimp only
 dsimp only at hij hj h1 h2;refine aa ?_;refine aQ (fun hlt=>?_) (fun hlt=>?_)
 · have hlt':i<j:=by omega
   have hm:(i+j) / 2<n:=by omega
   iterate 3 refine aI ?_
   refine bU ?_
   iterate 3 refine aU ?_
   refine xp rfl (ur rfl (jr (by omega))) ?_;refine xp rfl (zq rfl rfl (by decide)) ?_;rw[G7 (by omega)];have hpm:=hp ((i+j) / 2) hm;generalize hmm:(i+j) / 2=m at *;refine xp rfl (ur rfl (wrap_i64 ⟨by omega,by omega⟩)) ?_;refine aa ?_;refine xo rfl (aH.Kr (vs:=[_]) rfl hf rfl (aj.jF (hpm))) ?_;rintro _ w1 ⟨rfl,hw1⟩;refine aa ?_;subst hw1;refine oL (fun hb=>?_) (fun hb=>?_)
   · have hb':p m=false:=by simpa using hb
     refine aa ?_;exact ih (m+1,j) ⟨rfl,by show m+1<=j;omega,hj,fun _=>by show p (m+1-1)=false;rw[Nat.add_sub_cancel];exact hb',h2⟩
   · have hb':p m=true:=by simpa using hb
     refine aa ?_;exact ih (i,m) ⟨rfl,by show i<=m;omega,by show m<=n;omega,h1,fun _=>hb'⟩
 · obtain rfl:i=j:=by omega
   refine aa ?_;refine aW ?_;exact⟨_,rfl,⟨i,rfl,hj,h1,h2⟩,rfl⟩
theorem yw {b1 b2:Nat}{v:Value}{O:Nat->Prop}{xs:List Tk}{a:Int}(k1:az h b1 235 [v]) (k2:az h b2 3 [.int .i64 a]) (hv:aR Il h O v xs) (i:Nat){t:Tk}(ht:xs[i]? =some t) :
 aj Tryz.prog 260 #[.int .i64 (i:Nat),.pointer (some ⟨b1,0,none⟩),.pointer (some ⟨b2,0,none⟩)] h (aN fun r h'=>r= .bool (decide (a<=t.2.1))/\h'=h):=by
 obtain⟨va,vn,vc,rfl,hvs⟩:=hv.open;have hl:xs.length=vn:=hvs.len;have hi:=(List.getElem?_eq_some_iff.1 ht).1;obtain⟨bb,o,t',ha,_,ht',hrow⟩:=hvs.fC (i:=i) (by omega);obtain rfl:t'=t:=Option.some.inj (ht'.symm.trans ht);refine bf ?_;refine aa ?_;refine bP rfl (aA rfl (k1.cell (i:=0) rfl)) ?_;refine mU ?_;refine bP rfl (bT rfl rfl i rfl ha) ?_;refine aa ?_;refine bP rfl (aA rfl (hrow 1 _ rfl)) ?_;refine bP rfl (aA rfl (k2.cell (i:=0) rfl)) ?_;refine aa ?_;refine aW ?_;exact⟨_,rfl,rfl,rfl⟩
theorem wV {v:Value}{O:Nat->Prop}{xs:List Tk}(hv:aR Il h O v xs) (hx:xs.length<=1000000) (hs:∀(i j:Nat) (t u:Tk),xs[i]? =some t->xs[j]? =some u->i<j->t.2.1<u.2.1) (a:Int) :
 aj Tryz.prog 202 #[v,.int .i64 a] h (aN fun r h'=>(∃k:Nat,r= .int .i64 (k:Nat)/\k<=xs.length/\(∀(q:Nat) (t:Tk),q<k->xs[q]? =some t->t.2.1<a)/\(∀(q:Nat) (t:Tk),k<=q->xs[q]? =some t->a<=t.2.1))/\ah h h'):=by
 obtain⟨va,vn,vc,rfl,hvs⟩:=id hv.open;have hl:xs.length=vn:=hvs.len;subst hl;refine bf ?_;refine aa ?_;refine xo rfl (cM) ?_;rintro _ h1 ⟨rfl,k1,e1,z1⟩;refine xo rfl (cM) ?_;rintro _ h2 ⟨rfl,k2,e2,z2⟩;have k1:az h1 h.size 235 [.slice va xs.length vc]:=k1;have k2:az h2 h1.size 3 [.int .i64 a]:=k2;have e02:=e1.trans e2
 have hsr:=ig (h:=h2) (g:=260) (caps:=[.pointer (some ⟨h.size,0,none⟩),.pointer (some ⟨h1.size,0,none⟩)]) ⟨_,func260,rfl,by kernel_rfl⟩ xs.length hx (fun i=>match xs[i]? with|some t=>decide (a<=t.2.1)|none=>false) (fun i hi=>by
  have ht:xs[i]? =some xs[i]:=List.getElem?_eq_getElem hi;simp only[ht];exact yw (k1.af e2) k2 (hv.af e02) i ht)
 refine aa ?_;refine xp rfl (aA rfl ((k1.af e2).cell (i:=0) rfl)) ?_;refine aa ?_;refine xp rfl (an.makeFunc (vs:=[_,_]) rfl) ?_;refine xo rfl (aG rfl hsr) ?_;rintro _ h3 ⟨⟨k,rfl,hk,hk1,hk2⟩,hh3⟩;refine aa ?_;subst hh3;refine aW ?_;refine⟨_,rfl,⟨k,rfl,hk,fun q t hq ht=>?_,fun q t hq ht=>?_⟩,e02⟩
 · have h0:=hk1 (by omega);have hl:xs[k-1]? =some xs[k-1]:=List.getElem?_eq_getElem (by omega);simp only[hl] at h0;have h0:=of_decide_eq_false h0
   rcases Nat.lt_or_ge q (k-1) with h4|h4
   · have:=hs q (k-1) t _ ht hl h4;omega
   · obtain rfl:q=k-1:=by omega
     rw[ht] at hl;obtain rfl:=Option.some.inj hl;omega
 · have hq':=(List.getElem?_eq_some_iff.1 ht).1;have h0:=hk2 (by omega);have hl:xs[k]? =some xs[k]:=List.getElem?_eq_getElem (by omega);simp only[hl] at h0;have h0:=of_decide_eq_true h0
   rcases Nat.lt_or_ge k q with h4|h4
   · have:=hs k q _ t hl ht h4;omega
   · obtain rfl:q=k:=by omega
     rw[ht] at hl;obtain rfl:=Option.some.inj hl;omega
end
end Go.Proofs.YtckomlgchbkekaaGreatDoor
