/- What the proof of the statement leans on (part 24). -/
import Derived.Below
import Derived.Lib.TrimUEq
import Derived.Test.YtfegacfjgjaghaaGreatDoorQw

namespace Go.Proofs.YtfegacfjgjaghaaGreatDoor
open Go Go.Lw
set_option maxRecDepth 20000
section
variable {h:Heap}{p:Value}
def Utf8H (h:Heap):Prop:=(∀c,c<256→cellAt h ⟨2,c,none⟩=some (.int .u8 (Lib.firstT c))) ∧
 (∀i,i<16→cellAt h ⟨3,2*i,none⟩=some (.int .u8 (Lib.accLo i))∧cellAt h ⟨3,2*i+1,none⟩=some (.int .u8 (Lib.accHi i)))
structure LxG (h:Heap):Prop where
 sg:∃lim,lim≤h.size∧Sg h lim
 tens:Tens h
 rules:RulesAt h
 utf:Utf8H h
 most:∃m,cellAt h ⟨5,0,none⟩=some (.int .i64 m)
theorem LxG.ext0 {h h':Heap}(k:LxG h) (e:Ext0 h h'):LxG h':=by
 obtain⟨⟨lim,h1,h2⟩,h3,h4,h5,m,h6⟩:=k;have hz:=e.size;exact⟨⟨lim,by omega,h2.ext e (fun _ k=>k.elim)⟩,h3.ext0 e,h4.ext0 e,⟨fun c hc=>e.cell (fun k=>k) (h5.1 c hc),fun i hi=>⟨e.cell (fun k=>k) (h5.2 i hi).1,e.cell (fun k=>k) (h5.2 i hi).2⟩⟩,m,e.cell (fun k=>k) h6⟩
theorem decode_calls (hg:LxG h) (l:By) (hl:l≠[]):CallsH Tryz.prog 72 #[.string (bs l)] h (Ret fun r h'=>(∃x:Nat,r= .tuple #[.int .i32 (x:Nat),.int .i64 (runeN l:Nat)])∧Ext0 h h'):=by
 refine CallsH.ofBelow fun w hw=>?_
 subst hw;have hT:Lib.Utf8Tabs 2 3 w:=⟨fun c hc=>by rw[cell_heap];exact hg.utf.1 c hc,fun i hi=>⟨by rw[cell_heap];exact(hg.utf.2 i hi).1,by rw[cell_heap];exact(hg.utf.2 i hi).2⟩⟩
 refine(Tryz.utf8_DecodeRuneInString (bs l) w hT).mono ?_;rintro e w' ⟨rfl,hb⟩
 have hn:(Lib.decodeGo (bs l)).2=runeN l:=by
  have h0:¬(bs l).size=0:=by rw[bs_size];have:=List.length_pos_iff.2 hl;omega
  unfold Lib.decodeGo;rw[if_neg h0,Lib.decode_N,bs_list];rfl
 refine⟨_,rfl,⟨⟨(Lib.decodeGo (bs l)).1,by rw[hn]⟩,⟨hb.size,fun b hlt _=>hb.block b hlt⟩⟩,hb.os,hb.tape,hb.output⟩
theorem contains_calls (hg:LxG h) (s t:By) (hs:s.length≤1000000):CallsH Tryz.prog 74 #[.string (bs s),.string (bs t)] h (Ret fun r h'=>r= .bool (Lib.contains s t)∧h'=h):=by
 obtain⟨m,hm⟩:=hg.most;refine CallsH.ofBelow fun w hw=>?_
 subst hw;refine(Tryz.strings_Contains (bs s) (bs t) m w (by rw[bs_size];omega) (by rw[cell_heap];exact hm)).mono ?_;rintro e w' ⟨rfl,rfl⟩;rw[bs_list,bs_list];exact⟨_,rfl,⟨rfl,rfl⟩,rfl,rfl,rfl⟩
theorem word_calls (hg:LxG h) (s:By) (hs:s.length≤1000000):CallsH Tryz.prog 48 #[.string (bs s)] h (Ret fun r h'=>r= .bool (wordP s)∧h'=h):=by
 have hbs:=bs_size s
 have e1:((⟨#[32]⟩:ByteArray)++bs s)++⟨#[32]⟩=bs (32::(s++[32])):=by
  rw[show (⟨#[32]⟩:ByteArray)=bs [32] from rfl,bs_append,bs_append];rfl
 have w1:(⟨#[32]⟩:ByteArray).size=1:=rfl;refine CallsH.of Tryz.func48 rfl rfl ?_;refine xrd Tryz.func48 1 [0,2] rfl ?_;refine G.seq rfl ?_;refine G.regTo1 [(2,.bool (wordP s))] [(0,_)] ⟨rfl,trivial⟩ Tryz.func48 rfl ?_ ?_
 · refine xqp 1 rfl rfl (OpP.neqStr rfl rfl) ?_;refine xqm 1 rfl ?_;refine RW.split (d:=5) rfl (fun hc=>?_) (fun hc=>?_)
   · have hc':decide (s≠[])=true:=decide_eq_true (fun e=>of_decide_eq_true hc (by rw[e];rfl));refine xqm 1 rfl ?_;refine xo rfl (OpX.call (vs:=[_,_]) Tryz.func74 rfl H.nm74 rfl (CallsH.toX (contains_calls hg s [32] hs))) ?_;rintro _ h0 ⟨rfl,hh0⟩;subst hh0;refine xqm 3 rfl ?_;refine RW.split (d:=10) rfl (fun hc2=>?_) (fun hc2=>?_)
     · refine xqp 1 rfl rfl (OpP.addStr rfl rfl (by omega)) ?_;refine xp rfl (OpP.addStr rfl rfl (by rw[ByteArray.size_append];omega)) ?_;rw[e1];refine xo rfl (OpX.call (vs:=[_,_]) Tryz.func74 rfl H.nm74 rfl (CallsH.toX (contains_calls hg wordsB (32::(s++[32])) (by decide)))) ?_;rintro _ h1 ⟨rfl,hh1⟩;subst hh1;refine xqm 2 rfl ?_;refine RW.done rfl ?_;exact⟨rfl,at_bool rfl (by rw[wordP,hc',hc2,Bool.true_and,Bool.true_and]),rfl,trivial⟩
     · refine xqm 6 rfl ?_;refine RW.done rfl ?_;exact⟨rfl,at_bool rfl (by rw[wordP,hc',hc2,Bool.true_and,Bool.false_and]),rfl,trivial⟩
   · refine xqm 11 rfl ?_;refine RW.done rfl ?_;exact⟨rfl,at_bool rfl (by rw[wordP,decide_eq_false (fun k=>of_decide_eq_false hc (fun e=>k (bs_inj (m:=[]) e))),Bool.false_and]),rfl,trivial⟩
 · refine G.ret Tryz.func48 rfl rfl ?_;exact⟨_,rfl,rfl,rfl⟩
theorem kindT_row {m:Nat}(hm:m<3){i:Nat}:(tabR m)[i]?.map (fun r=>(r.2.1,r.2.2))=(kindT m)[i]? :=by
 have h:(tabR m).map (fun r=>(r.2.1,r.2.2))=kindT m:=by
  match m,hm with
  | 0,_=>decide
  | 1,_=>decide
  | 2,_=>decide
 rw[←h,List.getElem?_map]
theorem kindT_out {m:Int}(h:m<0∨3≤m):kindT m=[]:=by
 unfold kindT;rw[if_neg (by omega),if_neg (by omega),if_neg (by omega)]
theorem find_leaf {α:Type}{l:List α}{kn:Nat}{n:Int}(hk:l.length=kn) (hn:¬n<0):decide ((kn:Int)≤n)= !(l[n.toNat]?).isSome:=by
 cases hq:l[n.toNat]? with
 |none=>have:=List.getElem?_eq_none_iff.1 hq;simp;omega
 |some v=>have:=(List.getElem?_eq_some_iff.1 hq).1;simp;omega
theorem find_calls (hg:LxG h) (m n:Int):CallsH Tryz.prog 73 #[.int .i64 m,.int .i64 n] h (Ret fun r h'=>(∃x:By×Int×Int,r= .tuple #[.agg (encSII x).toArray,.bool (findT m n).isSome]∧∀p,findT m n=some p→(x.2.1,x.2.2)=p)∧Ext0 h h'):=by
 refine CallsH.of Tryz.func73 rfl rfl ?_;refine xr Tryz.func73 rfl ?_;refine xo rfl (OpX.allocN H.zr93) ?_;rintro _ h1 ⟨rfl,k1,e1,z1⟩;have k1:Blk h1 h.size 93 [.string ⟨#[]⟩,.int .i64 0,.int .i64 0]:=k1
 have hrow:∀mm:Nat,mm<3→∃oa kn kc,cellAt h1 ⟨0,0+mm*1,none⟩=some (.slice oa kn kc)∧Sl eSII h1 (fun _=>False) oa kn kc (tabR mm):=fun mm hmm=>by
  obtain⟨v,hv,hsl⟩:=(hg.rules.ext0 e1) mm hmm;obtain⟨oa,kn,kc,rfl,h2⟩:=hsl.open;exact⟨oa,kn,kc,by rw[Nat.mul_one,Nat.zero_add];exact hv,h2⟩
 have hlenT:∀mm:Nat,mm<3→(tabR mm).length=(kindT mm).length:=fun mm hmm=>by
  match mm,hmm with
  | 0,_=>rfl
  | 1,_=>rfl
  | 2,_=>rfl
 refine xqd 1 [0,1,4,5] rfl ?_;refine G.seq rfl ?_;refine G.seq rfl ?_;refine G.regTo1 [(23,.bool (!(findT m n).isSome))] [(0,_),(1,_),(4,_),(5,_)] ⟨rfl,rfl,rfl,rfl,trivial⟩ Tryz.func73 rfl ?_ ?_
 · refine xqm 3 rfl ?_;refine RW.split (d:=8) rfl (fun c1=>?_) (fun c1=>?_)
   · have c1':=of_decide_eq_true c1;refine xqm 15 rfl ?_;refine RW.done rfl ?_;exact⟨rfl,at_bool rfl (by rw[findT,kindT_out (.inl c1')];simp),rfl,rfl,rfl,rfl,trivial⟩
   · have c1':=of_decide_eq_false c1;refine xqm 4 rfl ?_;refine RW.split (d:=12) rfl (fun c2=>?_) (fun c2=>?_)
     · have c2':=of_decide_eq_true c2;refine xqm 11 rfl ?_;refine RW.done rfl ?_;exact⟨rfl,at_bool rfl (by rw[findT,kindT_out (.inr c2')];simp),rfl,rfl,rfl,rfl,trivial⟩
     · have c2':=of_decide_eq_false c2;refine xqm 4 rfl ?_;refine RW.split (d:=16) rfl (fun c3=>?_) (fun c3=>?_)
       · have c3':=of_decide_eq_true c3;refine xqm 7 rfl ?_;refine RW.done rfl ?_;exact⟨rfl,at_bool rfl (by rw[findT,if_pos c3'];rfl),rfl,rfl,rfl,rfl,trivial⟩
       · have c3':=of_decide_eq_false c3;obtain⟨mm,rfl⟩:=Int.eq_ofNat_of_zero_le (show 0≤m by omega);have hmm:mm<3:=by omega
         obtain⟨oa,kn,kc,hv,hsl⟩:=hrow mm hmm;have hkl:=hsl.len;rw[hlenT mm hmm] at hkl;refine xqp 2 rfl rfl (OpP.indexArr Tryz.underlying94 H.sz91 rfl rfl mm rfl (by omega)) ?_;refine xp rfl (OpP.load H.ag91 rfl hv) ?_;refine xp rfl (OpP.lenSlice Tryz.underlying91 rfl) ?_;refine xqm 2 rfl ?_;refine RW.done rfl ?_;exact⟨rfl,at_bool rfl (by rw[findT,if_neg c3'];exact find_leaf hkl c3'),rfl,rfl,rfl,rfl,trivial⟩
 · rcases hf:findT m n with _|p
   · refine G.cond rfl rfl (fun _=>?_) (fun hc=>absurd hc (by simp));refine xr Tryz.func73 rfl ?_;refine xp rfl (OpP.build (H.bd93_ ) rfl) ?_;refine RW.op0 rfl rfl rfl (OpX.storeBlk H.sz93 rfl rfl k1 (by first|rfl|(simp;done)|(simp;omega)) (by first|decide|exact of_decide_eq_true rfl|(simp;done)|(simp;omega)) (by first|decide|simp[Value.oneCell'])) ?_;rintro _ h2 ⟨rfl,k2,x2,z2⟩;refine xqd 1 [0,1,4,5,23] rfl ?_;have k2:Blk h2 h.size 93 (encSII ([],0,0)):=k2;refine G.retC Tryz.func73 rfl (.cons (ResOk.rowN H.ag93 H.sz93 rfl (k2.row) (by first|rfl|(simp;done)|(simp;omega))) (.cons (ResOk.tmp rfl) (.nil))) ?_;exact⟨_,rfl,⟨([],0,0),rfl,fun p hp=>by cases hp⟩,e1.only x2 (Nat.le_refl _)⟩
   · have hn0:0≤n:=by
      by_cases q:n<0
      · rw[findT,if_pos q] at hf;cases hf
      · omega
     have hm0:0≤m∧m<3:=by
      by_cases q:m<0∨3≤m
      · rw[findT,kindT_out q] at hf;simp at hf
      · omega
     obtain⟨mm,rfl⟩:=Int.eq_ofNat_of_zero_le hm0.1;obtain⟨i,rfl⟩:=Int.eq_ofNat_of_zero_le hn0;have hmm:mm<3:=by omega
     obtain⟨oa,kn,kc,hv,hsl⟩:=hrow mm hmm;have hkl:=hsl.len;rw[findT,if_neg (by omega),Int.toNat_natCast,←kindT_row hmm] at hf;obtain⟨r,hr,hrp⟩:=Option.map_eq_some_iff.1 hf;obtain⟨b3,o3,cs3,ha3,_,hrow3,rfl⟩:=hsl.get i r hr;have hil:=(List.getElem?_eq_some_iff.1 hr).1;refine G.cond rfl rfl (fun hc=>absurd hc (by simp)) (fun _=>?_);refine G.skip rfl ?_;refine xra Tryz.func73 1 rfl ?_;refine xp rfl (OpP.indexArr Tryz.underlying94 H.sz91 rfl rfl mm rfl (by omega)) ?_;refine xp rfl (OpP.load H.ag91 rfl hv) ?_;refine xqp 1 rfl rfl (OpP.indexSlice Tryz.underlying91 H.sz93 rfl rfl i rfl ha3 (by omega)) ?_;refine xp rfl (OpP.loadRowN H.ag93 H.sz93 rfl hrow3 (by first|rfl|(simp;done)|(simp;omega))) ?_;refine RW.op0 rfl rfl rfl (OpX.storeBlk H.sz93 rfl rfl k1 (by first|rfl|(simp;done)|(simp;omega)) (by first|decide|exact of_decide_eq_true rfl|(simp;done)|(simp;omega)) (sii_one r)) ?_;rintro _ h2 ⟨rfl,k2,x2,z2⟩;refine xqd 1 [0,1,4,5,23] rfl ?_;have k2:Blk h2 h.size 93 (encSII r):=k2;refine G.retC Tryz.func73 rfl (.cons (ResOk.rowN H.ag93 H.sz93 rfl (k2.row) (by first|rfl|(simp;done)|(simp;omega))) (.cons (ResOk.tmp rfl) (.nil))) ?_;exact⟨_,rfl,⟨r,rfl,fun p hp=>by cases hp;exact hrp⟩,e1.only x2 (Nat.le_refl _)⟩
theorem kind_calls (hg:LxG h) (m n:Int):CallsH Tryz.prog 47 #[.int .i64 m,.int .i64 n] h (Ret fun r h'=>r= .int .i64 (kindP m n)∧Ext0 h h'):=by
 refine CallsH.of Tryz.func47 rfl rfl ?_;refine xrd Tryz.func47 1 [0,1,4] rfl ?_;refine xra Tryz.func47 2 rfl ?_;refine xo rfl (OpX.call (vs:=[_,_]) Tryz.func73 rfl H.nm73 rfl (CallsH.toX (find_calls hg m n))) ?_;rintro _ h1 ⟨⟨x,rfl,hx⟩,e1⟩;refine xqm 3 rfl ?_;refine xo rfl (OpX.allocN H.zr93) ?_;rintro _ h2 ⟨rfl,k2,e2,z2⟩;refine RW.op0 rfl rfl rfl (OpX.storeBlk H.sz93 rfl rfl k2 (by first|rfl|(simp;done)|(simp;omega)) (by first|decide|exact of_decide_eq_true rfl|(simp;done)|(simp;omega)) (sii_one x)) ?_;rintro _ h3 ⟨rfl,k3,x3,z3⟩;have k3:Blk h3 h1.size 93 (encSII x):=k3;have e3:Ext0 h1 h3:=e2.only x3 (Nat.le_refl _)
 rcases hf:findT m n with _|p
 · refine xqd 1 [0,1,4,5,6] rfl ?_;refine G.seq rfl ?_;refine xrd Tryz.func47 2 [0,1,4,5,6,14] rfl ?_;refine G.cond rfl rfl (fun _=>?_) (fun hc=>absurd hc (by simp));refine xrd Tryz.func47 1 [0,1,4,5,6,14] rfl ?_;refine G.ret Tryz.func47 rfl rfl ?_;exact⟨_,rfl,by rw[kindP,hf];rfl,e1.trans e3⟩
 · have hp:=hx p hf;refine xqd 1 [0,1,4,5,6] rfl ?_;refine G.seq rfl ?_;refine xrd Tryz.func47 2 [0,1,4,5,6,14] rfl ?_;refine G.cond rfl rfl (fun hc=>absurd hc (by simp)) (fun _=>?_);refine G.skip rfl ?_;refine xr Tryz.func47 rfl ?_;refine xp rfl (OpP.fieldAddr (off:=1) Tryz.underlying93 rfl rfl H.sz3 rfl) ?_;refine xp rfl (OpP.load H.ag3 rfl (k3.cell (i:=1) rfl)) ?_;refine xqd 1 [0,1,4,5,6,14] rfl ?_;refine G.ret Tryz.func47 rfl rfl ?_;exact⟨_,rfl,by rw[kindP,hf,←hp];rfl,e1.trans e3⟩
def encLSt (s:LSt):List Value:=[.int .i64 s.1,.int .i64 s.2]
theorem lst_one (s:LSt):∀v∈encLSt s,v.oneCell'=true:=fun v hv=>by simp[encLSt] at hv;rcases hv with rfl|rfl<;>rfl
def I64 (i:Int):Prop:= -9223372036854775808≤i∧i≤9223372036854775807
theorem after_calls (hg:LxG h) (s:LSt) (n:Int) (hs:I64 s.2):CallsH Tryz.prog 49 #[.agg (encLSt s).toArray,.int .i64 n] h (Ret fun r h'=>r= .agg (encLSt (afterP s n)).toArray∧Ext0 h h'):=by
 obtain⟨m,d⟩:=s;obtain⟨hd1,hd2⟩:=hs;simp only at hd1 hd2;refine CallsH.of Tryz.func49 rfl rfl ?_;refine xr Tryz.func49 rfl ?_;refine xo rfl (OpX.boxN rfl) ?_;rintro _ h1 ⟨rfl,k1,e1,z1⟩;refine xo rfl (OpX.allocN H.zr27) ?_;rintro _ h2 ⟨rfl,k2,e2,z2⟩;have k1:Blk h1 h.size 27 [.int .i64 m,.int .i64 d]:=k1;have k2:Blk h2 h1.size 27 [.int .i64 0,.int .i64 0]:=k2;have e02:=e1.trans e2;have q1:=k1.ext0 e2;refine xd [0,1,2,4] rfl ?_;refine xr Tryz.func49 rfl ?_;refine xp rfl (OpP.fieldAddr (off:=0) Tryz.underlying27 rfl rfl H.sz3 rfl) ?_;refine xp rfl (OpP.load H.ag3 rfl (q1.cell (i:=0) rfl)) ?_;refine xqm 1 rfl ?_;refine xo rfl (OpX.call (vs:=[_,_]) Tryz.func73 rfl H.nm73 rfl (CallsH.toX (find_calls (hg.ext0 e02) m n))) ?_;rintro _ h3 ⟨⟨x,rfl,hx⟩,e3⟩;refine xqm 3 rfl ?_;refine xo rfl (OpX.allocN H.zr93) ?_;rintro _ h4 ⟨rfl,k4,e4,z4⟩;refine RW.op0 rfl rfl rfl (OpX.storeBlk H.sz93 rfl rfl k4 (by first|rfl|(simp;done)|(simp;omega)) (by first|decide|exact of_decide_eq_true rfl|(simp;done)|(simp;omega)) (sii_one x)) ?_;rintro _ h5 ⟨rfl,k5,x5,z5⟩;have k5:Blk h5 h3.size 93 (encSII x):=k5;have e45:Ext0 h3 h5:=e4.only x5 (Nat.le_refl _);have e25:=e3.trans e45;have e05:=e02.trans e25;have s1:=q1.ext0 e25;have s2:=k2.ext0 e25;have hz1:=e1.size;have hz2:=e2.size;have hz5:=e25.size;have hne:¬h.size=h1.size:=by omega
 have hout:∀{g:Heap},Ext (fun b=>b=h1.size) h5 g→Ext0 h g:=fun e=>Ext0.only e05 e hz1
 rcases hf:findT m n with _|p
 · have haf:afterP (m,d) n=(m,d):=by unfold afterP;rw[hf]
   refine xqd 1 [0,1,2,4,5,6] rfl ?_;refine G.seq rfl ?_;refine G.block rfl rfl ?_;refine G.seq rfl ?_;refine xrd Tryz.func49 3 [0,1,2,4,5,6,14] rfl ?_;refine G.cond rfl rfl (fun _=>?_) (fun hc=>absurd hc (by simp));refine G.skip rfl ?_;refine G.cond rfl rfl (fun _=>?_) (fun hc=>absurd hc (by simp));refine xr Tryz.func49 rfl ?_;refine xp rfl (OpP.loadRowN H.ag27 H.sz27 rfl s1.row (by first|rfl|(simp;done)|(simp;omega))) ?_;refine RW.op0 rfl rfl rfl (OpX.storeBlk H.sz27 rfl rfl s2 (by first|rfl|(simp;done)|(simp;omega)) (by first|decide|exact of_decide_eq_true rfl|(simp;done)|(simp;omega)) (by first|decide|simp[Value.oneCell'])) ?_;rintro _ h6 ⟨rfl,k6,x6,z6⟩;refine xd [0,1,2,4,5,6,14] rfl ?_;have k6:Blk h6 h1.size 27 (encLSt (m,d)):=k6;refine G.retC Tryz.func49 rfl (.cons (ResOk.rowN H.ag27 H.sz27 rfl (k6.row) (by first|rfl|(simp;done)|(simp;omega))) (.nil)) ?_;exact⟨_,rfl,by rw[haf];rfl,hout x6⟩
 · have hp:=hx p hf;obtain⟨hp1,hp2⟩:=Prod.mk.inj hp;have haf:afterP (m,d) n=if x.2.2=0 then (m,d) else if x.2.2=1 then (1,0) else if x.2.2=3 then (2,min (max d 0) 16383+1) else if x.2.2=4∧1<d then (m,d-1) else (0,0):=by unfold afterP;rw[hf,←hp]
   refine xqd 1 [0,1,2,4,5,6] rfl ?_;refine G.seq rfl ?_;refine G.block rfl rfl ?_;refine G.seq rfl ?_;refine xrd Tryz.func49 3 [0,1,2,4,5,6,14] rfl ?_;refine G.cond rfl rfl (fun hc=>absurd hc (by simp)) (fun _=>?_);refine G.reg Tryz.func49 rfl ?_;refine xp rfl (OpP.fieldAddr (off:=2) Tryz.underlying93 rfl rfl H.sz3 rfl) ?_;refine xp rfl (OpP.load H.ag3 rfl (k5.cell (i:=2) rfl)) ?_;refine xqd 2 [0,1,2,4,5,6,14] rfl ?_;refine G.ite rfl rfl (fun h0=>?_) (fun h0=>?_)
   · rw[if_pos h0] at haf;refine xr Tryz.func49 rfl ?_;refine xp rfl (OpP.loadRowN H.ag27 H.sz27 rfl s1.row (by first|rfl|(simp;done)|(simp;omega))) ?_;refine RW.op0 rfl rfl rfl (OpX.storeBlk H.sz27 rfl rfl s2 (by first|rfl|(simp;done)|(simp;omega)) (by first|decide|exact of_decide_eq_true rfl|(simp;done)|(simp;omega)) (by first|decide|simp[Value.oneCell'])) ?_;rintro _ h6 ⟨rfl,k6,x6,z6⟩;refine xd [0,1,2,4,5,6,14] rfl ?_;have k6:Blk h6 h1.size 27 (encLSt (m,d)):=k6;refine G.retC Tryz.func49 rfl (.cons (ResOk.rowN H.ag27 H.sz27 rfl (k6.row) (by first|rfl|(simp;done)|(simp;omega))) (.nil)) ?_;exact⟨_,rfl,by rw[haf];rfl,hout x6⟩
   · rw[if_neg h0] at haf;refine xr Tryz.func49 rfl ?_;refine xp rfl (OpP.fieldAddr (off:=2) Tryz.underlying93 rfl rfl H.sz3 rfl) ?_;refine xp rfl (OpP.load H.ag3 rfl (k5.cell (i:=2) rfl)) ?_;refine xqd 2 [0,1,2,4,5,6,14,21] rfl ?_;refine G.ite rfl rfl (fun h1'=>?_) (fun h1'=>?_)
     · rw[if_pos h1'] at haf;refine xr Tryz.func49 rfl ?_;refine xp rfl (OpP.build (H.bd27_0 _) rfl) ?_;refine RW.op0 rfl rfl rfl (OpX.storeBlk H.sz27 rfl rfl s2 (by first|rfl|(simp;done)|(simp;omega)) (by first|decide|exact of_decide_eq_true rfl|(simp;done)|(simp;omega)) (by first|decide|simp[Value.oneCell'])) ?_;rintro _ h6 ⟨rfl,k6,x6,z6⟩;refine xd [0,1,2,4,5,6,14,21] rfl ?_;have k6:Blk h6 h1.size 27 (encLSt (1,0)):=k6;refine G.retC Tryz.func49 rfl (.cons (ResOk.rowN H.ag27 H.sz27 rfl (k6.row) (by first|rfl|(simp;done)|(simp;omega))) (.nil)) ?_;exact⟨_,rfl,by rw[haf];rfl,hout x6⟩
     · rw[if_neg h1'] at haf;refine xr Tryz.func49 rfl ?_;refine xp rfl (OpP.fieldAddr (off:=2) Tryz.underlying93 rfl rfl H.sz3 rfl) ?_;refine xp rfl (OpP.load H.ag3 rfl (k5.cell (i:=2) rfl)) ?_;refine xqd 2 [0,1,2,4,5,6,14,21,26] rfl ?_;refine G.ite rfl rfl (fun h3'=>?_) (fun h3'=>?_)
       · rw[if_pos h3'] at haf;refine xr Tryz.func49 rfl ?_;refine xp rfl (OpP.fieldAddr (off:=1) Tryz.underlying27 rfl rfl H.sz3 rfl) ?_;refine xp rfl (OpP.load H.ag3 rfl (s1.cell (i:=1) rfl)) ?_;refine xp rfl (OpP.max2 rfl rfl) ?_;refine xp rfl (OpP.min2 rfl rfl) ?_;refine xp rfl (OpP.add64 rfl rfl ⟨by omega,by omega⟩) ?_;refine xp rfl (OpP.build (H.bd27_0_1 _ _) rfl) ?_;refine RW.op0 rfl rfl rfl (OpX.storeBlk H.sz27 rfl rfl s2 (by first|rfl|(simp;done)|(simp;omega)) (by first|decide|exact of_decide_eq_true rfl|(simp;done)|(simp;omega)) (by first|decide|simp[Value.oneCell'])) ?_;rintro _ h6 ⟨rfl,k6,x6,z6⟩;refine xd [0,1,2,4,5,6,14,21,26] rfl ?_;have hmm:(if (16383:Int)<if d<0 then 0 else d then 16383 else if d<0 then 0 else d)=min (max d 0) 16383:=by split<;>split<;>omega
         have k6:Blk h6 h1.size 27 (encLSt (2,min (max d 0) 16383+1)):=by rw[←hmm];exact k6
         refine G.retC Tryz.func49 rfl (.cons (ResOk.rowN H.ag27 H.sz27 rfl (k6.row) (by first|rfl|(simp;done)|(simp;omega))) (.nil)) ?_;exact⟨_,rfl,by rw[haf];rfl,hout x6⟩
       · rw[if_neg h3'] at haf;refine G.seq rfl ?_;refine G.regTo1 [(36,.bool (decide (x.2.2=4∧1<d)))] [(0,_),(1,_),(2,_),(4,_),(5,_),(6,_),(14,_),(21,_),(26,_)] ⟨rfl,rfl,rfl,rfl,rfl,rfl,rfl,rfl,rfl,trivial⟩ Tryz.func49 rfl ?_ ?_
         · refine xp rfl (OpP.fieldAddr (off:=2) Tryz.underlying93 rfl rfl H.sz3 rfl) ?_;refine xp rfl (OpP.load H.ag3 rfl (k5.cell (i:=2) rfl)) ?_;refine xqm 2 rfl ?_;refine RW.split (d:=40) rfl (fun hc=>?_) (fun hc=>?_)
           · have hc':=of_decide_eq_true hc;refine xp rfl (OpP.fieldAddr (off:=1) Tryz.underlying27 rfl rfl H.sz3 rfl) ?_;refine xp rfl (OpP.load H.ag3 rfl (s1.cell (i:=1) rfl)) ?_;refine xqm 3 rfl ?_;refine RW.done rfl ?_;exact⟨rfl,at_bool rfl (by simp[hc']),rfl,rfl,rfl,rfl,rfl,rfl,rfl,rfl,rfl,trivial⟩
           · have hc':=of_decide_eq_false hc;refine xqm 5 rfl ?_;refine RW.done rfl ?_;exact⟨rfl,at_bool rfl (by simp[hc']),rfl,rfl,rfl,rfl,rfl,rfl,rfl,rfl,rfl,trivial⟩
         · refine G.ite rfl rfl (fun h4'=>?_) (fun h4'=>?_)
           · rw[if_pos h4'] at haf;refine xr Tryz.func49 rfl ?_;refine xp rfl (OpP.fieldAddr (off:=1) Tryz.underlying27 rfl rfl H.sz3 rfl) ?_;refine xp rfl (OpP.load H.ag3 rfl (s1.cell (i:=1) rfl)) ?_;refine xp rfl (OpP.sub64 rfl rfl ⟨by omega,by omega⟩) ?_;refine xp rfl (OpP.fieldAddr (off:=1) Tryz.underlying27 rfl rfl H.sz3 rfl) ?_;refine RW.op0 rfl rfl rfl (OpX.store H.sz3 rfl rfl rfl (s1.cell (i:=1) rfl) s1.nf) ?_;rintro _ h6 ⟨rfl,hg6⟩;have s6:=s1.set 1 (.int .i64 (d-1));have x6:Ext (fun b=>b=h.size) h5 h6:=by rw[hg6];exact Ext.setC _ _ _ rfl
             have s6:Blk h6 h.size 27 (encLSt (m,d-1)):=by rw[hg6];exact s6
             refine xd [0,1,2,4,5,6,14,21,26,36] rfl ?_;refine xr Tryz.func49 rfl ?_;refine xp rfl (OpP.loadRowN H.ag27 H.sz27 rfl s6.row (by first|rfl|(simp;done)|(simp;omega))) ?_;refine RW.op0 rfl rfl rfl (OpX.storeBlk H.sz27 rfl rfl (s2.ext x6 (fun k=>by omega)) (by first|rfl|(simp;done)|(simp;omega)) (by first|decide|exact of_decide_eq_true rfl|(simp;done)|(simp;omega)) (lst_one _)) ?_;rintro _ h7 ⟨rfl,k7,x7,z7⟩;refine xd [0,1,2,4,5,6,14,21,26,36] rfl ?_;have k7:Blk h7 h1.size 27 (encLSt (m,d-1)):=k7;refine G.retC Tryz.func49 rfl (.cons (ResOk.rowN H.ag27 H.sz27 rfl (k7.row) (by first|rfl|(simp;done)|(simp;omega))) (.nil)) ?_;have hz6:=x6.size;exact⟨_,rfl,by rw[haf];rfl,Ext0.only (Ext0.only e05 x6 (Nat.le_refl _)) x7 hz1⟩
           · rw[if_neg h4'] at haf;refine G.skip rfl ?_;refine G.blkEnd ?_;refine xr Tryz.func49 rfl ?_;refine xp rfl (OpP.build (H.bd27_ ) rfl) ?_;refine RW.op0 rfl rfl rfl (OpX.storeBlk H.sz27 rfl rfl s2 (by first|rfl|(simp;done)|(simp;omega)) (by first|decide|exact of_decide_eq_true rfl|(simp;done)|(simp;omega)) (by first|decide|simp[Value.oneCell'])) ?_;rintro _ h6 ⟨rfl,k6,x6,z6⟩;refine xd [0,1,2,4,5,6,14,21,26,36] rfl ?_;have k6:Blk h6 h1.size 27 (encLSt (0,0)):=k6;refine G.retC Tryz.func49 rfl (.cons (ResOk.rowN H.ag27 H.sz27 rfl (k6.row) (by first|rfl|(simp;done)|(simp;omega))) (.nil)) ?_;exact⟨_,rfl,by rw[haf];rfl,hout x6⟩
theorem cnext_calls (hg:LxG h) (s:By) (k:Nat) (hk:k<s.length) (hs:s.length≤1000000):CallsH Tryz.prog 46 #[.string (bs s),.int .i64 (k:Nat)] h (Ret fun r h'=>(∃(x:Nat) (ok:Bool),r= .tuple #[.int .i32 (x:Nat),.int .i64 (runeN (s.drop k):Nat),.bool ok])∧Ext0 h h'):=by
 have hbs:=bs_size s;have hne:s.drop k≠[]:=fun e=>by have:=congrArg List.length e;rw[List.length_drop] at this;simp at this;omega
 refine CallsH.of Tryz.func46 rfl rfl ?_;refine xrd Tryz.func46 3 [0,1,4,5,6] rfl ?_;refine G.seq rfl ?_;refine G.seq rfl ?_;refine G.regTo1 [(14,.bool false)] [(0,_),(1,_),(4,_),(5,_),(6,_)] ⟨rfl,rfl,rfl,rfl,rfl,trivial⟩ Tryz.func46 rfl ?_ ?_
 · refine xqm 3 rfl ?_;refine RW.know (d:=9) (b':=false) rfl ((by simp)) ?_;refine xqp 2 rfl rfl (OpP.lenString Tryz.underlying9 rfl) ?_;refine xqm 2 rfl ?_;refine RW.done rfl ?_;exact⟨rfl,at_bool rfl (by simp;omega),rfl,rfl,rfl,rfl,rfl,trivial⟩
 · refine G.cond rfl rfl (fun hc=>absurd hc (by decide)) (fun _=>?_);refine G.skip rfl ?_;refine xra Tryz.func46 2 rfl ?_;refine xp rfl (OpP.sliceStrLo Tryz.underlying9 rfl rfl k rfl (by omega)) ?_;rw[bs_drop];refine xo rfl (OpX.call (vs:=[_]) Tryz.func72 rfl H.nm72 rfl (CallsH.toX (decode_calls hg (s.drop k) hne))) ?_;rintro _ h1 ⟨⟨x,rfl⟩,e1⟩;generalize hn:runeN (s.drop k)=n;refine xqd 5 [0,1,4,5,6,14] rfl ?_;refine G.seq rfl ?_;refine G.regTo1 [(4,.int .i32 (x:Nat)),(5,.int .i64 (n:Nat)),(6,.bool (decide (¬(x:Int)=65533∨(1:Int)<n)))] [(0,_),(1,_),(14,_)] ⟨rfl,rfl,rfl,trivial⟩ Tryz.func46 rfl ?_ ?_
   · refine xqm 5 rfl ?_;refine RW.split (d:=26) rfl (fun hc=>?_) (fun hc=>?_)
     · have hc':=of_decide_eq_true hc;refine xqm 6 rfl ?_;refine RW.done rfl ?_;exact⟨rfl,rfl,rfl,at_bool rfl (by rw[decide_eq_true (Or.inl hc')]),rfl,rfl,rfl,trivial⟩
     · have hc':=of_decide_eq_false hc;refine xqm 6 rfl ?_;refine RW.done rfl ?_;exact⟨rfl,rfl,rfl,at_bool rfl (by simp only[decide_eq_decide];exact⟨fun q=>.inr q,fun q=>q.resolve_left hc'⟩),rfl,rfl,rfl,trivial⟩
   · refine G.ret Tryz.func46 rfl rfl ?_;exact⟨_,rfl,⟨x,_,rfl⟩,e1⟩
theorem lnone_at (k:LexAt h p):CallsH Tryz.prog 44 #[p] h (Ret fun r h'=>r= .bool false∧h'=h):=by
 obtain⟨lb,vm,rfl,hk,⟨oa,n,c,rfl,hl,_⟩⟩:=k;have hl:n=3:=by rw[←hl];rfl
 subst hl;refine CallsH.of Tryz.func44 rfl rfl ?_;refine xrd Tryz.func44 1 [0,2] rfl ?_;refine G.seq rfl ?_;refine G.regTo1 [(2,.bool false)] [(0,_)] ⟨rfl,trivial⟩ Tryz.func44 rfl ?_ ?_
 · refine xqp 1 rfl rfl (OpP.eqlNil Tryz.underlying38 rfl rfl) ?_;refine xqm 1 rfl ?_;refine RW.know (d:=5) (b':=false) rfl (rfl) ?_;refine xqp 2 rfl rfl (OpP.fieldAddr (off:=0) Tryz.underlying52 rfl rfl H.sz50 rfl) ?_;refine xp rfl (OpP.load H.ag50 rfl (hk.cell (i:=0) rfl)) ?_;refine xp rfl (OpP.lenSlice Tryz.underlying50 rfl) ?_;refine xqm 3 rfl ?_;refine RW.done rfl ?_;exact⟨rfl,at_bool rfl (rfl),rfl,trivial⟩
 · refine G.ret Tryz.func44 rfl rfl ?_;exact⟨_,rfl,rfl,rfl⟩
def lexS (m:Int) (l:By):Int:=if 0≤m∧m<3 then (dmatchG (minP (lexD m)) l 0 0 (0,-1)).2.2 else 0
theorem lex_match (m:Nat) (hm:m<3) (s:By) (k:Nat) (hk:k≤s.length):dmatchA (minP (lexD m)) s k=((lexM m (s.drop k)).1,(lexM m (s.drop k)).2,lexS m (s.drop k)):=by
 obtain⟨ss,st,h1,h2,h3,h4,h5⟩:=lex_made m hm;have hok:=dmadeP_ok h2;have hsp:=minP_spec hok.1 hok.2;have htl:=table_like hok.1 hsp.1 hsp.2.2.2.2 hok.2 hsp.2.1 (fun w=>(hsp.2.2.2.1 w).symm) s k;have htm:=table_match h2 s k;have hst:=(makeP_made h1).stl
 have hM:matchM (rulesM m) s k=lexM m (s.drop k):=by
  unfold matchM matchA;rw[h1];simp only;rw[if_neg (by omega),Int.toNat_natCast,h4]
 rw[hM] at htm
 have hA:(dmatchA (minP (lexD m)) s k).2.2=lexS m (s.drop k):=by
  rw[lexS,if_pos (show (0:Int)≤m∧(m:Int)<3 by omega),dmatchA,if_neg (by have:=hsp.2.1;omega),Int.toNat_natCast]
 rw[←hA];refine Prod.ext ?_ (Prod.ext ?_ rfl)
 · rw[←htl.1];exact(Prod.mk.inj htm).1
 · rw[←htl.2.1];exact(Prod.mk.inj htm).2
theorem lexM_out {m:Int}(h:m<0∨3≤m) (l:By):lexM m l=(0,-1):=by
 unfold lexM;rw[if_neg (by omega),if_neg (by omega),if_neg (by omega)]
theorem lmatch_calls (k:LexAt h p) (s:By) (i:Nat) (hi:i≤s.length) (hs:s.length≤1000000) (m:Int) :
 CallsH Tryz.prog 45 #[p,.string (bs s),.int .i64 (i:Nat),.int .i64 m] h (Ret fun r h'=>r= .tuple #[.int .i64 (lexM m (s.drop i)).1,.int .i64 (lexM m (s.drop i)).2,.int .i64 (lexS m (s.drop i))]∧h'=h):=by
 obtain⟨lb,vm,rfl,hk,hv⟩:=k;obtain⟨oa,n,c,rfl,hsl⟩:=hv.open;have hl:n=3:=by rw[←hsl.len];rfl
 subst hl;refine CallsH.of Tryz.func45 rfl rfl ?_;refine xrd Tryz.func45 3 [0,1,2,3,8,9,10] rfl ?_;refine G.seq rfl ?_;refine G.seq rfl ?_;refine G.regTo1 [(21,.bool (decide (m<0∨3≤m)))] [(0,_),(1,_),(2,_),(3,_),(8,_),(9,_),(10,_)] ⟨rfl,rfl,rfl,rfl,rfl,rfl,rfl,trivial⟩ Tryz.func45 rfl ?_ ?_
 · refine xqm 3 rfl ?_;refine RW.split (d:=13) rfl (fun hc=>?_) (fun hc=>?_)
   · have hc':=of_decide_eq_true hc;refine xqm 8 rfl ?_;refine RW.done rfl ?_;exact⟨rfl,at_bool rfl (by simp[hc']),rfl,rfl,rfl,rfl,rfl,rfl,rfl,trivial⟩
   · have hc':=of_decide_eq_false hc;refine xqp 3 rfl rfl (OpP.fieldAddr (off:=0) Tryz.underlying52 rfl rfl H.sz50 rfl) ?_;refine xp rfl (OpP.load H.ag50 rfl (hk.cell (i:=0) rfl)) ?_;refine xp rfl (OpP.lenSlice Tryz.underlying50 rfl) ?_;refine xqm 2 rfl ?_;refine RW.done rfl ?_;exact⟨rfl,at_bool rfl (by simp only[decide_eq_decide];omega),rfl,rfl,rfl,rfl,rfl,rfl,rfl,trivial⟩
 · refine G.ite rfl rfl (fun hout=>?_) (fun hout=>?_)
   · rw[lexM_out hout];refine xrd Tryz.func45 3 [0,1,2,3,8,9,10,21] rfl ?_;refine G.ret Tryz.func45 rfl rfl ?_;exact⟨_,rfl,by rw[lexS,if_neg (by omega)];rfl,rfl⟩
   · obtain⟨mm,rfl⟩:=Int.eq_ofNat_of_zero_le (show 0≤m by omega);have hmm:mm<3:=by omega
     have hx:(lexTs 3)[mm]? =some (minP (lexD mm)):=by
      match mm,hmm with
      | 0,_=>rfl
      | 1,_=>rfl
      | 2,_=>rfl
     obtain⟨b3,o3,cs3,ha3,_,hrow3,db,rfl,htab⟩:=hsl.get mm _ hx;obtain⟨ss,st,h1,h2,h3,h4,h5⟩:=lex_made mm hmm;have hok:=dmadeP_ok h2;have hsp:=minP_spec hok.1 hok.2;refine G.skip rfl ?_;refine xra Tryz.func45 2 rfl ?_;refine xp rfl (OpP.fieldAddr (off:=0) Tryz.underlying52 rfl rfl H.sz50 rfl) ?_;refine xp rfl (OpP.load H.ag50 rfl (hk.cell (i:=0) rfl)) ?_;refine xqp 1 rfl rfl (OpP.indexSlice Tryz.underlying50 H.sz58 rfl rfl mm rfl ha3 (by omega)) ?_;refine xp rfl (OpP.load H.ag58 rfl (hrow3 0 _ rfl)) ?_;refine xqm 2 rfl ?_;refine xo rfl (OpX.call (vs:=[_,_,_]) Tryz.func71 rfl H.nm71 rfl (CallsH.toX (dmatch_calls (s:=s) (a:=(i:Int)) (.inr ⟨db,rfl,htab.rd⟩) hsp.1 hs))) ?_;rintro _ h0 ⟨rfl,hh0⟩;subst hh0;rw[lex_match mm hmm s i hi];refine xqd 6 [0,1,2,3,8,9,10,21] rfl ?_;refine G.ret Tryz.func45 rfl rfl ?_;exact⟨_,rfl,rfl,rfl⟩
def encTk (t:Tk):List Value:=[.int .i64 t.1,.int .i64 t.2.1,.int .i64 t.2.2]
theorem tk_one (t:Tk):∀v∈encTk t,v.oneCell'=true:=fun v hv=>by simp[encTk] at hv;rcases hv with rfl|rfl|rfl<;>rfl
theorem after_I64 {s:LSt}(h:I64 s.2) (n:Int):I64 (afterP s n).2:=by
 unfold I64 at *;unfold afterP;split
 · exact h
 · split
   · exact h
   · split
     · simp only;omega
     · split
       · simp only;omega
       · split
         · simp only;omega
         · simp only;omega
theorem nxt_I64 {s:LSt}(h:I64 s.2) (l:By):I64 (nxtP l s).2:=by
 unfold nxtP;split
 · exact h
 · exact after_I64 h _
theorem same_ext {h':Heap}{b:Nat}{t:TypeId}{cs:List Value}(k:Blk h b t cs) (k':Blk h' b t cs) (e:Ext (fun x=>x=b) h h'):Ext0 h h':=⟨e.size,fun x hx _=>by
 by_cases q:x=b
 · subst q;exact k'.trans k.symm
 · exact e.block x hx q⟩
def oneV (s:By) (i:Nat) (st:LSt):Value:=.tuple #[.agg (encTk (kndP (s.drop i) st.1,(i:Int),((i+lenP (s.drop i) st.1:Nat):Int))).toArray,.agg (encLSt (nxtP (s.drop i) st)).toArray,.int .i64 (lexS st.1 (s.drop i))]
theorem one_calls (hg:LxG h) (k:LexAt h p) (s:By) (i:Nat) (hi:i<s.length) (hs:s.length≤1000000) (st:LSt) (hst:I64 st.2) :
 CallsH Tryz.prog 25 #[p,.string (bs s),.int .i64 (i:Nat),.agg (encLSt st).toArray] h (Ret fun r h'=>r=oneV s i st∧Ext0 h h'):=by
 have hbs:=bs_size s;unfold oneV;have hne:s.drop i≠[]:=fun e=>by have:=congrArg List.length e;rw[List.length_drop] at this;simp at this;omega
 have hll:=lexM_len st.1 (s.drop i);have hrl:=rune_len hne;rw[List.length_drop] at hll hrl;refine CallsH.of Tryz.func25 rfl rfl ?_;refine xr Tryz.func25 rfl ?_;refine xo rfl (OpX.boxN rfl) ?_;rintro _ h1 ⟨rfl,k7,e1,z1⟩;refine xo rfl (OpX.allocN H.zr35) ?_;rintro _ h2 ⟨rfl,k8,e2,z2⟩;refine xo rfl (OpX.allocN H.zr27) ?_;rintro _ h3 ⟨rfl,k9,e3,z3⟩;have k7:Blk h1 h.size 27 (encLSt st):=k7;have k8:Blk h2 h1.size 35 (encTk (0,0,0)):=k8;have k9:Blk h3 h2.size 27 (encLSt (0,0)):=k9;have e03:=(e1.trans e2).trans e3;have q7:=(k7.ext0 e2).ext0 e3;have q8:=k8.ext0 e3;have y1:=e1.size;have y2:=e2.size;have hout:∀{g g2 g3:Heap},Ext0 h3 g→Ext (fun b=>b=h1.size) g g2→Ext (fun b=>b=h2.size) g2 g3→Ext0 h g3:=fun ea eb ec=>Ext0.only (Ext0.only (e03.trans ea) eb (by omega)) ec (by omega)
 refine xqd 1 [0,1,2,3,7,8,9,10] rfl ?_;refine G.seq rfl ?_;refine G.seq rfl ?_;refine G.regTo1 [(27,.bool false)] [(0,_),(1,_),(2,_),(3,_),(7,_),(8,_),(9,_),(10,_)] ⟨rfl,rfl,rfl,rfl,rfl,rfl,rfl,rfl,trivial⟩ Tryz.func25 rfl ?_ ?_
 · refine xqm 1 rfl ?_;refine xo rfl (OpX.call (vs:=[_]) Tryz.func44 rfl H.nm44 rfl (CallsH.toX (lnone_at (k.ext0 e03)))) ?_;rintro _ h4 ⟨rfl,hh4⟩;subst hh4;refine xqm 1 rfl ?_;refine RW.know (d:=18) (b':=false) rfl (rfl) ?_;refine xqm 4 rfl ?_;refine RW.know (d:=22) (b':=false) rfl ((by simp)) ?_;refine xqp 2 rfl rfl (OpP.lenString Tryz.underlying9 rfl) ?_;refine xqm 2 rfl ?_;refine RW.done rfl ?_;exact⟨rfl,at_bool rfl (by simp;omega),rfl,rfl,rfl,rfl,rfl,rfl,rfl,rfl,trivial⟩
 · refine G.cond rfl rfl (fun hc=>absurd hc (by decide)) (fun _=>?_);refine G.skip rfl ?_;refine xra Tryz.func25 3 rfl ?_;refine xp rfl (OpP.fieldAddr (off:=0) Tryz.underlying27 rfl rfl H.sz3 rfl) ?_;refine xp rfl (OpP.load H.ag3 rfl (q7.cell (i:=0) rfl)) ?_;refine xo rfl (OpX.call (vs:=[_,_,_,_]) Tryz.func45 rfl H.nm45 rfl (CallsH.toX (lmatch_calls (k.ext0 e03) s i (by omega) hs st.1))) ?_;rintro _ h4 ⟨rfl,hh4⟩;subst hh4;refine xqd 7 [0,1,2,3,7,8,9,10,11,12,27] rfl ?_;refine G.seq rfl ?_;refine xrd Tryz.func25 2 [0,1,2,3,7,8,9,10,11,12,27,41] rfl ?_;refine G.ite rfl rfl (fun hz=>?_) (fun hz=>?_)
   · have hlen:lenP (s.drop i) st.1=runeN (s.drop i):=by rw[lenP,if_pos hz]
     have hknd:kndP (s.drop i) st.1=0:=by rw[kndP,if_pos hz]
     have hnxt:nxtP (s.drop i) st=st:=by rw[nxtP,if_pos hz]
     rw[hlen,hknd,hnxt];refine xra Tryz.func25 2 rfl ?_;refine xo rfl (OpX.call (vs:=[_,_]) Tryz.func46 rfl H.nm46 rfl (CallsH.toX (cnext_calls (hg.ext0 e03) s i hi hs))) ?_;rintro _ h5 ⟨⟨x,ok,rfl⟩,e5⟩;have r7:=q7.ext0 e5;have r8:=q8.ext0 e5;have r9:=k9.ext0 e5;have y5:=e5.size;have hM7:¬(h.size=h1.size∨h.size=h2.size∨Array.size h5≤h.size):=by have:=e03.size;omega
     refine xqd 7 [0,1,2,3,7,8,9,10,11,12,14,27,41] rfl ?_;refine G.seq rfl ?_;refine G.draw (fun b=>b=Array.size h1∨b=Array.size h2∨Array.size h5≤b) (fun i=>Nat.blt i 9) (sz:=10) (listed:= #[false,false,false,false,false,false,false,false,false,false]) Tryz.func25 H.mixed rfl rfl rfl ?_;refine xtq 0 1 (by kernel_rfl) rfl ?_;refine xtq 1 3 (by kernel_rfl) rfl ?_;refine xtq 2 7 (by kernel_rfl) rfl ?_;refine xtp 3 15 (by kernel_rfl) rfl (fun h' e=>OpP.add64 rfl rfl ⟨by omega,by omega⟩) ?_;refine xtp 4 31 (by kernel_rfl) rfl (fun h' e=>OpP.build (H.bd35_0_1_2 _ _ _) rfl) ?_;refine xtp 5 63 (by kernel_rfl) rfl (fun h' e=>OpP.loadRowN H.ag27 H.sz27 rfl (e.rowAt hM7 r7.row) (by first|rfl|(simp;done)|(simp;omega))) ?_;refine xtq 6 127 (by kernel_rfl) rfl ?_;refine xt0 7 255 (by kernel_rfl) rfl (OpX.storeBlk H.sz35 rfl rfl r8 (by first|rfl|(simp;done)|(simp;omega)) (by first|decide|exact of_decide_eq_true rfl|(simp;done)|(simp;omega)) (by first|decide|simp[Value.oneCell'])) ?_;rintro _ h6 ⟨rfl,w8,x6,z6⟩;refine⟨fun _=>x6.mono (fun _ _ k=>.inl k),?_⟩;refine xt0 8 511 (by kernel_rfl) rfl (OpX.storeBlk H.sz27 rfl rfl (r9.ext x6 (fun k=>by omega)) (by first|rfl|(simp;done)|(simp;omega)) (by first|decide|exact of_decide_eq_true rfl|(simp;done)|(simp;omega)) (lst_one st)) ?_;rintro _ h7 ⟨rfl,w9,x7,z7⟩;refine⟨fun _=>x7.mono (fun _ _ k=>.inr (.inl k)),?_⟩;have w8:Blk h6 h1.size 35 (encTk (0,(i:Int),((i+runeN (s.drop i):Nat):Int))):=by rw[Int.natCast_add];exact w8
     have w8:=w8.ext x7 (show ¬h1.size=h2.size by omega);have w9:Blk h7 h2.size 27 (encLSt st):=w9;refine xtq 9 1023 (by kernel_rfl) rfl ?_;refine RD.done (by kernel_rfl) ?_;refine xu [0,1,2,3,7,8,9,10,11,12,14,27,41] rfl ?_;refine G.retC Tryz.func25 rfl (.cons (ResOk.rowN H.ag35 H.sz35 rfl (w8.row) (by first|rfl|(simp;done)|(simp;omega))) (.cons (ResOk.rowN H.ag27 H.sz27 rfl (w9.row) (by first|rfl|(simp;done)|(simp;omega))) (.cons (ResOk.tmp rfl) (.nil)))) ?_;exact⟨_,rfl,rfl,hout e5 x6 x7⟩
   · obtain⟨L,hL⟩:=Int.eq_ofNat_of_zero_le hll.1;have hL0:0<L:=by omega
     have hlen:lenP (s.drop i) st.1=L:=by rw[lenP,if_neg hz,hL];rfl
     have hknd:kndP (s.drop i) st.1=if kindP st.1 (lexM st.1 (s.drop i)).2=3∧wordP ((s.drop i).take L)=true then 4 else kindP st.1 (lexM st.1 (s.drop i)).2:=by rw[kndP,if_neg hz,hL];rfl
     have hnxt:nxtP (s.drop i) st=afterP st (lexM st.1 (s.drop i)).2:=by rw[nxtP,if_neg hz]
     rw[hlen,hknd,hnxt,hL];generalize (lexM st.1 (s.drop i)).2=rl at *;rw[hL] at hll;refine G.skip rfl ?_;refine xr Tryz.func25 rfl ?_;refine xp rfl (OpP.fieldAddr (off:=0) Tryz.underlying27 rfl rfl H.sz3 rfl) ?_;refine xp rfl (OpP.load H.ag3 rfl (q7.cell (i:=0) rfl)) ?_;refine xqm 1 rfl ?_;refine xo rfl (OpX.call (vs:=[_,_]) Tryz.func47 rfl H.nm47 rfl (CallsH.toX (kind_calls (hg.ext0 e03) st.1 rl))) ?_;rintro _ h5 ⟨rfl,e5⟩;refine xqp 3 rfl rfl (OpP.add64 rfl rfl ⟨by omega,by omega⟩) ?_;refine xp rfl (OpP.build (H.bd35_0_1_2 _ _ _) rfl) ?_;refine RW.op0 rfl rfl rfl (OpX.storeBlk H.sz35 rfl rfl (q8.ext0 e5) (by first|rfl|(simp;done)|(simp;omega)) (by first|decide|exact of_decide_eq_true rfl|(simp;done)|(simp;omega)) (by first|decide|simp[Value.oneCell'])) ?_;rintro _ h6 ⟨rfl,w8,x6,z6⟩;have w8:Blk h6 h1.size 35 (encTk (kindP st.1 rl,(i:Int),((i+L:Nat):Int))):=by rw[Int.natCast_add];exact w8
     generalize kindP st.1 rl=kd at *;have hcut:(bs s).extract i (i+L)=bs ((s.drop i).take L):=by rw[bs_part s i (i+L) (by omega),List.drop_take,Nat.add_sub_cancel_left]
     have y6:=x6.size;have e06:Ext0 h h6:=Ext0.only (e03.trans e5) x6 (by omega);have r7:=(q7.ext0 e5).ext x6 (show ¬h.size=h1.size by omega);have r9:=(k9.ext0 e5).ext x6 (show ¬h2.size=h1.size by omega);refine xd [0,1,2,3,7,8,9,10,11,12,27,41] rfl ?_;refine G.seq rfl ?_;refine G.seq rfl ?_;refine G.regTo1 [(76,.bool (decide (kd=3∧wordP ((s.drop i).take L)=true)))] [(0,_),(1,_),(2,_),(3,_),(7,_),(8,_),(9,_),(10,_),(11,_),(12,_),(27,_),(41,_)] ⟨rfl,rfl,rfl,rfl,rfl,rfl,rfl,rfl,rfl,rfl,rfl,rfl,trivial⟩ Tryz.func25 rfl ?_ ?_
     · refine xp rfl (OpP.fieldAddr (off:=0) Tryz.underlying35 rfl rfl H.sz3 rfl) ?_;refine xp rfl (OpP.load H.ag3 rfl (w8.cell (i:=0) rfl)) ?_;refine xqm 2 rfl ?_;refine RW.split (d:=68) rfl (fun hc=>?_) (fun hc=>?_)
       · have hc':kd=3:=of_decide_eq_true hc;refine xqp 1 rfl rfl (OpP.fieldAddr (off:=1) Tryz.underlying35 rfl rfl H.sz3 rfl) ?_;refine xp rfl (OpP.load H.ag3 rfl (w8.cell (i:=1) rfl)) ?_;refine xp rfl (OpP.fieldAddr (off:=2) Tryz.underlying35 rfl rfl H.sz3 rfl) ?_;refine xp rfl (OpP.load H.ag3 rfl (w8.cell (i:=2) rfl)) ?_;refine xp rfl (OpP.sliceStr Tryz.underlying9 rfl rfl i rfl rfl (i+L) rfl (by omega) (by omega)) ?_;rw[hcut];refine xo rfl (OpX.call (vs:=[_]) Tryz.func48 rfl H.nm48 rfl (CallsH.toX (word_calls (hg.ext0 e06) ((s.drop i).take L) (by rw[List.length_take,List.length_drop];omega)))) ?_;rintro _ h7 ⟨rfl,hh7⟩;subst hh7;refine xqm 1 rfl ?_;refine RW.done rfl ?_;exact⟨rfl,at_bool rfl (by simp[hc']),rfl,rfl,rfl,rfl,rfl,rfl,rfl,rfl,rfl,rfl,rfl,rfl,trivial⟩
       · have hc':¬kd=3:=of_decide_eq_false hc;refine xqm 8 rfl ?_;refine RW.done rfl ?_;exact⟨rfl,at_bool rfl (by simp[hc']),rfl,rfl,rfl,rfl,rfl,rfl,rfl,rfl,rfl,rfl,rfl,rfl,trivial⟩
     · refine G.ite rfl rfl (fun hw=>?_) (fun hw=>?_)
       · refine G.reg Tryz.func25 rfl ?_;refine xp rfl (OpP.fieldAddr (off:=0) Tryz.underlying35 rfl rfl H.sz3 rfl) ?_;refine RW.op0 rfl rfl rfl (OpX.store H.sz3 rfl rfl rfl (w8.cell (i:=0) rfl) w8.nf) ?_;rintro _ h7 ⟨rfl,hg7⟩;have w7:=w8.set 0 (.int .i64 4);have x7:Ext (fun b=>b=h1.size) h6 h7:=by rw[hg7];exact Ext.setC _ _ _ rfl
         have w7:Blk h7 h1.size 35 (encTk (4,(i:Int),((i+L:Nat):Int))):=by rw[hg7];exact w7
         have y7:=x7.size;have e07:Ext0 h h7:=Ext0.only e06 x7 (by omega);have p7:=r7.ext x7 (show ¬h.size=h1.size by omega);have p9:=r9.ext x7 (show ¬h2.size=h1.size by omega);have hMa:¬(h1.size=h2.size∨Array.size h7≤h1.size):=by have:=e03.size;have:=e5.size;omega
         have hMb:¬(h.size=h2.size∨Array.size h7≤h.size):=by have:=e03.size;have:=e5.size;omega
         refine xd [0,1,2,3,7,8,9,10,11,12,27,41,76] rfl ?_;refine G.seq rfl ?_;refine G.draw (fun b=>b=Array.size h2∨Array.size h7≤b) (fun i=>Nat.blt i 7) (sz:=8) (listed:= #[false,false,false,false,false,false,false,false]) Tryz.func25 H.mixed rfl rfl rfl ?_;refine xtp 0 1 (by kernel_rfl) rfl (fun h' e=>OpP.loadRowN H.ag35 H.sz35 rfl (e.rowAt hMa w7.row) (by first|rfl|(simp;done)|(simp;omega))) ?_;refine xtp 1 3 (by kernel_rfl) rfl (fun h' e=>OpP.loadRowN H.ag27 H.sz27 rfl (e.rowAt hMb p7.row) (by first|rfl|(simp;done)|(simp;omega))) ?_;refine xtq 2 7 (by kernel_rfl) rfl ?_;refine xtq 4 23 (by kernel_rfl) rfl ?_;refine xto 3 31 (by kernel_rfl) rfl (OpX.call (vs:=[_,_]) Tryz.func49 rfl H.nm49 rfl (CallsH.toX (after_calls (hg.ext0 e07) st rl hst))) ?_;rintro _ h8 ⟨rfl,e8⟩;refine⟨fun _=>e8.mono (fun _ _ k=>k.elim),?_⟩;have w8':=w7.ext0 e8;refine xt0 5 63 (by kernel_rfl) rfl (OpX.storeBlk H.sz35 rfl rfl w8' (by first|rfl|(simp;done)|(simp;omega)) (by first|decide|exact of_decide_eq_true rfl|(simp;done)|(simp;omega)) (tk_one _)) ?_;rintro _ h9 ⟨rfl,w9',x9,z9⟩;refine⟨fun _=>(same_ext w8' w9' x9).mono (fun _ _ k=>k.elim),?_⟩;have w9':Blk h9 h1.size 35 (encTk (4,(i:Int),((i+L:Nat):Int))):=w9';have e9:=same_ext w8' w9' x9;have p9':=(p9.ext0 e8).ext0 e9;refine xt0 6 127 (by kernel_rfl) rfl (OpX.storeBlk H.sz27 rfl rfl p9' (by first|rfl|(simp;done)|(simp;omega)) (by first|decide|exact of_decide_eq_true rfl|(simp;done)|(simp;omega)) (lst_one _)) ?_;rintro _ h10 ⟨rfl,w10,x10,z10⟩;refine⟨fun _=>x10.mono (fun _ _ k=>.inl k),?_⟩;have w10:Blk h10 h2.size 27 (encLSt (afterP st rl)):=w10;have w11:=w9'.ext x10 (show ¬h1.size=h2.size by omega);refine xtq 7 255 (by kernel_rfl) rfl ?_;refine RD.done (by kernel_rfl) ?_;refine xu [0,1,2,3,7,8,9,10,11,12,27,41,76] rfl ?_;refine G.retC Tryz.func25 rfl (.cons (ResOk.rowN H.ag35 H.sz35 rfl (w11.row) (by first|rfl|(simp;done)|(simp;omega))) (.cons (ResOk.rowN H.ag27 H.sz27 rfl (w10.row) (by first|rfl|(simp;done)|(simp;omega))) (.cons (ResOk.tmp rfl) (.nil)))) ?_;have y10:=x10.size;exact⟨_,rfl,by rw[if_pos hw];rfl,Ext0.only ((e07.trans e8).trans e9) x10 (by omega)⟩
       · have hMa:¬(h1.size=h2.size∨Array.size h6≤h1.size):=by have:=e03.size;have:=e5.size;omega
         have hMb:¬(h.size=h2.size∨Array.size h6≤h.size):=by have:=e03.size;have:=e5.size;omega
         refine G.skip rfl ?_;refine G.seq rfl ?_;refine G.draw (fun b=>b=Array.size h2∨Array.size h6≤b) (fun i=>Nat.blt i 7) (sz:=8) (listed:= #[false,false,false,false,false,false,false,false]) Tryz.func25 H.mixed rfl rfl rfl ?_;refine xtp 0 1 (by kernel_rfl) rfl (fun h' e=>OpP.loadRowN H.ag35 H.sz35 rfl (e.rowAt hMa w8.row) (by first|rfl|(simp;done)|(simp;omega))) ?_;refine xtp 1 3 (by kernel_rfl) rfl (fun h' e=>OpP.loadRowN H.ag27 H.sz27 rfl (e.rowAt hMb r7.row) (by first|rfl|(simp;done)|(simp;omega))) ?_;refine xtq 2 7 (by kernel_rfl) rfl ?_;refine xtq 4 23 (by kernel_rfl) rfl ?_;refine xto 3 31 (by kernel_rfl) rfl (OpX.call (vs:=[_,_]) Tryz.func49 rfl H.nm49 rfl (CallsH.toX (after_calls (hg.ext0 e06) st rl hst))) ?_;rintro _ h8 ⟨rfl,e8⟩;refine⟨fun _=>e8.mono (fun _ _ k=>k.elim),?_⟩;have w8':=w8.ext0 e8;refine xt0 5 63 (by kernel_rfl) rfl (OpX.storeBlk H.sz35 rfl rfl w8' (by first|rfl|(simp;done)|(simp;omega)) (by first|decide|exact of_decide_eq_true rfl|(simp;done)|(simp;omega)) (tk_one _)) ?_;rintro _ h9 ⟨rfl,w9',x9,z9⟩;refine⟨fun _=>(same_ext w8' w9' x9).mono (fun _ _ k=>k.elim),?_⟩;have w9':Blk h9 h1.size 35 (encTk (kd,(i:Int),((i+L:Nat):Int))):=w9';have e9:=same_ext w8' w9' x9;have p9':=(r9.ext0 e8).ext0 e9;refine xt0 6 127 (by kernel_rfl) rfl (OpX.storeBlk H.sz27 rfl rfl p9' (by first|rfl|(simp;done)|(simp;omega)) (by first|decide|exact of_decide_eq_true rfl|(simp;done)|(simp;omega)) (lst_one _)) ?_;rintro _ h10 ⟨rfl,w10,x10,z10⟩;refine⟨fun _=>x10.mono (fun _ _ k=>.inl k),?_⟩;have w10:Blk h10 h2.size 27 (encLSt (afterP st rl)):=w10;have w11:=w9'.ext x10 (show ¬h1.size=h2.size by omega);refine xtq 7 255 (by kernel_rfl) rfl ?_;refine RD.done (by kernel_rfl) ?_;refine xu [0,1,2,3,7,8,9,10,11,12,27,41,76] rfl ?_;refine G.retC Tryz.func25 rfl (.cons (ResOk.rowN H.ag35 H.sz35 rfl (w11.row) (by first|rfl|(simp;done)|(simp;omega))) (.cons (ResOk.rowN H.ag27 H.sz27 rfl (w10.row) (by first|rfl|(simp;done)|(simp;omega))) (.cons (ResOk.tmp rfl) (.nil)))) ?_;have y10:=x10.size;exact⟨_,rfl,by rw[if_neg hw];rfl,Ext0.only ((e06.trans e8).trans e9) x10 (by omega)⟩
end
end Go.Proofs.YtfegacfjgjaghaaGreatDoor
namespace Go.Proofs.YtfegacfjgjaghaaGreatDoor
open Go
theorem allG_nil (n a:Nat) (st:LSt):allG n [] a st=([],st):=by cases n<;>simp[allG]
theorem allG_step {n:Nat}{l:By}(hl:l≠[]) (hn:l.length≤n) (a:Nat) (st:LSt) :
 allG n l a st=((kndP l st.1,(a:Int),((a+lenP l st.1:Nat):Int))::(allG n (l.drop (lenP l st.1)) (a+lenP l st.1) (nxtP l st)).1,(allG n (l.drop (lenP l st.1)) (a+lenP l st.1) (nxtP l st)).2):=by
 have hp:=List.length_pos_iff.2 hl;have hk:=lenP_len hl st.1;obtain⟨m,rfl⟩:∃m,n=m+1:=⟨n-1,by omega⟩
 rw[allG_more (m+1) (m+1) (l.drop (lenP l st.1)) _ _ (by rw[List.length_drop];omega) (by rw[List.length_drop];omega),←allG_more m (m+1) (l.drop (lenP l st.1)) (a+lenP l st.1) (nxtP l st) (by rw[List.length_drop];omega) (by rw[List.length_drop];omega)];rw[allG,if_neg hl]
def stsG:Nat→By→LSt→List LSt
 | 0,_,st=>[st]
 |n+1,l,st=>if l=[] then [st] else st::stsG n (l.drop (lenP l st.1)) (nxtP l st)
def stsP (s:By):List LSt:=stsG s.length s (0,0)
theorem stsG_more:∀(n k:Nat) (l:By) (st:LSt),l.length≤n→l.length≤k→stsG n l st=stsG k l st
 | 0,0,_,_,_,_=>rfl
 | 0,k+1,l,st,h,_=>by
  have:l=[]:=List.length_eq_zero_iff.1 (by omega);rw[stsG,stsG,if_pos this]
 |n+1,0,l,st,_,h=>by
  have:l=[]:=List.length_eq_zero_iff.1 (by omega);rw[stsG,stsG,if_pos this]
 |n+1,k+1,l,st,h1,h2=>by
  rw[stsG,stsG]
  by_cases hl:l=[]
  · rw[if_pos hl,if_pos hl]
  · have:=lenP_len hl st.1;rw[if_neg hl,if_neg hl,stsG_more n k _ _ (by rw[List.length_drop];omega) (by rw[List.length_drop];omega)]
theorem stsG_step {n:Nat}{l:By}(hl:l≠[]) (hn:l.length≤n) (st:LSt):stsG n l st=st::stsG n (l.drop (lenP l st.1)) (nxtP l st):=by
 have hp:=List.length_pos_iff.2 hl;have hk:=lenP_len hl st.1;obtain⟨m,rfl⟩:∃m,n=m+1:=⟨n-1,by omega⟩
 rw[stsG_more (m+1) m (l.drop (lenP l st.1)) _ (by rw[List.length_drop];omega) (by rw[List.length_drop];omega),stsG,if_neg hl]
theorem stsG_nil (n:Nat) (st:LSt):stsG n [] st=[st]:=by cases n<;>simp[stsG]
theorem sts_last:∀(n a:Nat) (l:By) (st:LSt),(stsG n l st).getLast? =some (allG n l a st).2∧(stsG n l st).length=(allG n l a st).1.length+1
 | 0,a,l,st=>⟨rfl,rfl⟩
 |n+1,a,l,st=>by
  rw[stsG,allG]
  by_cases hl:l=[]
  · rw[if_pos hl,if_pos hl];exact⟨rfl,rfl⟩
  · rw[if_neg hl,if_neg hl];obtain⟨h1,h2⟩:=sts_last n (a+lenP l st.1) (l.drop (lenP l st.1)) (nxtP l st);refine⟨?_,by simp[h2]⟩;rw[List.getLast?_cons,h1];rfl
theorem allG_len:∀(n:Nat) (l:By) (a:Nat) (st:LSt),(allG n l a st).1.length≤l.length
 | 0,l,a,st=>by simp[allG]
 |n+1,l,a,st=>by
  rw[allG];split
  · simp
  · rename_i h;have h1:=lenP_len h st.1;have h2:=allG_len n (l.drop (lenP l st.1)) (a+lenP l st.1) (nxtP l st);rw[List.length_drop] at h2;simp only[List.length_cons];omega
def goG:Nat→By→Nat→LSt→Nat×LSt
 | 0,_,a,st=>(a,st)
 |j+1,l,a,st=>if l=[] then (a,st) else goG j (l.drop (lenP l st.1)) (a+lenP l st.1) (nxtP l st)
def shT (d:Int) (t:Tk):Tk:=(t.1,t.2.1+d,t.2.2+d)
end Go.Proofs.YtfegacfjgjaghaaGreatDoor
namespace Go.Proofs.YtfegacfjgjaghaaGreatDoor
open Go Go.Lw
set_option maxRecDepth 20000
theorem one_out {h:Heap}{p:Value}{b:Bool}(hn:∀g,Ext0 h g→CallsH Tryz.prog 44 #[p] g (Ret fun r h'=>r= .bool b∧h'=g)) (s:By) (i:Int) (hs:s.length≤1000000) (st:LSt) (hb:b=true∨i<0∨(s.length:Int)≤i) :
 CallsH Tryz.prog 25 #[p,.string (bs s),.int .i64 i,.agg (encLSt st).toArray] h (Ret fun r h'=>r= .tuple #[.agg (encTk (0,0,0)).toArray,.agg (encLSt st).toArray,.int .i64 0]∧Ext0 h h'):=by
 have hbs:=bs_size s;refine CallsH.of Tryz.func25 rfl rfl ?_;refine xr Tryz.func25 rfl ?_;refine xo rfl (OpX.boxN rfl) ?_;rintro _ h1 ⟨rfl,k7,e1,z1⟩;refine xo rfl (OpX.allocN H.zr35) ?_;rintro _ h2 ⟨rfl,k8,e2,z2⟩;refine xo rfl (OpX.allocN H.zr27) ?_;rintro _ h3 ⟨rfl,k9,e3,z3⟩;have k7:Blk h1 h.size 27 (encLSt st):=k7;have k8:Blk h2 h1.size 35 (encTk (0,0,0)):=k8;have k9:Blk h3 h2.size 27 (encLSt (0,0)):=k9;have e03:=(e1.trans e2).trans e3;have q7:=(k7.ext0 e2).ext0 e3;have q8:=k8.ext0 e3;have y1:=e1.size;have y2:=e2.size;refine xqd 1 [0,1,2,3,7,8,9,10] rfl ?_;refine G.seq rfl ?_;refine G.seq rfl ?_;refine G.regTo1 [(27,.bool true)] [(0,_),(1,_),(2,_),(3,_),(7,_),(8,_),(9,_),(10,_)] ⟨rfl,rfl,rfl,rfl,rfl,rfl,rfl,rfl,trivial⟩ Tryz.func25 rfl ?_ ?_
 · refine xqm 1 rfl ?_;refine xo rfl (OpX.call (vs:=[_]) Tryz.func44 rfl H.nm44 rfl (CallsH.toX (hn _ e03))) ?_;rintro _ h4 ⟨rfl,hh4⟩;subst hh4;refine xqm 1 rfl ?_;refine RW.split (d:=18) rfl (fun c1=>?_) (fun c1=>?_)
   · refine xqm 9 rfl ?_;refine RW.done rfl ?_;exact⟨rfl,at_bool rfl (rfl),rfl,rfl,rfl,rfl,rfl,rfl,rfl,rfl,trivial⟩
   · refine xqm 4 rfl ?_;refine RW.split (d:=22) rfl (fun c2=>?_) (fun c2=>?_)
     · refine xqm 5 rfl ?_;refine RW.done rfl ?_;exact⟨rfl,at_bool rfl (rfl),rfl,rfl,rfl,rfl,rfl,rfl,rfl,rfl,trivial⟩
     · have c2':=of_decide_eq_false c2;refine xqp 2 rfl rfl (OpP.lenString Tryz.underlying9 rfl) ?_;refine xqm 2 rfl ?_;refine RW.done rfl ?_;exact⟨rfl,at_bool rfl (by rw[decide_eq_true_iff];rcases hb with k|k|k;rw[c1] at k;cases k;exact absurd k c2';omega),rfl,rfl,rfl,rfl,rfl,rfl,rfl,rfl,trivial⟩
 · refine G.cond rfl rfl (fun _=>?_) (fun hc=>absurd hc (by decide));have hM:¬(h.size=h1.size∨Array.size h3≤h.size):=by have:=e03.size;omega
   refine G.seq rfl ?_;refine G.draw (fun b=>b=Array.size h1∨Array.size h3≤b) (fun i=>Nat.blt i 3) (sz:=5) (listed:= #[false,false,false,false,false]) Tryz.func25 H.mixed rfl rfl rfl ?_;refine xtp 0 1 (by kernel_rfl) rfl (fun h' e=>OpP.build (H.bd35_ ) rfl) ?_;refine xtp 1 3 (by kernel_rfl) rfl (fun h' e=>OpP.loadRowN H.ag27 H.sz27 rfl (e.rowAt hM q7.row) (by first|rfl|(simp;done)|(simp;omega))) ?_;refine xt0 2 7 (by kernel_rfl) rfl (OpX.storeBlk H.sz35 rfl rfl q8 (by first|rfl|(simp;done)|(simp;omega)) (by first|decide|exact of_decide_eq_true rfl|(simp;done)|(simp;omega)) (by first|decide|simp[Value.oneCell'])) ?_;rintro _ h4 ⟨rfl,w8,x4,zz4⟩;refine⟨fun _=>x4.mono (fun _ _ k=>.inl k),?_⟩;have w8:Blk h4 h1.size 35 (encTk (0,0,0)):=w8;refine xt0 3 15 (by kernel_rfl) rfl (OpX.storeBlk H.sz27 rfl rfl (k9.ext x4 (show ¬h2.size=h1.size by omega)) (by first|rfl|(simp;done)|(simp;omega)) (by first|decide|exact of_decide_eq_true rfl|(simp;done)|(simp;omega)) (lst_one st)) ?_;rintro _ h5 ⟨rfl,w9,x5,z5⟩;refine⟨fun hk=>(nomatch hk),?_⟩;refine xtq 4 31 (by kernel_rfl) rfl ?_;refine RD.done (by kernel_rfl) ?_;refine xu [0,1,2,3,7,8,9,10,27] rfl ?_;have w9:Blk h5 h2.size 27 (encLSt st):=w9;have w8:=w8.ext x5 (show ¬h1.size=h2.size by omega);refine G.retC Tryz.func25 rfl (.cons (ResOk.rowN H.ag35 H.sz35 rfl (w8.row) (by first|rfl|(simp;done)|(simp;omega))) (.cons (ResOk.rowN H.ag27 H.sz27 rfl (w9.row) (by first|rfl|(simp;done)|(simp;omega))) (.cons (ResOk.tmp rfl) (.nil)))) ?_;exact⟨_,rfl,rfl,Ext0.only (Ext0.only e03 x4 (by omega)) x5 (by omega)⟩
def eSt:Elt LSt:=.record 2 (by decide) encLSt (fun _=>rfl) lst_one
def eTk:Elt Tk:=.record 3 (by decide) encTk (fun _=>rfl) tk_one
def flat2 (l:List Tk):List Int:=l.flatMap fun t=>[t.1,t.2.2]
theorem ints_made (h:Heap) (xs:List Int) (t:TypeId) (n:Nat) (hn:xs.length=n) (hm:n≤maxLen):SlR (.int .i64) (h.push (.cells (xs.map (Value.int .i64)).toArray t)) (fun _=>False) (.slice (some ⟨h.size,0,none⟩) n n) xs :=
 OwE.read (h1:=fun _=>rfl) (OwE.made (Value.int .i64) h t xs n hn hm 0 (Nat.zero_le _) rfl) (fun _ _ k=>k)
end Go.Proofs.YtfegacfjgjaghaaGreatDoor
namespace Go.Proofs.YtfegacfjgjaghaaGreatDoor
open Go
section
variable {r:Nat}{a b:UInt8}
def leadP (c:Nat):Nat×Nat:=if c<128 then (1,c) else if 192≤c∧c<224 then (2,c-192) else if 224≤c∧c<240 then (3,c-224) else if 240≤c∧c<248 then (4,c-240) else (0,0)
def putP (r:Nat):By :=
 if 1114111<r∨(55296≤r∧r≤57343) then [] else if r<128 then [UInt8.ofNat r] else if r<2048 then [UInt8.ofNat (192+r / 64),UInt8.ofNat (128+r%64)]
 else if r<65536 then [UInt8.ofNat (224+r / 4096),UInt8.ofNat (128+r / 64%64),UInt8.ofNat (128+r%64)]
 else [UInt8.ofNat (240+r / 262144),UInt8.ofNat (128+r / 4096%64),UInt8.ofNat (128+r / 64%64),UInt8.ofNat (128+r%64)]
def moreP (r:Nat) (l:By):Nat:=l.foldl (fun r b=>r*64+b.toNat%64) r
def sayP (l:By):Nat:=moreP (leadP (l.getD 0 0).toNat).2 ((l.drop 1).take ((leadP (l.getD 0 0).toNat).1-1))
def nextP (l:By):Nat:=if 0<(leadP (l.getD 0 0).toNat).1∧(leadP (l.getD 0 0).toNat).1≤l.length∧putP (sayP l)=l.take (leadP (l.getD 0 0).toNat).1 then (leadP (l.getD 0 0).toNat).1 else 1
theorem u8of_eq (n:Nat) (hn:n<256) (b:UInt8):UInt8.ofNat n=b↔n=b.toNat:=by
 constructor
 · rintro rfl;rw[UInt8.toNat_ofNat'];omega
 · rintro rfl;simp
theorem put1:putP r=[a]↔r<128∧a.toNat=r:=by
 unfold putP
 repeat' split
 all_goals simp only[List.cons.injEq,and_true,reduceCtorEq,and_false,false_iff,List.nil_eq]
 all_goals first|(rw[u8of_eq _ (by omega)];omega)|omega
theorem put2:putP r=[a,b]↔(128≤r∧r<2048)∧a.toNat=192+r / 64∧b.toNat=128+r%64:=by
 unfold putP
 repeat' split
 all_goals simp only[List.cons.injEq,and_true,reduceCtorEq,and_false,false_iff,List.nil_eq]
 all_goals first|(rw[u8of_eq _ (by omega),u8of_eq _ (by omega)];omega)|omega
theorem put3 {c:UInt8}:putP r=[a,b,c]↔(2048≤r∧r<65536∧¬(55296≤r∧r≤57343))∧a.toNat=224+r / 4096∧b.toNat=128+r / 64%64∧c.toNat=128+r%64:=by
 unfold putP
 repeat' split
 all_goals simp only[List.cons.injEq,and_true,reduceCtorEq,and_false,false_iff,List.nil_eq]
 all_goals first|(rw[u8of_eq _ (by omega),u8of_eq _ (by omega),u8of_eq _ (by omega)];omega)|omega
theorem put4 {c d:UInt8}:putP r=[a,b,c,d]↔(65536≤r∧r≤1114111)∧a.toNat=240+r / 262144∧b.toNat=128+r / 4096%64∧c.toNat=128+r / 64%64∧d.toNat=128+r%64:=by
 unfold putP
 repeat' split
 all_goals simp only[List.cons.injEq,and_true,reduceCtorEq,and_false,false_iff,List.nil_eq]
 all_goals first|(rw[u8of_eq _ (by omega),u8of_eq _ (by omega),u8of_eq _ (by omega),u8of_eq _ (by omega)];omega)|omega
theorem rune_of (l:By) (n:Nat) (h:(Lib.decodeN l.length (l.getD 0 0).toNat (l.getD 1 0).toNat (l.getD 2 0).toNat (l.getD 3 0).toNat).2=n):runeN l=n:=h
theorem next_rune {l:By}(h:l≠[]):nextP l=runeN l:=by
 obtain⟨a,t,rfl⟩:=List.exists_cons_of_ne_nil h;have ha:=a.toNat_lt
 symm
 apply rune_of
 unfold nextP sayP;simp only[List.getD_cons_zero,List.drop_succ_cons,List.drop_zero,List.length_cons]
 rcases Nat.lt_or_ge a.toNat 128 with h1|h1
 · have hl:leadP a.toNat=(1,a.toNat):=by unfold leadP;rw[if_pos h1]
   rw[hl,if_pos ⟨by simp,by simp,put1.2 ⟨h1,rfl⟩⟩];unfold Lib.decodeN;rw[if_pos h1]
 rcases Nat.lt_or_ge a.toNat 192 with h2|h2
 · have hl:leadP a.toNat=(0,0):=by unfold leadP;rw[if_neg (by omega),if_neg (by omega),if_neg (by omega),if_neg (by omega)]
   rw[hl,if_neg (by simp)];unfold Lib.decodeN
   repeat' split
   all_goals first|rfl|(exfalso;omega)
 rcases Nat.lt_or_ge a.toNat 224 with h3|h3
 · have hl:leadP a.toNat=(2,a.toNat-192):=by unfold leadP;rw[if_neg (by omega),if_pos (by omega)]
   rw[hl];cases t with
   |nil =>
    rw[if_neg (by simp)];unfold Lib.decodeN
    repeat' split
    all_goals first|rfl|(exfalso;simp only[List.length_nil] at *;omega)
   |cons b t =>
    have hb:=b.toNat_lt;have e:(putP (moreP (a.toNat,a.toNat-192).2 ((b::t).take ((2,a.toNat-192).1-1)))=(a::b::t).take (2,a.toNat-192).1)=(putP ((a.toNat-192)*64+b.toNat%64)=[a,b]):=rfl;simp only[e,put2,List.length_cons,List.getD_cons_succ,List.getD_cons_zero];unfold Lib.decodeN
    repeat' split
    all_goals first|rfl|(exfalso;omega)
 rcases Nat.lt_or_ge a.toNat 240 with h4|h4
 · have hl:leadP a.toNat=(3,a.toNat-224):=by unfold leadP;rw[if_neg (by omega),if_neg (by omega),if_pos (by omega)]
   rw[hl]
   match t with
   | [] =>
    rw[if_neg (by simp)];unfold Lib.decodeN
    repeat' split
    all_goals first|rfl|(exfalso;simp only[List.length_nil] at *;omega)
   | [b] =>
    rw[if_neg (by simp)];unfold Lib.decodeN
    repeat' split
    all_goals first|rfl|(exfalso;simp only[List.length_nil,List.length_cons] at *;omega)
   |b::c::t =>
    have hb:=b.toNat_lt;have hc:=c.toNat_lt;have e:(putP (moreP (3,a.toNat-224).2 ((b::c::t).take ((3,a.toNat-224).1-1)))=(a::b::c::t).take (3,a.toNat-224).1)=(putP (((a.toNat-224)*64+b.toNat%64)*64+c.toNat%64)=[a,b,c]):=rfl;simp only[e,put3,List.length_cons,List.getD_cons_succ,List.getD_cons_zero];unfold Lib.decodeN
    repeat' split
    all_goals first|rfl|(exfalso;omega)
 rcases Nat.lt_or_ge a.toNat 248 with h5|h5
 · have hl:leadP a.toNat=(4,a.toNat-240):=by unfold leadP;rw[if_neg (by omega),if_neg (by omega),if_neg (by omega),if_pos (by omega)]
   rw[hl]
   match t with
   | [] =>
    rw[if_neg (by simp)];unfold Lib.decodeN
    repeat' split
    all_goals first|rfl|(exfalso;simp only[List.length_nil] at *;omega)
   | [b] =>
    rw[if_neg (by simp)];unfold Lib.decodeN
    repeat' split
    all_goals first|rfl|(exfalso;simp only[List.length_nil,List.length_cons] at *;omega)
   | [b,c] =>
    rw[if_neg (by simp)];unfold Lib.decodeN
    repeat' split
    all_goals first|rfl|(exfalso;simp only[List.length_nil,List.length_cons] at *;omega)
   |b::c::d::t =>
    have hb:=b.toNat_lt;have hc:=c.toNat_lt;have hd:=d.toNat_lt;have e:(putP (moreP (4,a.toNat-240).2 ((b::c::d::t).take ((4,a.toNat-240).1-1)))=(a::b::c::d::t).take (4,a.toNat-240).1)=(putP ((((a.toNat-240)*64+b.toNat%64)*64+c.toNat%64)*64+d.toNat%64)=[a,b,c,d]):=rfl;simp only[e,put4,List.length_cons,List.getD_cons_succ,List.getD_cons_zero];unfold Lib.decodeN
    repeat' split
    all_goals first|rfl|(exfalso;omega)
 · have hl:leadP a.toNat=(0,0):=by unfold leadP;rw[if_neg (by omega),if_neg (by omega),if_neg (by omega),if_neg (by omega)]
   rw[hl,if_neg (by simp)];unfold Lib.decodeN
   repeat' split
   all_goals first|rfl|(exfalso;omega)
def wordL:List By:=[[105,102],[101,108,115,101],[108,101,116],[105,110],[102,117,110],[116,114,117,101],[102,97,108,115,101],[97,110,100],[111,114],[110,111,116]]
theorem words_all:∀i,i<44→wordsB[i]? =some 32→(wordsB.drop (i+1)).takeWhile (fun b=>b !=32)=[]∨wordL.contains ((wordsB.drop (i+1)).takeWhile (fun b=>b !=32))=true:=by decide
theorem no_space {s:By}(h:Lib.contains s [32]=false):∀b∈s,(b !=32)=true:=fun b hb=>by
 obtain⟨j,hj,rfl⟩:=List.getElem_of_mem hb
 rcases Lib.index_spec s [32] with ⟨_,h2⟩|⟨i,h1,_⟩
 · have:=h2 j (by omega);unfold Lib.occAt at this;rw[List.drop_eq_getElem_cons hj] at this;simp only[List.isPrefixOf,Bool.and_true] at this;simp only[bne_iff_ne];intro e;rw[e] at this;cases this
 · unfold Lib.contains at h;rw[h1] at h;exact absurd (of_decide_eq_false h) (by simp)
theorem word_list (s:By):wordP s=wordL.contains s:=by
 rw[Bool.eq_iff_iff];constructor
 · intro h;unfold wordP at h;simp only[Bool.and_eq_true,decide_eq_true_eq,Bool.not_eq_true'] at h;obtain⟨h0,h1,h2⟩:=h;have hns:=no_space h1
   rcases Lib.index_spec wordsB (32::(s++[32])) with ⟨h3,_⟩|⟨i,h3,h4,h5,_⟩
   · unfold Lib.contains at h2;rw[h3] at h2;exact absurd h2 (by decide)
   · unfold Lib.occAt at h5;obtain⟨t,ht⟩:=List.isPrefixOf_iff_prefix.1 h5
     have hd:wordsB.drop (i+1)=s++(32::t):=by
      have:=congrArg List.tail ht;rw[List.tail_drop] at this;rw[←this];simp
     have htw:(wordsB.drop (i+1)).takeWhile (fun b=>b !=32)=s:=by
      rw[hd,List.takeWhile_append_of_pos hns];simp
     have hi : i < 44 := by have : wordsB.length = 42 := by decide
                            omega
     have hw:wordsB[i]? =some 32:=by
      have:=congrArg (fun z=>z[0]?) ht;simpa using this.symm
     rcases words_all i hi hw with h6|h6
     · rw[htw] at h6;exact absurd h6 h0
     · rwa [htw] at h6
 · intro h;have:∀w∈wordL,wordP w=true:=by decide +kernel
   exact this s (List.contains_iff_mem.1 h)
end
end Go.Proofs.YtfegacfjgjaghaaGreatDoor
namespace Go.Proofs.YtfegacfjgjaghaaGreatDoor
open Go Go.Lw
set_option maxRecDepth 20000
section
variable {h:Heap}{r acc o:Nat}
theorem ofR_calls (m:Int):CallsH Tryz.prog 55 #[.int .i64 m] h (Ret fun r h'=>SlR eBy h' (fun _=>False) r (rulesM m)∧Ext0 h h'):=by
 unfold rulesM;refine CallsH.of Tryz.func55 rfl rfl ?_;refine xrd Tryz.func55 1 [0,2] rfl ?_;refine G.seq rfl ?_;refine xrd Tryz.func55 1 [0,2,3] rfl ?_;refine G.block rfl rfl ?_;refine xrd Tryz.func55 2 [0,2,3,4] rfl ?_;refine G.ite rfl rfl (fun h0=>?_) (fun h0=>?_)
 · refine xr Tryz.func55 rfl ?_;refine xo rfl (OpX.buildOnes (us:=[_,_,_,_,_,_,_,_,_,_]) Tryz.underlying22 H.el9 rfl rfl (by decide) (by simp[Value.oneCell'])) ?_;rintro _ _ ⟨rfl,rfl⟩;refine xqd 1 [0,2,3,4] rfl ?_;refine G.ret Tryz.func55 rfl rfl ?_;exact⟨_,rfl,by rw[if_pos h0];exact lits rules0 10 rfl (by decide),Ext.push _ _ _⟩
 · refine xrd Tryz.func55 2 [0,2,3,4,7] rfl ?_;refine G.ite rfl rfl (fun h1=>?_) (fun h1=>?_)
   · refine xr Tryz.func55 rfl ?_;refine xo rfl (OpX.buildOnes (us:=[_,_,_,_]) Tryz.underlying22 H.el9 rfl rfl (by decide) (by simp[Value.oneCell'])) ?_;rintro _ _ ⟨rfl,rfl⟩;refine xqd 1 [0,2,3,4,7] rfl ?_;refine G.ret Tryz.func55 rfl rfl ?_;exact⟨_,rfl,by rw[if_neg h0,if_pos h1];exact lits rules1 4 rfl (by decide),Ext.push _ _ _⟩
   · refine xrd Tryz.func55 2 [0,2,3,4,7,10] rfl ?_;refine G.ite rfl rfl (fun h2=>?_) (fun h2=>?_)
     · refine xr Tryz.func55 rfl ?_;refine xo rfl (OpX.buildOnes (us:=[_,_,_,_]) Tryz.underlying22 H.el9 rfl rfl (by decide) (by simp[Value.oneCell'])) ?_;rintro _ _ ⟨rfl,rfl⟩;refine xqd 1 [0,2,3,4,7,10] rfl ?_;refine G.ret Tryz.func55 rfl rfl ?_;exact⟨_,rfl,by rw[if_neg h0,if_neg h1,if_pos h2];exact lits rules2 4 rfl (by decide),Ext.push _ _ _⟩
     · refine G.skip rfl ?_;refine G.blkEnd ?_;refine xrd Tryz.func55 1 [0,2,3,4,7,10] rfl ?_;refine G.ret Tryz.func55 rfl rfl ?_;exact⟨_,rfl,by rw[if_neg h0,if_neg h1,if_neg h2];exact SlR.nil _ _ _,Ext.refl _ _⟩
def kindQ (m n:Int):Int:=if n<0∨((rulesM m).length:Int)≤n then 0 else if m=0 then [1,2,3,5,11,11,9,7,8,6].getD n.toNat 0 else if m=2 then 11 else if n=1 then 10 else 9
theorem rulesM_len (m:Int):(rulesM m).length=(kindT m).length∧(rulesM m).length≤10∧((rulesM m).length=if m=0 then 10 else if m=1 then 4 else if m=2 then 4 else 0):=by
 unfold rulesM kindT;split
 · exact⟨rfl,by decide,rfl⟩
 · split
   · exact⟨rfl,by decide,rfl⟩
   · split
     · exact⟨rfl,by decide,rfl⟩
     · exact⟨rfl,by decide,rfl⟩
theorem find_none {m n:Int}(h:n<0∨((rulesM m).length:Int)≤n):findT m n=none:=by
 unfold findT;split
 · rfl
 · rw[List.getElem?_eq_none];rw[←(rulesM_len m).1];omega
theorem rule_is {m n:Int}(h:¬(n<0∨((rulesM m).length:Int)≤n)):(m=0∧(n=0∨n=1∨n=2∨n=3∨n=4∨n=5∨n=6∨n=7∨n=8∨n=9))∨(m=1∧(n=0∨n=1∨n=2∨n=3))∨(m=2∧(n=0∨n=1∨n=2∨n=3)):=by
 have hl:=(rulesM_len m).2.2
 by_cases h0:m=0
 · rw[if_pos h0] at hl;omega
 · by_cases h1:m=1
   · rw[if_neg h0,if_pos h1] at hl;omega
   · by_cases h2:m=2
     · rw[if_neg h0,if_neg h1,if_pos h2] at hl;omega
     · rw[if_neg h0,if_neg h1,if_neg h2] at hl;omega
theorem kindQ_eq (m n:Int):kindQ m n=kindP m n:=by
 unfold kindQ
 by_cases h:n<0∨((rulesM m).length:Int)≤n
 · rw[if_pos h,kindP,find_none h]
 · rw[if_neg h]
   rcases rule_is h with ⟨rfl,k⟩|⟨rfl,k⟩|⟨rfl,k⟩
   · rcases k with rfl|rfl|rfl|rfl|rfl|rfl|rfl|rfl|rfl|rfl<;>rfl
   · rcases k with rfl|rfl|rfl|rfl<;>rfl
   · rcases k with rfl|rfl|rfl|rfl<;>rfl
theorem kindR_calls (m n:Int):CallsH Tryz.prog 58 #[.int .i64 m,.int .i64 n] h (Ret fun r h'=>r= .int .i64 (kindP m n)∧Ext0 h h'):=by
 rw[←kindQ_eq];unfold kindQ;refine CallsH.of Tryz.func58 rfl rfl ?_;refine xrd Tryz.func58 1 [0,1,4] rfl ?_;refine xr Tryz.func58 rfl ?_;refine xo rfl (OpX.buildOnes (us:=[_,_,_,_,_,_,_,_,_,_]) Tryz.underlying76 H.el3 rfl rfl (by decide) (by simp[Value.oneCell'])) ?_;rintro _ _ ⟨rfl,rfl⟩;refine xqd 1 [0,1,4,5] rfl ?_;refine G.seq rfl ?_;refine G.seq rfl ?_;have m1:=ints_made h [1,2,3,5,11,11,9,7,8,6] 3 10 rfl (by decide);have e1:Ext0 h (h.push (.cells (([1,2,3,5,11,11,9,7,8,6]:List Int).map (Value.int .i64)).toArray 3)):=Ext.push _ _ _;refine G.regToX (fun(_u:Unit) (h':Heap)=>Ext0 (h.push (.cells (([1,2,3,5,11,11,9,7,8,6]:List Int).map (Value.int .i64)).toArray 3)) h') (fun(_u:Unit)=>[(15,.bool (decide (n<0∨((rulesM m).length:Int)≤n)))]) [(0,_),(1,_),(4,_),(5,_)] ⟨rfl,rfl,rfl,rfl,trivial⟩ Tryz.func58 rfl ?_ ?_
 · refine xqm 3 rfl ?_;refine RW.split (d:=9) rfl (fun c1=>?_) (fun c1=>?_)
   · have c1':=of_decide_eq_true c1;refine xqm 6 rfl ?_;refine RW.done rfl ?_;exact⟨(),Ext.refl _ _,at_bool rfl (by rw[decide_eq_true (Or.inl c1')]),rfl,rfl,rfl,rfl,trivial⟩
   · have c1':=of_decide_eq_false c1;refine xqm 2 rfl ?_;refine xo rfl (OpX.call (vs:=[_]) Tryz.func55 rfl H.nm55 rfl (CallsH.toX (ofR_calls m))) ?_;rintro _ h2 ⟨hv,e2⟩;obtain⟨oa,kn,kc,rfl,hsl⟩:=hv.open;have hkl:=hsl.len;refine xp rfl (OpP.lenSlice Tryz.underlying22 rfl) ?_;refine xqm 2 rfl ?_;refine RW.done rfl ?_;exact⟨(),e2,at_bool rfl (by rw[decide_eq_decide];omega),rfl,rfl,rfl,rfl,trivial⟩
 · rintro _ h2 e2;refine G.ite rfl rfl (fun hz=>?_) (fun hz=>?_)
   · rw[if_pos hz];refine xrd Tryz.func58 1 [0,1,4,5,15] rfl ?_;refine G.ret Tryz.func58 rfl rfl ?_;exact⟨_,rfl,rfl,e1.trans e2⟩
   · rw[if_neg hz];have hn0:0≤n:=by omega
     obtain⟨k,rfl⟩:=Int.eq_ofNat_of_zero_le hn0;refine G.skip rfl ?_;refine G.seq rfl ?_;refine xrd Tryz.func58 2 [0,1,4,5,15,17] rfl ?_;refine G.ite rfl rfl (fun h0=>?_) (fun h0=>?_)
     · subst h0;have hk:k<10:=by have:=(rulesM_len 0).2.1;omega
       obtain⟨oa,kn,kc,hv,q⟩:=(m1.ext0 e2).open;cases hv;obtain⟨b,o,x,ha,_,hx,hc⟩:=q.at hk;cases ha;refine xra Tryz.func58 2 rfl ?_;refine xp rfl (OpP.indexSlice Tryz.underlying76 H.sz3 rfl rfl k rfl rfl (by omega)) ?_;refine xp rfl (OpP.load H.ag3 rfl hc) ?_;refine xqd 1 [0,1,4,5,15,17] rfl ?_;refine G.ret Tryz.func58 rfl rfl ?_;exact⟨_,rfl,by rw[if_pos rfl,List.getD_eq_getElem?_getD];show _=Value.int .i64 ((_:Option Int).getD 0);rw[show ((k:Nat):Int).toNat=k from rfl,hx];rfl,e1.trans e2⟩
     · rw[if_neg h0];refine G.skip rfl ?_;refine G.seq rfl ?_;refine xrd Tryz.func58 2 [0,1,4,5,15,17,23] rfl ?_;refine G.ite rfl rfl (fun h2=>?_) (fun h2=>?_)
       · refine xrd Tryz.func58 1 [0,1,4,5,15,17,23] rfl ?_;refine G.ret Tryz.func58 rfl rfl ?_;exact⟨_,rfl,by rw[if_pos h2];rfl,e1.trans e2⟩
       · rw[if_neg h2];refine G.skip rfl ?_;refine G.seq rfl ?_;refine xrd Tryz.func58 2 [0,1,4,5,15,17,23,25] rfl ?_;refine G.ite rfl rfl (fun h3=>?_) (fun h3=>?_)
         · refine xrd Tryz.func58 1 [0,1,4,5,15,17,23,25] rfl ?_;refine G.ret Tryz.func58 rfl rfl ?_;exact⟨_,rfl,by rw[if_pos h3];rfl,e1.trans e2⟩
         · refine G.skip rfl ?_;refine xrd Tryz.func58 1 [0,1,4,5,15,17,23,25] rfl ?_;refine G.ret Tryz.func58 rfl rfl ?_;exact⟨_,rfl,by rw[if_neg h3];rfl,e1.trans e2⟩
theorem wordR_calls (s:By):CallsH Tryz.prog 31 #[.string (bs s)] h (Ret fun r h'=>r= .bool (wordP s)∧Ext0 h h'):=by
 rw[word_list];refine CallsH.of Tryz.func31 rfl rfl ?_;refine xrd Tryz.func31 1 [0,2] rfl ?_;refine xr Tryz.func31 rfl ?_;refine xo rfl (OpX.buildOnes (us:=[_,_,_,_,_,_,_,_,_,_]) Tryz.underlying22 H.el9 rfl rfl (by decide) (by simp[Value.oneCell'])) ?_;rintro _ _ ⟨rfl,rfl⟩;refine xqd 1 [0,2,3] rfl ?_;refine G.seq rfl ?_;refine xrd Tryz.func31 1 [0,2,3,4] rfl ?_;refine G.block rfl rfl ?_;have m1:=lits (h:=h) wordL 10 rfl (by decide);have e1:Ext0 h (h.push (.cells (wordL.map fun s=>Value.string (bs s)).toArray 9)):=Ext.push _ _ _;refine G.loop (σ:=Nat) (fun i=>[(0,.string (bs s)),(3,.slice (some ⟨h.size,0,none⟩) 10 10),(4,.int .i64 (i:Nat))]) (fun i h'=>h'=h.push (.cells (wordL.map fun s=>Value.string (bs s)).toArray 9)∧i≤10∧∀j w,j<i→wordL[j]? =some w→w≠s) (fun i=>10-i) (0) rfl ⟨rfl,rfl,rfl,trivial⟩ ⟨rfl,Nat.zero_le _,fun j w hj=>by omega⟩ ?_;rintro i g ⟨hgq,hi,hin⟩ ih;rw[←hgq] at m1 e1;obtain⟨oa,kn,kc,hv,q⟩:=m1.open;cases hv;refine G.seq rfl ?_;refine xra Tryz.func31 2 rfl ?_;refine xp rfl (OpP.lenSlice Tryz.underlying22 rfl) ?_;refine xqd 1 [0,3,4,9] rfl ?_;refine G.ite rfl rfl (fun hlt=>?_) (fun hlt=>?_)
 · have hi10:i<10:=by omega
   obtain⟨b,o,x,ha,_,hx,hc⟩:=q.at hi10;cases ha;refine G.skip rfl ?_;refine G.seq rfl ?_;refine G.block rfl rfl ?_;refine xra Tryz.func31 3 rfl ?_;refine xp rfl (OpP.indexSlice Tryz.underlying22 H.sz9 rfl rfl i rfl rfl (by omega)) ?_;refine xp rfl (OpP.load H.ag9 rfl hc) ?_;refine xp rfl (OpP.eqlStr rfl rfl) ?_;refine xd [0,3,4,9,17] rfl ?_;refine G.ite rfl rfl (fun he=>?_) (fun he=>?_)
   · have he':x=s:=(bs_inj he).symm;refine xrd Tryz.func31 1 [0,2,3,4,9,17] rfl ?_;refine G.ret Tryz.func31 rfl rfl ?_;exact⟨_,rfl,by rw[List.contains_iff_mem.2 (he'▸List.mem_of_getElem? hx)];rfl,e1⟩
   · have he':x≠s:=fun k=>he (by rw[k])
     have hnext:∀j w,j<i+1→i≤j→wordL[j]? =some w→w≠s:=fun j w h1 h2 hw=>by
      obtain rfl:j=i:=by omega
      rw[hx] at hw;cases hw;exact he'
     refine G.skip rfl ?_;refine G.blkEnd ?_;refine G.reg Tryz.func31 rfl ?_;refine xqp 1 rfl rfl (OpP.add64 rfl rfl ⟨by omega,by omega⟩) ?_;refine xqd 1 [0,3,4,9,17] rfl ?_;exact ih (i+1) _ _ ⟨rfl,rfl,rfl,trivial⟩ ⟨hgq,by omega,fun j w hj hw=>by rcases Nat.lt_or_ge j i with k|k;exact hin j w k hw;exact hnext j w hj k hw⟩ (by omega)
 · obtain rfl:i=10:=by omega
   refine G.exit rfl rfl ?_;refine xrd Tryz.func31 1 [0,2,3,4,9] rfl ?_;refine G.ret Tryz.func31 rfl rfl ?_;exact⟨_,rfl,by rw[show wordL.contains s=false from by rw[←Bool.not_eq_true,List.contains_iff_mem];intro hm;obtain⟨j,hj,hjs⟩:=List.getElem_of_mem hm;exact hin j s (show j<10 from hj) (by rw[List.getElem?_eq_getElem hj,hjs]) rfl];rfl,e1⟩
def afterQ (s:LSt) (n:Int):LSt :=
 if n<0∨((rulesM s.1).length:Int)≤n then s else if s.1=0∧n=6 then (1,0) else if s.1=1∧n=2 then (0,0)
 else if (s.1=0∧n=5)∨(s.1=2∧n=0) then (if s.2<0 then (2,1) else (2,(if (16383:Int)<s.2 then 16383 else s.2)+1)) else if s.1=2∧n=1 then (if s.2<2 then (0,0) else (2,s.2-1)) else s
theorem afterQ_eq (s:LSt) (n:Int):afterQ s n=afterP s n:=by
 obtain⟨m,d⟩:=s;unfold afterQ
 by_cases h:n<0∨((rulesM m).length:Int)≤n
 · rw[if_pos h,afterP,find_none h]
 · rw[if_neg h]
   rcases rule_is h with ⟨rfl,k⟩|⟨rfl,k⟩|⟨rfl,k⟩
   · rcases k with rfl|rfl|rfl|rfl|rfl|rfl|rfl|rfl|rfl|rfl<;>first|rfl|skip
     have:afterP (0,d) 5=(2,min (max d 0) 16383+1):=rfl;rw[this];simp only[reduceCtorEq];rw[if_neg (by decide),if_neg (by decide),if_pos (.inl (by decide))];split
     · congr 1;omega
     · split
       · congr 1;omega
       · congr 1;omega
   · rcases k with rfl|rfl|rfl|rfl<;>rfl
   · rcases k with rfl|rfl|rfl|rfl<;>first|rfl|skip
     · have:afterP (2,d) 0=(2,min (max d 0) 16383+1):=rfl;rw[this,if_neg (by simp),if_neg (by simp),if_pos (.inr (by simp))];split
       · congr 1;omega
       · split
         · congr 1;omega
         · congr 1;omega
     · have:afterP (2,d) 1=if 1<d then (2,d-1) else (0,0):=by
        simp[afterP,findT,kindT]
       rw[this,if_neg (by simp),if_neg (by simp),if_neg (by simp),if_pos (by simp)];split
       · rw[if_neg (by simp only at *;omega)]
       · rw[if_pos (by simp only at *;omega)]
theorem afterR_calls (s:LSt) (n:Int) (hs:I64 s.2):CallsH Tryz.prog 59 #[.agg (encLSt s).toArray,.int .i64 n] h (Ret fun r h'=>r= .agg (encLSt (afterP s n)).toArray∧Ext0 h h'):=by
 rw[←afterQ_eq];obtain⟨m,d⟩:=s;obtain⟨hd1,hd2⟩:=hs;simp only at hd1 hd2;unfold afterQ;simp only;refine CallsH.of Tryz.func59 rfl rfl ?_;refine xr Tryz.func59 rfl ?_;refine xo rfl (OpX.boxN rfl) ?_;rintro _ h1 ⟨rfl,k1,e1,z1⟩;refine xo rfl (OpX.allocN H.zr27) ?_;rintro _ h2 ⟨rfl,k2,e2,z2⟩;have k1:Blk h1 h.size 27 (encLSt (m,d)):=k1;have k2:Blk h2 h1.size 27 (encLSt (0,0)):=k2;have e02:=e1.trans e2;have q1:=k1.ext0 e2;have hz1:=e1.size;refine xd [0,1,2,4] rfl ?_;refine G.seq rfl ?_;refine G.seq rfl ?_;refine G.regToX (fun(_u:Unit) (h':Heap)=>Ext0 h2 h') (fun(_u:Unit)=>[(14,.bool (decide (n<0∨((rulesM m).length:Int)≤n)))]) [(0,_),(1,_),(2,_),(4,_)] ⟨rfl,rfl,rfl,rfl,trivial⟩ Tryz.func59 rfl ?_ ?_
 · refine xqm 3 rfl ?_;refine RW.split (d:=7) rfl (fun c1=>?_) (fun c1=>?_)
   · have c1':=of_decide_eq_true c1;refine xqm 7 rfl ?_;refine RW.done rfl ?_;exact⟨(),Ext.refl _ _,at_bool rfl (by rw[decide_eq_true (Or.inl c1')]),rfl,rfl,rfl,rfl,trivial⟩
   · have c1':=of_decide_eq_false c1;refine xqp 1 rfl rfl (OpP.fieldAddr (off:=0) Tryz.underlying27 rfl rfl H.sz3 rfl) ?_;refine xp rfl (OpP.load H.ag3 rfl (q1.cell (i:=0) rfl)) ?_;refine xo rfl (OpX.call (vs:=[_]) Tryz.func55 rfl H.nm55 rfl (CallsH.toX (ofR_calls m))) ?_;rintro _ h3 ⟨hv,e3⟩;obtain⟨oa,kn,kc,rfl,hsl⟩:=hv.open;have hkl:=hsl.len;refine xp rfl (OpP.lenSlice Tryz.underlying22 rfl) ?_;refine xqm 2 rfl ?_;refine RW.done rfl ?_;exact⟨(),e3,at_bool rfl (by rw[decide_eq_decide];omega),rfl,rfl,rfl,rfl,trivial⟩
 · rintro _ h3 e3;have q1:=q1.ext0 e3;have q2:=k2.ext0 e3;have e03:=e02.trans e3;have hz2:=e2.size;have hz3:=e3.size;have hout:∀{g:Heap},Ext (fun b=>b=h1.size) h3 g→Ext0 h g:=fun e=>Ext0.only e03 e hz1
   refine G.ite rfl rfl (fun c0=>?_) (fun c0=>?_)
   · rw[if_pos c0];refine xr Tryz.func59 rfl ?_;refine xp rfl (OpP.loadRowN H.ag27 H.sz27 rfl q1.row (by first|rfl|(simp;done)|(simp;omega))) ?_;refine RW.op0 rfl rfl rfl (OpX.storeBlk H.sz27 rfl rfl q2 (by first|rfl|(simp;done)|(simp;omega)) (by first|decide|exact of_decide_eq_true rfl|(simp;done)|(simp;omega)) (lst_one (m,d))) ?_;rintro _ h4 ⟨rfl,k4,x4,z4⟩;refine xd [0,1,2,4,14] rfl ?_;have k4:Blk h4 h1.size 27 (encLSt (m,d)):=k4;refine G.retC Tryz.func59 rfl (.cons (ResOk.rowN H.ag27 H.sz27 rfl (k4.row) (by first|rfl|(simp;done)|(simp;omega))) (.nil)) ?_;exact⟨_,rfl,rfl,hout x4⟩
   · rw[if_neg c0];refine G.skip rfl ?_;refine G.seq rfl ?_;refine G.seq rfl ?_;refine G.regTo1 [(22,.bool (decide (m=0∧n=6)))] [(0,_),(1,_),(2,_),(4,_),(14,_)] ⟨rfl,rfl,rfl,rfl,rfl,trivial⟩ Tryz.func59 rfl ?_ ?_
     · refine xp rfl (OpP.fieldAddr (off:=0) Tryz.underlying27 rfl rfl H.sz3 rfl) ?_;refine xp rfl (OpP.load H.ag3 rfl (q1.cell (i:=0) rfl)) ?_;refine xqm 2 rfl ?_;refine RW.split (d:=19) rfl (fun c1=>?_) (fun c1=>?_)
       · have c1':m=0:=of_decide_eq_true c1;refine xqm 3 rfl ?_;refine RW.done rfl ?_;exact⟨rfl,at_bool rfl (by simp[c1']),rfl,rfl,rfl,rfl,rfl,trivial⟩
       · have c1':¬m=0:=of_decide_eq_false c1;refine xqm 3 rfl ?_;refine RW.done rfl ?_;exact⟨rfl,at_bool rfl (by simp[c1']),rfl,rfl,rfl,rfl,rfl,trivial⟩
     · refine G.ite rfl rfl (fun c2=>?_) (fun c2=>?_)
       · rw[if_pos c2];refine xr Tryz.func59 rfl ?_;refine xp rfl (OpP.build (H.bd27_0 _) rfl) ?_;refine RW.op0 rfl rfl rfl (OpX.storeBlk H.sz27 rfl rfl q2 (by first|rfl|(simp;done)|(simp;omega)) (by first|decide|exact of_decide_eq_true rfl|(simp;done)|(simp;omega)) (lst_one (1,0))) ?_;rintro _ h4 ⟨rfl,k4,x4,z4⟩;refine xd [0,1,2,4,14,22] rfl ?_;have k4:Blk h4 h1.size 27 (encLSt (1,0)):=k4;refine G.retC Tryz.func59 rfl (.cons (ResOk.rowN H.ag27 H.sz27 rfl (k4.row) (by first|rfl|(simp;done)|(simp;omega))) (.nil)) ?_;exact⟨_,rfl,rfl,hout x4⟩
       · rw[if_neg c2];refine G.skip rfl ?_;refine G.seq rfl ?_;refine G.seq rfl ?_;refine G.regTo1 [(30,.bool (decide (m=1∧n=2)))] [(0,_),(1,_),(2,_),(4,_),(14,_),(22,_)] ⟨rfl,rfl,rfl,rfl,rfl,rfl,trivial⟩ Tryz.func59 rfl ?_ ?_
         · refine xp rfl (OpP.fieldAddr (off:=0) Tryz.underlying27 rfl rfl H.sz3 rfl) ?_;refine xp rfl (OpP.load H.ag3 rfl (q1.cell (i:=0) rfl)) ?_;refine xqm 2 rfl ?_;refine RW.split (d:=27) rfl (fun c1=>?_) (fun c1=>?_)
           · have c1':m=1:=of_decide_eq_true c1;refine xqm 3 rfl ?_;refine RW.done rfl ?_;exact⟨rfl,at_bool rfl (by simp[c1']),rfl,rfl,rfl,rfl,rfl,rfl,trivial⟩
           · have c1':¬m=1:=of_decide_eq_false c1;refine xqm 3 rfl ?_;refine RW.done rfl ?_;exact⟨rfl,at_bool rfl (by simp[c1']),rfl,rfl,rfl,rfl,rfl,rfl,trivial⟩
         · refine G.ite rfl rfl (fun c3=>?_) (fun c3=>?_)
           · rw[if_pos c3];refine xr Tryz.func59 rfl ?_;refine xp rfl (OpP.build (H.bd27_ ) rfl) ?_;refine RW.op0 rfl rfl rfl (OpX.storeBlk H.sz27 rfl rfl q2 (by first|rfl|(simp;done)|(simp;omega)) (by first|decide|exact of_decide_eq_true rfl|(simp;done)|(simp;omega)) (lst_one (0,0))) ?_;rintro _ h4 ⟨rfl,k4,x4,z4⟩;refine xd [0,1,2,4,14,22,30] rfl ?_;have k4:Blk h4 h1.size 27 (encLSt (0,0)):=k4;refine G.retC Tryz.func59 rfl (.cons (ResOk.rowN H.ag27 H.sz27 rfl (k4.row) (by first|rfl|(simp;done)|(simp;omega))) (.nil)) ?_;exact⟨_,rfl,rfl,hout x4⟩
           · rw[if_neg c3];refine G.skip rfl ?_;refine G.seq rfl ?_;refine G.seq rfl ?_;refine G.regTo1 [(47,.bool (decide ((m=0∧n=5)∨(m=2∧n=0))))] [(0,_),(1,_),(2,_),(4,_),(14,_),(22,_),(30,_)] ⟨rfl,rfl,rfl,rfl,rfl,rfl,rfl,trivial⟩ Tryz.func59 rfl ?_ ?_
             · refine xp rfl (OpP.fieldAddr (off:=0) Tryz.underlying27 rfl rfl H.sz3 rfl) ?_;refine xp rfl (OpP.load H.ag3 rfl (q1.cell (i:=0) rfl)) ?_;refine xqm 2 rfl ?_;refine RW.split (d:=35) rfl (fun c4=>?_) (fun c4=>?_)
               · have c4':m=0:=of_decide_eq_true c4;refine xqm 4 rfl ?_;refine RW.split (d:=39) rfl (fun c5=>?_) (fun c5=>?_)
                 · have c5':n=5:=of_decide_eq_true c5;refine xqm 8 rfl ?_;refine RW.done rfl ?_;exact⟨rfl,at_bool rfl (by simp[c4',c5']),rfl,rfl,rfl,rfl,rfl,rfl,rfl,trivial⟩
                 · have c5':¬n=5:=of_decide_eq_false c5;refine xp rfl (OpP.fieldAddr (off:=0) Tryz.underlying27 rfl rfl H.sz3 rfl) ?_;refine xp rfl (OpP.load H.ag3 rfl (q1.cell (i:=0) rfl)) ?_;refine xqm 2 rfl ?_;refine RW.know (d:=43) (b':=false) rfl (by simp[c4']) ?_;refine xqm 4 rfl ?_;refine RW.done rfl ?_;exact⟨rfl,at_bool rfl (by simp[c4',c5']),rfl,rfl,rfl,rfl,rfl,rfl,rfl,trivial⟩
               · have c4':¬m=0:=of_decide_eq_false c4;refine xqp 4 rfl rfl (OpP.fieldAddr (off:=0) Tryz.underlying27 rfl rfl H.sz3 rfl) ?_;refine xp rfl (OpP.load H.ag3 rfl (q1.cell (i:=0) rfl)) ?_;refine xqm 2 rfl ?_;refine RW.split (d:=43) rfl (fun c5=>?_) (fun c5=>?_)
                 · have c5':m=2:=of_decide_eq_true c5;refine xqm 4 rfl ?_;refine RW.done rfl ?_;exact⟨rfl,at_bool rfl (by simp[c5']),rfl,rfl,rfl,rfl,rfl,rfl,rfl,trivial⟩
                 · have c5':¬m=2:=of_decide_eq_false c5;refine xqm 4 rfl ?_;refine RW.done rfl ?_;exact⟨rfl,at_bool rfl (by simp[c4',c5']),rfl,rfl,rfl,rfl,rfl,rfl,rfl,trivial⟩
             · refine G.ite rfl rfl (fun c4=>?_) (fun c4=>?_)
               · rw[if_pos c4];refine G.seq rfl ?_;refine xr Tryz.func59 rfl ?_;refine xp rfl (OpP.fieldAddr (off:=1) Tryz.underlying27 rfl rfl H.sz3 rfl) ?_;refine xp rfl (OpP.load H.ag3 rfl (q1.cell (i:=1) rfl)) ?_;refine xqd 1 [0,1,2,4,14,22,30,47,50] rfl ?_;refine G.ite rfl rfl (fun c5=>?_) (fun c5=>?_)
                 · rw[if_pos c5];refine xr Tryz.func59 rfl ?_;refine xp rfl (OpP.build (H.bd27_0_1 _ _) rfl) ?_;refine RW.op0 rfl rfl rfl (OpX.storeBlk H.sz27 rfl rfl q2 (by first|rfl|(simp;done)|(simp;omega)) (by first|decide|exact of_decide_eq_true rfl|(simp;done)|(simp;omega)) (lst_one (2,1))) ?_;rintro _ h4 ⟨rfl,k4,x4,z4⟩;refine xd [0,1,2,4,14,22,30,47,50] rfl ?_;have k4:Blk h4 h1.size 27 (encLSt (2,1)):=k4;refine G.retC Tryz.func59 rfl (.cons (ResOk.rowN H.ag27 H.sz27 rfl (k4.row) (by first|rfl|(simp;done)|(simp;omega))) (.nil)) ?_;exact⟨_,rfl,rfl,hout x4⟩
                 · rw[if_neg c5];have hmx:(if (16383:Int)<d then 16383 else d)≤16383:=by split<;>omega
                   have hmn:0≤(if (16383:Int)<d then 16383 else d):=by split<;>omega
                   refine G.skip rfl ?_;refine xr Tryz.func59 rfl ?_;refine xp rfl (OpP.fieldAddr (off:=1) Tryz.underlying27 rfl rfl H.sz3 rfl) ?_;refine xp rfl (OpP.load H.ag3 rfl (q1.cell (i:=1) rfl)) ?_;refine xp rfl (OpP.min2 rfl rfl) ?_;refine xp rfl (OpP.add64 rfl rfl ⟨by omega,by omega⟩) ?_;refine xp rfl (OpP.build (H.bd27_0_1 _ _) rfl) ?_;refine RW.op0 rfl rfl rfl (OpX.storeBlk H.sz27 rfl rfl q2 (by first|rfl|(simp;done)|(simp;omega)) (by first|decide|exact of_decide_eq_true rfl|(simp;done)|(simp;omega)) (by first|decide|simp[Value.oneCell'])) ?_;rintro _ h4 ⟨rfl,k4,x4,z4⟩;refine xd [0,1,2,4,14,22,30,47,50] rfl ?_;have k4:Blk h4 h1.size 27 (encLSt (2,(if (16383:Int)<d then 16383 else d)+1)):=k4;refine G.retC Tryz.func59 rfl (.cons (ResOk.rowN H.ag27 H.sz27 rfl (k4.row) (by first|rfl|(simp;done)|(simp;omega))) (.nil)) ?_;exact⟨_,rfl,rfl,hout x4⟩
               · rw[if_neg c4];refine G.skip rfl ?_;refine G.seq rfl ?_;refine G.seq rfl ?_;refine G.regTo1 [(63,.bool (decide (m=2∧n=1)))] [(0,_),(1,_),(2,_),(4,_),(14,_),(22,_),(30,_),(47,_)] ⟨rfl,rfl,rfl,rfl,rfl,rfl,rfl,rfl,trivial⟩ Tryz.func59 rfl ?_ ?_
                 · refine xp rfl (OpP.fieldAddr (off:=0) Tryz.underlying27 rfl rfl H.sz3 rfl) ?_;refine xp rfl (OpP.load H.ag3 rfl (q1.cell (i:=0) rfl)) ?_;refine xqm 2 rfl ?_;refine RW.split (d:=60) rfl (fun c1=>?_) (fun c1=>?_)
                   · have c1':m=2:=of_decide_eq_true c1;refine xqm 3 rfl ?_;refine RW.done rfl ?_;exact⟨rfl,at_bool rfl (by simp[c1']),rfl,rfl,rfl,rfl,rfl,rfl,rfl,rfl,trivial⟩
                   · have c1':¬m=2:=of_decide_eq_false c1;refine xqm 3 rfl ?_;refine RW.done rfl ?_;exact⟨rfl,at_bool rfl (by simp[c1']),rfl,rfl,rfl,rfl,rfl,rfl,rfl,rfl,trivial⟩
                 · refine G.ite rfl rfl (fun c6=>?_) (fun c6=>?_)
                   · rw[if_pos c6];refine G.seq rfl ?_;refine xr Tryz.func59 rfl ?_;refine xp rfl (OpP.fieldAddr (off:=1) Tryz.underlying27 rfl rfl H.sz3 rfl) ?_;refine xp rfl (OpP.load H.ag3 rfl (q1.cell (i:=1) rfl)) ?_;refine xqd 1 [0,1,2,4,14,22,30,47,63,66] rfl ?_;refine G.ite rfl rfl (fun c5=>?_) (fun c5=>?_)
                     · rw[if_pos c5];refine xr Tryz.func59 rfl ?_;refine xp rfl (OpP.build (H.bd27_ ) rfl) ?_;refine RW.op0 rfl rfl rfl (OpX.storeBlk H.sz27 rfl rfl q2 (by first|rfl|(simp;done)|(simp;omega)) (by first|decide|exact of_decide_eq_true rfl|(simp;done)|(simp;omega)) (lst_one (0,0))) ?_;rintro _ h4 ⟨rfl,k4,x4,z4⟩;refine xd [0,1,2,4,14,22,30,47,63,66] rfl ?_;have k4:Blk h4 h1.size 27 (encLSt (0,0)):=k4;refine G.retC Tryz.func59 rfl (.cons (ResOk.rowN H.ag27 H.sz27 rfl (k4.row) (by first|rfl|(simp;done)|(simp;omega))) (.nil)) ?_;exact⟨_,rfl,rfl,hout x4⟩
                     · rw[if_neg c5];refine G.skip rfl ?_;refine xr Tryz.func59 rfl ?_;refine xp rfl (OpP.fieldAddr (off:=1) Tryz.underlying27 rfl rfl H.sz3 rfl) ?_;refine xp rfl (OpP.load H.ag3 rfl (q1.cell (i:=1) rfl)) ?_;refine xp rfl (OpP.sub64 rfl rfl ⟨by omega,by omega⟩) ?_;refine xp rfl (OpP.build (H.bd27_0_1 _ _) rfl) ?_;refine RW.op0 rfl rfl rfl (OpX.storeBlk H.sz27 rfl rfl q2 (by first|rfl|(simp;done)|(simp;omega)) (by first|decide|exact of_decide_eq_true rfl|(simp;done)|(simp;omega)) (by first|decide|simp[Value.oneCell'])) ?_;rintro _ h4 ⟨rfl,k4,x4,z4⟩;refine xd [0,1,2,4,14,22,30,47,63,66] rfl ?_;have k4:Blk h4 h1.size 27 (encLSt (2,d-1)):=k4;refine G.retC Tryz.func59 rfl (.cons (ResOk.rowN H.ag27 H.sz27 rfl (k4.row) (by first|rfl|(simp;done)|(simp;omega))) (.nil)) ?_;exact⟨_,rfl,rfl,hout x4⟩
                   · rw[if_neg c6];refine G.skip rfl ?_;refine xr Tryz.func59 rfl ?_;refine xp rfl (OpP.loadRowN H.ag27 H.sz27 rfl q1.row (by first|rfl|(simp;done)|(simp;omega))) ?_;refine RW.op0 rfl rfl rfl (OpX.storeBlk H.sz27 rfl rfl q2 (by first|rfl|(simp;done)|(simp;omega)) (by first|decide|exact of_decide_eq_true rfl|(simp;done)|(simp;omega)) (lst_one (m,d))) ?_;rintro _ h4 ⟨rfl,k4,x4,z4⟩;refine xd [0,1,2,4,14,22,30,47,63] rfl ?_;have k4:Blk h4 h1.size 27 (encLSt (m,d)):=k4;refine G.retC Tryz.func59 rfl (.cons (ResOk.rowN H.ag27 H.sz27 rfl (k4.row) (by first|rfl|(simp;done)|(simp;omega))) (.nil)) ?_;exact⟨_,rfl,rfl,hout x4⟩
theorem wrap_i32 {i:Int}(h : -2147483648≤i∧i≤2147483647):IntKind.i32.wrap i=i:=by
 have h1:(2:Int) ^ 32=4294967296:=by decide
 have h2:(2:Int) ^ 31=2147483648:=by decide
 simp only[IntKind.wrap,IntKind.bits,IntKind.signed,Bool.true_and,decide_eq_true_eq,Nat.reduceSub,h1,h2];split<;>omega
theorem leadP_lt (c:UInt8):(leadP c.toNat).1≤4∧(leadP c.toNat).2<128∧(1<(leadP c.toNat).1→(leadP c.toNat).2<32)∧(2<(leadP c.toNat).1→(leadP c.toNat).2<16)∧(3<(leadP c.toNat).1→(leadP c.toNat).2<8):=by
 have hc:=c.toNat_lt;unfold leadP
 repeat' split
 all_goals simp only
 all_goals omega
theorem begin_calls (c:UInt8):CallsH Tryz.prog 83 #[.int .u8 (c.toNat:Nat)] h (Ret fun r h'=>r= .tuple #[.int .i64 (leadP c.toNat).1,.int .i32 (leadP c.toNat).2]∧h'=h):=by
 have hc:=c.toNat_lt;generalize c.toNat=n at *;unfold leadP;refine CallsH.of Tryz.func83 rfl rfl ?_;refine xrd Tryz.func83 2 [0,2,3] rfl ?_;refine G.seq rfl ?_;refine G.block rfl rfl ?_;refine xrd Tryz.func83 3 [0,2,3,4] rfl ?_;refine G.ite rfl rfl (fun h0=>?_) (fun h0=>?_)
 · refine xra Tryz.func83 1 rfl ?_;refine xp rfl (OpP.convIn Tryz.underlying5 Tryz.underlying21 rfl (wrap_i32 (i:=(n:Int)) (by omega))) ?_;refine xqd 2 [0,2,3,4] rfl ?_;refine G.ret Tryz.func83 rfl rfl ?_;exact⟨_,rfl,by rw[if_pos (by omega)];rfl,rfl⟩
 · rw[if_neg (show ¬n<128 by omega)];refine G.seq rfl ?_;refine G.regTo1 [(9,.bool (decide (192≤n∧n<224)))] [(0,_),(2,_),(3,_),(4,_)] ⟨rfl,rfl,rfl,rfl,trivial⟩ Tryz.func83 rfl ?_ ?_
   · refine xqm 3 rfl ?_;refine RW.split (d:=12) rfl (fun c1=>?_) (fun c1=>?_)
     · have c1':=of_decide_eq_true c1;refine xqm 4 rfl ?_;refine RW.done rfl ?_;exact⟨rfl,at_bool rfl (by rw[decide_eq_decide];omega),rfl,rfl,rfl,rfl,trivial⟩
     · have c1':=of_decide_eq_false c1;refine xqm 4 rfl ?_;refine RW.done rfl ?_;exact⟨rfl,at_bool rfl (by rw[decide_eq_false];omega),rfl,rfl,rfl,rfl,trivial⟩
   · refine G.ite rfl rfl (fun h1=>?_) (fun h1=>?_)
     · rw[if_pos h1];refine xra Tryz.func83 1 rfl ?_;refine xp rfl (OpP.sub rfl rfl) ?_;refine xp rfl (OpP.convIn Tryz.underlying5 Tryz.underlying21 rfl (wrap_i32  (by rw[wrap_u8 (by omega)];omega))) ?_;refine xqd 2 [0,2,3,4,9] rfl ?_;refine G.ret Tryz.func83 rfl rfl ?_;exact⟨_,rfl,by rw[show IntKind.u8.wrap ((n:Int)-192)=((n-192:Nat):Int) by rw[wrap_u8 (by omega)];omega];rfl,rfl⟩
     · rw[if_neg h1];refine G.seq rfl ?_;refine G.regTo1 [(19,.bool (decide (224≤n∧n<240)))] [(0,_),(2,_),(3,_),(4,_),(9,_)] ⟨rfl,rfl,rfl,rfl,rfl,trivial⟩ Tryz.func83 rfl ?_ ?_
       · refine xqm 3 rfl ?_;refine RW.split (d:=22) rfl (fun c1=>?_) (fun c1=>?_)
         · have c1':=of_decide_eq_true c1;refine xqm 4 rfl ?_;refine RW.done rfl ?_;exact⟨rfl,at_bool rfl (by rw[decide_eq_decide];omega),rfl,rfl,rfl,rfl,rfl,trivial⟩
         · have c1':=of_decide_eq_false c1;refine xqm 4 rfl ?_;refine RW.done rfl ?_;exact⟨rfl,at_bool rfl (by rw[decide_eq_false];omega),rfl,rfl,rfl,rfl,rfl,trivial⟩
       · refine G.ite rfl rfl (fun h2=>?_) (fun h2=>?_)
         · rw[if_pos h2];refine xra Tryz.func83 1 rfl ?_;refine xp rfl (OpP.sub rfl rfl) ?_;refine xp rfl (OpP.convIn Tryz.underlying5 Tryz.underlying21 rfl (wrap_i32  (by rw[wrap_u8 (by omega)];omega))) ?_;refine xqd 2 [0,2,3,4,9,19] rfl ?_;refine G.ret Tryz.func83 rfl rfl ?_;exact⟨_,rfl,by rw[show IntKind.u8.wrap ((n:Int)-224)=((n-224:Nat):Int) by rw[wrap_u8 (by omega)];omega];rfl,rfl⟩
         · rw[if_neg h2];refine G.seq rfl ?_;refine G.regTo1 [(29,.bool (decide (240≤n∧n<248)))] [(0,_),(2,_),(3,_),(4,_),(9,_),(19,_)] ⟨rfl,rfl,rfl,rfl,rfl,rfl,trivial⟩ Tryz.func83 rfl ?_ ?_
           · refine xqm 3 rfl ?_;refine RW.split (d:=32) rfl (fun c1=>?_) (fun c1=>?_)
             · have c1':=of_decide_eq_true c1;refine xqm 4 rfl ?_;refine RW.done rfl ?_;exact⟨rfl,at_bool rfl (by rw[decide_eq_decide];omega),rfl,rfl,rfl,rfl,rfl,rfl,trivial⟩
             · have c1':=of_decide_eq_false c1;refine xqm 4 rfl ?_;refine RW.done rfl ?_;exact⟨rfl,at_bool rfl (by rw[decide_eq_false];omega),rfl,rfl,rfl,rfl,rfl,rfl,trivial⟩
           · refine G.ite rfl rfl (fun h3=>?_) (fun h3=>?_)
             · rw[if_pos h3];refine xra Tryz.func83 1 rfl ?_;refine xp rfl (OpP.sub rfl rfl) ?_;refine xp rfl (OpP.convIn Tryz.underlying5 Tryz.underlying21 rfl (wrap_i32  (by rw[wrap_u8 (by omega)];omega))) ?_;refine xqd 2 [0,2,3,4,9,19,29] rfl ?_;refine G.ret Tryz.func83 rfl rfl ?_;exact⟨_,rfl,by rw[show IntKind.u8.wrap ((n:Int)-240)=((n-240:Nat):Int) by rw[wrap_u8 (by omega)];omega];rfl,rfl⟩
             · rw[if_neg h3];refine G.skip rfl ?_;refine G.blkEnd ?_;refine xrd Tryz.func83 2 [0,2,3,4,9,19,29] rfl ?_;refine G.ret Tryz.func83 rfl rfl ?_;exact⟨_,rfl,rfl,rfl⟩
theorem ofNat_int {n:Nat}(h:n<256):((UInt8.ofNat n).toNat:Int)=n:=by rw[UInt8.toNat_ofNat'];omega
theorem tdiv_nat (r q:Nat):(r:Int).tdiv (q:Int)=((r / q:Nat):Int):=by
 rw[Int.tdiv_eq_ediv_of_nonneg (by omega)];exact(Int.natCast_ediv r q).symm
theorem e_lead (hr:r<2147483648) (B Q:Int) (b q:Nat) (hB:B=b) (hQ:Q=q) (hlt:b+r / q<256):IntKind.u8.wrap (B+IntKind.u8.wrap (IntKind.i32.wrap ((r:Int).tdiv Q)))=((UInt8.ofNat (b+r / q)).toNat:Int):=by
 subst hB hQ;have:=Nat.div_le_self r q;rw[ofNat_int hlt,tdiv_nat];generalize r / q=x at *;rw[wrap_i32 (by omega),wrap_u8 (i:=(x:Int)) (by omega),wrap_u8 (by omega)];omega
theorem e_mid (hr:r<2147483648) (Q:Int) (q:Nat) (hQ:Q=q):IntKind.u8.wrap (128+IntKind.u8.wrap (Int.tmod (IntKind.i32.wrap ((r:Int).tdiv Q)) 64))=((UInt8.ofNat (128+r / q%64)).toNat:Int):=by
 subst hQ;have:=Nat.div_le_self r q;rw[ofNat_int (by omega),tdiv_nat];generalize r / q=x at *;rw[wrap_i32 (by omega),Int.tmod_eq_emod_of_nonneg (by omega),wrap_u8 (i:=(x:Int)%64) (by omega),wrap_u8 (by omega)];omega
theorem e_last:IntKind.u8.wrap (128+IntKind.u8.wrap (Int.tmod (r:Int) 64))=((UInt8.ofNat (128+r%64)).toNat:Int):=by
 rw[ofNat_int (by omega),Int.tmod_eq_emod_of_nonneg (by omega),wrap_u8 (i:=(r:Int)%64) (by omega),wrap_u8 (by omega)];omega
theorem e_one (hr:r<256):IntKind.u8.wrap (r:Int)=((UInt8.ofNat r).toNat:Int):=by
 rw[ofNat_int hr,wrap_u8 (by omega)]
theorem bytes_made (h:Heap) (t:TypeId) (xs:By) (n:Nat) (hn:xs.length=n) (hm:n≤maxLen){us:List Value}(hu:us=xs.map fun b=>Value.int .u8 b.toNat):SlR .byte (h.push (.cells us.toArray t)) (fun _=>False) (.slice (some ⟨h.size,0,none⟩) n n) xs :=
 OwE.read (h1:=fun _=>rfl) (OwE.made (fun b:UInt8=>Value.int .u8 b.toNat) h t xs n hn hm 0 (Nat.zero_le _) hu) (fun _ _ k=>k)
theorem put_calls (r:Nat) (hr:r<2147483648):CallsH Tryz.prog 84 #[.int .i32 (r:Nat)] h (Ret fun v h'=>v= .string (bs (putP r))∧Ext0 h h'):=by
 unfold putP;refine CallsH.of Tryz.func84 rfl rfl ?_;refine xrd Tryz.func84 1 [0,2] rfl ?_;refine G.seq rfl ?_;refine G.seq rfl ?_;refine G.regTo1 [(16,.bool (decide (1114111<r∨(55296≤r∧r≤57343))))] [(0,_),(2,_)] ⟨rfl,rfl,trivial⟩ Tryz.func84 rfl ?_ ?_
 · refine xqm 3 rfl ?_;refine RW.know (d:=5) (b':=false) rfl (by simp) ?_;refine xqm 4 rfl ?_;refine RW.split (d:=9) rfl (fun c2=>?_) (fun c2=>?_)
   · have c2':=of_decide_eq_true c2;refine xqm 7 rfl ?_;refine RW.done rfl ?_;exact⟨rfl,at_bool rfl (by rw[decide_eq_true];omega),rfl,rfl,trivial⟩
   · have c2':=of_decide_eq_false c2;refine xqm 3 rfl ?_;refine RW.split (d:=12) rfl (fun c3=>?_) (fun c3=>?_)
     · have c3':=of_decide_eq_true c3;refine xqm 4 rfl ?_;refine RW.done rfl ?_;exact⟨rfl,at_bool rfl (by rw[decide_eq_decide];omega),rfl,rfl,trivial⟩
     · have c3':=of_decide_eq_false c3;refine xqm 4 rfl ?_;refine RW.done rfl ?_;exact⟨rfl,at_bool rfl (by rw[decide_eq_false];omega),rfl,rfl,trivial⟩
 · refine G.ite rfl rfl (fun c1=>?_) (fun c1=>?_)
   · rw[if_pos c1];refine xrd Tryz.func84 1 [0,2,16] rfl ?_;refine G.ret Tryz.func84 rfl rfl ?_;exact⟨_,rfl,rfl,Ext.refl _ _⟩
   · rw[if_neg c1];refine G.skip rfl ?_;refine G.seq rfl ?_;refine xrd Tryz.func84 2 [0,2,16,18] rfl ?_;refine G.ite rfl rfl (fun c2=>?_) (fun c2=>?_)
     · rw[if_pos (show r<128 by omega)];refine xra Tryz.func84 1 rfl ?_;refine xp rfl (OpP.convInt Tryz.underlying21 Tryz.underlying5 rfl) ?_;refine xo rfl (OpX.buildOnes (us:=[_]) Tryz.underlying33 H.el5 rfl rfl (by decide) (by simp[Value.oneCell'])) ?_;rintro _ _ ⟨rfl,rfl⟩;refine xp rfl (OpP.convBytes Tryz.underlying33 Tryz.underlying5 Tryz.underlying9 rfl (bytes_made h 5 [UInt8.ofNat r] 1 rfl (by decide) (by rw[e_one (show r<256 by omega)];rfl))) ?_;refine xqd 1 [0,2,16,18] rfl ?_;refine G.ret Tryz.func84 rfl rfl ?_;exact⟨_,rfl,rfl,Ext.push _ _ _⟩
     · rw[if_neg (show ¬r<128 by omega)];refine G.skip rfl ?_;refine G.seq rfl ?_;refine xrd Tryz.func84 2 [0,2,16,18,24] rfl ?_;refine G.ite rfl rfl (fun c3=>?_) (fun c3=>?_)
       · rw[if_pos (show r<2048 by omega)];refine xra Tryz.func84 1 rfl ?_;refine xp rfl (OpP.quo rfl rfl (by decide)) ?_;refine xp rfl (OpP.convInt Tryz.underlying21 Tryz.underlying5 rfl) ?_;refine xp rfl (OpP.add rfl rfl) ?_;refine xqp 1 rfl rfl (OpP.rem rfl rfl (by decide)) ?_;refine xp rfl (OpP.convInt Tryz.underlying21 Tryz.underlying5 rfl) ?_;refine xp rfl (OpP.add rfl rfl) ?_;refine xo rfl (OpX.buildOnes (us:=[_,_]) Tryz.underlying33 H.el5 rfl rfl (by decide) (by simp[Value.oneCell'])) ?_;rintro _ _ ⟨rfl,rfl⟩;refine xp rfl (OpP.convBytes Tryz.underlying33 Tryz.underlying5 Tryz.underlying9 rfl (bytes_made h 5 [UInt8.ofNat (192+r / 64),UInt8.ofNat (128+r%64)] 2 rfl (by decide) (by rw[e_lead hr 192 64 192 64 rfl rfl (by omega),e_last];rfl))) ?_;refine xqd 1 [0,2,16,18,24] rfl ?_;refine G.ret Tryz.func84 rfl rfl ?_;exact⟨_,rfl,rfl,Ext.push _ _ _⟩
       · rw[if_neg (show ¬r<2048 by omega)];refine G.skip rfl ?_;refine G.seq rfl ?_;refine xrd Tryz.func84 2 [0,2,16,18,24,36] rfl ?_;refine G.ite rfl rfl (fun c4=>?_) (fun c4=>?_)
         · rw[if_pos (show r<65536 by omega)];refine xra Tryz.func84 1 rfl ?_;refine xp rfl (OpP.quo rfl rfl (by decide)) ?_;refine xp rfl (OpP.convInt Tryz.underlying21 Tryz.underlying5 rfl) ?_;refine xp rfl (OpP.add rfl rfl) ?_;refine xqp 1 rfl rfl (OpP.quo rfl rfl (by decide)) ?_;refine xp rfl (OpP.rem rfl rfl (by decide)) ?_;refine xp rfl (OpP.convInt Tryz.underlying21 Tryz.underlying5 rfl) ?_;refine xp rfl (OpP.add rfl rfl) ?_;refine xqp 1 rfl rfl (OpP.rem rfl rfl (by decide)) ?_;refine xp rfl (OpP.convInt Tryz.underlying21 Tryz.underlying5 rfl) ?_;refine xp rfl (OpP.add rfl rfl) ?_;refine xo rfl (OpX.buildOnes (us:=[_,_,_]) Tryz.underlying33 H.el5 rfl rfl (by decide) (by simp[Value.oneCell'])) ?_;rintro _ _ ⟨rfl,rfl⟩;refine xp rfl (OpP.convBytes Tryz.underlying33 Tryz.underlying5 Tryz.underlying9 rfl (bytes_made h 5 [UInt8.ofNat (224+r / 4096),UInt8.ofNat (128+r / 64%64),UInt8.ofNat (128+r%64)] 3 rfl (by decide) (by rw[e_lead hr 224 4096 224 4096 rfl rfl (by omega),e_mid hr 64 64 rfl,e_last];rfl))) ?_;refine xqd 1 [0,2,16,18,24,36] rfl ?_;refine G.ret Tryz.func84 rfl rfl ?_;exact⟨_,rfl,rfl,Ext.push _ _ _⟩
         · rw[if_neg (show ¬r<65536 by omega)];refine G.skip rfl ?_;refine xra Tryz.func84 1 rfl ?_;refine xp rfl (OpP.quo rfl rfl (by decide)) ?_;refine xp rfl (OpP.convInt Tryz.underlying21 Tryz.underlying5 rfl) ?_;refine xp rfl (OpP.add rfl rfl) ?_;refine xqp 1 rfl rfl (OpP.quo rfl rfl (by decide)) ?_;refine xp rfl (OpP.rem rfl rfl (by decide)) ?_;refine xp rfl (OpP.convInt Tryz.underlying21 Tryz.underlying5 rfl) ?_;refine xp rfl (OpP.add rfl rfl) ?_;refine xqp 1 rfl rfl (OpP.quo rfl rfl (by decide)) ?_;refine xp rfl (OpP.rem rfl rfl (by decide)) ?_;refine xp rfl (OpP.convInt Tryz.underlying21 Tryz.underlying5 rfl) ?_;refine xp rfl (OpP.add rfl rfl) ?_;refine xqp 1 rfl rfl (OpP.rem rfl rfl (by decide)) ?_;refine xp rfl (OpP.convInt Tryz.underlying21 Tryz.underlying5 rfl) ?_;refine xp rfl (OpP.add rfl rfl) ?_;refine xo rfl (OpX.buildOnes (us:=[_,_,_,_]) Tryz.underlying33 H.el5 rfl rfl (by decide) (by simp[Value.oneCell'])) ?_;rintro _ _ ⟨rfl,rfl⟩;refine xp rfl (OpP.convBytes Tryz.underlying33 Tryz.underlying5 Tryz.underlying9 rfl (bytes_made h 5 [UInt8.ofNat (240+r / 262144),UInt8.ofNat (128+r / 4096%64),UInt8.ofNat (128+r / 64%64),UInt8.ofNat (128+r%64)] 4 rfl (by decide) (by rw[e_lead hr 240 262144 240 262144 rfl rfl (by omega),e_mid hr 4096 4096 rfl,e_mid hr 64 64 rfl,e_last];rfl))) ?_;refine xqd 1 [0,2,16,18,24,36] rfl ?_;refine G.ret Tryz.func84 rfl rfl ?_;exact⟨_,rfl,rfl,Ext.push _ _ _⟩
theorem moreP_lt:∀(l:By) (r:Nat),moreP r l<(r+1)*64 ^ l.length
 | [],r=>by simp[moreP]
 |b::l,r=>by
  have ih:=moreP_lt l (r*64+b.toNat%64);have e:moreP r (b::l)=moreP (r*64+b.toNat%64) l:=rfl;rw[e,List.length_cons,Nat.pow_succ];have h1:(r*64+b.toNat%64+1)*64 ^ l.length≤((r+1)*64)*64 ^ l.length:=Nat.mul_le_mul_right _ (by omega);have h2:((r+1)*64)*64 ^ l.length=(r+1)*(64 ^ l.length*64):=by rw[Nat.mul_assoc,Nat.mul_comm 64]
  omega
theorem and63:∀n:Nat,n<256→IntKind.u8.wrap ((BitVec.ofInt IntKind.u8.bits (n:Int) &&& BitVec.ofInt IntKind.u8.bits 63).toNat:Int)=((n%64:Nat):Int):=by decide +kernel
theorem next_r (b:UInt8) (hr:r*64+63<2147483648):IntKind.i32.wrap (IntKind.i32.wrap ((r:Int)*64)+IntKind.i32.wrap (IntKind.u8.wrap ((BitVec.ofInt IntKind.u8.bits (b.toNat:Int) &&& BitVec.ofInt IntKind.u8.bits 63).toNat:Int)))=((r*64+b.toNat%64:Nat):Int):=by
 rw[and63 _ b.toNat_lt,wrap_i32 (i:=((b.toNat%64:Nat):Int)) (by omega),wrap_i32 (i:=(r:Int)*64) (by omega),wrap_i32 (by omega)];omega
theorem moreP_take (r:Nat) (l:By) (i:Nat) (b:UInt8) (h:l[i]? =some b):moreP r (l.take (i+1))=moreP r (l.take i)*64+b.toNat%64:=by
 unfold moreP;rw[List.take_add_one,h,List.foldl_append];rfl
theorem nextR_calls (s:By) (k:Nat) (hk:k<s.length) (hs:s.length≤1000000):CallsH Tryz.prog 57 #[.string (bs s),.int .i64 (k:Nat)] h (Ret fun r h'=>(∃(x:Int) (ok:Bool),r= .tuple #[.int .i32 x,.int .i64 (nextP (s.drop k):Nat),.bool ok])∧Ext0 h h'):=by
 have hbs:=bs_size s;obtain⟨c,hc⟩:∃c,s[k]? =some c:=⟨_,List.getElem?_eq_getElem hk⟩
 have hd0:(s.drop k).getD 0 0=c:=by rw[List.getD_eq_getElem?_getD,List.getElem?_drop,Nat.add_zero,hc];rfl
 have hll:=leadP_lt c;unfold nextP sayP;rw[hd0];refine CallsH.of Tryz.func57 rfl rfl ?_;refine xrd Tryz.func57 3 [0,1,4,5,6] rfl ?_;refine G.seq rfl ?_;refine G.seq rfl ?_;refine G.regTo1 [(18,.bool false)] [(0,_),(1,_),(4,_),(5,_),(6,_)] ⟨rfl,rfl,rfl,rfl,rfl,trivial⟩ Tryz.func57 rfl ?_ ?_
 · refine xqm 3 rfl ?_;refine RW.know (d:=13) (b':=false) rfl (by simp) ?_;refine xqp 2 rfl rfl (OpP.lenString Tryz.underlying9 rfl) ?_;refine xqm 2 rfl ?_;refine RW.done rfl ?_;exact⟨rfl,at_bool rfl (by simp;omega),rfl,rfl,rfl,rfl,rfl,trivial⟩
 · refine G.cond rfl rfl (fun hc=>absurd hc (by decide)) (fun _=>?_);refine G.skip rfl ?_;refine xra Tryz.func57 2 rfl ?_;refine xp rfl (OpP.indexStr Tryz.underlying9 rfl rfl k rfl (bs_at hc)) ?_;refine xo rfl (OpX.call (vs:=[_]) Tryz.func83 rfl H.nm83 rfl (CallsH.toX (begin_calls c))) ?_;rintro _ h1 ⟨rfl,hh1⟩;refine xqd 5 [0,1,4,5,6,7,8,18] rfl ?_;refine G.seq rfl ?_;refine xrd Tryz.func57 1 [0,1,4,5,6,7,8,9,18] rfl ?_;refine G.block rfl rfl ?_;subst hh1;obtain⟨n,r0,hlead⟩:∃n r0,leadP c.toNat=(n,r0):=⟨_,_,rfl⟩
   rw[hlead] at hll ⊢;simp only at hll ⊢;obtain⟨hn4,hr128,hr2,hr3,hr4⟩:=hll;generalize hrest:(s.drop k).drop 1=rest;have hrl:rest.length=s.length-k-1:=by rw[←hrest,List.length_drop,List.length_drop]
   have hra:∀i b,rest[i]? =some b→s[k+(i+1)]? =some b:=fun i b hb=>by
    rw[←hrest,List.getElem?_drop,List.getElem?_drop] at hb;rw[←hb];congr 1;omega
   have hml:∀j,j+1≤n∨j=0→moreP r0 (rest.take j)<2097152:=fun j hj=>by
    have h1:=moreP_lt (rest.take j) r0;have h2:(rest.take j).length≤j:=by rw[List.length_take];omega
    have h3:64 ^ (rest.take j).length≤64 ^ j:=Nat.pow_le_pow_right (by decide) h2;have h4:(r0+1)*64 ^ (rest.take j).length≤(r0+1)*64 ^ j:=Nat.mul_le_mul_left _ h3
    have h5:(r0+1)*64 ^ j≤2097152:=by
     have:j=0∨j=1∨j=2∨j=3:=by omega
     rcases this with rfl|rfl|rfl|rfl
     · omega
     · omega
     · omega
     · omega
    omega
   refine G.loop (σ:=Nat) (fun q=>[(0,.string (bs s)),(1,.int .i64 (k:Nat)),(7,.int .i64 (n:Nat)),(8,.int .i32 (moreP r0 (rest.take q):Nat)),(9,.int .i64 ((q+1:Nat):Int))]) (fun q h'=>h'=h1∧(q+1≤n∨q=0)∧q≤rest.length) (fun q=>10-q) (0) rfl ⟨rfl,rfl,rfl,rfl,rfl,trivial⟩ ⟨rfl,.inr rfl,Nat.zero_le _⟩ ?_;rintro q g ⟨rfl,hq,hqr⟩ ih;have hmq:=hml q hq;refine G.seq rfl ?_;refine G.seq rfl ?_;refine G.regTo1 [(36,.bool (decide (q+1<n∧q<rest.length)))] [(0,_),(1,_),(7,_),(8,_),(9,_)] ⟨rfl,rfl,rfl,rfl,rfl,trivial⟩ Tryz.func57 rfl ?_ ?_
   · refine xqm 4 rfl ?_;refine RW.split (d:=29) rfl (fun c1=>?_) (fun c1=>?_)
     · have c1':=of_decide_eq_true c1;refine xqp 2 rfl rfl (OpP.lenString Tryz.underlying9 rfl) ?_;refine xqp 1 rfl rfl (OpP.sub64 rfl rfl ⟨by omega,by omega⟩) ?_;refine xqm 2 rfl ?_;refine RW.done rfl ?_;exact⟨rfl,at_bool rfl (by rw[decide_eq_decide];omega),rfl,rfl,rfl,rfl,rfl,trivial⟩
     · have c1':=of_decide_eq_false c1;refine xqm 7 rfl ?_;refine RW.done rfl ?_;exact⟨rfl,at_bool rfl (by rw[decide_eq_false];omega),rfl,rfl,rfl,rfl,rfl,trivial⟩
   · refine G.ite rfl rfl (fun hlt=>?_) (fun hlt=>?_)
     · obtain⟨hlt1,hlt2⟩:=hlt;obtain⟨b,hb⟩:∃b,rest[q]? =some b:=⟨_,List.getElem?_eq_getElem hlt2⟩
       have hbl:=b.toNat_lt;have hmt:=moreP_take r0 rest q b hb;have hm1:=hml (q+1) (.inl (by omega));generalize moreP r0 (rest.take q)=r at *;rw[hmt] at hm1;have hr64:r*64+63<2147483648:=by omega
       refine G.skip rfl ?_;refine G.seq rfl ?_;refine G.block rfl rfl ?_;refine G.reg Tryz.func57 rfl ?_;refine xqp 1 rfl rfl (OpP.mul rfl rfl) ?_;refine xqp 3 rfl rfl (OpP.add64 rfl rfl ⟨by omega,by omega⟩) ?_;refine xp rfl (OpP.indexStr Tryz.underlying9 rfl rfl (k+(q+1)) (by omega) (bs_at (hra q b hb))) ?_;refine xp rfl (OpP.bits_and rfl rfl) ?_;refine xp rfl (OpP.convInt Tryz.underlying5 Tryz.underlying21 rfl) ?_;refine xp rfl (OpP.add rfl rfl) ?_;refine xqd 1 [0,1,7,8,9,36] rfl ?_;refine G.blkEnd ?_;refine G.reg Tryz.func57 rfl ?_;refine xqp 1 rfl rfl (OpP.add64 rfl rfl ⟨by omega,by omega⟩) ?_;refine xqd 1 [0,1,7,8,9,36] rfl ?_;rw[next_r b hr64,←hmt];exact ih (q+1) _ _ ⟨rfl,rfl,rfl,rfl,rfl,trivial⟩ ⟨rfl,.inl (by omega),by omega⟩ (by omega)
     · refine G.exit rfl rfl ?_;refine xra Tryz.func57 1 rfl ?_;refine xo rfl (OpX.call (vs:=[_]) Tryz.func84 rfl H.nm84 rfl (CallsH.toX (put_calls (moreP r0 (rest.take q)) (by omega)))) ?_;rintro _ h2 ⟨rfl,e2⟩;have hdl:(s.drop k).length=rest.length+1:=by rw[hrl,List.length_drop];omega
       have hcond:(0<n∧n≤(s.drop k).length∧putP (moreP r0 (rest.take q))=(s.drop k).take n)↔(0<n∧n≤(s.drop k).length∧putP (moreP r0 (rest.take (n-1)))=(s.drop k).take n):=by
        constructor
        · rintro⟨h1,h2,h3⟩;have:n-1=q:=by omega
          rw[this];exact⟨h1,h2,h3⟩
        · rintro⟨h1,h2,h3⟩;have:n-1=q:=by omega
          rw[this] at h3;exact⟨h1,h2,h3⟩
       generalize moreP r0 (rest.take q)=r at *;refine xqd 1 [0,1,7,8,9,10,36] rfl ?_;refine G.seq rfl ?_;refine G.seq rfl ?_;refine G.regTo1 [(70,.bool (decide (0<n∧n≤(s.drop k).length∧putP r=(s.drop k).take n)))] [(0,_),(1,_),(7,_),(8,_),(9,_),(10,_),(36,_)] ⟨rfl,rfl,rfl,rfl,rfl,rfl,rfl,trivial⟩ Tryz.func57 rfl ?_ ?_
       · refine xqm 3 rfl ?_;refine RW.split (d:=53) rfl (fun c1=>?_) (fun c1=>?_)
         · have c1':(0:Int)<(n:Nat):=of_decide_eq_true c1;refine xqp 2 rfl rfl (OpP.lenString Tryz.underlying9 rfl) ?_;refine xqp 1 rfl rfl (OpP.sub64 rfl rfl ⟨by omega,by omega⟩) ?_;refine xqm 3 rfl ?_;refine RW.split (d:=61) rfl (fun c2=>?_) (fun c2=>?_)
           · have c2':((n:Nat):Int)≤(s.length:Nat)-(k:Nat):=of_decide_eq_true (by simpa [hbs] using c2);refine xqp 5 rfl rfl (OpP.add64 rfl rfl ⟨by omega,by omega⟩) ?_;refine xp rfl (OpP.sliceStr Tryz.underlying9 rfl rfl k rfl rfl (k+n) rfl (by omega) (by omega)) ?_;refine xp rfl (OpP.eqlStr rfl rfl) ?_;refine xqm 1 rfl ?_;have hcut:(bs s).extract k (k+n)=bs ((s.drop k).take n):=by rw[bs_part s k (k+n) (by omega),List.drop_take,Nat.add_sub_cancel_left]
             rw[hcut];refine RW.done rfl ?_;exact⟨rfl,at_bool rfl (by rw[decide_eq_decide];exact⟨fun h=>⟨by omega,by omega,bs_inj h⟩,fun h=>by rw[h.2.2]⟩),rfl,rfl,rfl,rfl,rfl,rfl,rfl,trivial⟩
           · have c2':¬((n:Nat):Int)≤(s.length:Nat)-(k:Nat):=of_decide_eq_false (by simpa [hbs] using c2);refine xqm 9 rfl ?_;refine RW.done rfl ?_;exact⟨rfl,at_bool rfl (by rw[decide_eq_false];omega),rfl,rfl,rfl,rfl,rfl,rfl,rfl,trivial⟩
         · have c1':¬(0:Int)<(n:Nat):=of_decide_eq_false c1;refine xqm 17 rfl ?_;refine RW.done rfl ?_;exact⟨rfl,at_bool rfl (by rw[decide_eq_false];omega),rfl,rfl,rfl,rfl,rfl,rfl,rfl,trivial⟩
       · refine G.ite rfl rfl (fun hz=>?_) (fun hz=>?_)
         · refine xrd Tryz.func57 5 [0,1,4,5,6,7,8,9,10,36,70] rfl ?_;refine G.ret Tryz.func57 rfl rfl ?_;rw[if_pos (hcond.1 hz)];exact⟨_,rfl,⟨_,_,rfl⟩,e2⟩
         · refine G.skip rfl ?_;refine xrd Tryz.func57 3 [0,1,4,5,6,7,8,9,10,36,70] rfl ?_;refine G.ret Tryz.func57 rfl rfl ?_;rw[if_neg (fun h=>hz (hcond.2 h))];exact⟨_,rfl,⟨_,_,rfl⟩,e2⟩
theorem specR_calls (x:UInt8):CallsH Tryz.prog 149 #[.int .u8 (x.toNat:Nat)] h (Ret fun r h'=>r= .bool (decide (x∈specialB))∧h'=h):=by
 refine CallsH.of Tryz.func149 rfl rfl ?_;refine xrd Tryz.func149 1 [0,2] rfl ?_;refine xrd Tryz.func149 1 [0,2,3] rfl ?_;refine G.seq rfl ?_;refine xrd Tryz.func149 1 [0,2,3,4] rfl ?_;refine G.block rfl rfl ?_;refine G.loop (σ:=Nat) (fun i=>[(0,.int .u8 (x.toNat:Nat)),(3,.string (bs specialB)),(4,.int .i64 i)]) (fun i h'=>h'=h∧i≤12∧x∉specialB.take i) (fun i=>12-i) (0) rfl ⟨rfl,rfl,rfl,trivial⟩ ⟨rfl,by decide,by simp⟩ ?_;rintro i h1 ⟨rfl,hi,hno⟩ ih;have hz:(bs specialB).size=12:=rfl;refine G.seq rfl ?_;refine xra Tryz.func149 2 rfl ?_;refine xp rfl (OpP.lenString Tryz.underlying9 rfl) ?_;refine xqd 1 [0,3,4,8] rfl ?_;refine G.ite rfl rfl (fun hlt=>?_) (fun hlt=>?_)
 · have hlt':i<specialB.length:=by show i<12;omega
   have hat:specialB[i]? =some specialB[i]:=List.getElem?_eq_getElem hlt';refine G.skip rfl ?_;refine G.seq rfl ?_;refine G.block rfl rfl ?_;refine xra Tryz.func149 2 rfl ?_;refine xp rfl (OpP.indexStr Tryz.underlying9 rfl rfl i rfl (bs_at hat)) ?_;refine xqd 2 [0,3,4,8,15] rfl ?_;refine G.ite rfl rfl (fun he=>?_) (fun he=>?_)
   · have he:specialB[i]=x:=(u8_is rfl).1 he;refine xrd Tryz.func149 1 [0,2,3,4,8,15] rfl ?_;refine G.ret Tryz.func149 rfl rfl ?_;exact⟨_,rfl,by rw[show decide (x∈specialB)=true by rw[←he];simp];rfl,rfl⟩
   · have he:¬specialB[i]=x:=fun e=>he ((u8_is rfl).2 e)
     refine G.skip rfl ?_;refine G.blkEnd ?_;refine G.reg Tryz.func149 rfl ?_;refine xqp 1 rfl rfl (OpP.add64 rfl rfl ⟨by omega,by omega⟩) ?_;refine xqd 1 [0,3,4,8,15] rfl ?_;exact ih (i+1) _ _ ⟨rfl,rfl,rfl,trivial⟩ ⟨rfl,by omega,by rw[List.take_add_one,hat];simp only[List.mem_append,not_or];exact⟨hno,by simp;exact fun e=>he e.symm⟩⟩ (by omega)
 · obtain rfl:i=12:=by omega
   have hno:x∉specialB:=hno;refine G.exit rfl rfl ?_;refine xrd Tryz.func149 1 [0,2,3,4,8] rfl ?_;refine G.ret Tryz.func149 rfl rfl ?_;exact⟨_,rfl,by rw[show decide (x∈specialB)=false by simp[hno]];rfl,rfl⟩
def hexI (x:UInt8):Int:=match hexVal x with|some n=>n|none=> -1
theorem hexI_some {x:UInt8}:(0≤hexI x)↔∃n,hexVal x=some n∧n<16∧hexI x=n:=by
 unfold hexI;cases hv:hexVal x with
 |none=>simp
 |some n=>exact⟨fun _=>⟨n,rfl,hexVal_lt hv,rfl⟩,fun _=>Int.natCast_nonneg _⟩
theorem hexI_none {x:UInt8}(h:¬0≤hexI x):hexVal x=none:=by
 unfold hexI at h;cases hv:hexVal x with
 |none=>rfl
 |some n=>rw[hv] at h;exact absurd (Int.natCast_nonneg n) h
theorem digR_calls (x:UInt8):CallsH Tryz.prog 150 #[.int .u8 (x.toNat:Nat)] h (Ret fun r h'=>r= .int .i64 (hexI x)∧h'=h):=by
 have hx:=x.toNat_lt;refine CallsH.of Tryz.func150 rfl rfl ?_;refine xrd Tryz.func150 1 [0,2] rfl ?_;refine G.seq rfl ?_;refine G.seq rfl ?_;refine G.regTo1 [(8,.bool (decide (48≤x.toNat∧x.toNat≤57)))] [(0,_),(2,_)] ⟨rfl,rfl,trivial⟩ Tryz.func150 rfl ?_ ?_
 · refine xqm 3 rfl ?_;refine RW.split (d:=5) rfl (fun hg=>?_) (fun hg=>?_)
   · refine xqm 3 rfl ?_;refine RW.done rfl ?_;exact⟨rfl,at_bool rfl (by have:=of_decide_eq_true hg;simp only[decide_eq_decide];omega),rfl,rfl,trivial⟩
   · refine xqm 3 rfl ?_;refine RW.done rfl ?_;exact⟨rfl,at_bool rfl (by have:=of_decide_eq_false hg;simp;omega),rfl,rfl,trivial⟩
 · refine G.ite rfl rfl (fun h1=>?_) (fun h1=>?_)
   · refine xra Tryz.func150 1 rfl ?_;refine xp rfl (OpP.sub rfl rfl) ?_;refine xp rfl (OpP.convIn Tryz.underlying5 Tryz.underlying3 rfl (wrap_i64 ⟨by rw[wrap_u8 (by omega)];omega,by rw[wrap_u8 (by omega)];omega⟩)) ?_;refine xqd 1 [0,2,8] rfl ?_;refine G.ret Tryz.func150 rfl rfl ?_;refine⟨_,rfl,?_,rfl⟩;have:hexVal x=some (x.toNat-48):=by unfold hexVal;rw[if_pos h1]
     unfold hexI;rw[this]
     show Value.int _ _=Value.int _ _
     rw[wrap_u8 (by omega)];congr 1;simp only;omega
   · refine G.skip rfl ?_;refine G.seq rfl ?_;refine G.seq rfl ?_;refine G.regTo1 [(17,.bool (decide (97≤x.toNat∧x.toNat≤102)))] [(0,_),(2,_),(8,_)] ⟨rfl,rfl,rfl,trivial⟩ Tryz.func150 rfl ?_ ?_
     · refine xqm 3 rfl ?_;refine RW.split (d:=14) rfl (fun hg=>?_) (fun hg=>?_)
       · refine xqm 3 rfl ?_;refine RW.done rfl ?_;exact⟨rfl,at_bool rfl (by have:=of_decide_eq_true hg;simp only[decide_eq_decide];omega),rfl,rfl,rfl,trivial⟩
       · refine xqm 3 rfl ?_;refine RW.done rfl ?_;exact⟨rfl,at_bool rfl (by have:=of_decide_eq_false hg;simp;omega),rfl,rfl,rfl,trivial⟩
     · refine G.ite rfl rfl (fun h2=>?_) (fun h2=>?_)
       · have hw:IntKind.u8.wrap ((x.toNat:Int)-97)=(x.toNat:Int)-97:=wrap_u8 (by omega);refine xra Tryz.func150 1 rfl ?_;refine xp rfl (OpP.sub rfl rfl) ?_;refine xp rfl (OpP.convIn Tryz.underlying5 Tryz.underlying3 rfl (wrap_i64 ⟨by rw[hw];omega,by rw[hw];omega⟩)) ?_;refine xp rfl (OpP.add64 rfl rfl ⟨by rw[hw];omega,by rw[hw];omega⟩) ?_;refine xqd 1 [0,2,8,17] rfl ?_;refine G.ret Tryz.func150 rfl rfl ?_;refine⟨_,rfl,?_,rfl⟩;have:hexVal x=some (x.toNat-87):=by unfold hexVal;rw[if_neg h1,if_pos h2]
         unfold hexI;rw[this]
         show Value.int _ _=Value.int _ _
         rw[hw];congr 1;simp only;omega
       · refine G.skip rfl ?_;refine G.seq rfl ?_;refine G.seq rfl ?_;refine G.regTo1 [(27,.bool (decide (65≤x.toNat∧x.toNat≤70)))] [(0,_),(2,_),(8,_),(17,_)] ⟨rfl,rfl,rfl,rfl,trivial⟩ Tryz.func150 rfl ?_ ?_
         · refine xqm 3 rfl ?_;refine RW.split (d:=24) rfl (fun hg=>?_) (fun hg=>?_)
           · refine xqm 3 rfl ?_;refine RW.done rfl ?_;exact⟨rfl,at_bool rfl (by have:=of_decide_eq_true hg;simp only[decide_eq_decide];omega),rfl,rfl,rfl,rfl,trivial⟩
           · refine xqm 3 rfl ?_;refine RW.done rfl ?_;exact⟨rfl,at_bool rfl (by have:=of_decide_eq_false hg;simp;omega),rfl,rfl,rfl,rfl,trivial⟩
         · refine G.ite rfl rfl (fun h3=>?_) (fun h3=>?_)
           · have hw:IntKind.u8.wrap ((x.toNat:Int)-65)=(x.toNat:Int)-65:=wrap_u8 (by omega);refine xra Tryz.func150 1 rfl ?_;refine xp rfl (OpP.sub rfl rfl) ?_;refine xp rfl (OpP.convIn Tryz.underlying5 Tryz.underlying3 rfl (wrap_i64 ⟨by rw[hw];omega,by rw[hw];omega⟩)) ?_;refine xp rfl (OpP.add64 rfl rfl ⟨by rw[hw];omega,by rw[hw];omega⟩) ?_;refine xqd 1 [0,2,8,17,27] rfl ?_;refine G.ret Tryz.func150 rfl rfl ?_;refine⟨_,rfl,?_,rfl⟩;have:hexVal x=some (x.toNat-55):=by unfold hexVal;rw[if_neg h1,if_neg h2,if_pos h3]
             unfold hexI;rw[this]
             show Value.int _ _=Value.int _ _
             rw[hw];congr 1;simp only;omega
           · refine G.skip rfl ?_;refine xrd Tryz.func150 1 [0,2,8,17,27] rfl ?_;refine G.ret Tryz.func150 rfl rfl ?_;have:hexVal x=none:=by unfold hexVal;rw[if_neg h1,if_neg h2,if_neg h3]
             exact⟨_,rfl,by unfold hexI;rw[this];rfl,rfl⟩
def atI (s:By) (i:Nat):Int:=match s[i]? with|some c=>c.toNat|none=> -1
theorem atI_cases (s:By) (i:Nat):(s.length≤i∧s.drop i=[]∧atI s i= -1)∨∃c,s[i]? =some c∧i<s.length∧s.drop i=c::s.drop (i+1)∧atI s i=(c.toNat:Nat):=by
 rcases Nat.lt_or_ge i s.length with h|h
 · refine .inr ⟨s[i],List.getElem?_eq_getElem h,h,List.drop_eq_getElem_cons h,?_⟩;unfold atI;rw[List.getElem?_eq_getElem h]
 · refine .inl ⟨h,List.drop_of_length_le h,?_⟩;unfold atI;rw[List.getElem?_eq_none h]
theorem at_calls (s:By) (i:Nat):CallsH Tryz.prog 119 #[.string (bs s),.int .i64 (i:Nat)] h (Ret fun r h'=>r= .int .i64 (atI s i)∧h'=h):=by
 have hz:=bs_size s;refine CallsH.of Tryz.func119 rfl rfl ?_;refine xrd Tryz.func119 1 [0,1,4] rfl ?_;refine G.seq rfl ?_;refine xra Tryz.func119 2 rfl ?_;refine xp rfl (OpP.lenString Tryz.underlying9 rfl) ?_;refine xqd 1 [0,1,4,8] rfl ?_;refine G.ite rfl rfl (fun hge=>?_) (fun hge=>?_)
 · have e:atI s i= -1:=by unfold atI;rw[List.getElem?_eq_none (by omega)]
   refine xrd Tryz.func119 1 [0,1,4,8] rfl ?_;refine G.ret Tryz.func119 rfl rfl ?_;exact⟨_,rfl,by rw[e];rfl,rfl⟩
 · obtain⟨c,hc⟩:∃c,s[i]? =some c:=⟨s[i]'(by omega),List.getElem?_eq_getElem (by omega)⟩
   have hcl:=c.toNat_lt;have e:atI s i=(c.toNat:Nat):=by unfold atI;rw[hc]
   refine G.skip rfl ?_;refine xra Tryz.func119 2 rfl ?_;refine xp rfl (OpP.indexStr Tryz.underlying9 rfl rfl i rfl (bs_at hc)) ?_;refine xp rfl (OpP.convIn Tryz.underlying5 Tryz.underlying3 rfl (wrap_i64 ⟨by omega,by omega⟩)) ?_;refine xqd 1 [0,1,4,8] rfl ?_;refine G.ret Tryz.func119 rfl rfl ?_;exact⟨_,rfl,by rw[e];rfl,rfl⟩
theorem at_at (s:By) (i:Nat){j:Int}(hj:j=i):CallsH Tryz.prog 119 #[.string (bs s),.int .i64 j] h (Ret fun r h'=>r= .int .i64 (atI s i)∧h'=h):=by subst hj;exact at_calls s i
def letR (inb:Bool):By→Option (UInt8×By)
 | []=>none
 |b::r=>if b=92 then escP r else if b∈specialB∧(inb=true∨(b≠45∧b≠94)) then none else some (b,r)
theorem letR_true (l:By):letR true l=letP l:=by
 cases l with
 |nil=>rfl
 |cons b r=>simp[letR,letP]
def LetV (s:By) (p:Option (UInt8×By)) (r:Value):Prop :=
 match p with
 |none=>∃b:Int,r= .tuple #[.int .u8 b,.int .i64 (-1)]
 |some (c,t)=>∃k:Nat,k≤s.length∧t=s.drop k∧r= .tuple #[.int .u8 (c.toNat:Nat),.int .i64 (k:Nat)]
theorem u8_conv (c:UInt8):IntKind.u8.wrap (((c.toNat:Nat):Int))=((c.toNat:Nat):Int):=wrap_u8 (by have:=c.toNat_lt;omega)
theorem hexN_fin:∀m n:Fin 16,IntKind.u8.wrap ((m.val:Int)*16+(n.val:Int))=((UInt8.ofNat (m.val*16+n.val)).toNat:Nat):=by decide +kernel
theorem hexN {m n:Nat}(hm:m<16) (hn:n<16):IntKind.u8.wrap ((m:Int)*16+(n:Int))=((UInt8.ofNat (m*16+n)).toNat:Nat):=hexN_fin ⟨m,hm⟩ ⟨n,hn⟩
theorem letR_cons (inb:Bool) (b:UInt8) (r:By):letR inb (b::r)=if b=92 then escP r else if b∈specialB∧(inb=true∨(b≠45∧b≠94)) then none else some (b,r):=rfl
theorem letterR_calls (s:By) (i:Nat) (_hi:i≤s.length) (hs:s.length≤1000000) (inb:Bool):CallsH Tryz.prog 138 #[.string (bs s),.int .i64 (i:Nat),.bool inb] h (Ret fun r h'=>LetV s (letR inb (s.drop i)) r∧h'=h):=by
 have hz:=bs_size s;refine CallsH.of Tryz.func138 rfl rfl ?_;refine xrd Tryz.func138 2 [0,1,2,6,7] rfl ?_;refine xra Tryz.func138 2 rfl ?_;refine xo rfl (OpX.call (vs:=[_,_]) Tryz.func119 rfl H.nm119 rfl (CallsH.toX (at_calls s i))) ?_;rintro _ _ ⟨rfl,rfl⟩;refine xqd 1 [0,1,2,6,7,8] rfl ?_;refine G.seq rfl ?_;refine xrd Tryz.func138 2 [0,1,2,6,7,8,14] rfl ?_;refine G.ite rfl rfl (fun hneg=>?_) (fun hneg=>?_)
 · have hd:s.drop i=[]:=by
    rcases atI_cases s i with ⟨_,hd,_⟩|⟨c,_,_,_,ha⟩
    · exact hd
    · omega
   rw[hd];refine xrd Tryz.func138 2 [0,1,2,6,7,8,14] rfl ?_;refine G.ret Tryz.func138 rfl rfl ?_;exact⟨_,rfl,⟨0,rfl⟩,rfl⟩
 · obtain⟨c,hc,hlt,hd,ha⟩:∃c,s[i]? =some c∧i<s.length∧s.drop i=c::s.drop (i+1)∧atI s i=(c.toNat:Nat):=by
    rcases atI_cases s i with ⟨_,_,ha⟩|k
    · omega
    · exact k
   have hcl:=c.toNat_lt;rw[hd,ha];rw[ha] at hneg;refine G.skip rfl ?_;refine G.seq rfl ?_;refine xrd Tryz.func138 2 [0,1,2,6,7,8,14,16] rfl ?_;refine G.ite rfl rfl (fun hne=>?_) (fun hne=>?_)
   · have hne:¬c=92:=fun e=>hne (by rw[e];rfl)
     refine G.seq rfl ?_;refine G.seq rfl ?_;refine G.regTo1 [(30,.bool (decide (c∈specialB∧(inb=true∨(c≠45∧c≠94)))))] [(0,_),(1,_),(2,_),(6,_),(7,_),(8,_),(14,_),(16,_)] ⟨rfl,rfl,rfl,rfl,rfl,rfl,rfl,rfl,trivial⟩ Tryz.func138 rfl ?_ ?_
     · refine xqp 1 rfl rfl (OpP.convInt Tryz.underlying3 Tryz.underlying5 rfl) ?_;refine xo rfl (OpX.call (vs:=[_]) Tryz.func149 rfl H.nm149 rfl (CallsH.toX (u8_conv c▸specR_calls c))) ?_;rintro _ _ ⟨rfl,rfl⟩;refine xqm 1 rfl ?_;refine RW.split (d:=20) rfl (fun hsp=>?_) (fun hsp=>?_)
       · have hsp:c∈specialB:=of_decide_eq_true hsp;refine xqm 2 rfl ?_;refine RW.split (d:=22) rfl (fun hin=>?_) (fun hin=>?_)
         · refine xqm 8 rfl ?_;refine RW.done rfl ?_;exact⟨rfl,at_bool rfl (by simp[hsp,hin]),rfl,rfl,rfl,rfl,rfl,rfl,rfl,rfl,trivial⟩
         · refine xqm 3 rfl ?_;refine RW.split (d:=25) rfl (fun h45=>?_) (fun h45=>?_)
           · have h45:c≠45:=fun e=>(of_decide_eq_true h45) ((u8_is rfl).2 e)
             refine xqm 5 rfl ?_;refine RW.done rfl ?_;exact⟨rfl,at_bool rfl (by simp only[hin,hsp,true_and];simp only[Bool.false_eq_true,false_or,ne_eq,h45,not_false_eq_true,true_and];exact decide_eq_decide.2 (not_congr (u8_is rfl))),rfl,rfl,rfl,rfl,rfl,rfl,rfl,rfl,trivial⟩
           · have h45:c=45:=(u8_is rfl).1 (Classical.not_not.1 (of_decide_eq_false h45));refine xqm 5 rfl ?_;refine RW.done rfl ?_;exact⟨rfl,at_bool rfl (by simp[hin,h45]),rfl,rfl,rfl,rfl,rfl,rfl,rfl,rfl,trivial⟩
       · have hsp:¬c∈specialB:=of_decide_eq_false hsp;refine xqm 10 rfl ?_;refine RW.done rfl ?_;exact⟨rfl,at_bool rfl (by simp[hsp]),rfl,rfl,rfl,rfl,rfl,rfl,rfl,rfl,trivial⟩
     · refine G.ite rfl rfl (fun hno=>?_) (fun hno=>?_)
       · have hl:letR inb (c::s.drop (i+1))=none:=by rw[letR_cons,if_neg hne,if_pos hno]
         refine xrd Tryz.func138 2 [0,1,2,6,7,8,14,16,30] rfl ?_;refine G.ret Tryz.func138 rfl rfl ?_;exact⟨_,rfl,by rw[hl];exact⟨0,rfl⟩,rfl⟩
       · have hl:letR inb (c::s.drop (i+1))=some (c,s.drop (i+1)):=by rw[letR_cons,if_neg hne,if_neg hno]
         refine G.skip rfl ?_;refine xra Tryz.func138 1 rfl ?_;refine xp rfl (OpP.convInt Tryz.underlying3 Tryz.underlying5 rfl) ?_;refine xqp 1 rfl rfl (OpP.add64 rfl rfl ⟨by omega,by omega⟩) ?_;refine xqd 2 [0,1,2,6,7,8,14,16,30] rfl ?_;refine G.ret Tryz.func138 rfl rfl ?_;exact⟨_,rfl,by rw[hl];exact⟨i+1,by omega,rfl,by rw[u8_conv];rfl⟩,rfl⟩
   · have he92:c=92:=(u8_is rfl).1 (Classical.not_not.1 hne);have hl:letR inb (c::s.drop (i+1))=escP (s.drop (i+1)):=by rw[letR_cons,if_pos he92]
     rw[hl];refine G.skip rfl ?_;refine xra Tryz.func138 2 rfl ?_;refine xp rfl (OpP.add64 rfl rfl ⟨by omega,by omega⟩) ?_;refine xo rfl (OpX.call (vs:=[_,_]) Tryz.func119 rfl H.nm119 rfl (CallsH.toX (at_at s (i+1) rfl))) ?_;rintro _ _ ⟨rfl,rfl⟩;refine xqd 1 [0,1,2,6,7,8,9,14,16] rfl ?_;refine G.seq rfl ?_;refine xrd Tryz.func138 2 [0,1,2,6,7,8,9,14,16,40] rfl ?_
     rcases atI_cases s (i+1) with ⟨hlen,hd1,ha1⟩|⟨d,hdc,hlt1,hd1,ha1⟩
     · rw[hd1,ha1];refine G.cond rfl rfl (fun hc=>absurd hc (by decide)) (fun _=>?_);refine G.skip rfl ?_;refine G.seq rfl ?_;refine xrd Tryz.func138 2 [0,1,2,6,7,8,9,14,16,40,44] rfl ?_;refine G.cond rfl rfl (fun hc=>absurd hc (by decide)) (fun _=>?_);refine G.skip rfl ?_;refine G.seq rfl ?_;refine xrd Tryz.func138 2 [0,1,2,6,7,8,9,14,16,40,44,48] rfl ?_;refine G.cond rfl rfl (fun hc=>absurd hc (by decide)) (fun _=>?_);refine G.skip rfl ?_;refine G.seq rfl ?_;refine G.seq rfl ?_;refine G.regTo1 [(75,.bool false)] [(0,_),(1,_),(2,_),(6,_),(7,_),(8,_),(9,_),(14,_),(16,_),(40,_),(44,_),(48,_)] ⟨rfl,rfl,rfl,rfl,rfl,rfl,rfl,rfl,rfl,rfl,rfl,rfl,trivial⟩ Tryz.func138 rfl ?_ ?_
       · refine xqm 3 rfl ?_;refine RW.know (d:=53) (b':=false) rfl (decide_eq_false (by decide)) ?_;refine xqm 22 rfl ?_;refine RW.done rfl ?_;exact⟨rfl,at_bool rfl (rfl),rfl,rfl,rfl,rfl,rfl,rfl,rfl,rfl,rfl,rfl,rfl,rfl,trivial⟩
       · refine G.cond rfl rfl (fun hc=>absurd hc (by decide)) (fun _=>?_);refine G.skip rfl ?_;refine G.seq rfl ?_;refine G.seq rfl ?_;refine G.regTo1 [(97,.bool false)] [(0,_),(1,_),(2,_),(6,_),(7,_),(8,_),(9,_),(14,_),(16,_),(40,_),(44,_),(48,_),(75,_)] ⟨rfl,rfl,rfl,rfl,rfl,rfl,rfl,rfl,rfl,rfl,rfl,rfl,rfl,trivial⟩ Tryz.func138 rfl ?_ ?_
         · refine xqm 3 rfl ?_;refine RW.know (d:=93) (b':=false) rfl (decide_eq_false (by decide)) ?_;refine xqm 4 rfl ?_;refine RW.done rfl ?_;exact⟨rfl,at_bool rfl (rfl),rfl,rfl,rfl,rfl,rfl,rfl,rfl,rfl,rfl,rfl,rfl,rfl,rfl,trivial⟩
         · refine G.cond rfl rfl (fun hc=>absurd hc (by decide)) (fun _=>?_);refine G.skip rfl ?_;refine xrd Tryz.func138 2 [0,1,2,6,7,8,9,14,16,40,44,48,75,97] rfl ?_;refine G.ret Tryz.func138 rfl rfl ?_;exact⟨_,rfl,⟨0,rfl⟩,rfl⟩
     · have hdl:=d.toNat_lt;rw[hd1,ha1,show i+1+1=i+2 from rfl];refine G.ite rfl rfl (fun e1=>?_) (fun e1=>?_)
       · have e1:d=110:=(u8_is rfl).1 e1;refine xra Tryz.func138 1 rfl ?_;refine xp rfl (OpP.add64 rfl rfl ⟨by omega,by omega⟩) ?_;refine xqd 2 [0,1,2,6,7,8,9,14,16,40] rfl ?_;refine G.ret Tryz.func138 rfl rfl ?_;exact⟨_,rfl,by rw[show escP (d::s.drop (i+2))=some (10,s.drop (i+2)) by unfold escP;simp[e1]];exact⟨i+2,by omega,rfl,rfl⟩,rfl⟩
       · have e1:¬d=110:=fun e=>e1 ((u8_is rfl).2 e)
         refine G.skip rfl ?_;refine G.seq rfl ?_;refine xrd Tryz.func138 2 [0,1,2,6,7,8,9,14,16,40,44] rfl ?_;refine G.ite rfl rfl (fun e2=>?_) (fun e2=>?_)
         · have e2:d=116:=(u8_is rfl).1 e2;refine xra Tryz.func138 1 rfl ?_;refine xp rfl (OpP.add64 rfl rfl ⟨by omega,by omega⟩) ?_;refine xqd 2 [0,1,2,6,7,8,9,14,16,40,44] rfl ?_;refine G.ret Tryz.func138 rfl rfl ?_;exact⟨_,rfl,by rw[show escP (d::s.drop (i+2))=some (9,s.drop (i+2)) by unfold escP;simp[e2]];exact⟨i+2,by omega,rfl,rfl⟩,rfl⟩
         · have e2:¬d=116:=fun e=>e2 ((u8_is rfl).2 e)
           refine G.skip rfl ?_;refine G.seq rfl ?_;refine xrd Tryz.func138 2 [0,1,2,6,7,8,9,14,16,40,44,48] rfl ?_;refine G.ite rfl rfl (fun e3=>?_) (fun e3=>?_)
           · have e3:d=114:=(u8_is rfl).1 e3;refine xra Tryz.func138 1 rfl ?_;refine xp rfl (OpP.add64 rfl rfl ⟨by omega,by omega⟩) ?_;refine xqd 2 [0,1,2,6,7,8,9,14,16,40,44,48] rfl ?_;refine G.ret Tryz.func138 rfl rfl ?_;exact⟨_,rfl,by rw[show escP (d::s.drop (i+2))=some (13,s.drop (i+2)) by unfold escP;simp[e3]];exact⟨i+2,by omega,rfl,rfl⟩,rfl⟩
           · have e3:¬d=114:=fun e=>e3 ((u8_is rfl).2 e)
             refine G.skip rfl ?_;refine G.seq rfl ?_;refine G.seq rfl ?_;refine G.regTo1 [(75,.bool (decide (d=120∧((s[i+2]?).bind hexVal).isSome=true∧((s[i+3]?).bind hexVal).isSome=true)))] [(0,_),(1,_),(2,_),(6,_),(7,_),(8,_),(9,_),(14,_),(16,_),(40,_),(44,_),(48,_)] ⟨rfl,rfl,rfl,rfl,rfl,rfl,rfl,rfl,rfl,rfl,rfl,rfl,trivial⟩ Tryz.func138 rfl ?_ ?_
             · refine xqm 3 rfl ?_;refine RW.split (d:=53) rfl (fun h120=>?_) (fun h120=>?_)
               · have h120:d=120:=(u8_is rfl).1 (of_decide_eq_true h120);refine xqp 1 rfl rfl (OpP.add64 rfl rfl ⟨by omega,by omega⟩) ?_;refine xqp 1 rfl rfl (OpP.lenString Tryz.underlying9 rfl) ?_;refine xqm 3 rfl ?_;refine RW.split (d:=60) rfl (fun hlen3=>?_) (fun hlen3=>?_)
                 · have hlen3:i+3<s.length:=by have:=of_decide_eq_true hlen3;omega
                   have hx:s[i+2]? =some s[i+2]:=List.getElem?_eq_getElem (by omega);have hy:s[i+3]? =some s[i+3]:=List.getElem?_eq_getElem hlen3;generalize s[i+2]=x at hx;generalize s[i+3]=y at hy;refine xqp 2 rfl rfl (OpP.add64 rfl rfl ⟨by omega,by omega⟩) ?_;refine xp rfl (OpP.indexStr Tryz.underlying9 rfl rfl (i+2) rfl (bs_at hx)) ?_;refine xo rfl (OpX.call (vs:=[_]) Tryz.func150 rfl H.nm150 rfl (CallsH.toX (digR_calls x))) ?_;rintro _ _ ⟨rfl,rfl⟩;refine xqm 3 rfl ?_;refine RW.split (d:=68) rfl (fun hdx=>?_) (fun hdx=>?_)
                   · obtain⟨m,hm,_,_⟩:=hexI_some.1 (of_decide_eq_true hdx);refine xqp 2 rfl rfl (OpP.add64 rfl rfl ⟨by omega,by omega⟩) ?_;refine xp rfl (OpP.indexStr Tryz.underlying9 rfl rfl (i+3) rfl (bs_at hy)) ?_;refine xo rfl (OpX.call (vs:=[_]) Tryz.func150 rfl H.nm150 rfl (CallsH.toX (digR_calls y))) ?_;rintro _ _ ⟨rfl,rfl⟩;refine xqm 2 rfl ?_;refine RW.done rfl ?_;exact⟨rfl,at_bool rfl (by rw[decide_eq_decide];rw[hx,hy];exact⟨fun k=>by obtain⟨n,hn,_,_⟩:=hexI_some.1 k;exact⟨h120,by simp[hm],by simp[hn]⟩,fun⟨_,_,a3⟩=>by obtain⟨n',a4⟩:=Option.isSome_iff_exists.1 a3;exact hexI_some.2 ⟨n',a4,hexVal_lt a4,by unfold hexI;rw[show hexVal y=some n' from a4]⟩⟩),rfl,rfl,rfl,rfl,rfl,rfl,rfl,rfl,rfl,rfl,rfl,rfl,trivial⟩
                   · have hdx:=hexI_none (of_decide_eq_false hdx);refine xqm 7 rfl ?_;refine RW.done rfl ?_;exact⟨rfl,at_bool rfl (by rw[eq_comm,decide_eq_false_iff_not,hx];rintro⟨_,a2,_⟩;simp[hdx] at a2),rfl,rfl,rfl,rfl,rfl,rfl,rfl,rfl,rfl,rfl,rfl,rfl,trivial⟩
                 · have hlen3:¬i+3<s.length:=by have:=of_decide_eq_false hlen3;omega
                   refine xqm 15 rfl ?_;refine RW.done rfl ?_;exact⟨rfl,at_bool rfl (by rw[eq_comm,decide_eq_false_iff_not];rintro⟨_,_,a3⟩;rw[List.getElem?_eq_none (by omega)] at a3;cases a3),rfl,rfl,rfl,rfl,rfl,rfl,rfl,rfl,rfl,rfl,rfl,rfl,trivial⟩
               · have h120:¬d=120:=fun e=>(of_decide_eq_false h120) ((u8_is rfl).2 e)
                 refine xqm 22 rfl ?_;refine RW.done rfl ?_;exact⟨rfl,at_bool rfl (by simp[h120]),rfl,rfl,rfl,rfl,rfl,rfl,rfl,rfl,rfl,rfl,rfl,rfl,trivial⟩
             · refine G.ite rfl rfl (fun hx=>?_) (fun hx=>?_)
               · obtain⟨h120,x,y,m,n,hx,hy,hm,hn⟩:d=120∧∃x y m n,s[i+2]? =some x∧s[i+3]? =some y∧hexVal x=some m∧hexVal y=some n:=by
                  obtain⟨a1,a2,a3⟩:=hx;cases hx2:s[i+2]? with
                  |none=>rw[hx2] at a2;cases a2
                  |some x =>
                   cases hx3:s[i+3]? with
                   |none=>rw[hx3] at a3;cases a3
                   |some y =>
                    rw[hx2] at a2;rw[hx3] at a3;obtain⟨m,hm⟩:=Option.isSome_iff_exists.1 a2;obtain⟨n,hn⟩:=Option.isSome_iff_exists.1 a3;exact⟨a1,x,y,m,n,rfl,rfl,hm,hn⟩
                 have hm16:=hexVal_lt hm;have hn16:=hexVal_lt hn;have hix:hexI x=m:=by unfold hexI;rw[hm]
                 have hiy:hexI y=n:=by unfold hexI;rw[hn]
                 have hlx:=(List.getElem?_eq_some_iff.1 hx)
                 have hly:=(List.getElem?_eq_some_iff.1 hy)
                 have hdx:s.drop (i+2)=x::s.drop (i+3):=by rw[List.drop_eq_getElem_cons hlx.1,hlx.2]
                 have hdy:s.drop (i+3)=y::s.drop (i+4):=by rw[List.drop_eq_getElem_cons hly.1,hly.2]
                 have hl2:=hly.1;refine G.seq rfl ?_;refine G.drawQ Tryz.func138 H.mixed rfl (by kernel_rfl) ?_;refine RQ.pureS rfl rfl rfl rfl (OpP.move rfl) ?_;refine RQ.pureS rfl rfl rfl rfl (OpP.move rfl) ?_;refine RQ.pureS rfl rfl rfl rfl (OpP.add64 rfl rfl ⟨by omega,by omega⟩) ?_;refine RQ.pureS rfl rfl rfl rfl (OpP.indexStr Tryz.underlying9 rfl rfl (i+2) rfl (bs_at hx)) ?_;refine RQ.callS (vs:=[_]) rfl rfl rfl rfl rfl Tryz.func150 rfl H.nm150 rfl (digR_calls x) ?_;refine RQ.pureS rfl rfl rfl rfl (OpP.mul64 rfl rfl ⟨by rw[hix];omega,by rw[hix];omega⟩) ?_;refine RQ.pureS rfl rfl rfl rfl (OpP.move rfl) ?_;refine RQ.pureS rfl rfl rfl rfl (OpP.move rfl) ?_;refine RQ.pureS rfl rfl rfl rfl (OpP.add64 rfl rfl ⟨by omega,by omega⟩) ?_;refine RQ.pureS rfl rfl rfl rfl (OpP.indexStr Tryz.underlying9 rfl rfl (i+3) rfl (bs_at hy)) ?_;refine RQ.callS (vs:=[_]) rfl rfl rfl rfl rfl Tryz.func150 rfl H.nm150 rfl (digR_calls y) ?_;refine RQ.pureS rfl rfl rfl rfl (OpP.add64 rfl rfl ⟨by rw[hix,hiy];omega,by rw[hix,hiy];omega⟩) ?_;refine RQ.pureS rfl rfl rfl rfl (OpP.convInt Tryz.underlying3 Tryz.underlying5 rfl) ?_;refine RQ.pureS rfl rfl rfl rfl (OpP.move rfl) ?_;refine RQ.pureS rfl rfl rfl rfl (OpP.add64 rfl rfl ⟨by omega,by omega⟩) ?_;refine RQ.pureS rfl rfl rfl rfl (OpP.assign rfl) ?_;refine RQ.pureS rfl rfl rfl rfl (OpP.assign rfl) ?_;refine RQ.done rfl ?_;refine xu [0,1,2,6,7,8,9,14,16,40,44,48,75] rfl ?_;refine G.ret Tryz.func138 rfl rfl ?_;exact⟨_,rfl,by rw[show escP (d::s.drop (i+2))=some (UInt8.ofNat (m*16+n),s.drop (i+4)) by rw[hdx,hdy];unfold escP;simp[h120,hm,hn]];exact⟨i+4,by omega,rfl,by rw[hix,hiy,hexN hm16 hn16];rfl⟩,rfl⟩
               · refine G.skip rfl ?_;refine G.seq rfl ?_;refine G.seq rfl ?_;refine G.regTo1 [(97,.bool (decide (d∈specialB)))] [(0,_),(1,_),(2,_),(6,_),(7,_),(8,_),(9,_),(14,_),(16,_),(40,_),(44,_),(48,_),(75,_)] ⟨rfl,rfl,rfl,rfl,rfl,rfl,rfl,rfl,rfl,rfl,rfl,rfl,rfl,trivial⟩ Tryz.func138 rfl ?_ ?_
                 · refine xqm 3 rfl ?_;refine RW.know (d:=93) (b':=true) rfl (decide_eq_true (by omega)) ?_;refine xqp 1 rfl rfl (OpP.convInt Tryz.underlying3 Tryz.underlying5 rfl) ?_;refine xo rfl (OpX.call (vs:=[_]) Tryz.func149 rfl H.nm149 rfl (CallsH.toX (u8_conv d▸specR_calls d))) ?_;rintro _ _ ⟨rfl,rfl⟩;refine xqm 1 rfl ?_;refine RW.done rfl ?_;exact⟨rfl,at_bool rfl (rfl),rfl,rfl,rfl,rfl,rfl,rfl,rfl,rfl,rfl,rfl,rfl,rfl,rfl,trivial⟩
                 · have hno:d=120→escP (d::s.drop (i+2))=none:=fun h120=>by
                    subst h120;unfold escP;simp only[show ¬((120:UInt8)=110) by decide,show ¬((120:UInt8)=116) by decide,show ¬((120:UInt8)=114) by decide,if_false,if_true];split
                    · rename_i x y t ht;have h2:s[i+2]? =some x:=by have:=congrArg (·[0]?) ht;simpa using this
                      have h3:s[i+3]? =some y:=by have:=congrArg (·[1]?) ht;simpa using this
                      split
                      · rename_i m n hm hn;exact absurd ⟨rfl,by rw[h2];simp[hm],by rw[h3];simp[hn]⟩ hx
                      · rfl
                    · rfl
                   refine G.ite rfl rfl (fun hsp=>?_) (fun hsp=>?_)
                   · refine xra Tryz.func138 1 rfl ?_;refine xp rfl (OpP.convInt Tryz.underlying3 Tryz.underlying5 rfl) ?_;refine xqp 1 rfl rfl (OpP.add64 rfl rfl ⟨by omega,by omega⟩) ?_;refine xqd 2 [0,1,2,6,7,8,9,14,16,40,44,48,75,97] rfl ?_;refine G.ret Tryz.func138 rfl rfl ?_;have h120:¬d=120:=fun e=>by rw[e] at hsp;revert hsp;decide
                     exact⟨_,rfl,by rw[show escP (d::s.drop (i+2))=some (d,s.drop (i+2)) by unfold escP;simp[e1,e2,e3,h120,hsp]];exact⟨i+2,by omega,rfl,by rw[u8_conv];rfl⟩,rfl⟩
                   · have hfin:escP (d::s.drop (i+2))=none:=by
                      by_cases h120:d=120
                      · exact hno h120
                      · unfold escP;simp[e1,e2,e3,h120,hsp]
                     refine G.skip rfl ?_;refine xrd Tryz.func138 2 [0,1,2,6,7,8,9,14,16,40,44,48,75,97] rfl ?_;refine G.ret Tryz.func138 rfl rfl ?_;exact⟨_,rfl,by rw[hfin];exact⟨0,rfl⟩,rfl⟩
theorem tmod2 (x:Nat):((x:Nat):Int).tmod 2=((x%2:Nat):Int):=by rw[Int.tmod_eq_emod_of_nonneg (Int.natCast_nonneg _)];omega
theorem encSet_one (s:Nat):∀v∈encSet s,v.oneCell'=true:=by
 intro v hv;simp[encSet,encW] at hv
 rcases hv with rfl|rfl|rfl|rfl<;>rfl
theorem encSet_word (s q:Nat) (hq:q<4):(encSet s)[0+q*1]? =some (encW s q):=by
 match q,hq with
 | 0,_=>rfl
 | 1,_=>rfl
 | 2,_=>rfl
 | 3,_=>rfl
theorem encSet_with (s:Nat) (i:Nat) (hi:i<256):(encSet s).set (0+i / 64*1) (.int .u64 ((wrd s (i / 64) ||| 2 ^ (i%64):Nat):Int))=encSet (s |||(1 <<< i)):=by
 have h:=ndC_with 0 s (.bool true) i hi;have h2:=congrArg (fun l=>(l.drop 1).take 4) h;have h4:i / 64<4:=by omega
 generalize i / 64=q at *
 match q,h4 with
 | 0,_=>exact h2
 | 1,_=>exact h2
 | 2,_=>exact h2
 | 3,_=>exact h2
theorem hasR_calls (s:Nat) (b:UInt8):CallsH Tryz.prog 108 #[.agg (encSet s).toArray,.int .u8 (b.toNat:Nat)] h (Ret fun r h'=>r= .bool (s.testBit b.toNat)∧Ext0 h h'):=by
 have hb:=b.toNat_lt;have hq:b.toNat / 64<4:=by omega
 have hcv:IntKind.i64.wrap ((b.toNat:Nat):Int)=((b.toNat:Nat):Int):=wrap_i64 ⟨by omega,by omega⟩
 have hdiv:IntKind.i64.wrap (((b.toNat:Int)).tdiv 64)=((b.toNat / 64:Nat):Int):=by
  rw[Int.tdiv_eq_ediv_of_nonneg (by omega),wrap_i64 ⟨by omega,by omega⟩];omega
 have hmod:((b.toNat:Int)).tmod 64=((b.toNat%64:Nat):Int):=by rw[Int.tmod_eq_emod_of_nonneg (by omega)];omega
 have hm64:b.toNat%64<64:=Nat.mod_lt _ (by decide);refine CallsH.of Tryz.func108 rfl rfl ?_;refine xr Tryz.func108 rfl ?_;refine xo rfl (OpX.boxN rfl) ?_;rintro _ h1 ⟨rfl,hk,he,hz⟩;have hk:Blk h1 h.size 78 (encSet s):=hk;refine xqd 1 [0,1,2,4] rfl ?_;refine xra Tryz.func108 1 rfl ?_;refine xp rfl (OpP.convIn Tryz.underlying5 Tryz.underlying3 rfl hcv) ?_;refine xp rfl (OpP.quo rfl rfl (by decide)) ?_;refine xp rfl (OpP.indexArr Tryz.underlying78 H.sz77 rfl rfl (b.toNat / 64) hdiv hq) ?_;refine xp rfl (OpP.load H.ag77 rfl (hk.cell (encSet_word s _ hq))) ?_;refine xqp 1 rfl rfl (OpP.convIn Tryz.underlying5 Tryz.underlying3 rfl hcv) ?_;refine xp rfl (OpP.rem rfl rfl (by decide)) ?_;refine xp rfl (OpP.shr rfl rfl (by rw[hmod];omega)) ?_;refine xp rfl (OpP.rem rfl rfl (by decide)) ?_;refine xqd 2 [0,1,2,4] rfl ?_;refine G.ret Tryz.func108 rfl rfl ?_;refine⟨_,rfl,?_,he⟩
 show Value.bool _=_
 rw[hmod,shr64 _ _ hm64,tmod2,wrd_has];cases s.testBit b.toNat<;>rfl
theorem add_or {x k:Nat}(hx:x<2 ^ 64) (hk:k<64) (hb:x.testBit k=false):x+2 ^ k=x ||| 2 ^ k:=by
 have h2:2 ^ k<2 ^ 64:=Nat.pow_lt_pow_right (by decide) hk
 have hand:(BitVec.ofNat 65 x) &&& (BitVec.ofNat 65 (2 ^ k))=0#65:=by
  apply BitVec.eq_of_toNat_eq
  rw[BitVec.toNat_and,BitVec.toNat_ofNat,BitVec.toNat_ofNat,Nat.mod_eq_of_lt (by omega),Nat.mod_eq_of_lt (by omega)]
  apply Nat.eq_of_testBit_eq
  intro i;rw[Nat.testBit_and,Nat.testBit_two_pow]
  by_cases e:k=i
  · subst e;simp[hb]
  · simp[e]
 have h:=congrArg BitVec.toNat (BitVec.add_eq_or_of_and_eq_zero _ _ hand);rw[BitVec.toNat_add,BitVec.toNat_or,BitVec.toNat_ofNat,BitVec.toNat_ofNat,Nat.mod_eq_of_lt (show x<2 ^ 65 by omega),Nat.mod_eq_of_lt (show 2 ^ k<2 ^ 65 by omega),Nat.mod_eq_of_lt (by omega)] at h;exact h
theorem or_same {s i:Nat}(h:s.testBit i=true):s |||(1 <<< i)=s:=by
 apply Nat.eq_of_testBit_eq
 intro j;rw[Nat.testBit_or,Nat.one_shiftLeft,Nat.testBit_two_pow]
 by_cases e:i=j
 · subst e;simp[h]
 · simp[e]
theorem with_calls (s a b:Nat) (hb:b≤255) (ha:a≤256):CallsH Tryz.prog 137 #[.agg (encSet s).toArray,.int .i64 (a:Nat),.int .i64 (b:Nat)] h (Ret fun r h'=>r= .agg (encSet (spanN s a (b+1-a))).toArray∧Ext0 h h'):=by
 refine CallsH.of Tryz.func137 rfl rfl ?_;refine xr Tryz.func137 rfl ?_;refine xo rfl (OpX.boxN rfl) ?_;rintro _ h1 ⟨rfl,hk,he,hz⟩;refine xo rfl (OpX.allocN H.zr78) ?_;rintro _ h2 ⟨rfl,hk2,he2,hz2⟩;have hk:Blk h1 h.size 78 (encSet s):=hk;have hk1:=hk.ext0 he2;have hk2:Blk h2 h1.size 78 (encSet 0):=hk2;refine xd [0,1,2,3,6] rfl ?_;refine G.seq rfl ?_;refine xrd Tryz.func137 2 [0,1,2,3,6,7] rfl ?_;refine G.block rfl rfl ?_;refine G.loop (σ:=Nat×Nat) (fun q=>[(2,.int .i64 (b:Nat)),(3,.pointer (some ⟨h.size,0,none⟩)),(6,.pointer (some ⟨h1.size,0,none⟩)),(7,.int .i64 (q.1:Nat))]) (fun q h'=>Blk h' h.size 78 (encSet q.2)∧Blk h' h1.size 78 (encSet 0)∧Ext0 h h'∧q.1≤256∧spanN q.2 q.1 (b+1-q.1)=spanN s a (b+1-a)) (fun q=>b+1-q.1) ((a,s)) rfl ⟨rfl,rfl,rfl,rfl,trivial⟩ ⟨hk1,hk2,he.trans he2,ha,rfl⟩ ?_;rintro⟨i,s'⟩ h3 ⟨hk3,hk33,he3,hi,hsp⟩ ih
 try dsimp only
 dsimp only at hk3 hi hsp;refine G.seq rfl ?_;refine xrd Tryz.func137 3 [2,3,6,7,11] rfl ?_;refine G.ite rfl rfl (fun hle=>?_) (fun hle=>?_)
 · rw[spanN_step _ _ _ (by omega)] at hsp;have hi8:i<256:=by omega
   have hub:(UInt8.ofNat i).toNat=i:=by simp;omega
   have hcv:IntKind.u8.wrap ((i:Nat):Int)=(((UInt8.ofNat i).toNat:Nat):Int):=by rw[hub];exact wrap_u8 (by omega)
   have hq:i / 64<4:=by omega
   have hdiv:IntKind.i64.wrap (((i:Int)).tdiv 64)=((i / 64:Nat):Int):=by
    rw[Int.tdiv_eq_ediv_of_nonneg (by omega),wrap_i64 ⟨by omega,by omega⟩];omega
   have hmod:((i:Int)).tmod 64=((i%64:Nat):Int):=by rw[Int.tmod_eq_emod_of_nonneg (by omega)];omega
   refine G.skip rfl ?_;refine G.seq rfl ?_;refine G.block rfl rfl ?_;refine xr Tryz.func137 rfl ?_;refine xp rfl (OpP.loadRowN H.ag78 H.sz78 rfl hk3.row (by first|rfl|(simp;done)|(simp;omega))) ?_;refine xqp 1 rfl rfl (OpP.convInt Tryz.underlying3 Tryz.underlying5 rfl) ?_;refine xo rfl (OpX.call (vs:=[_,_]) Tryz.func108 rfl H.nm108 rfl (CallsH.toX (hcv▸hasR_calls s' (UInt8.ofNat i)))) ?_;rintro _ h4 ⟨rfl,he4⟩;refine xqd 1 [2,3,6,7,11,18] rfl ?_;have hk4:=hk3.ext0 he4;have hk44:=hk33.ext0 he4;rw[hub];refine G.cond rfl rfl (fun hnot=>?_) (fun hnot=>?_)
   · have hbit:s'.testBit i=false:=by simpa using hnot
     have hw:=wrd_lt s' (i / 64);have hk4':Blk h4 h.size 78 [encW s' 0,encW s' 1,encW s' 2,encW s' 3]:=hk4;refine G.draw (fun b=>Array.size h4≤b) (fun i=>Nat.blt i 11) (sz:=12) (listed:= #[false,false,false,false,false,false,false,false,false,false,false,false]) Tryz.func137 H.mixed rfl rfl rfl ?_;refine xtq 0 1 (by kernel_rfl) rfl ?_;refine xtp 1 3 (by kernel_rfl) rfl (fun h' e=>OpP.quo rfl rfl (by decide)) ?_;refine xtq 2 7 (by kernel_rfl) rfl ?_;refine xtp 3 15 (by kernel_rfl) rfl (fun h' e=>OpP.quo rfl rfl (by decide)) ?_;refine xtp 4 31 (by kernel_rfl) rfl (fun h' e=>OpP.indexArr Tryz.underlying78 H.sz77 rfl rfl (i / 64) hdiv hq) ?_;refine xtp 5 63 (by kernel_rfl) rfl (fun h' e=>OpP.load H.ag77 rfl (e.old (hk4.cell (encSet_word s' _ hq)))) ?_;refine xtq 6 127 (by kernel_rfl) rfl ?_;refine xtp 7 255 (by kernel_rfl) rfl (fun h' e=>OpP.rem rfl rfl (by decide)) ?_;refine xtp 8 511 (by kernel_rfl) rfl (fun h' e=>OpP.shl rfl rfl (by rw[hmod];omega)) ?_;refine xtp 9 1023 (by kernel_rfl) rfl (fun h' e=>OpP.add rfl rfl) ?_;refine xtp 10 2047 (by kernel_rfl) rfl (fun h' e=>OpP.indexArr Tryz.underlying78 H.sz77 rfl rfl (i / 64) hdiv hq) ?_;refine xt0 11 4095 (by kernel_rfl) rfl (OpX.storeOne H.sz77 rfl rfl hk4' (by first|decide|exact of_decide_eq_true rfl|(simp;done)|(simp;omega)) rfl) ?_;rintro _ h5 ⟨rfl,hk5,hx5,hz5⟩;refine⟨fun hk=>(nomatch hk),?_⟩;refine RD.done (by kernel_rfl) ?_;refine xu [2,3,6,7,11,18] rfl ?_;refine G.blkEnd ?_;refine G.reg Tryz.func137 rfl ?_;refine xqp 1 rfl rfl (OpP.add64 rfl rfl ⟨by omega,by omega⟩) ?_;refine xqd 1 [2,3,6,7,11,18] rfl ?_
     have hval:IntKind.u64.wrap (((wrd s' (i / 64):Nat):Int)+IntKind.u64.wrap (1*2 ^ min (((i:Int)).tmod 64).toNat IntKind.u64.bits))=((wrd s' (i / 64) ||| 2 ^ (i%64):Nat):Int):=by
      have hm64:i%64<64:=Nat.mod_lt _ (by decide)
      have hbw:(wrd s' (i / 64)).testBit (i%64)=false:=by
       rw[wrd_bit,show 64*(i / 64)+i%64=i from Nat.div_add_mod i 64,hbit];simp
      rw[hmod,shl64,←add_or hw hm64 hbw];have h2:2 ^ (i%64)<2 ^ 64:=Nat.pow_lt_pow_right (by decide) hm64;have h3:wrd s' (i / 64) ||| 2 ^ (i%64)<2 ^ 64:=Nat.or_lt_two_pow hw h2;rw[←add_or hw hm64 hbw] at h3;generalize 2 ^ (i%64)=p at *;rw[wrap_u64' ⟨by omega,by omega⟩];omega
     have hk5:Blk h5 h.size 78 (encSet (s' |||(1 <<< i))):=by rw[←encSet_with s' i hi8,←hval];exact hk5
     exact ih (i+1,s' |||(1 <<< i)) _ _ ⟨rfl,rfl,rfl,rfl,trivial⟩ ⟨hk5,hk44.ext hx5 (by show ¬_=_;omega),Ext0.only (he3.trans he4) hx5 (Nat.le_refl _),by show i+1≤256;omega,by show spanN _ (i+1) (b+1-(i+1))=_;rw[←hsp];rfl⟩ (by show b+1-(i+1)<b+1-i;omega)
   · have hbit:s'.testBit i=true:=by simpa using hnot
     rw[or_same hbit] at hsp;refine G.skip rfl ?_;refine G.blkEnd ?_;refine G.reg Tryz.func137 rfl ?_;refine xqp 1 rfl rfl (OpP.add64 rfl rfl ⟨by omega,by omega⟩) ?_;refine xqd 1 [2,3,6,7,11,18] rfl ?_;exact ih (i+1,s') _ _ ⟨rfl,rfl,rfl,rfl,trivial⟩ ⟨hk4,hk44,he3.trans he4,by show i+1≤256;omega,by show spanN _ (i+1) (b+1-(i+1))=_;rw[←hsp];rfl⟩ (by show b+1-(i+1)<b+1-i;omega)
 · have h0:b+1-i=0:=by omega
   rw[h0] at hsp;have hsp:s'=spanN s a (b+1-a):=hsp;subst hsp;refine G.exit rfl rfl ?_;refine xr Tryz.func137 rfl ?_;refine xp rfl (OpP.loadRowN H.ag78 H.sz78 rfl hk3.row (by first|rfl|(simp;done)|(simp;omega))) ?_;refine RW.op0 rfl rfl rfl (OpX.storeBlk H.sz78 rfl rfl hk33 (by first|rfl|(simp;done)|(simp;omega)) (by first|decide|exact of_decide_eq_true rfl|(simp;done)|(simp;omega)) (encSet_one _)) ?_;rintro _ h4 ⟨rfl,hk4,hx4,hz4⟩;refine xd [2,3,6,7,11] rfl ?_;have hk4:Blk h4 h1.size 78 (encSet (spanN s a (b+1-a))):=hk4;refine G.retC Tryz.func137 rfl (.cons (ResOk.rowN H.ag78 H.sz78 rfl (hk4.row) (by first|rfl|(simp;done)|(simp;omega))) (.nil)) ?_;exact⟨_,rfl,rfl,Ext0.only he3 hx4 (by omega)⟩
theorem spanN_lt:∀(n s a:Nat),s<2 ^ 256→a+n≤256→spanN s a n<2 ^ 256
 | 0,s,a,h,_=>h
 |n+1,s,a,h,hn=>spanN_lt n _ _ (Nat.or_lt_two_pow h (by rw[Nat.one_shiftLeft];exact Nat.pow_lt_pow_right (by decide) (by omega))) (by omega)
def NodV (n0:Nat) (h':Heap) (s:By) (p:Option (Nd×By)) (r:Value):Prop :=
 match p with
 |none=>∃(k st:Nat) (w:Value),w.oneCell'=true∧r= .tuple #[.agg (ndC k st w).toArray,.int .i64 (-1)]
 |some (x,t)=>∃(w:Value) (k:Nat),k≤s.length∧t=s.drop k∧r= .tuple #[.agg (ndC x.kind x.set w).toArray,.int .i64 (k:Nat)]∧NdAt h' (blw n0) (ndC x.kind x.set w) x
theorem spanB_lt (a b:UInt8) (h:acc<2 ^ 256) (hab:a.toNat≤b.toNat+1):spanB acc a b<2 ^ 256:=spanN_lt _ _ _ h (by have:=a.toNat_lt;have:=b.toNat_lt;omega)
theorem notSet_eq (ha:acc<2 ^ 256) (ho:∀i,o.testBit i=(decide (i<256) && !acc.testBit i)):o=notSet acc:=by
 apply Nat.eq_of_testBit_eq
 intro i;unfold notSet;rw[ho,Nat.testBit_xor,show allSet=2 ^ 256-1 from rfl,Nat.testBit_two_pow_sub_one]
 by_cases hi:i<256
 · simp[hi]
 · have:acc.testBit i=false:=Nat.testBit_lt_two_pow (Nat.lt_of_lt_of_le ha (Nat.pow_le_pow_right (by decide) (by omega)));simp[hi,this]
theorem head_at (s:By) (j:Nat) (c:UInt8):(atI s j=(c.toNat:Nat))↔(s.drop j).head? =some c:=by
 rcases atI_cases s j with ⟨_,hd,ha⟩|⟨d,_,_,hd,ha⟩
 · rw[hd,ha];constructor
   · intro e;omega
   · intro e;cases e
 · rw[hd,ha];simp only[List.head?_cons,Option.some.injEq];exact⟨fun e=>UInt8.toNat_inj.1 (by omega),fun e=>by rw[e]⟩
theorem tail_drop (s:By) (j:Nat):(s.drop j).tail=s.drop (j+1):=by rw[List.tail_drop]
theorem ndC_part (k s:Nat) (w:Value):∀(j:Nat) (v:Value),(encSet s)[j]? =some v→(ndC k s w)[1+j]? =some v
 | 0,_,h=>h
 | 1,_,h=>h
 | 2,_,h=>h
 | 3,_,h=>h
 |_+4,_,h=>by simp[encSet] at h
theorem bits_with {b:Nat}(h:∀i,o.testBit i=(decide (i<b) && !acc.testBit i)) (hb:acc.testBit b=false) (i:Nat):(o |||(1 <<< b)).testBit i=(decide (i<b+1) && !acc.testBit i):=by
 rw[Nat.testBit_or,h,Nat.one_shiftLeft,Nat.testBit_two_pow]
 by_cases e:b=i
 · subst e;simp[hb]
 · by_cases e2:i<b
   · simp[e,e2,show i<b+1 by omega]
   · simp[e,e2,show ¬i<b+1 by omega]
theorem bits_keep {b:Nat}(h:∀i,o.testBit i=(decide (i<b) && !acc.testBit i)) (hb:acc.testBit b=true) (i:Nat):o.testBit i=(decide (i<b+1) && !acc.testBit i):=by
 rw[h]
 by_cases e:b=i
 · subst e;simp[hb]
 · by_cases e2:i<b
   · simp[e2,show i<b+1 by omega]
   · simp[e2,show ¬i<b+1 by omega]
theorem bracketR_calls (s:By) (i:Nat) (hi:i≤s.length) (hs:s.length≤1000000):CallsH Tryz.prog 136 #[.string (bs s),.int .i64 (i:Nat)] h (Ret fun r h'=>NodV h.size h' s (bracketP (s.drop i)) r∧Ext0 h h'):=by
 have hbr:=bracketP_cont (s.drop i);refine CallsH.of Tryz.func136 rfl rfl ?_;refine xr Tryz.func136 rfl ?_;refine xo rfl (OpX.allocN H.zr153) ?_;rintro _ h1 ⟨rfl,hkr,he1,hz1⟩;refine xqd 1 [0,1,4,5] rfl ?_;refine xr Tryz.func136 rfl ?_;refine xp rfl (OpP.build (H.bd153_0 _) rfl) ?_;refine xo rfl (OpX.allocN H.zr153) ?_;rintro _ h2 ⟨rfl,hk2,he2,hz2⟩;refine RW.op0 rfl rfl rfl (OpX.storeBlk H.sz153 rfl rfl hk2 (by first|rfl|(simp;done)|(simp;omega)) (by first|decide|exact of_decide_eq_true rfl|(simp;done)|(simp;omega)) (by first|decide|simp[Value.oneCell'])) ?_;rintro _ h3 ⟨rfl,hk3,hx3,hz3⟩;have hk3:Blk h3 h1.size 153 (ndC 1 0 (.slice none 0 0)):=hk3;have hkr:Blk h1 h.size 153 (ndC 0 0 (.slice none 0 0)):=hkr;have e3:Ext0 h h3:=Ext0.only (he1.trans he2) hx3 (by omega);have hkr3:Blk h3 h.size 153 (ndC 0 0 (.slice none 0 0)):=(hkr.ext0 he2).ext hx3 (by show ¬_=_;omega);refine xd [0,1,4,5,6] rfl ?_;refine xra Tryz.func136 2 rfl ?_;refine xo rfl (OpX.call (vs:=[_,_]) Tryz.func119 rfl H.nm119 rfl (CallsH.toX (at_calls s i))) ?_;rintro _ h3 ⟨rfl,rfl⟩;refine xqd 2 [0,1,4,5,6,7] rfl ?_;refine G.seq rfl ?_;refine xrd Tryz.func136 1 [0,1,4,5,6,7,19] rfl ?_
 have go:∀(nt:Bool) (i1:Nat) (h':Heap) (ρ':Env),Sub [(0,.string (bs s)),(1,.int .i64 (i1:Nat)),(4,.pointer (some ⟨h.size,0,none⟩)),(6,.pointer (some ⟨h1.size,0,none⟩)),(7,.bool nt)] ρ'→h'=h3→nt=decide ((s.drop i).head? =some 94)→i1≤s.length→s.drop i1=(if (s.drop i).head? =some 94 then (s.drop i).tail else s.drop i)→G Tryz.prog 136 Tryz.f136 [.code [1,1,1,1]] ρ' h' (Ret fun r h'=>NodV h.size h' s (bracketP (s.drop i)) r∧Ext0 h h'):=by
  rintro nt i1 h3 ρ' hsub rfl hnt hi1 hd1;rw[←hd1] at hbr;generalize htg:contP true 0 (s.drop i1)=tgt at hbr;refine G.sub (ρ':=[(0,.string (bs s)),(1,.int .i64 (i1:Nat)),(4,.pointer (some ⟨h.size,0,none⟩)),(6,.pointer (some ⟨h1.size,0,none⟩)),(7,.bool nt)]) hsub ?_;refine G.seq rfl ?_;refine xrd Tryz.func136 1 [0,1,4,6,7,8] rfl ?_;refine G.block rfl rfl ?_;refine G.loop (σ:=Nat×Nat×Nat) (fun q=>[(0,.string (bs s)),(1,.int .i64 (q.2.2:Nat)),(4,.pointer (some ⟨h.size,0,none⟩)),(6,.pointer (some ⟨h1.size,0,none⟩)),(7,.bool nt),(8,.int .i64 (q.1:Nat))]) (fun q h'=>Blk h' h1.size 153 (ndC 1 q.2.1 (.slice none 0 0))∧Blk h' h.size 153 (ndC 0 0 (.slice none 0 0))∧Ext0 h h'∧(q.2.2≤s.length∧q.1≤q.2.2∧q.2.1<2 ^ 256)∧contP (q.1 ==0) q.2.1 (s.drop q.2.2)=tgt) (fun q=>s.length-q.2.2) ((0,0,i1)) rfl ⟨rfl,rfl,rfl,rfl,rfl,rfl,trivial⟩ ⟨hk3,hkr3,e3,⟨hi1,Nat.zero_le _,by show (0:Nat)<2 ^ 256;decide⟩,htg⟩ ?_;rintro⟨many,acc,j⟩ h5 ⟨hk5,hkr5,e5,⟨hj,hmj,hacc⟩,hcon⟩ ih
  try dsimp only
  dsimp only at hk5 hj hmj hacc hcon;have hlt5:=hk5.lt;refine G.seq rfl ?_;refine G.seq rfl ?_;refine G.regTo1 [(29,.bool (decide (¬((many ==0)=false∧(s.drop j).head? =some 93))))] [(0,_),(1,_),(4,_),(6,_),(7,_),(8,_)] ⟨rfl,rfl,rfl,rfl,rfl,rfl,trivial⟩ Tryz.func136 rfl ?_ ?_
  · refine xqm 3 rfl ?_;refine RW.split (d:=24) rfl (fun hm=>?_) (fun hm=>?_)
    · have hm:many=0:=by have:=of_decide_eq_true hm;omega
      refine xqm 5 rfl ?_;refine RW.done rfl ?_;exact⟨rfl,at_bool rfl (by simp[hm]),rfl,rfl,rfl,rfl,rfl,rfl,trivial⟩
    · have hm:¬many=0:=by have:=of_decide_eq_false hm;omega
      refine xqm 2 rfl ?_;refine xo rfl (OpX.call (vs:=[_,_]) Tryz.func119 rfl H.nm119 rfl (CallsH.toX (at_calls s j))) ?_;rintro _ h5 ⟨rfl,rfl⟩;refine xqm 2 rfl ?_;refine RW.done rfl ?_;exact⟨rfl,at_bool rfl (by simp only[show (many ==0)=false by simpa using hm,true_and];exact decide_eq_decide.2 (not_congr (head_at s j 93))),rfl,rfl,rfl,rfl,rfl,rfl,trivial⟩
  · refine G.ite rfl rfl (fun hgo=>?_) (fun hgo=>?_)
    · refine G.skip rfl ?_;refine G.seq rfl ?_;refine G.block rfl rfl ?_;refine xra Tryz.func136 2 rfl ?_;refine xo rfl (OpX.call (vs:=[_,_,_]) Tryz.func138 rfl H.nm138 rfl (CallsH.toX (letterR_calls s j hj hs true))) ?_;rintro _ h5 ⟨hl,rfl⟩;rw[letR_true] at hl
      rcases hp:letP (s.drop j) with _|⟨a,r⟩<;>rw[hp] at hl
      · obtain⟨b0,rfl⟩:=hl;have hnone:bracketP (s.drop i)=none:=by rw[hbr,←hcon,contP_none hgo (from1 hp)];rfl
        refine xqd 5 [0,1,4,6,7,8,9,10,29] rfl ?_;refine G.seq rfl ?_;refine xrd Tryz.func136 2 [0,1,4,6,7,8,9,10,29,39] rfl ?_;refine G.cond rfl rfl (fun _=>?_) (fun hc=>absurd hc (by decide));refine xr Tryz.func136 rfl ?_;refine xp rfl (OpP.loadRowN H.ag153 H.sz153 rfl hk5.row (by first|rfl|(simp;done)|(simp;omega))) ?_;refine RW.op0 rfl rfl rfl (OpX.storeBlk H.sz153 rfl rfl hkr5 (by first|rfl|(simp;done)|(simp;omega)) (by first|decide|exact of_decide_eq_true rfl|(simp;done)|(simp;omega)) (NdAt.one (NdAt.leaf h5 (fun _=>False) 1 acc))) ?_;rintro _ h6 ⟨rfl,hk6,hx6,hz6⟩;refine xqd 1 [0,1,4,5,6,7,8,9,10,29,39] rfl ?_;have hk6:Blk h6 h.size 153 (ndC 1 acc (.slice none 0 0)):=hk6;refine G.retC Tryz.func136 rfl (.cons (ResOk.rowN H.ag153 H.sz153 rfl (hk6.row) (by first|rfl|(simp;done)|(simp;omega))) (.cons (ResOk.tmp rfl) (.nil))) ?_;exact⟨_,rfl,by rw[hnone];exact⟨1,acc,_,rfl,rfl⟩,Ext0.only e5 hx6 (Nat.le_refl _)⟩
      · obtain⟨k,hk,rfl,rfl⟩:=hl;have hrl:=letP_len hp;simp only[List.length_drop] at hrl;refine xqd 5 [0,1,4,6,7,8,9,10,29] rfl ?_;refine G.seq rfl ?_;refine xrd Tryz.func136 2 [0,1,4,6,7,8,9,10,29,39] rfl ?_;refine G.cond rfl rfl (fun hc=>absurd hc (by simp)) (fun _=>?_);refine G.skip rfl ?_;refine xrd Tryz.func136 2 [0,1,4,6,7,8,9,10,11,29,39] rfl ?_;refine G.seq rfl ?_;refine xra Tryz.func136 2 rfl ?_;refine xo rfl (OpX.call (vs:=[_,_]) Tryz.func119 rfl H.nm119 rfl (CallsH.toX (at_calls s k))) ?_;rintro _ h5 ⟨rfl,rfl⟩;refine xqd 1 [0,1,4,6,7,8,9,10,11,29,39,45] rfl ?_;refine G.ite rfl rfl (fun h45=>?_) (fun h45=>?_)
        · have a1:=(head_at s k 45).1 h45
          have hk1:k+1≤s.length:=by
           rcases atI_cases s k with ⟨_,hd,_⟩|⟨_,_,hlt,_,_⟩
           · rw[hd] at a1;cases a1
           · exact hlt
          refine xra Tryz.func136 2 rfl ?_;refine xp rfl (OpP.add64 rfl rfl ⟨by omega,by omega⟩) ?_;refine xo rfl (OpX.call (vs:=[_,_,_]) Tryz.func138 rfl H.nm138 rfl (CallsH.toX (letterR_calls s (k+1) hk1 hs true))) ?_;rintro _ h5 ⟨hl2,rfl⟩;rw[letR_true] at hl2
          rcases hp2:letP (s.drop (k+1)) with _|⟨b,r2⟩<;>rw[hp2] at hl2
          · obtain⟨b0,rfl⟩:=hl2;have hnone:bracketP (s.drop i)=none:=by rw[hbr,←hcon,contP_none hgo (from3 hp a1 (by rw[tail_drop];exact hp2))];rfl
            refine xqd 5 [0,1,4,6,7,8,9,10,11,29,39,45] rfl ?_;refine G.seq rfl ?_;refine G.regTo1 [(59,.bool true)] [(0,_),(1,_),(4,_),(6,_),(7,_),(8,_),(9,_),(10,_),(11,_),(29,_),(39,_),(45,_)] ⟨rfl,rfl,rfl,rfl,rfl,rfl,rfl,rfl,rfl,rfl,rfl,rfl,trivial⟩ Tryz.func136 rfl ?_ ?_
            · refine xqm 3 rfl ?_;refine RW.know (d:=55) (b':=true) rfl (decide_eq_true (by decide)) ?_;refine xqm 4 rfl ?_;refine RW.done rfl ?_;exact⟨rfl,at_bool rfl (rfl),rfl,rfl,rfl,rfl,rfl,rfl,rfl,rfl,rfl,rfl,rfl,rfl,trivial⟩
            · refine G.cond rfl rfl (fun _=>?_) (fun hc=>absurd hc (by decide));refine xr Tryz.func136 rfl ?_;refine xp rfl (OpP.loadRowN H.ag153 H.sz153 rfl hk5.row (by first|rfl|(simp;done)|(simp;omega))) ?_;refine RW.op0 rfl rfl rfl (OpX.storeBlk H.sz153 rfl rfl hkr5 (by first|rfl|(simp;done)|(simp;omega)) (by first|decide|exact of_decide_eq_true rfl|(simp;done)|(simp;omega)) (NdAt.one (NdAt.leaf h5 (fun _=>False) 1 acc))) ?_;rintro _ h6 ⟨rfl,hk6,hx6,hz6⟩;refine xqd 1 [0,1,4,5,6,7,8,9,10,11,29,39,45,59] rfl ?_;have hk6:Blk h6 h.size 153 (ndC 1 acc (.slice none 0 0)):=hk6;refine G.retC Tryz.func136 rfl (.cons (ResOk.rowN H.ag153 H.sz153 rfl (hk6.row) (by first|rfl|(simp;done)|(simp;omega))) (.cons (ResOk.tmp rfl) (.nil))) ?_;exact⟨_,rfl,by rw[hnone];exact⟨1,acc,_,rfl,rfl⟩,Ext0.only e5 hx6 (Nat.le_refl _)⟩
          · obtain⟨k2,hk2',rfl,rfl⟩:=hl2;have hbl:=letP_len hp2;simp only[List.length_drop] at hbl;have hf4:=from4 hp a1 (by rw[tail_drop];exact hp2);have hbt:=b.toNat_lt;have hat:=a.toNat_lt;refine xqd 5 [0,1,4,6,7,8,9,10,11,29,39,45] rfl ?_;refine G.seq rfl ?_;refine G.regTo1 [(59,.bool (decide (b.toNat<a.toNat)))] [(0,_),(1,_),(4,_),(6,_),(7,_),(8,_),(9,_),(10,_),(11,_),(29,_),(39,_),(45,_)] ⟨rfl,rfl,rfl,rfl,rfl,rfl,rfl,rfl,rfl,rfl,rfl,rfl,trivial⟩ Tryz.func136 rfl ?_ ?_
            · refine xqm 3 rfl ?_;refine RW.know (d:=55) (b':=false) rfl (decide_eq_false (by simp)) ?_;refine xqm 4 rfl ?_;refine RW.done rfl ?_;exact⟨rfl,at_bool rfl (by simp),rfl,rfl,rfl,rfl,rfl,rfl,rfl,rfl,rfl,rfl,rfl,rfl,trivial⟩
            · refine G.ite rfl rfl (fun hlow=>?_) (fun hlow=>?_)
              · rw[if_pos hlow] at hf4;have hnone:bracketP (s.drop i)=none:=by rw[hbr,←hcon,contP_none hgo hf4];rfl
                refine xr Tryz.func136 rfl ?_;refine xp rfl (OpP.loadRowN H.ag153 H.sz153 rfl hk5.row (by first|rfl|(simp;done)|(simp;omega))) ?_;refine RW.op0 rfl rfl rfl (OpX.storeBlk H.sz153 rfl rfl hkr5 (by first|rfl|(simp;done)|(simp;omega)) (by first|decide|exact of_decide_eq_true rfl|(simp;done)|(simp;omega)) (NdAt.one (NdAt.leaf h5 (fun _=>False) 1 acc))) ?_;rintro _ h6 ⟨rfl,hk6,hx6,hz6⟩;refine xqd 1 [0,1,4,5,6,7,8,9,10,11,29,39,45,59] rfl ?_;have hk6:Blk h6 h.size 153 (ndC 1 acc (.slice none 0 0)):=hk6;refine G.retC Tryz.func136 rfl (.cons (ResOk.rowN H.ag153 H.sz153 rfl (hk6.row) (by first|rfl|(simp;done)|(simp;omega))) (.cons (ResOk.tmp rfl) (.nil))) ?_;exact⟨_,rfl,by rw[hnone];exact⟨1,acc,_,rfl,rfl⟩,Ext0.only e5 hx6 (Nat.le_refl _)⟩
              · rw[if_neg hlow] at hf4;have hsp:=contP_some (acc:=acc) hgo hf4;refine G.skip rfl ?_;refine xr Tryz.func136 rfl ?_;refine xp rfl (OpP.fieldAddr (off:=1) Tryz.underlying153 rfl rfl H.sz78 rfl) ?_;refine xp rfl (OpP.loadRowN H.ag78 H.sz78 rfl (show Lw.rowAt h5 h1.size 1 (encSet acc) from hk5.part 1 (ndC_part _ _ _)) (by first|rfl|(simp;done)|(simp;omega))) ?_;refine xqp 1 rfl rfl (OpP.convIn Tryz.underlying5 Tryz.underlying3 rfl (wrap_i64 ⟨by omega,by omega⟩)) ?_;refine xqp 1 rfl rfl (OpP.convIn Tryz.underlying5 Tryz.underlying3 rfl (wrap_i64 ⟨by omega,by omega⟩)) ?_;refine xo rfl (OpX.call (vs:=[_,_,_]) Tryz.func137 rfl H.nm137 rfl (CallsH.toX (with_calls acc a.toNat b.toNat (by omega) (by omega)))) ?_;rintro _ h6 ⟨rfl,he6⟩;refine xp rfl (OpP.fieldAddr (off:=1) Tryz.underlying153 rfl rfl H.sz78 rfl) ?_;refine RW.op0 rfl rfl rfl (OpX.storeBlk H.sz78 rfl rfl (hk5.ext0 he6) (by first|rfl|(simp;done)|(simp;omega)) (by first|decide|exact of_decide_eq_true rfl|(simp;done)|(simp;omega)) (encSet_one _)) ?_;rintro _ h7 ⟨rfl,hk7,hx7,hz7⟩;refine xd [0,1,4,6,7,8,9,10,11,29,39,45,59] rfl ?_;refine G.reg Tryz.func136 rfl ?_;refine xqd 2 [0,1,4,6,7,8,9,10,11,29,39,45,59] rfl ?_;refine G.blkEnd ?_;refine G.reg Tryz.func136 rfl ?_;refine xqp 1 rfl rfl (OpP.add64 rfl rfl ⟨by omega,by omega⟩) ?_;refine xqd 1 [0,1,4,6,7,8,9,10,11,29,39,45,59] rfl ?_;have hk7:Blk h7 h1.size 153 (ndC 1 (spanB acc a b) (.slice none 0 0)):=hk7;exact ih (many+1,spanB acc a b,k2) _ _ ⟨rfl,rfl,rfl,rfl,rfl,rfl,trivial⟩ ⟨hk7,(hkr5.ext0 he6).ext hx7 (by show ¬_=_;omega),Ext0.only (e5.trans he6) hx7 (by omega),⟨hk2',by show many+1≤k2;omega,spanB_lt a b hacc (by omega)⟩,by rw[←hcon,hsp];rfl⟩ (by show s.length-k2<s.length-j;omega)
        · have a1:(s.drop k).head? ≠some 45:=fun e=>h45 ((head_at s k 45).2 e)
          have hf2:=from2 hp a1;have hat:=a.toNat_lt;have hsp:=contP_some (acc:=acc) hgo hf2;refine G.skip rfl ?_;refine xr Tryz.func136 rfl ?_;refine xp rfl (OpP.fieldAddr (off:=1) Tryz.underlying153 rfl rfl H.sz78 rfl) ?_;refine xp rfl (OpP.loadRowN H.ag78 H.sz78 rfl (show Lw.rowAt h5 h1.size 1 (encSet acc) from hk5.part 1 (ndC_part _ _ _)) (by first|rfl|(simp;done)|(simp;omega))) ?_;refine xqp 1 rfl rfl (OpP.convIn Tryz.underlying5 Tryz.underlying3 rfl (wrap_i64 ⟨by omega,by omega⟩)) ?_;refine xqp 1 rfl rfl (OpP.convIn Tryz.underlying5 Tryz.underlying3 rfl (wrap_i64 ⟨by omega,by omega⟩)) ?_;refine xo rfl (OpX.call (vs:=[_,_,_]) Tryz.func137 rfl H.nm137 rfl (CallsH.toX (with_calls acc a.toNat a.toNat (by omega) (by omega)))) ?_;rintro _ h6 ⟨rfl,he6⟩;refine xp rfl (OpP.fieldAddr (off:=1) Tryz.underlying153 rfl rfl H.sz78 rfl) ?_;refine RW.op0 rfl rfl rfl (OpX.storeBlk H.sz78 rfl rfl (hk5.ext0 he6) (by first|rfl|(simp;done)|(simp;omega)) (by first|decide|exact of_decide_eq_true rfl|(simp;done)|(simp;omega)) (encSet_one _)) ?_;rintro _ h7 ⟨rfl,hk7,hx7,hz7⟩;refine xd [0,1,4,6,7,8,9,10,11,29,39,45] rfl ?_;refine G.reg Tryz.func136 rfl ?_;refine xqd 2 [0,1,4,6,7,8,9,10,11,29,39,45] rfl ?_;refine G.blkEnd ?_;refine G.reg Tryz.func136 rfl ?_;refine xqp 1 rfl rfl (OpP.add64 rfl rfl ⟨by omega,by omega⟩) ?_;refine xqd 1 [0,1,4,6,7,8,9,10,11,29,39,45] rfl ?_;have hk7:Blk h7 h1.size 153 (ndC 1 (spanB acc a a) (.slice none 0 0)):=hk7;exact ih (many+1,spanB acc a a,k) _ _ ⟨rfl,rfl,rfl,rfl,rfl,rfl,trivial⟩ ⟨hk7,(hkr5.ext0 he6).ext hx7 (by show ¬_=_;omega),Ext0.only (e5.trans he6) hx7 (by omega),⟨hk,by show many+1≤k;omega,spanB_lt a a hacc (by omega)⟩,by rw[←hcon,hsp];rfl⟩ (by show s.length-k<s.length-j;omega)
    · have hgo:=Classical.not_not.1 hgo;have htgt:tgt=some (acc,s.drop (j+1)):=by rw[←hcon];unfold contP;rw[if_pos hgo,tail_drop]
      have hj1:j+1≤s.length:=by
       have a1:=hgo.2
       rcases atI_cases s j with ⟨_,hd,_⟩|⟨_,_,hlt,_,_⟩
       · rw[hd] at a1;cases a1
       · exact hlt
      rw[htgt] at hbr;refine G.exit rfl rfl ?_;refine G.seq rfl ?_;refine xrd Tryz.func136 1 [0,1,4,6,7,8,29,70] rfl ?_
      have fin:∀(fs:Nat) (h':Heap) (ρ':Env),Sub [(1,.int .i64 (j:Nat)),(4,.pointer (some ⟨h.size,0,none⟩)),(6,.pointer (some ⟨h1.size,0,none⟩))] ρ'→Blk h' h1.size 153 (ndC 1 fs (.slice none 0 0))→Blk h' h.size 153 (ndC 0 0 (.slice none 0 0))→Ext0 h h'→bracketP (s.drop i)=some (.mk 1 fs [],s.drop (j+1))→G Tryz.prog 136 Tryz.f136 [.code [1,1,1,1,1,1]] ρ' h' (Ret fun r h'=>NodV h.size h' s (bracketP (s.drop i)) r∧Ext0 h h'):=by
       rintro fs h8 ρ' hsub hk8 hkr8 e8 hb8;refine G.sub (ρ':=[(1,.int .i64 (j:Nat)),(4,.pointer (some ⟨h.size,0,none⟩)),(6,.pointer (some ⟨h1.size,0,none⟩))]) hsub ?_;refine xr Tryz.func136 rfl ?_;refine xp rfl (OpP.loadRowN H.ag153 H.sz153 rfl hk8.row (by first|rfl|(simp;done)|(simp;omega))) ?_;refine xqp 1 rfl rfl (OpP.add64 rfl rfl ⟨by omega,by omega⟩) ?_;refine RW.op0 rfl rfl rfl (OpX.storeBlk H.sz153 rfl rfl hkr8 (by first|rfl|(simp;done)|(simp;omega)) (by first|decide|exact of_decide_eq_true rfl|(simp;done)|(simp;omega)) (NdAt.one (NdAt.leaf h8 (fun _=>False) 1 fs))) ?_;rintro _ h9 ⟨rfl,hk9,hx9,hz9⟩;refine xqd 1 [1,4,5,6] rfl ?_;have hk9:Blk h9 h.size 153 (ndC 1 fs (.slice none 0 0)):=hk9;refine G.retC Tryz.func136 rfl (.cons (ResOk.rowN H.ag153 H.sz153 rfl (hk9.row) (by first|rfl|(simp;done)|(simp;omega))) (.cons (ResOk.tmp rfl) (.nil))) ?_;exact⟨_,rfl,by rw[hb8];exact⟨_,j+1,hj1,rfl,rfl,NdAt.leaf _ _ _ _⟩,Ext0.only e8 hx9 (Nat.le_refl _)⟩
      refine G.cond rfl rfl (fun hb=>?_) (fun hb=>?_)
      · have hnt':(s.drop i).head? =some 94:=by rw[hnt] at hb;exact of_decide_eq_true hb
        simp only[hnt',if_true] at hbr;refine xr Tryz.func136 rfl ?_;refine xo rfl (OpX.allocN H.zr78) ?_;rintro _ h6 ⟨rfl,hk6,he6,hz6⟩;refine xd [0,1,4,6,7,8,12,29,70] rfl ?_;refine G.seq rfl ?_;refine xrd Tryz.func136 1 [0,1,4,6,7,8,12,13,29,70] rfl ?_;refine G.block rfl rfl ?_;have hk6:Blk h6 h5.size 78 (encSet 0):=hk6;refine G.loop (σ:=Nat×Nat) (fun q=>[(1,.int .i64 (j:Nat)),(4,.pointer (some ⟨h.size,0,none⟩)),(6,.pointer (some ⟨h1.size,0,none⟩)),(12,.pointer (some ⟨h5.size,0,none⟩)),(13,.int .i64 (q.1:Nat))]) (fun q h'=>Blk h' h1.size 153 (ndC 1 acc (.slice none 0 0))∧Blk h' h.size 153 (ndC 0 0 (.slice none 0 0))∧Blk h' h5.size 78 (encSet q.2)∧Ext0 h h'∧q.1≤256∧∀i,q.2.testBit i=(decide (i<q.1) && !acc.testBit i)) (fun q=>256-q.1) ((0,0)) rfl ⟨rfl,rfl,rfl,rfl,rfl,trivial⟩ ⟨hk5.ext0 he6,hkr5.ext0 he6,hk6,e5.trans he6,by decide,by simp⟩ ?_;rintro⟨b,o⟩ h7 ⟨hk7,hkr7,ho7,e7,hb256,hbits⟩ ih2
        try dsimp only
        dsimp only at ho7 hb256 hbits;refine G.seq rfl ?_;refine xrd Tryz.func136 2 [1,4,6,12,13,72] rfl ?_;refine G.ite rfl rfl (fun hlt=>?_) (fun hlt=>?_)
        · have hlt':b<256:=by omega
          have hub:(UInt8.ofNat b).toNat=b:=by simp;omega
          have hcv:IntKind.u8.wrap ((b:Nat):Int)=(((UInt8.ofNat b).toNat:Nat):Int):=by rw[hub];exact wrap_u8 (by omega)
          refine G.skip rfl ?_;refine G.seq rfl ?_;refine G.block rfl rfl ?_;refine xr Tryz.func136 rfl ?_;refine xp rfl (OpP.fieldAddr (off:=1) Tryz.underlying153 rfl rfl H.sz78 rfl) ?_;refine xp rfl (OpP.loadRowN H.ag78 H.sz78 rfl (show Lw.rowAt h7 h1.size 1 (encSet acc) from hk7.part 1 (ndC_part _ _ _)) (by first|rfl|(simp;done)|(simp;omega))) ?_;refine xqp 1 rfl rfl (OpP.convInt Tryz.underlying3 Tryz.underlying5 rfl) ?_;refine xo rfl (OpX.call (vs:=[_,_]) Tryz.func108 rfl H.nm108 rfl (CallsH.toX (hcv▸hasR_calls acc (UInt8.ofNat b)))) ?_;rintro _ h8 ⟨rfl,he8⟩;refine xqd 1 [1,4,6,12,13,72,80] rfl ?_;rw[hub];refine G.cond rfl rfl (fun hnot=>?_) (fun hnot=>?_)
          · have hbit:acc.testBit b=false:=by simpa using hnot
            refine G.reg Tryz.func136 rfl ?_;refine xp rfl (OpP.loadRowN H.ag78 H.sz78 rfl (ho7.ext0 he8).row (by first|rfl|(simp;done)|(simp;omega))) ?_;refine xqm 2 rfl ?_;refine xo rfl (OpX.call (vs:=[_,_,_]) Tryz.func137 rfl H.nm137 rfl (CallsH.toX (with_calls o b b (by omega) (by omega)))) ?_;rintro _ h9 ⟨rfl,he9⟩;refine RW.op0 rfl rfl rfl (OpX.storeBlk H.sz78 rfl rfl ((ho7.ext0 he8).ext0 he9) (by first|rfl|(simp;done)|(simp;omega)) (by first|decide|exact of_decide_eq_true rfl|(simp;done)|(simp;omega)) (encSet_one _)) ?_;rintro _ h10 ⟨rfl,hk10,hx10,hz10⟩;refine xd [1,4,6,12,13,72,80] rfl ?_;refine G.blkEnd ?_;refine G.reg Tryz.func136 rfl ?_;refine xqp 1 rfl rfl (OpP.add64 rfl rfl ⟨by omega,by omega⟩) ?_;refine xqd 1 [1,4,6,12,13,72,80] rfl ?_;have hsp:spanN o b (b+1-b)=o |||(1 <<< b):=by rw[show b+1-b=1 by omega];rfl
            have hk10:Blk h10 h5.size 78 (encSet (o |||(1 <<< b))):=by rw[←hsp];exact hk10
            exact ih2 (b+1,o |||(1 <<< b)) _ _ ⟨rfl,rfl,rfl,rfl,rfl,trivial⟩ ⟨((hk7.ext0 he8).ext0 he9).ext hx10 (by show ¬_=_;omega),((hkr7.ext0 he8).ext0 he9).ext hx10 (by show ¬_=_;omega),hk10,Ext0.only ((e7.trans he8).trans he9) hx10 (by omega),by show b+1≤256;omega,bits_with hbits hbit⟩ (by show 256-(b+1)<256-b;omega)
          · have hbit:acc.testBit b=true:=by simpa using hnot
            refine G.skip rfl ?_;refine G.blkEnd ?_;refine G.reg Tryz.func136 rfl ?_;refine xqp 1 rfl rfl (OpP.add64 rfl rfl ⟨by omega,by omega⟩) ?_;refine xqd 1 [1,4,6,12,13,72,80] rfl ?_;exact ih2 (b+1,o) _ _ ⟨rfl,rfl,rfl,rfl,rfl,trivial⟩ ⟨hk7.ext0 he8,hkr7.ext0 he8,ho7.ext0 he8,e7.trans he8,by show b+1≤256;omega,bits_keep hbits hbit⟩ (by show 256-(b+1)<256-b;omega)
        · obtain rfl:b=256:=by omega
          have hno:=notSet_eq hacc hbits;refine G.exit rfl rfl ?_;refine G.reg Tryz.func136 rfl ?_;refine xp rfl (OpP.loadRowN H.ag78 H.sz78 rfl ho7.row (by first|rfl|(simp;done)|(simp;omega))) ?_;refine xp rfl (OpP.fieldAddr (off:=1) Tryz.underlying153 rfl rfl H.sz78 rfl) ?_;refine RW.op0 rfl rfl rfl (OpX.storeBlk H.sz78 rfl rfl hk7 (by first|rfl|(simp;done)|(simp;omega)) (by first|decide|exact of_decide_eq_true rfl|(simp;done)|(simp;omega)) (encSet_one _)) ?_;rintro _ h8 ⟨rfl,hk8,hx8,hz8⟩;refine xd [1,4,6,12,13,72] rfl ?_;have hk8:Blk h8 h1.size 153 (ndC 1 (notSet acc) (.slice none 0 0)):=by rw[←hno];exact hk8
          exact fin (notSet acc) _ _ ⟨rfl,rfl,rfl,trivial⟩ hk8 (hkr7.ext hx8 (by show ¬_=_;omega)) (Ext0.only e7 hx8 (by omega)) hbr
      · have hnt':¬(s.drop i).head? =some 94:=by rw[hnt] at hb;exact of_decide_eq_false hb
        simp only[hnt',if_false] at hbr;refine G.skip rfl ?_;exact fin acc _ _ ⟨rfl,rfl,rfl,trivial⟩ hk5 hkr5 e5 hbr
 refine G.cond rfl rfl (fun hb=>?_) (fun hb=>?_)
 · have hb:atI s i=94:=of_decide_eq_true hb;have a1:=(head_at s i 94).1 hb
   have hi1:i+1≤s.length:=by
    rcases atI_cases s i with ⟨_,hd,_⟩|⟨_,_,hlt,_,_⟩
    · rw[hd] at a1;cases a1
    · exact hlt
   refine G.reg Tryz.func136 rfl ?_;refine xqp 1 rfl rfl (OpP.add64 rfl rfl ⟨by omega,by omega⟩) ?_;refine xqd 1 [0,1,4,5,6,7,19] rfl ?_;exact go _ (i+1) _ _ ⟨rfl,rfl,rfl,rfl,rfl,trivial⟩ rfl (by rw[hb];simp[a1]) hi1 (by rw[if_pos a1,tail_drop])
 · have hb:¬atI s i=94:=of_decide_eq_false hb;have a1:¬(s.drop i).head? =some 94:=fun e=>hb ((head_at s i 94).2 e)
   refine G.skip rfl ?_;exact go _ i _ _ ⟨rfl,rfl,rfl,rfl,rfl,trivial⟩ rfl (by rw[decide_eq_false hb];exact(decide_eq_false a1).symm) hi (by rw[if_neg a1])
theorem join_calls {O:Nat→Prop}{v:Value}{xs:List Nd}(kind:Nat) (hv:SlR eNd h O v xs):CallsH Tryz.prog 120 #[.int .i64 (kind:Nat),v] h (Ret fun r h'=>(∃w,r= .agg (ndC (joinNd kind xs).kind (joinNd kind xs).set w).toArray∧NdAt h' O (ndC (joinNd kind xs).kind (joinNd kind xs).set w) (joinNd kind xs))∧Ext0 h h'):=by
 obtain⟨oa,n,c,rfl,hsl⟩:=hv.open;have hn:=hsl.len;refine CallsH.of Tryz.func120 rfl rfl ?_;refine xr Tryz.func120 rfl ?_;refine xo rfl (OpX.allocN H.zr153) ?_;rintro _ h1 ⟨rfl,hk,he,hz⟩;refine xd [0,1,4] rfl ?_;refine G.seq rfl ?_;refine xra Tryz.func120 1 rfl ?_;refine xp rfl (OpP.lenSlice Tryz.underlying151 rfl) ?_;refine xqd 1 [0,1,4,7] rfl ?_;have hk:Blk h1 h.size 153 (ndC 0 0 (.slice none 0 0)):=hk;have hsl1:=hsl.mv (Mv.ext0 he);have hv1:=hv.ext0 he;refine G.ite rfl rfl (fun e0=>?_) (fun e0=>?_)
 · obtain rfl:n=0:=by omega
   have hx:xs=[]:=List.eq_nil_of_length_eq_zero hn;subst hx;refine xr Tryz.func120 rfl ?_;refine xp rfl (OpP.build (H.bd153_ ) rfl) ?_;refine RW.op0 rfl rfl rfl (OpX.storeBlk H.sz153 rfl rfl hk (by first|rfl|(simp;done)|(simp;omega)) (by first|decide|exact of_decide_eq_true rfl|(simp;done)|(simp;omega)) (by first|decide|simp[Value.oneCell'])) ?_;rintro _ h2 ⟨rfl,hk2,hx2,hz2⟩;refine xd [0,1,4,7] rfl ?_;have hk2:Blk h2 h.size 153 (ndC 0 0 (.slice none 0 0)):=hk2;refine G.retC Tryz.func120 rfl (.cons (ResOk.rowN H.ag153 H.sz153 rfl (hk2.row) (by first|rfl|(simp;done)|(simp;omega))) (.nil)) ?_;exact⟨_,rfl,⟨_,rfl,NdAt.leaf _ _ 0 0⟩,Ext0.only he hx2 (Nat.le_refl _)⟩
 · refine G.skip rfl ?_;refine G.seq rfl ?_;refine xra Tryz.func120 1 rfl ?_;refine xp rfl (OpP.lenSlice Tryz.underlying151 rfl) ?_;refine xqd 1 [0,1,4,7,11] rfl ?_;refine G.ite rfl rfl (fun e1=>?_) (fun e1=>?_)
   · obtain rfl:n=1:=by omega
     obtain⟨x,rfl⟩:=List.length_eq_one_iff.1 hn;obtain⟨b,o,cs,ha,ho,hr,hR⟩:=hsl.get 0 x rfl;have hr:=he.rowAt (fun k=>k) hr;obtain⟨w,rfl,hw⟩:=NdAt.open hR;refine xra Tryz.func120 1 rfl ?_;refine xp rfl (OpP.indexSlice Tryz.underlying151 H.sz153 rfl rfl 0 rfl ha (by decide)) ?_;refine xp rfl (OpP.loadRowN H.ag153 H.sz153 rfl hr (by first|rfl|(simp;done)|(simp;omega))) ?_;refine RW.op0 rfl rfl rfl (OpX.storeBlk H.sz153 rfl rfl hk (by first|rfl|(simp;done)|(simp;omega)) (by first|decide|exact of_decide_eq_true rfl|(simp;done)|(simp;omega)) (eNd.one hR)) ?_;rintro _ h2 ⟨rfl,hk2,hx2,hz2⟩;refine xd [0,1,4,7,11] rfl ?_;have hk2:Blk h2 h.size 153 (ndC x.kind x.set w):=hk2;refine G.retC Tryz.func120 rfl (.cons (ResOk.rowN H.ag153 H.sz153 rfl (hk2.row) (by first|rfl|(simp;done)|(simp;omega))) (.nil)) ?_;exact⟨_,rfl,⟨w,rfl,NdAt.ext0 hR (Ext0.only he hx2 (Nat.le_refl _))⟩,Ext0.only he hx2 (Nat.le_refl _)⟩
   · refine G.skip rfl ?_;refine xra Tryz.func120 2 rfl ?_;refine xp rfl (OpP.build (H.bd153_0_2 _ _ _ _) rfl) ?_;refine RW.op0 rfl rfl rfl (OpX.storeBlk H.sz153 rfl rfl hk (by first|rfl|(simp;done)|(simp;omega)) (by first|decide|exact of_decide_eq_true rfl|(simp;done)|(simp;omega)) (by first|decide|simp[Value.oneCell'])) ?_;rintro _ h2 ⟨rfl,hk2,hx2,hz2⟩;refine xd [0,1,4,7,11] rfl ?_;have hk2:Blk h2 h.size 153 (ndC kind 0 (.slice oa n c)):=hk2;refine G.retC Tryz.func120 rfl (.cons (ResOk.rowN H.ag153 H.sz153 rfl (hk2.row) (by first|rfl|(simp;done)|(simp;omega))) (.nil)) ?_
     have hj:joinNd kind xs= .mk kind 0 xs:=by
      unfold joinNd;split
      · simp at hn;omega
      · simp at hn;omega
      · rfl
     rw[hj];exact⟨_,rfl,⟨.slice oa n c,rfl,NdAt.of kind 0 (hv.ext0 (Ext0.only he hx2 (Nat.le_refl _)))⟩,Ext0.only he hx2 (Nat.le_refl _)⟩
def signI (c:Int):Nat:=if c=42 then 4 else if c=43 then 5 else if c=63 then 6 else 0
theorem signR_calls (c:Int):CallsH Tryz.prog 122 #[.int .i64 c] h (Ret fun r h'=>r= .int .i64 (signI c:Nat)∧h'=h):=by
 refine CallsH.of Tryz.func122 rfl rfl ?_;refine xrd Tryz.func122 1 [0,2] rfl ?_;refine G.seq rfl ?_;refine xrd Tryz.func122 2 [0,2,4] rfl ?_;refine G.ite rfl rfl (fun e1=>?_) (fun e1=>?_)
 · refine xrd Tryz.func122 1 [0,2,4] rfl ?_;refine G.ret Tryz.func122 rfl rfl ?_;exact⟨_,rfl,by unfold signI;rw[if_pos e1];rfl,rfl⟩
 · refine G.skip rfl ?_;refine G.seq rfl ?_;refine xrd Tryz.func122 2 [0,2,4,6] rfl ?_;refine G.ite rfl rfl (fun e2=>?_) (fun e2=>?_)
   · refine xrd Tryz.func122 1 [0,2,4,6] rfl ?_;refine G.ret Tryz.func122 rfl rfl ?_;exact⟨_,rfl,by unfold signI;rw[if_neg e1,if_pos e2];rfl,rfl⟩
   · refine G.skip rfl ?_;refine G.seq rfl ?_;refine xrd Tryz.func122 2 [0,2,4,6,8] rfl ?_;refine G.ite rfl rfl (fun e3=>?_) (fun e3=>?_)
     · refine xrd Tryz.func122 1 [0,2,4,6,8] rfl ?_;refine G.ret Tryz.func122 rfl rfl ?_;exact⟨_,rfl,by unfold signI;rw[if_neg e1,if_neg e2,if_pos e3];rfl,rfl⟩
     · refine G.skip rfl ?_;refine xrd Tryz.func122 1 [0,2,4,6,8] rfl ?_;refine G.ret Tryz.func122 rfl rfl ?_;exact⟨_,rfl,by unfold signI;rw[if_neg e1,if_neg e2,if_neg e3];rfl,rfl⟩
theorem signI_at (s:By) (j:Nat):signI (atI s j)=signOf ((s.drop j).head?.getD 0):=by
 rcases atI_cases s j with ⟨_,hd,ha⟩|⟨c,_,_,hd,ha⟩
 · rw[hd,ha];rfl
 · rw[hd,ha];simp only[List.head?_cons,Option.getD_some];unfold signI signOf;have e1:(((c.toNat:Nat):Int)=42)↔c=42:=u8_is rfl;have e2:(((c.toNat:Nat):Int)=43)↔c=43:=u8_is rfl;have e3:(((c.toNat:Nat):Int)=63)↔c=63:=u8_is rfl;simp only[e1,e2,e3]
def RowsOkR (d:Nat):Prop:=∀(h:Heap) (s:By) (i:Nat),i≤s.length→(s.drop i).length<d→s.length≤1000000 →
 CallsH Tryz.prog 104 #[.string (bs s),.int .i64 (i:Nat)] h (Ret fun r h'=>NodV h.size h' s (rowsP d (s.drop i)) r∧Ext0 h h')
theorem ndC_oneW {k st:Nat}{w:Value}(hw:w.oneCell'=true):∀v∈ndC k st w,v.oneCell'=true:=by
 intro v hv;simp[ndC,encW] at hv
 rcases hv with rfl|rfl|rfl|rfl|rfl|rfl<;>first|rfl|exact hw
theorem atomR_calls {d:Nat}(ih:RowsOkR d) (s:By) (i:Nat) (hi:i≤s.length) (hd:(s.drop i).length≤d) (hs:s.length≤1000000):CallsH Tryz.prog 121 #[.string (bs s),.int .i64 (i:Nat)] h (Ret fun r h'=>NodV h.size h' s (atomP (rowsP d) (s.drop i)) r∧Ext0 h h'):=by
 refine CallsH.of Tryz.func121 rfl rfl ?_;refine xr Tryz.func121 rfl ?_;refine xo rfl (OpX.allocN H.zr153) ?_;rintro _ h1 ⟨rfl,hkr,he1,hz1⟩;refine xqd 1 [0,1,4,5] rfl ?_;refine G.seq rfl ?_;refine xra Tryz.func121 2 rfl ?_;refine xo rfl (OpX.call (vs:=[_,_]) Tryz.func119 rfl H.nm119 rfl (CallsH.toX (at_calls s i))) ?_;rintro _ h1 ⟨rfl,rfl⟩;refine xd [0,1,4,5,12] rfl ?_;refine G.block rfl rfl ?_;refine xrd Tryz.func121 2 [0,1,4,5,12,13] rfl ?_;have hkr:Blk h1 h.size 153 (ndC 0 0 (.slice none 0 0)):=hkr;refine G.ite rfl rfl (fun c1=>?_) (fun c1=>?_)
 · have a1:=(head_at s i 40).1 c1
   obtain⟨hlt,hdr⟩:i<s.length∧s.drop i=40::s.drop (i+1):=by
    rcases atI_cases s i with ⟨_,hd,_⟩|⟨c,_,hlt,hd,_⟩
    · rw[hd] at a1;cases a1
    · rw[hd] at a1;simp at a1;subst a1;exact⟨hlt,hd⟩
   rw[hdr];rw[hdr] at hd;simp only[List.length_cons] at hd;refine xra Tryz.func121 2 rfl ?_;refine xp rfl (OpP.add64 rfl rfl ⟨by omega,by omega⟩) ?_;refine xo rfl (OpX.call (vs:=[_,_]) Tryz.func104 rfl H.nm104 rfl (CallsH.toX (ih h1 s (i+1) (by omega) (by omega) hs))) ?_;rintro _ h2 ⟨hv,he2⟩;have hz2:=he2.size;have hkr2:=hkr.ext0 he2
   rcases hp:rowsP d (s.drop (i+1)) with _|⟨x,t⟩<;>rw[hp] at hv
   · obtain⟨k,st,w,hw,rfl⟩:=hv;have hat:atomP (rowsP d) (40::s.drop (i+1))=none:=by unfold atomP;simp[hp]
     refine xqm 3 rfl ?_;refine xo rfl (OpX.allocN H.zr153) ?_;rintro _ h3 ⟨rfl,hk3,he3,hz3⟩;refine RW.op0 rfl rfl rfl (OpX.storeBlk H.sz153 rfl rfl hk3 (by first|rfl|(simp;done)|(simp;omega)) (by first|decide|exact of_decide_eq_true rfl|(simp;done)|(simp;omega)) (ndC_oneW hw)) ?_;rintro _ h4 ⟨rfl,hk4,hx4,hz4⟩;refine xqd 1 [0,1,4,5,6,7,12,13] rfl ?_;refine G.seq rfl ?_;refine G.seq rfl ?_;have hk4:Blk h4 h2.size 153 (ndC k st w):=hk4;refine G.regTo1 [(29,.bool true)] [(0,_),(1,_),(4,_),(5,_),(6,_),(7,_),(12,_),(13,_)] ⟨rfl,rfl,rfl,rfl,rfl,rfl,rfl,rfl,trivial⟩ Tryz.func121 rfl ?_ ?_
     · refine xqm 3 rfl ?_;refine RW.know (d:=24) (b':=true) rfl (decide_eq_true (by decide)) ?_;refine xqm 5 rfl ?_;refine RW.done rfl ?_;exact⟨rfl,at_bool rfl (rfl),rfl,rfl,rfl,rfl,rfl,rfl,rfl,rfl,trivial⟩
     · refine G.cond rfl rfl (fun _=>?_) (fun hc=>absurd hc (by decide));refine xr Tryz.func121 rfl ?_;refine xp rfl (OpP.loadRowN H.ag153 H.sz153 rfl hk4.row (by first|rfl|(simp;done)|(simp;omega))) ?_;refine RW.op0 rfl rfl rfl (OpX.storeBlk H.sz153 rfl rfl ((hkr2.ext0 he3).ext hx4 (by show ¬_=_;omega)) (by first|rfl|(simp;done)|(simp;omega)) (by first|decide|exact of_decide_eq_true rfl|(simp;done)|(simp;omega)) (ndC_oneW hw)) ?_;rintro _ h5 ⟨rfl,hk5,hx5,hz5⟩;refine xqd 1 [0,1,4,5,6,7,12,13,29] rfl ?_;have hk5:Blk h5 h.size 153 (ndC k st w):=hk5;refine G.retC Tryz.func121 rfl (.cons (ResOk.rowN H.ag153 H.sz153 rfl (hk5.row) (by first|rfl|(simp;done)|(simp;omega))) (.cons (ResOk.tmp rfl) (.nil))) ?_;exact⟨_,rfl,by rw[hat];exact⟨k,st,w,hw,rfl⟩,Ext0.only (Ext0.only ((he1.trans he2).trans he3) hx4 (by omega)) hx5 (Nat.le_refl _)⟩
   · obtain⟨w,k,hk,rfl,rfl,hnd⟩:=hv;refine xqm 3 rfl ?_;refine xo rfl (OpX.allocN H.zr153) ?_;rintro _ h3 ⟨rfl,hk3,he3,hz3⟩;refine RW.op0 rfl rfl rfl (OpX.storeBlk H.sz153 rfl rfl hk3 (by first|rfl|(simp;done)|(simp;omega)) (by first|decide|exact of_decide_eq_true rfl|(simp;done)|(simp;omega)) (NdAt.one hnd)) ?_;rintro _ h4 ⟨rfl,hk4,hx4,hz4⟩;refine xqd 1 [0,1,4,5,6,7,12,13] rfl ?_;refine G.seq rfl ?_;refine G.seq rfl ?_;have hk4:Blk h4 h2.size 153 (ndC x.kind x.set w):=hk4;have hkr4:=(hkr2.ext0 he3).ext hx4 (by show ¬_=_;omega);have e24:Ext0 h2 h4:=Ext0.only he3 hx4 (Nat.le_refl _);have hnd4:=hnd.ext0 e24;have e4:=(he1.trans he2).trans e24;refine G.regTo1 [(29,.bool (decide (¬(s.drop k).head? =some 41)))] [(0,_),(1,_),(4,_),(5,_),(6,_),(7,_),(12,_),(13,_)] ⟨rfl,rfl,rfl,rfl,rfl,rfl,rfl,rfl,trivial⟩ Tryz.func121 rfl ?_ ?_
     · refine xqm 3 rfl ?_;refine RW.know (d:=24) (b':=false) rfl (decide_eq_false (by simp)) ?_;refine xqm 2 rfl ?_;refine xo rfl (OpX.call (vs:=[_,_]) Tryz.func119 rfl H.nm119 rfl (CallsH.toX (at_calls s k))) ?_;rintro _ h4 ⟨rfl,rfl⟩;refine xqm 2 rfl ?_;refine RW.done rfl ?_;exact⟨rfl,at_bool rfl (by exact decide_eq_decide.2 (not_congr (head_at s k 41))),rfl,rfl,rfl,rfl,rfl,rfl,rfl,rfl,trivial⟩
     · refine G.ite rfl rfl (fun hno=>?_) (fun hno=>?_)
       · have hat:atomP (rowsP d) (40::s.drop (i+1))=none:=by
          unfold atomP;simp only[if_true,hp];split
          · rename_i heq;rw[heq] at hno;exact absurd rfl hno
          · rfl
         refine xr Tryz.func121 rfl ?_;refine xp rfl (OpP.loadRowN H.ag153 H.sz153 rfl hk4.row (by first|rfl|(simp;done)|(simp;omega))) ?_;refine RW.op0 rfl rfl rfl (OpX.storeBlk H.sz153 rfl rfl hkr4 (by first|rfl|(simp;done)|(simp;omega)) (by first|decide|exact of_decide_eq_true rfl|(simp;done)|(simp;omega)) (NdAt.one hnd4)) ?_;rintro _ h5 ⟨rfl,hk5,hx5,hz5⟩;refine xqd 1 [0,1,4,5,6,7,12,13,29] rfl ?_;have hk5:Blk h5 h.size 153 (ndC x.kind x.set w):=hk5;refine G.retC Tryz.func121 rfl (.cons (ResOk.rowN H.ag153 H.sz153 rfl (hk5.row) (by first|rfl|(simp;done)|(simp;omega))) (.cons (ResOk.tmp rfl) (.nil))) ?_;exact⟨_,rfl,by rw[hat];exact⟨x.kind,x.set,w,by obtain⟨w',hw',oa,n,c,rfl,_⟩:=NdAt.open hnd4;simp[ndC] at hw';rw[hw'];rfl,rfl⟩,Ext0.only e4 hx5 (Nat.le_refl _)⟩
       · have hno:=Classical.not_not.1 hno
         obtain⟨hk1,hdk⟩:k<s.length∧s.drop k=41::s.drop (k+1):=by
          rcases atI_cases s k with ⟨_,hd,_⟩|⟨c,_,hlt,hd,_⟩
          · rw[hd] at hno;cases hno
          · rw[hd] at hno;simp at hno;subst hno;exact⟨hlt,hd⟩
         have hat:atomP (rowsP d) (40::s.drop (i+1))=some (x,s.drop (k+1)):=by unfold atomP;simp only[if_true,hp,hdk]
         refine G.skip rfl ?_;refine xr Tryz.func121 rfl ?_;refine xp rfl (OpP.loadRowN H.ag153 H.sz153 rfl hk4.row (by first|rfl|(simp;done)|(simp;omega))) ?_;refine xqp 1 rfl rfl (OpP.add64 rfl rfl ⟨by omega,by omega⟩) ?_;refine RW.op0 rfl rfl rfl (OpX.storeBlk H.sz153 rfl rfl hkr4 (by first|rfl|(simp;done)|(simp;omega)) (by first|decide|exact of_decide_eq_true rfl|(simp;done)|(simp;omega)) (NdAt.one hnd4)) ?_;rintro _ h5 ⟨rfl,hk5,hx5,hz5⟩;refine xqd 1 [0,1,4,5,6,7,12,13,29] rfl ?_;have hk5:Blk h5 h.size 153 (ndC x.kind x.set w):=hk5;refine G.retC Tryz.func121 rfl (.cons (ResOk.rowN H.ag153 H.sz153 rfl (hk5.row) (by first|rfl|(simp;done)|(simp;omega))) (.cons (ResOk.tmp rfl) (.nil))) ?_;exact⟨_,rfl,by rw[hat];exact⟨w,k+1,by omega,rfl,rfl,NdAt.low hnd4 (by omega) hx5 (fun b _ (hb:b=h.size)=>by omega)⟩,Ext0.only e4 hx5 (Nat.le_refl _)⟩
 · have a1:¬(s.drop i).head? =some 40:=fun e=>c1 ((head_at s i 40).2 e)
   refine xrd Tryz.func121 2 [0,1,4,5,12,13,34] rfl ?_;refine G.ite rfl rfl (fun c2=>?_) (fun c2=>?_)
   · have a2:=(head_at s i 91).1 c2
     obtain⟨hlt,hdr⟩:i<s.length∧s.drop i=91::s.drop (i+1):=by
      rcases atI_cases s i with ⟨_,hd,_⟩|⟨c,_,hlt,hd,_⟩
      · rw[hd] at a2;cases a2
      · rw[hd] at a2;simp at a2;subst a2;exact⟨hlt,hd⟩
     have hat:atomP (rowsP d) (s.drop i)=bracketP (s.drop (i+1)):=by rw[hdr];unfold atomP;simp
     rw[hat];refine xra Tryz.func121 2 rfl ?_;refine xp rfl (OpP.add64 rfl rfl ⟨by omega,by omega⟩) ?_;refine xo rfl (OpX.call (vs:=[_,_]) Tryz.func136 rfl H.nm136 rfl (CallsH.toX (bracketR_calls s (i+1) (by omega) hs))) ?_;rintro _ h2 ⟨hv,he2⟩;have hz2:=he2.size;have hkr2:=hkr.ext0 he2
     rcases hp:bracketP (s.drop (i+1)) with _|⟨x,t⟩<;>rw[hp] at hv
     · obtain⟨k,st,w,hw,rfl⟩:=hv;refine xqm 2 rfl ?_;refine RW.op0 rfl rfl rfl (OpX.storeBlk H.sz153 rfl rfl hkr2 (by first|rfl|(simp;done)|(simp;omega)) (by first|decide|exact of_decide_eq_true rfl|(simp;done)|(simp;omega)) (ndC_oneW hw)) ?_;rintro _ h3 ⟨rfl,hk3,hx3,hz3⟩;refine xqd 1 [0,1,4,5,12,13,34] rfl ?_;have hk3:Blk h3 h.size 153 (ndC k st w):=hk3;refine G.retC Tryz.func121 rfl (.cons (ResOk.rowN H.ag153 H.sz153 rfl (hk3.row) (by first|rfl|(simp;done)|(simp;omega))) (.cons (ResOk.tmp rfl) (.nil))) ?_;exact⟨_,rfl,⟨k,st,w,hw,rfl⟩,Ext0.only (he1.trans he2) hx3 (Nat.le_refl _)⟩
     · obtain⟨w,k,hk,rfl,rfl,hnd⟩:=hv;refine xqm 2 rfl ?_;refine RW.op0 rfl rfl rfl (OpX.storeBlk H.sz153 rfl rfl hkr2 (by first|rfl|(simp;done)|(simp;omega)) (by first|decide|exact of_decide_eq_true rfl|(simp;done)|(simp;omega)) (NdAt.one hnd)) ?_;rintro _ h3 ⟨rfl,hk3,hx3,hz3⟩;refine xqd 1 [0,1,4,5,12,13,34] rfl ?_;have hk3:Blk h3 h.size 153 (ndC x.kind x.set w):=hk3;refine G.retC Tryz.func121 rfl (.cons (ResOk.rowN H.ag153 H.sz153 rfl (hk3.row) (by first|rfl|(simp;done)|(simp;omega))) (.cons (ResOk.tmp rfl) (.nil))) ?_;exact⟨_,rfl,⟨w,k,hk,rfl,rfl,NdAt.low hnd (by omega) hx3 (fun b _ (hb:b=h.size)=>by omega)⟩,Ext0.only (he1.trans he2) hx3 (Nat.le_refl _)⟩
   · have a2:¬(s.drop i).head? =some 91:=fun e=>c2 ((head_at s i 91).2 e)
     refine xrd Tryz.func121 2 [0,1,4,5,12,13,34,42] rfl ?_;refine G.ite rfl rfl (fun c3=>?_) (fun c3=>?_)
     · have a3:=(head_at s i 46).1 c3
       obtain⟨hlt,hdr⟩:i<s.length∧s.drop i=46::s.drop (i+1):=by
        rcases atI_cases s i with ⟨_,hd,_⟩|⟨c,_,hlt,hd,_⟩
        · rw[hd] at a3;cases a3
        · rw[hd] at a3;simp at a3;subst a3;exact⟨hlt,hd⟩
       have hat:atomP (rowsP d) (s.drop i)=some (dotNd,s.drop (i+1)):=by rw[hdr];unfold atomP;simp
       rw[hat];refine xr Tryz.func121 rfl ?_;refine xp rfl (OpP.build (H.bd78_ ) rfl) ?_;refine xo rfl (OpX.call (vs:=[_,_,_]) Tryz.func137 rfl H.nm137 rfl (CallsH.toX (with_calls 0 0 9 (by decide) (by decide)))) ?_;rintro _ h2 ⟨rfl,he2⟩;refine xo rfl (OpX.call (vs:=[_,_,_]) Tryz.func137 rfl H.nm137 rfl (CallsH.toX (with_calls (spanN 0 0 10) 11 255 (by decide) (by decide)))) ?_;rintro _ h3 ⟨rfl,he3⟩;refine xp rfl (OpP.build (H.bd153_0_1 _ _ _ _ _) rfl) ?_;refine xqp 1 rfl rfl (OpP.add64 rfl rfl ⟨by omega,by omega⟩) ?_;refine RW.op0 rfl rfl rfl (OpX.storeBlk H.sz153 rfl rfl ((hkr.ext0 he2).ext0 he3) (by first|rfl|(simp;done)|(simp;omega)) (by first|decide|exact of_decide_eq_true rfl|(simp;done)|(simp;omega)) (NdAt.one (NdAt.leaf h3 (fun _=>False) 1 dotNd.set))) ?_;rintro _ h4 ⟨rfl,hk4,hx4,hz4⟩;refine xqd 1 [0,1,4,5,12,13,34,42] rfl ?_;have hk4:Blk h4 h.size 153 (ndC 1 dotNd.set (.slice none 0 0)):=hk4;refine G.retC Tryz.func121 rfl (.cons (ResOk.rowN H.ag153 H.sz153 rfl (hk4.row) (by first|rfl|(simp;done)|(simp;omega))) (.cons (ResOk.tmp rfl) (.nil))) ?_;exact⟨_,rfl,⟨.slice none 0 0,i+1,by omega,rfl,rfl,NdAt.leaf _ _ _ _⟩,Ext0.only ((he1.trans he2).trans he3) hx4 (Nat.le_refl _)⟩
     · have a3:¬(s.drop i).head? =some 46:=fun e=>c3 ((head_at s i 46).2 e)
       have hat:atomP (rowsP d) (s.drop i)=(letR false (s.drop i)).map fun p=>(byteNd p.1,p.2):=by
        rcases atI_cases s i with ⟨_,hd,_⟩|⟨c,_,hlt,hd,_⟩
        · rw[hd];rfl
        · rw[hd] at a1 a2 a3 ⊢;simp only[List.head?_cons,Option.some.injEq] at a1 a2 a3;rw[letR_cons];unfold atomP;simp only[a1,a2,a3,if_false]
          by_cases h92:c=92
          · simp[h92]
          · simp only[h92,if_false]
            have hiff:(c∈[(41:UInt8),93,124,42,43,63])↔(c∈specialB∧(false=true∨(c≠45∧c≠94))):=by
             have key:∀n:Fin 256,(UInt8.ofNat n.val≠40→UInt8.ofNat n.val≠91→UInt8.ofNat n.val≠46→UInt8.ofNat n.val≠92→((UInt8.ofNat n.val∈[(41:UInt8),93,124,42,43,63])↔(UInt8.ofNat n.val∈specialB∧(false=true∨(UInt8.ofNat n.val≠45∧UInt8.ofNat n.val≠94))))):=by decide +kernel
             have:=key ⟨c.toNat,c.toNat_lt⟩;simp only[UInt8.ofNat_toNat] at this;exact this a1 a2 a3 h92
            by_cases hm:c∈[(41:UInt8),93,124,42,43,63]
            · rw[if_pos hm,if_pos (hiff.1 hm)];rfl
            · rw[if_neg hm,if_neg (fun k=>hm (hiff.2 k))];rfl
       rw[hat];refine G.skip rfl ?_;refine G.blkEnd ?_;refine xra Tryz.func121 2 rfl ?_;refine xo rfl (OpX.call (vs:=[_,_,_]) Tryz.func138 rfl H.nm138 rfl (CallsH.toX (letterR_calls s i hi hs false))) ?_;rintro _ h1 ⟨hl,rfl⟩
       rcases hp:letR false (s.drop i) with _|⟨b,t⟩<;>rw[hp] at hl
       · obtain⟨b0,rfl⟩:=hl;refine xqd 5 [0,1,4,5,8,9,12,13,34,42] rfl ?_;refine G.seq rfl ?_;refine xrd Tryz.func121 2 [0,1,4,5,8,9,12,13,34,42,57] rfl ?_;refine G.cond rfl rfl (fun _=>?_) (fun hc=>absurd hc (by decide));refine xr Tryz.func121 rfl ?_;refine xp rfl (OpP.build (H.bd153_ ) rfl) ?_;refine RW.op0 rfl rfl rfl (OpX.storeBlk H.sz153 rfl rfl hkr (by first|rfl|(simp;done)|(simp;omega)) (by first|decide|exact of_decide_eq_true rfl|(simp;done)|(simp;omega)) (by first|decide|simp[Value.oneCell'])) ?_;rintro _ h2 ⟨rfl,hk2,hx2,hz2⟩;refine xqd 1 [0,1,4,5,8,9,12,13,34,42,57] rfl ?_;have hk2:Blk h2 h.size 153 (ndC 0 0 (.slice none 0 0)):=hk2;refine G.retC Tryz.func121 rfl (.cons (ResOk.rowN H.ag153 H.sz153 rfl (hk2.row) (by first|rfl|(simp;done)|(simp;omega))) (.cons (ResOk.tmp rfl) (.nil))) ?_;exact⟨_,rfl,⟨0,0,_,rfl,rfl⟩,Ext0.only he1 hx2 (Nat.le_refl _)⟩
       · obtain⟨k,hk,rfl,rfl⟩:=hl;have hbl:=b.toNat_lt;refine xqd 5 [0,1,4,5,8,9,12,13,34,42] rfl ?_;refine G.seq rfl ?_;refine xrd Tryz.func121 2 [0,1,4,5,8,9,12,13,34,42,57] rfl ?_;refine G.cond rfl rfl (fun hc=>absurd hc (by simp)) (fun _=>?_);refine G.skip rfl ?_;refine xr Tryz.func121 rfl ?_;refine xp rfl (OpP.build (H.bd78_ ) rfl) ?_;refine xqp 1 rfl rfl (OpP.convIn Tryz.underlying5 Tryz.underlying3 rfl (wrap_i64 ⟨by omega,by omega⟩)) ?_;refine xqp 1 rfl rfl (OpP.convIn Tryz.underlying5 Tryz.underlying3 rfl (wrap_i64 ⟨by omega,by omega⟩)) ?_;refine xo rfl (OpX.call (vs:=[_,_,_]) Tryz.func137 rfl H.nm137 rfl (CallsH.toX (with_calls 0 b.toNat b.toNat (by omega) (by omega)))) ?_;rintro _ h2 ⟨rfl,he2⟩;refine xp rfl (OpP.build (H.bd153_0_1 _ _ _ _ _) rfl) ?_;refine xqm 1 rfl ?_;refine RW.op0 rfl rfl rfl (OpX.storeBlk H.sz153 rfl rfl (hkr.ext0 he2) (by first|rfl|(simp;done)|(simp;omega)) (by first|decide|exact of_decide_eq_true rfl|(simp;done)|(simp;omega)) (NdAt.one (NdAt.leaf h2 (fun _=>False) 1 (byteNd b).set))) ?_;rintro _ h3 ⟨rfl,hk3,hx3,hz3⟩;refine xqd 1 [0,1,4,5,8,9,12,13,34,42,57] rfl ?_;have hk3:Blk h3 h.size 153 (ndC 1 (byteNd b).set (.slice none 0 0)):=hk3;refine G.retC Tryz.func121 rfl (.cons (ResOk.rowN H.ag153 H.sz153 rfl (hk3.row) (by first|rfl|(simp;done)|(simp;omega))) (.cons (ResOk.tmp rfl) (.nil))) ?_;exact⟨_,rfl,⟨.slice none 0 0,k,hk,rfl,rfl,NdAt.leaf _ _ _ _⟩,Ext0.only (he1.trans he2) hx3 (Nat.le_refl _)⟩
theorem NdAt.weak {O O':Nat→Prop}{cs:List Value}{x:Nd}(k:NdAt h O cs x) (hO:∀b,b<h.size→O' b→O b):NdAt h O' cs x:=k.mv ⟨Nat.le_refl _,fun b hb hn=>⟨rfl,fun k=>hn (hO b hb k)⟩⟩
theorem rowEnd_at (s:By) (j:Nat):rowEnd (s.drop j)=decide (atI s j<0∨atI s j=41∨atI s j=124):=by
 rcases atI_cases s j with ⟨_,hd,ha⟩|⟨c,_,_,hd,ha⟩
 · rw[hd,ha];rfl
 · rw[hd,ha];have e1:(((c.toNat:Nat):Int)=41)↔c=41:=u8_is rfl;have e2:(((c.toNat:Nat):Int)=124)↔c=124:=u8_is rfl;have h0:¬(((c.toNat:Nat):Int)<0):=by omega
   rw[Bool.eq_iff_iff];simp only[rowEnd,Bool.or_eq_true,beq_iff_eq,decide_eq_true_eq,e1,e2,h0,false_or];exact Or.comm
theorem rowsR_step {d:Nat}(ih:RowsOkR d) (s:By) (i:Nat) (hi:i≤s.length) (hd:(s.drop i).length≤d) (hs:s.length≤1000000):CallsH Tryz.prog 104 #[.string (bs s),.int .i64 (i:Nat)] h (Ret fun r h'=>NodV h.size h' s (rowsP (d+1) (s.drop i)) r∧Ext0 h h'):=by
 have hrl:∀{s x r},rowsP d s=some (x,r)→r.length≤s.length:=fun h=>rowsP_len d h
 have hrows:rowsP (d+1) (s.drop i)=rowsG (rowsP d) ((s.drop i).length+1) [] [] (s.drop i):=rfl;generalize htg:rowsG (rowsP d) ((s.drop i).length+1) [] [] (s.drop i)=tgt at hrows;rw[hrows];refine CallsH.of Tryz.func104 rfl rfl ?_;refine xr Tryz.func104 rfl ?_;refine xo rfl (OpX.allocN H.zr153) ?_;rintro _ h1 ⟨rfl,hkr,he1,hz1⟩;refine xqd 1 [0,1,4,5] rfl ?_;refine xrd Tryz.func104 2 [0,1,4,5,6,7] rfl ?_;refine G.block rfl rfl ?_;have hkr:Blk h1 h.size 153 (ndC 0 0 (.slice none 0 0)):=hkr;refine G.loop (σ:=List Nd×List Nd×Value×Value×Nat) (fun q=>[(0,.string (bs s)),(1,.int .i64 (q.2.2.2.2:Nat)),(4,.pointer (some ⟨h.size,0,none⟩)),(6,q.2.2.1),(7,q.2.2.2.1)]) (fun q h'=>OwX eNd (fun b=>b<h1.size∨but q.2.2.2.1.ownBlock b) h' h1.size 153 q.2.2.1 q.1∧OwX eNd (fun b=>b<h1.size∨but q.2.2.1.ownBlock b) h' h1.size 153 q.2.2.2.1 q.2.1∧(∀b,q.2.2.1.ownBlock=some b→q.2.2.2.1.ownBlock=some b→False)∧Blk h' h.size 153 (ndC 0 0 (.slice none 0 0))∧Ext0 h h'∧(q.2.2.2.2≤s.length∧i≤q.2.2.2.2∧q.1.length+q.2.1.length≤q.2.2.2.2)∧rowsG (rowsP d) ((s.drop q.2.2.2.2).length+1) q.1 q.2.1 (s.drop q.2.2.2.2)=tgt) (fun q=>s.length-q.2.2.2.2) (([],[],.slice none 0 0,.slice none 0 0,i)) rfl ⟨rfl,rfl,rfl,rfl,rfl,trivial⟩ ⟨OwX.nil _ _ _ _ _,OwX.nil _ _ _ _ _,fun b hb=>by simp[Value.ownBlock] at hb,hkr,he1,⟨hi,Nat.le_refl _,Nat.zero_le _⟩,htg⟩ ?_;rintro⟨all,row,va,vr,j⟩ h5 ⟨hva,hvr,hdis,hkr5,e5,⟨hj,hij,hlens⟩,hcon⟩ ih'
 try dsimp only
 dsimp only at hva hvr hdis hj hij hlens hcon;have hz5:=hkr5.lt;have hze5:=e5.size;obtain⟨ca,ha1,ha2,ha3⟩:=id hva;obtain⟨cr,hr1,hr2,hr3⟩:=id hvr;have hoa:∀b,va.ownBlock=some b→h1.size≤b∧b<h5.size:=fun b hb=>ha2.lt hb
 have hor:∀b,vr.ownBlock=some b→h1.size≤b∧b<h5.size:=fun b hb=>hr2.lt hb
 have hdl:(s.drop j).length=s.length-j:=by simp
 have hdl0:(s.drop i).length=s.length-i:=by simp
 refine G.block rfl rfl ?_;refine xra Tryz.func104 2 rfl ?_;refine xo rfl (OpX.call (vs:=[_,_]) Tryz.func119 rfl H.nm119 rfl (CallsH.toX (at_calls s j))) ?_;rintro _ h5 ⟨rfl,rfl⟩;refine xqd 1 [0,1,4,6,7,8] rfl ?_;refine G.seq rfl ?_;refine G.seq rfl ?_;have hre:=rowEnd_at s j;rw[rowsG] at hcon;refine G.regTo1 [(23,.bool (rowEnd (s.drop j)))] [(0,_),(1,_),(4,_),(6,_),(7,_),(8,_)] ⟨rfl,rfl,rfl,rfl,rfl,rfl,trivial⟩ Tryz.func104 rfl ?_ ?_
 · refine xqm 3 rfl ?_;refine RW.split (d:=16) rfl (fun g1=>?_) (fun g1=>?_)
   · refine xqm 7 rfl ?_;refine RW.done rfl ?_;exact⟨rfl,at_bool rfl (by rw[hre,eq_comm,decide_eq_true_eq];exact .inl (of_decide_eq_true g1)),rfl,rfl,rfl,rfl,rfl,rfl,trivial⟩
   · refine xqm 4 rfl ?_;refine RW.split (d:=20) rfl (fun g2=>?_) (fun g2=>?_)
     · refine xqm 3 rfl ?_;refine RW.done rfl ?_;exact⟨rfl,at_bool rfl (by rw[hre,eq_comm,decide_eq_true_eq];exact .inr (.inl (of_decide_eq_true g2))),rfl,rfl,rfl,rfl,rfl,rfl,trivial⟩
     · refine xqm 3 rfl ?_;refine RW.done rfl ?_;exact⟨rfl,at_bool rfl (by rw[hre,decide_eq_decide];have g1:=of_decide_eq_false g1;have g2:=of_decide_eq_false g2;exact⟨fun k=>.inr (.inr k),fun k=>by rcases k with k|k|k;exact absurd k g1;exact absurd k g2;exact k⟩),rfl,rfl,rfl,rfl,rfl,rfl,trivial⟩
 · refine G.cond rfl rfl (fun hend=>?_) (fun hend=>?_)
   · rw[if_pos hend] at hcon;have hslr:SlR eNd h5 (fun b=>b<h1.size∨but va.ownBlock b) vr row:=hvr.read2 (fun b hb k=>by rcases k with k|k;have:=hor b hb;omega;exact hdis b k.symm hb) (fun b _ k=>k);refine xra Tryz.func104 2 rfl ?_;refine xo rfl (OpX.call (vs:=[_,_]) Tryz.func120 rfl H.nm120 rfl (CallsH.toX (join_calls 2 hslr))) ?_;rintro _ h6 ⟨⟨w,rfl,hnd6⟩,he6⟩;have hz6:=he6.size;have ha36:∀(i:Nat) (cs:List Value) (x:Nd),ca[i]? =some cs→all[i]? =some x→eNd.R h6 (fun b=>but va.ownBlock b∨b<h1.size) cs x:=fun i cs x h1' h2'=>NdAt.ext0 (NdAt.weak (ha3 i cs x h1' h2') (fun b _ k=>k.imp id .inl)) he6
     have hnd6':eNd.R h6 (fun b=>but va.ownBlock b∨b<h1.size) (ndC (joinNd 2 row).kind (joinNd 2 row).set w) (joinNd 2 row):=NdAt.weak hnd6 (fun b _ k=>k.symm);refine xo rfl (OpX.buildRec (cs:=[_,_,_,_,_,_]) Tryz.underlying151 H.el153 rfl rfl (by decide)) ?_;rintro _ _ ⟨rfl,rfl⟩;refine xo rfl (OpX.appendNew Tryz.underlying151 H.el153 rfl rfl ((ha2.ext0' he6)) rfl rfl (NdAt.one hnd6) (by omega) (by decide) (by omega)) ?_;rintro v7 h7 ⟨ho7,hx7,-,hv7⟩;refine xqd 1 [0,1,4,6,7,8,23] rfl ?_;refine xrd Tryz.func104 1 [0,1,4,6,7,8,23] rfl ?_;refine G.seq rfl ?_;refine xrd Tryz.func104 2 [0,1,4,6,7,8,23,30] rfl ?_;have hva7:OwX eNd (blw h1.size) h7 h1.size 153 v7 (all++[joinNd 2 row]):=OwX.pushed ha1 ha36 ho7 hx7 hv7 hnd6';have hr7:¬but va.ownBlock h.size:=fun k=>by have:=hoa _ k.symm;omega
     have e7:Ext0 h h7:=⟨by have:=hx7.size;omega,fun b hb hn=>by rw[hx7.block b (by omega) (fun k=>by have:=hoa b k.symm;omega),he6.block b (by omega) (fun k=>k)];exact e5.block b hb hn⟩
     have hkr7:=(hkr5.ext0 he6).ext hx7 hr7;have h124:=head_at s j 124;refine G.ite rfl rfl (fun hbar=>?_) (fun hbar=>?_)
     · have hbar':¬(s.drop j).head? =some 124:=fun e=>hbar (h124.2 e)
       rw[if_neg hbar'] at hcon;have hsla:SlR eNd h7 (blw h1.size) v7 (all++[joinNd 2 row]):=hva7.read (fun b hb (k:b<h1.size)=>by omega) (fun b _ k=>k);refine xra Tryz.func104 1 rfl ?_;refine xo rfl (OpX.call (vs:=[_,_]) Tryz.func120 rfl H.nm120 rfl (CallsH.toX (join_calls 3 hsla))) ?_;rintro _ h8 ⟨⟨w8,rfl,hnd8⟩,he8⟩;refine xqm 1 rfl ?_;refine RW.op0 rfl rfl rfl (OpX.storeBlk H.sz153 rfl rfl (hkr7.ext0 he8) (by first|rfl|(simp;done)|(simp;omega)) (by first|decide|exact of_decide_eq_true rfl|(simp;done)|(simp;omega)) (NdAt.one hnd8)) ?_;rintro _ h9 ⟨rfl,hk9,hx9,hz9⟩;refine xqd 1 [0,1,4,5,6,7,8,23,30] rfl ?_;have hk9:Blk h9 h.size 153 (ndC (joinNd 3 (all++[joinNd 2 row])).kind (joinNd 3 (all++[joinNd 2 row])).set w8):=hk9;refine G.retC Tryz.func104 rfl (.cons (ResOk.rowN H.ag153 H.sz153 rfl (hk9.row) (by first|rfl|(simp;done)|(simp;omega))) (.cons (ResOk.tmp rfl) (.nil))) ?_;exact⟨_,rfl,by rw[←hcon];exact⟨w8,j,hj,rfl,rfl,NdAt.low hnd8 (by omega) hx9 (fun b _ (hb:b=h.size)=>by omega)⟩,Ext0.only (e7.trans he8) hx9 (Nat.le_refl _)⟩
     · have hbar':=h124.1 (Classical.not_not.1 hbar)
       have hlt:j<s.length:=by
        rcases atI_cases s j with ⟨_,hd,_⟩|⟨_,_,hlt,_,_⟩
        · rw[hd] at hbar';cases hbar'
        · exact hlt
       rw[if_pos hbar',tail_drop] at hcon
       have hcon':rowsG (rowsP d) ((s.drop (j+1)).length+1) (all++[joinNd 2 row]) [] (s.drop (j+1))=tgt:=by
        rw[←hcon];exact rowsG_fuel hrl _ _ _ _ _ _ (Nat.le_refl _) (Nat.lt_succ_self _) (by simp only[List.length_drop];omega)
       refine G.skip rfl ?_;refine xra Tryz.func104 1 rfl ?_;refine xp rfl (OpP.add64 rfl rfl ⟨by omega,by omega⟩) ?_;refine xqd 1 [0,1,4,6,7,8,23,30] rfl ?_;refine G.exit rfl rfl ?_;exact ih' (all++[joinNd 2 row],[],v7,.slice none 0 0,j+1) _ _ ⟨rfl,rfl,rfl,rfl,rfl,trivial⟩ ⟨hva7.mv2 (Ext.refl (fun _=>False) _) (fun b _ k=>k) (fun b _ k=>k.elim) (fun b _ k=>by rcases k with k|k;exact k;simp[but,Value.ownBlock] at k),OwX.nil _ _ _ _ _,fun b _ hb=>by simp[Value.ownBlock] at hb,hkr7,e7,⟨hlt,by show i≤j+1;omega,by show (all++[joinNd 2 row]).length+0≤j+1;rw[List.length_append,List.length_singleton];omega⟩,hcon'⟩ (by show s.length-(j+1)<s.length-j;omega)
   · rw[if_neg (by rw[hend];decide)] at hcon;refine G.skip rfl ?_;refine xra Tryz.func104 2 rfl ?_;refine xo rfl (OpX.call (vs:=[_,_]) Tryz.func121 rfl H.nm121 rfl (CallsH.toX (atomR_calls ih s j hj (by omega) hs))) ?_;rintro _ h6 ⟨hv,he6⟩;have hz6:=he6.size;have hkr6:=hkr5.ext0 he6;have hpc:pieceP (rowsP d) (s.drop j)=(atomP (rowsP d) (s.drop j)).map fun p=>signsP p.1 p.2:=rfl
     rcases hp:atomP (rowsP d) (s.drop j) with _|⟨x0,t0⟩<;>rw[hp] at hv hpc
     · obtain⟨k,st,w,hw,rfl⟩:=hv;have hnone:tgt=none:=by rw[←hcon,hpc];rfl
       rw[hnone];refine xqm 3 rfl ?_;refine xo rfl (OpX.allocN H.zr153) ?_;rintro _ h7 ⟨rfl,hk7,he7,hz7⟩;refine RW.op0 rfl rfl rfl (OpX.storeBlk H.sz153 rfl rfl hk7 (by first|rfl|(simp;done)|(simp;omega)) (by first|decide|exact of_decide_eq_true rfl|(simp;done)|(simp;omega)) (ndC_oneW hw)) ?_;rintro _ h8 ⟨rfl,hk8,hx8,hz8⟩;refine xqd 1 [0,1,4,6,7,8,9,10,23] rfl ?_;refine G.seq rfl ?_;refine xrd Tryz.func104 2 [0,1,4,6,7,8,9,10,23,43] rfl ?_;have hk8:Blk h8 h6.size 153 (ndC k st w):=hk8;refine G.cond rfl rfl (fun _=>?_) (fun hc=>absurd hc (by decide));refine xr Tryz.func104 rfl ?_;refine xp rfl (OpP.loadRowN H.ag153 H.sz153 rfl hk8.row (by first|rfl|(simp;done)|(simp;omega))) ?_;refine RW.op0 rfl rfl rfl (OpX.storeBlk H.sz153 rfl rfl ((hkr6.ext0 he7).ext hx8 (by show ¬_=_;omega)) (by first|rfl|(simp;done)|(simp;omega)) (by first|decide|exact of_decide_eq_true rfl|(simp;done)|(simp;omega)) (ndC_oneW hw)) ?_;rintro _ h9 ⟨rfl,hk9,hx9,hz9⟩;refine xqd 1 [0,1,4,5,6,7,8,9,10,23,43] rfl ?_;have hk9:Blk h9 h.size 153 (ndC k st w):=hk9;refine G.retC Tryz.func104 rfl (.cons (ResOk.rowN H.ag153 H.sz153 rfl (hk9.row) (by first|rfl|(simp;done)|(simp;omega))) (.cons (ResOk.tmp rfl) (.nil))) ?_;exact⟨_,rfl,⟨k,st,w,hw,rfl⟩,Ext0.only (Ext0.only ((e5.trans he6).trans he7) hx8 (by omega)) hx9 (Nat.le_refl _)⟩
     · obtain⟨w0,m0,hm0,rfl,rfl,hnd⟩:=hv;have hal:=atomP_len hrl hp;simp only[List.length_drop] at hal;have hpc:pieceP (rowsP d) (s.drop j)=some (signsP x0 (s.drop m0)):=hpc;refine xqm 3 rfl ?_;refine xo rfl (OpX.allocN H.zr153) ?_;rintro _ h7 ⟨rfl,hk7,he7,hz7⟩;refine RW.op0 rfl rfl rfl (OpX.storeBlk H.sz153 rfl rfl hk7 (by first|rfl|(simp;done)|(simp;omega)) (by first|decide|exact of_decide_eq_true rfl|(simp;done)|(simp;omega)) (NdAt.one hnd)) ?_;rintro _ h8 ⟨rfl,hk8,hx8,hz8⟩;refine xqd 1 [0,1,4,6,7,8,9,10,23] rfl ?_;refine G.seq rfl ?_;refine xrd Tryz.func104 2 [0,1,4,6,7,8,9,10,23,43] rfl ?_;have hk8:Blk h8 h6.size 153 (ndC x0.kind x0.set w0):=hk8;have e68:Ext0 h6 h8:=Ext0.only he7 hx8 (Nat.le_refl _);have e58:=he6.trans e68;have hnd8:NdAt h8 (fun b=>b<h5.size∨b=h6.size) (ndC x0.kind x0.set w0) x0:=hnd.mv (Mv.ofExt e68 fun b hb hn=>⟨fun k=>k,fun k=>by have:¬b<h5.size:=hn;omega⟩);generalize hnb:h6.size=nb at hk8 hnd8;have hnb5:h5.size≤nb:=by omega
       rw[hpc] at hcon;simp only at hcon;generalize hsg:signsP x0 (s.drop m0)=tg2 at hcon;refine G.cond rfl rfl (fun hc=>absurd hc (by simp)) (fun _=>?_);refine G.skip rfl ?_;refine G.seq rfl ?_;refine G.block rfl rfl ?_;refine G.loop (σ:=Nd×Value×Nat) (fun q=>[(0,.string (bs s)),(1,.int .i64 (j:Nat)),(4,.pointer (some ⟨h.size,0,none⟩)),(6,va),(7,vr),(9,.pointer (some ⟨nb,0,none⟩)),(10,.int .i64 (q.2.2:Nat))]) (fun q h'=>Blk h' nb 153 (ndC q.1.kind q.1.set q.2.1)∧NdAt h' (fun b=>b<h5.size∨b=nb) (ndC q.1.kind q.1.set q.2.1) q.1∧Ext0 h5 h'∧(q.2.2≤s.length∧j<q.2.2)∧signsP q.1 (s.drop q.2.2)=tg2) (fun q=>s.length-q.2.2) ((x0,w0,m0)) rfl ⟨rfl,rfl,rfl,rfl,rfl,rfl,rfl,trivial⟩ ⟨hk8,hnd8,e58,⟨hm0,by show j<m0;omega⟩,hsg⟩ ?_;rintro⟨x,w,m⟩ h8 ⟨hk8,hnd8,e8,⟨hm,him⟩,hsg⟩ ih2
       try dsimp only
       dsimp only at hk8 hnd8 hm him hsg;have hze8:=e8.size;have hlt8:=hk8.lt;refine G.seq rfl ?_;refine xra Tryz.func104 2 rfl ?_;refine xo rfl (OpX.call (vs:=[_,_]) Tryz.func119 rfl H.nm119 rfl (CallsH.toX (at_calls s m))) ?_;rintro _ h8 ⟨rfl,rfl⟩;refine xo rfl (OpX.call (vs:=[_]) Tryz.func122 rfl H.nm122 rfl (CallsH.toX (signR_calls (atI s m)))) ?_;rintro _ h8 ⟨rfl,rfl⟩;refine xqd 1 [0,1,4,6,7,9,10,49] rfl ?_;rw[signI_at];refine G.ite rfl rfl (fun hgo=>?_) (fun hgo=>?_)
       · have hgo:0<signOf ((s.drop m).head?.getD 0):=by omega
         have hlt:m<s.length:=by
          rcases atI_cases s m with ⟨_,hd,_⟩|⟨_,_,hlt,_,_⟩
          · rw[hd] at hgo;exact absurd hgo (show ¬0<signOf (([]:By).head?.getD 0) by decide)
          · exact hlt
         have hnext:signsP (.mk (signOf ((s.drop m).head?.getD 0)) 0 [x]) (s.drop (m+1))=tg2:=by
          rcases atI_cases s m with ⟨_,hd,_⟩|⟨c,_,_,hd,_⟩
          · rw[hd] at hgo;exact absurd hgo (show ¬0<signOf (([]:By).head?.getD 0) by decide)
          · rw[hd] at hgo hsg ⊢;simp only[List.head?_cons,Option.getD_some] at hgo ⊢;rw[←hsg,signsP_step hgo]
         generalize hsgd:s.drop m=sg at hnext hgo;have hsl:=SlR.made1 (e:=eNd) (t:=153) hnd8 (show ¬(h8.size<h5.size∨h8.size=nb) by omega);have ep:=Ext.push (fun _=>False) h8 (.cells (ndC x.kind x.set w).toArray 153);have hn2:¬Array.size h8≤nb:=by omega
         refine G.skip rfl ?_;refine G.block rfl rfl ?_;refine G.seq rfl ?_;refine G.draw (fun b=>Array.size h8≤b) (fun i=>Nat.blt i 7) (sz:=8) (listed:= #[false,false,false,false,false,false,false,false]) Tryz.func104 H.mixed rfl rfl rfl ?_;refine xtq 0 1 (by kernel_rfl) rfl ?_;refine xtq 1 3 (by kernel_rfl) rfl ?_;refine xtp 4 19 (by kernel_rfl) rfl (fun h' e=>OpP.loadRowN H.ag153 H.sz153 rfl (e.rowAt hn2 hk8.row) (by first|rfl|(simp;done)|(simp;omega))) ?_;refine RD.twoS 2 5 (li:= #[true,true,true,false,true,false,false,false]) (lj:= #[true,true,false,false,true,true,false,false]) rfl rfl (by kernel_rfl) rfl rfl rfl rfl rfl rfl (OpX.call (vs:=[_,_]) Tryz.func119 rfl H.nm119 rfl (CallsH.toX (at_calls s m))) (OpX.buildRec (cs:=[_,_,_,_,_,_]) Tryz.underlying151 H.el153 rfl rfl (by decide)) (by kernel_rfl) (by kernel_rfl) ?_ ?_
         · rintro _ h8 ⟨rfl,rfl⟩;refine⟨fun _=>Ext.refl _ _,?_⟩;refine RD.twoS 3 5 (li:= #[true,true,true,true,true,false,false,false]) (lj:= #[true,true,true,false,true,true,false,false]) rfl rfl (by kernel_rfl) rfl rfl rfl rfl rfl rfl (OpX.call (vs:=[_]) Tryz.func122 rfl H.nm122 rfl (CallsH.toX (signR_calls (atI s m)))) (OpX.buildRec (cs:=[_,_,_,_,_,_]) Tryz.underlying151 H.el153 rfl rfl (by decide)) (by kernel_rfl) (by kernel_rfl) ?_ ?_
           · rintro _ h8 ⟨rfl,rfl⟩;refine⟨fun _=>Ext.refl _ _,?_⟩;refine xto 5 63 (by kernel_rfl) rfl (OpX.buildRec (cs:=[_,_,_,_,_,_]) Tryz.underlying151 H.el153 rfl rfl (by decide)) ?_;rintro _ _ ⟨rfl,rfl⟩;refine⟨fun _=>by first|exact Ext.push _ _ _|assumption,?_⟩;refine xtp 6 127 (by kernel_rfl) rfl (fun h' e=>OpP.build (H.bd153_0_2 _ _ _ _) rfl) ?_;refine xt0 7 255 (by kernel_rfl) rfl (OpX.storeBlk H.sz153 rfl rfl (hk8.ext0 ep) (by first|rfl|(simp;done)|(simp;omega)) (by first|decide|exact of_decide_eq_true rfl|(simp;done)|(simp;omega)) (ndC_oneW (k:=signI (atI s m)) (st:=0) (w:=.slice (some ⟨h8.size,0,none⟩) 1 1) rfl)) ?_;rintro _ h9 ⟨rfl,hk9,hx9,hz9⟩;refine⟨fun hk=>(nomatch hk),?_⟩;refine RD.done (by kernel_rfl) ?_;refine xu [0,1,4,6,7,9,10,49] rfl ?_;refine G.reg Tryz.func104 rfl ?_;refine xqp 1 rfl rfl (OpP.add64 rfl rfl ⟨by omega,by omega⟩) ?_;refine xqd 1 [0,1,4,6,7,9,10,49] rfl ?_;refine G.blkEnd ?_;rw[signI_at,hsgd] at hk9;have hk9:Blk h9 nb 153 (ndC (signOf (sg.head?.getD 0)) 0 (.slice (some ⟨h8.size,0,none⟩) 1 1)):=hk9;exact ih2 (.mk (signOf (sg.head?.getD 0)) 0 [x],.slice (some ⟨h8.size,0,none⟩) 1 1,m+1) _ _ ⟨rfl,rfl,rfl,rfl,rfl,rfl,rfl,trivial⟩ ⟨hk9,(NdAt.of (signOf (sg.head?.getD 0)) 0 hsl).mv (Mv.ofExt hx9 fun b hb hn=>⟨fun(k:b=nb)=>hn (.inr k),hn⟩),Ext0.only (e8.trans ep) hx9 (by omega),⟨hlt,by show j<m+1;omega⟩,hnext⟩ (by show s.length-(m+1)<s.length-m;omega)
           · rintro _ _ ⟨rfl,rfl⟩;refine⟨fun _=>by first|exact Ext.push _ _ _|assumption,?_⟩;refine xto 3 63 (by kernel_rfl) rfl (OpX.call (vs:=[_]) Tryz.func122 rfl H.nm122 rfl (CallsH.toX (signR_calls (atI s m)))) ?_;rintro _ _ ⟨rfl,rfl⟩;refine⟨fun _=>Ext.refl _ _,?_⟩;refine xtp 6 127 (by kernel_rfl) rfl (fun h' e=>OpP.build (H.bd153_0_2 _ _ _ _) rfl) ?_;refine xt0 7 255 (by kernel_rfl) rfl (OpX.storeBlk H.sz153 rfl rfl (hk8.ext0 ep) (by first|rfl|(simp;done)|(simp;omega)) (by first|decide|exact of_decide_eq_true rfl|(simp;done)|(simp;omega)) (ndC_oneW (k:=signI (atI s m)) (st:=0) (w:=.slice (some ⟨h8.size,0,none⟩) 1 1) rfl)) ?_;rintro _ h9 ⟨rfl,hk9,hx9,hz9⟩;refine⟨fun hk=>(nomatch hk),?_⟩;refine RD.done (by kernel_rfl) ?_;refine xu [0,1,4,6,7,9,10,49] rfl ?_;refine G.reg Tryz.func104 rfl ?_;refine xqp 1 rfl rfl (OpP.add64 rfl rfl ⟨by omega,by omega⟩) ?_;refine xqd 1 [0,1,4,6,7,9,10,49] rfl ?_;refine G.blkEnd ?_;rw[signI_at,hsgd] at hk9;have hk9:Blk h9 nb 153 (ndC (signOf (sg.head?.getD 0)) 0 (.slice (some ⟨h8.size,0,none⟩) 1 1)):=hk9;exact ih2 (.mk (signOf (sg.head?.getD 0)) 0 [x],.slice (some ⟨h8.size,0,none⟩) 1 1,m+1) _ _ ⟨rfl,rfl,rfl,rfl,rfl,rfl,rfl,trivial⟩ ⟨hk9,(NdAt.of (signOf (sg.head?.getD 0)) 0 hsl).mv (Mv.ofExt hx9 fun b hb hn=>⟨fun(k:b=nb)=>hn (.inr k),hn⟩),Ext0.only (e8.trans ep) hx9 (by omega),⟨hlt,by show j<m+1;omega⟩,hnext⟩ (by show s.length-(m+1)<s.length-m;omega)
         · rintro _ _ ⟨rfl,rfl⟩;refine⟨fun _=>by first|exact Ext.push _ _ _|assumption,?_⟩;refine xto 2 55 (by kernel_rfl) rfl (OpX.call (vs:=[_,_]) Tryz.func119 rfl H.nm119 rfl (CallsH.toX (at_calls s m))) ?_;rintro _ _ ⟨rfl,rfl⟩;refine⟨fun _=>Ext.refl _ _,?_⟩;refine xto 3 63 (by kernel_rfl) rfl (OpX.call (vs:=[_]) Tryz.func122 rfl H.nm122 rfl (CallsH.toX (signR_calls (atI s m)))) ?_;rintro _ _ ⟨rfl,rfl⟩;refine⟨fun _=>Ext.refl _ _,?_⟩;refine xtp 6 127 (by kernel_rfl) rfl (fun h' e=>OpP.build (H.bd153_0_2 _ _ _ _) rfl) ?_;refine xt0 7 255 (by kernel_rfl) rfl (OpX.storeBlk H.sz153 rfl rfl (hk8.ext0 ep) (by first|rfl|(simp;done)|(simp;omega)) (by first|decide|exact of_decide_eq_true rfl|(simp;done)|(simp;omega)) (ndC_oneW (k:=signI (atI s m)) (st:=0) (w:=.slice (some ⟨h8.size,0,none⟩) 1 1) rfl)) ?_;rintro _ h9 ⟨rfl,hk9,hx9,hz9⟩;refine⟨fun hk=>(nomatch hk),?_⟩;refine RD.done (by kernel_rfl) ?_;refine xu [0,1,4,6,7,9,10,49] rfl ?_;refine G.reg Tryz.func104 rfl ?_;refine xqp 1 rfl rfl (OpP.add64 rfl rfl ⟨by omega,by omega⟩) ?_;refine xqd 1 [0,1,4,6,7,9,10,49] rfl ?_;refine G.blkEnd ?_;rw[signI_at,hsgd] at hk9;have hk9:Blk h9 nb 153 (ndC (signOf (sg.head?.getD 0)) 0 (.slice (some ⟨h8.size,0,none⟩) 1 1)):=hk9;exact ih2 (.mk (signOf (sg.head?.getD 0)) 0 [x],.slice (some ⟨h8.size,0,none⟩) 1 1,m+1) _ _ ⟨rfl,rfl,rfl,rfl,rfl,rfl,rfl,trivial⟩ ⟨hk9,(NdAt.of (signOf (sg.head?.getD 0)) 0 hsl).mv (Mv.ofExt hx9 fun b hb hn=>⟨fun(k:b=nb)=>hn (.inr k),hn⟩),Ext0.only (e8.trans ep) hx9 (by omega),⟨hlt,by show j<m+1;omega⟩,hnext⟩ (by show s.length-(m+1)<s.length-m;omega)
       · rw[signsP_stop (by omega)] at hsg;subst hsg;simp only at hcon;have hr38:∀(i:Nat) (cs:List Value) (x:Nd),cr[i]? =some cs→row[i]? =some x→eNd.R h8 (fun b=>but vr.ownBlock b∨(b<h1.size∨but va.ownBlock b)) cs x:=fun i cs x h1' h2'=>NdAt.ext0 (hr3 i cs x h1' h2') e8
         have hnd8':eNd.R h8 (fun b=>but vr.ownBlock b∨(b<h1.size∨but va.ownBlock b)) (ndC x.kind x.set w) x:=NdAt.weak hnd8 (fun b _ k=>.inl (by
          rcases k with k|k|k
          · exact(hor b k.symm).2
          · omega
          · exact(hoa b k.symm).2))
         refine G.exit rfl rfl ?_;refine xra Tryz.func104 1 rfl ?_;refine xp rfl (OpP.loadRowN H.ag153 H.sz153 rfl hk8.row (by first|rfl|(simp;done)|(simp;omega))) ?_;refine xo rfl (OpX.buildRec (cs:=[_,_,_,_,_,_]) Tryz.underlying151 H.el153 rfl rfl (by decide)) ?_;rintro _ _ ⟨rfl,rfl⟩;refine xo rfl (OpX.appendNew Tryz.underlying151 H.el153 rfl rfl ((hr2.ext0' e8)) rfl rfl (NdAt.one hnd8) (by omega) (by decide) (by omega)) ?_;rintro v9 h9 ⟨ho9,hx9,-,hv9⟩;refine xqd 1 [0,1,4,6,7,9,10,49] rfl ?_;refine G.reg Tryz.func104 rfl ?_;refine xqd 2 [0,1,4,6,7,9,10,49] rfl ?_;refine G.blkEnd ?_
         have hdis9:∀b,va.ownBlock=some b→v9.ownBlock=some b→False:=fun b hb hb9=>by
          rcases hv9 b hb9 with k|k
          · exact hdis b hb k
          · have:=hoa b hb;omega
         have hva9:OwX eNd (fun b=>b<h1.size∨but v9.ownBlock b) h9 h1.size 153 va all:=(hva.ext0 e8).mv2 hx9 (fun b hb k=>hdis b hb k.symm) (fun b _ k=>.inr k) (fun b hb k=>by
          rcases k with k|k
          · exact .inl k
          · rcases hv9 b k.symm with k'|k'
            · exact .inr k'.symm
            · omega)
         have hr9:¬but vr.ownBlock h.size:=fun k=>by have:=hor _ k.symm;omega
         have e9:Ext0 h h9:=⟨by have:=hx9.size;omega,fun b hb hn=>by rw[hx9.block b (by omega) (fun k=>by have:=hor b k.symm;omega),e8.block b (by omega) (fun k=>k)];exact e5.block b hb hn⟩
         have hcon':rowsG (rowsP d) ((s.drop m).length+1) all (row++[x]) (s.drop m)=tgt:=by
          rw[←hcon];exact rowsG_fuel hrl _ _ _ _ _ _ (Nat.le_refl _) (Nat.lt_succ_self _) (by simp only[List.length_drop];omega)
         exact ih' (all,row++[x],va,v9,m) _ _ ⟨rfl,rfl,rfl,rfl,rfl,trivial⟩ ⟨hva9,OwX.pushed hr1 hr38 ho9 hx9 hv9 hnd8',hdis9,(hkr5.ext0 e8).ext hx9 hr9,e9,⟨hm,by show i≤m;omega,by show all.length+(row++[x]).length≤m;rw[List.length_append,List.length_singleton];omega⟩,hcon'⟩ (by show s.length-m<s.length-j;omega)
theorem rowsR_ok:∀d,RowsOkR d
 | 0=>fun _ _ _ _ h _=>absurd h (Nat.not_lt_zero _)
 |d+1=>fun _ s i hi hd hs=>rowsR_step (rowsR_ok d) s i hi (by omega) hs
theorem parseR_calls (s:By) (hs:s.length≤1000000):CallsH Tryz.prog 77 #[.string (bs s)] h (Ret fun r h'=>ParseV h h' s r∧Ext0 h h'):=by
 have hsz:=bs_size s;refine CallsH.of Tryz.func77 rfl rfl ?_;refine xr Tryz.func77 rfl ?_;refine xo rfl (OpX.allocN H.zr153) ?_;rintro _ h1 ⟨rfl,hk1,he1,hz1⟩;refine xqd 1 [0,2,3] rfl ?_;refine G.seq rfl ?_;refine xra Tryz.func77 1 rfl ?_;refine xp rfl (OpP.lenString Tryz.underlying9 rfl) ?_;refine xqd 1 [0,2,3,8] rfl ?_;have hk1:Blk h1 h.size 153 zeroN:=hk1;refine G.ite rfl rfl (fun hbig=>?_) (fun hbig=>?_)
 · have hE:parseE s=(emptyNd,3):=by unfold parseE;rw[if_pos (by omega)]
   refine xr Tryz.func77 rfl ?_;refine xp rfl (OpP.build (H.bd153_ ) rfl) ?_;refine RW.op0 rfl rfl rfl (OpX.storeBlk H.sz153 rfl rfl hk1 (by first|rfl|(simp;done)|(simp;omega)) (by first|decide|exact of_decide_eq_true rfl|(simp;done)|(simp;omega)) (by first|decide|simp[Value.oneCell'])) ?_;rintro _ h3 ⟨rfl,hk3,hx3,hz3⟩;refine xqd 1 [0,2,3,8] rfl ?_;have hk3:Blk h3 h.size 153 zeroN:=hk3;refine G.retC Tryz.func77 rfl (.cons (ResOk.rowN H.ag153 H.sz153 rfl (hk3.row) (by first|rfl|(simp;done)|(simp;omega))) (.cons (ResOk.tmp rfl) (.nil))) ?_;refine⟨_,rfl,⟨.slice none 0 0,by rw[hE];rfl,by rw[hE];exact NdAt.leaf _ _ 0 0⟩,Ext0.only he1 hx3 (Nat.le_refl _)⟩
 · have hE:parseE s=match parseP s with|some x=>(x,0)|none=>(emptyNd,10):=by unfold parseE;rw[if_neg (by omega)];rfl
   refine G.skip rfl ?_;refine xra Tryz.func77 1 rfl ?_;refine xo rfl (OpX.call (vs:=[_,_]) Tryz.func104 rfl H.nm104 rfl (CallsH.toX (rowsR_ok (s.length+1) h1 s 0 (Nat.zero_le _) (by simp) hs))) ?_;rintro _ h2 ⟨hv,he2⟩;have hz2:=he2.size;have hk12:=hk1.ext0 he2;rw[List.drop_zero] at hv
   rcases hp:rowsP (s.length+1) s with _|⟨x,t⟩<;>rw[hp] at hv
   · obtain⟨k,st,w,hw,rfl⟩:=hv;have hpn:parseP s=none:=by unfold parseP;rw[hp]
     refine xqm 3 rfl ?_;refine xo rfl (OpX.allocN H.zr153) ?_;rintro _ h3 ⟨rfl,hk3,he3,hz3⟩;refine RW.op0 rfl rfl rfl (OpX.storeBlk H.sz153 rfl rfl hk3 (by first|rfl|(simp;done)|(simp;omega)) (by first|decide|exact of_decide_eq_true rfl|(simp;done)|(simp;omega)) (ndC_oneW hw)) ?_;rintro _ h4 ⟨rfl,hk4,hx4,hz4⟩;refine xqd 1 [0,2,3,4,5,8] rfl ?_;refine G.seq rfl ?_;refine xra Tryz.func77 2 rfl ?_;refine xp rfl (OpP.lenString Tryz.underlying9 rfl) ?_;refine xqd 1 [0,2,3,4,5,8,18] rfl ?_;refine G.cond rfl rfl (fun _=>?_) (fun hc=>absurd hc (by simp));refine xr Tryz.func77 rfl ?_;refine xp rfl (OpP.build (H.bd153_ ) rfl) ?_;refine RW.op0 rfl rfl rfl (OpX.storeBlk H.sz153 rfl rfl ((hk12.ext0 he3).ext hx4 (by show ¬_=_;omega)) (by first|rfl|(simp;done)|(simp;omega)) (by first|decide|exact of_decide_eq_true rfl|(simp;done)|(simp;omega)) (by first|decide|simp[Value.oneCell'])) ?_;rintro _ h5 ⟨rfl,hk5,hx5,hz5⟩;refine xqd 1 [0,2,3,4,5,8,18] rfl ?_;have hk5:Blk h5 h.size 153 zeroN:=hk5;refine G.retC Tryz.func77 rfl (.cons (ResOk.rowN H.ag153 H.sz153 rfl (hk5.row) (by first|rfl|(simp;done)|(simp;omega))) (.cons (ResOk.tmp rfl) (.nil))) ?_;exact⟨_,rfl,⟨.slice none 0 0,by rw[hE,hpn]<;>rfl,by rw[hE,hpn];exact NdAt.leaf _ _ 0 0⟩,Ext0.only (Ext0.only ((he1.trans he2).trans he3) hx4 (by omega)) hx5 (Nat.le_refl _)⟩
   · obtain⟨w,k,hk,rfl,rfl,hnd⟩:=hv;refine xqm 3 rfl ?_;refine xo rfl (OpX.allocN H.zr153) ?_;rintro _ h3 ⟨rfl,hk3,he3,hz3⟩;refine RW.op0 rfl rfl rfl (OpX.storeBlk H.sz153 rfl rfl hk3 (by first|rfl|(simp;done)|(simp;omega)) (by first|decide|exact of_decide_eq_true rfl|(simp;done)|(simp;omega)) (NdAt.one hnd)) ?_;rintro _ h4 ⟨rfl,hk4,hx4,hz4⟩;refine xqd 1 [0,2,3,4,5,8] rfl ?_;refine G.seq rfl ?_;refine xra Tryz.func77 2 rfl ?_;refine xp rfl (OpP.lenString Tryz.underlying9 rfl) ?_;refine xqd 1 [0,2,3,4,5,8,18] rfl ?_;have hk4:Blk h4 h2.size 153 (ndC x.kind x.set w):=hk4;have hnd4:NdAt h4 (blw h1.size) (ndC x.kind x.set w) x:=hnd.ext0 (Ext0.only he3 hx4 (Nat.le_refl _));have hk14:=(hk12.ext0 he3).ext hx4 (by show ¬_=_;omega);have e4:=Ext0.only ((he1.trans he2).trans he3) hx4 (by omega);refine G.ite rfl rfl (fun hr=>?_) (fun hr=>?_)
     · have hpn:parseP s=none:=by
        unfold parseP;rw[hp];cases hdr:s.drop k with
        |nil=>have:=congrArg List.length hdr;simp at this;omega
        |cons c t=>rfl
       refine xr Tryz.func77 rfl ?_;refine xp rfl (OpP.build (H.bd153_ ) rfl) ?_;refine RW.op0 rfl rfl rfl (OpX.storeBlk H.sz153 rfl rfl hk14 (by first|rfl|(simp;done)|(simp;omega)) (by first|decide|exact of_decide_eq_true rfl|(simp;done)|(simp;omega)) (by first|decide|simp[Value.oneCell'])) ?_;rintro _ h5 ⟨rfl,hk5,hx5,hz5⟩;refine xqd 1 [0,2,3,4,5,8,18] rfl ?_;have hk5:Blk h5 h.size 153 zeroN:=hk5;refine G.retC Tryz.func77 rfl (.cons (ResOk.rowN H.ag153 H.sz153 rfl (hk5.row) (by first|rfl|(simp;done)|(simp;omega))) (.cons (ResOk.tmp rfl) (.nil))) ?_;exact⟨_,rfl,⟨.slice none 0 0,by rw[hE,hpn]<;>rfl,by rw[hE,hpn];exact NdAt.leaf _ _ 0 0⟩,Ext0.only e4 hx5 (Nat.le_refl _)⟩
     · obtain rfl:k=s.length:=by omega
       have hpn:parseP s=some x:=by unfold parseP;rw[hp,List.drop_length]
       refine G.skip rfl ?_;refine xr Tryz.func77 rfl ?_;refine xp rfl (OpP.loadRowN H.ag153 H.sz153 rfl hk4.row (by first|rfl|(simp;done)|(simp;omega))) ?_;refine RW.op0 rfl rfl rfl (OpX.storeBlk H.sz153 rfl rfl hk14 (by first|rfl|(simp;done)|(simp;omega)) (by first|decide|exact of_decide_eq_true rfl|(simp;done)|(simp;omega)) (NdAt.one hnd4)) ?_;rintro _ h5 ⟨rfl,hk5,hx5,hz5⟩;refine xqd 1 [0,2,3,4,5,8,18] rfl ?_;have hk5:Blk h5 h.size 153 (ndC x.kind x.set w):=hk5;refine G.retC Tryz.func77 rfl (.cons (ResOk.rowN H.ag153 H.sz153 rfl (hk5.row) (by first|rfl|(simp;done)|(simp;omega))) (.cons (ResOk.tmp rfl) (.nil))) ?_;exact⟨_,rfl,⟨w,by rw[hE,hpn]<;>rfl,by rw[hE,hpn];exact NdAt.low hnd4 (by omega) hx5 (fun b _ (hb:b=h.size)=>by omega)⟩,Ext0.only e4 hx5 (Nat.le_refl _)⟩
end
end Go.Proofs.YtfegacfjgjaghaaGreatDoor
namespace Go.Proofs.YtfegacfjgjaghaaGreatDoor
def orB (a b:List Bool):List Bool:=List.zipWith (· || ·) a b
def followB (last first:List Bool) (bh:List (List Bool)):List (List Bool):=List.zipWith (fun l b=>if l then orB b first else b) last bh
structure PartP where
 null:Bool
 first:List Bool
 last:List Bool
abbrev RuS:=List Nat×List (List Bool)
def nob (size:Nat):List Bool:=List.replicate size false
mutual
def cnt:Nd→Nat
 |.mk k _ kids=>(if k=1 then 1 else 0)+cntL kids
def cntL:List Nd→Nat
 | []=>0
 |x::r=>cnt x+cntL r
end
theorem cntL_append:∀(l m:List Nd),cntL (l++m)=cntL l+cntL m
 | [],m=>by simp[cntL]
 |x::l,m=>by simp only[List.cons_append,cntL];rw[cntL_append l m];omega
mutual
theorem cnt_sz:∀x:Nd,cnt x≤szN x
 |.mk k s kids=>by have:=cntL_sz kids;simp only[cnt,szN];split<;>omega
theorem cntL_sz:∀l:List Nd,cntL l≤szL l
 | []=>by simp[cntL,szL]
 |x::r=>by have:=cnt_sz x;have:=cntL_sz r;simp only[cntL,szL];omega
end
def catPart (p k:PartP):PartP:=⟨p.null && k.null,if p.null then orB p.first k.first else p.first,if k.null then orB p.last k.last else k.last⟩
def altPart (p k:PartP):PartP:=⟨p.null ||k.null,orB p.first k.first,orB p.last k.last⟩
mutual
def glu (size:Nat):Nd→RuS→PartP×RuS
 |.mk k s kids,st =>
  if k=1 then (⟨false,(nob size).set st.1.length true,(nob size).set st.1.length true⟩,(st.1++[s],st.2))
  else if k=2 then gluCat size kids ⟨true,nob size,nob size⟩ st
  else if k=3 then gluAlt size kids ⟨false,nob size,nob size⟩ st
  else if k=4∨k=5 then
   (⟨(gluOne size kids st).1.null ||k ==4,(gluOne size kids st).1.first,(gluOne size kids st).1.last⟩,((gluOne size kids st).2.1,followB (gluOne size kids st).1.last (gluOne size kids st).1.first (gluOne size kids st).2.2))
  else if k=6 then (⟨true,(gluOne size kids st).1.first,(gluOne size kids st).1.last⟩,(gluOne size kids st).2)
  else (⟨true,nob size,nob size⟩,st)
def gluCat (size:Nat):List Nd→PartP→RuS→PartP×RuS
 | [],p,st=>(p,st)
 |x::r,p,st=>gluCat size r (catPart p (glu size x st).1) ((glu size x st).2.1,followB p.last (glu size x st).1.first (glu size x st).2.2)
def gluAlt (size:Nat):List Nd→PartP→RuS→PartP×RuS
 | [],p,st=>(p,st)
 |x::r,p,st=>gluAlt size r (altPart p (glu size x st).1) (glu size x st).2
def gluOne (size:Nat):List Nd→RuS→PartP×RuS
 | [],st=>(⟨true,nob size,nob size⟩,st)
 |x::_,st=>glu size x st
end
structure RuP where
 sets:List Nat
 behind:List (List Bool)
 last:List Bool
def ofP (x:Nd):RuP :=
 ⟨(glu (cnt x+1) x ([0],List.replicate (cnt x+1) (nob (cnt x+1)))).2.1,
  (glu (cnt x+1) x ([0],List.replicate (cnt x+1) (nob (cnt x+1)))).2.2.set 0 (glu (cnt x+1) x ([0],List.replicate (cnt x+1) (nob (cnt x+1)))).1.first,
  (glu (cnt x+1) x ([0],List.replicate (cnt x+1) (nob (cnt x+1)))).1.last.set 0 (glu (cnt x+1) x ([0],List.replicate (cnt x+1) (nob (cnt x+1)))).1.null⟩
theorem orB_len {a b:List Bool}{n:Nat}(ha:a.length=n) (hb:b.length=n):(orB a b).length=n:=by simp[orB,ha,hb]
theorem nob_len (n:Nat):(nob n).length=n:=by simp[nob]
structure PartOk (n:Nat) (p:PartP):Prop where
 first:p.first.length=n
 last:p.last.length=n
structure RuOk (n:Nat) (st:RuS):Prop where
 rows:st.2.length=n
 each:∀b∈st.2,b.length=n
theorem follow_ok {n:Nat}{p:List Bool}{f:List Bool}{S:List Nat}{bh:List (List Bool)}(hp:p.length=n) (hf:f.length=n) (k:RuOk n (S,bh)):RuOk n (S,followB p f bh):=by
 refine⟨by have:=k.rows;simp only at this;simp[followB,hp,this],fun b hb=>?_⟩;obtain⟨i,hi⟩:=List.getElem?_of_mem hb;simp only[followB,List.getElem?_zipWith] at hi;split at hi
 · rename_i l c hl hc;have hcl:=k.each c (List.mem_of_getElem? hc);cases hi;split
   · exact orB_len hcl hf
   · exact hcl
 · cases hi
theorem catPart_ok {n:Nat}{p k:PartP}(hp:PartOk n p) (hk:PartOk n k):PartOk n (catPart p k):=by
 refine⟨?_,?_⟩<;>simp only[catPart]<;>split
 · exact orB_len hp.first hk.first
 · exact hp.first
 · exact orB_len hp.last hk.last
 · exact hk.last
theorem altPart_ok {n:Nat}{p k:PartP}(hp:PartOk n p) (hk:PartOk n k):PartOk n (altPart p k):=⟨orB_len hp.first hk.first,orB_len hp.last hk.last⟩
theorem nob_ok (n:Nat) (b:Bool):PartOk n ⟨b,nob n,nob n⟩:=⟨nob_len n,nob_len n⟩
mutual
theorem glu_ok (n:Nat):∀(x:Nd) (st:RuS),RuOk n st→PartOk n (glu n x st).1∧RuOk n (glu n x st).2∧st.1.length≤(glu n x st).2.1.length∧(wfN x=true→(glu n x st).2.1.length≤st.1.length+cnt x)
 |.mk k s kids,st,h=>by
  rw[glu];simp only[cnt];split
  · rename_i h1;exact⟨⟨by simp[nob_len],by simp[nob_len]⟩,⟨h.rows,h.each⟩,by simp,fun _=>by simp⟩
  · split
    · have k1:=gluCat_ok n kids ⟨true,nob n,nob n⟩ st (nob_ok n _) h;exact⟨k1.1,k1.2.1,k1.2.2.1,fun hw=>by have:=k1.2.2.2 (by simp only[wfN,Bool.and_eq_true] at hw;exact hw.2);omega⟩
    · split
      · have k1:=gluAlt_ok n kids ⟨false,nob n,nob n⟩ st (nob_ok n _) h;exact⟨k1.1,k1.2.1,k1.2.2.1,fun hw=>by have:=k1.2.2.2 (by simp only[wfN,Bool.and_eq_true] at hw;exact hw.2);omega⟩
      · have k1:=gluOne_ok n kids st h;split
        · exact⟨⟨k1.1.first,k1.1.last⟩,follow_ok k1.1.last k1.1.first k1.2.1,k1.2.2.1,fun hw=>by have:=k1.2.2.2 (by simp only[wfN,Bool.and_eq_true] at hw;exact hw.2);simp only;omega⟩
        · split
          · exact⟨⟨k1.1.first,k1.1.last⟩,k1.2.1,k1.2.2.1,fun hw=>by have:=k1.2.2.2 (by simp only[wfN,Bool.and_eq_true] at hw;exact hw.2);simp only;omega⟩
          · exact⟨nob_ok n _,h,Nat.le_refl _,fun _=>by simp only;omega⟩
theorem gluCat_ok (n:Nat):∀(l:List Nd) (p:PartP) (st:RuS),PartOk n p→RuOk n st→PartOk n (gluCat n l p st).1∧RuOk n (gluCat n l p st).2∧st.1.length≤(gluCat n l p st).2.1.length∧(wfL l=true→(gluCat n l p st).2.1.length≤st.1.length+cntL l)
 | [],p,st,hp,h=>by rw[gluCat];exact⟨hp,h,Nat.le_refl _,fun _=>by simp[cntL]⟩
 |x::r,p,st,hp,h=>by
  rw[gluCat];have k1:=glu_ok n x st h;have k2:=gluCat_ok n r (catPart p (glu n x st).1) ((glu n x st).2.1,followB p.last (glu n x st).1.first (glu n x st).2.2) (catPart_ok hp k1.1) (follow_ok hp.last k1.1.first k1.2.1);refine⟨k2.1,k2.2.1,Nat.le_trans k1.2.2.1 k2.2.2.1,fun hw=>?_⟩;simp only[wfL,Bool.and_eq_true] at hw;have:=k1.2.2.2 hw.1;have:=k2.2.2.2 hw.2;simp only[cntL] at *;omega
theorem gluAlt_ok (n:Nat):∀(l:List Nd) (p:PartP) (st:RuS),PartOk n p→RuOk n st→PartOk n (gluAlt n l p st).1∧RuOk n (gluAlt n l p st).2∧st.1.length≤(gluAlt n l p st).2.1.length∧(wfL l=true→(gluAlt n l p st).2.1.length≤st.1.length+cntL l)
 | [],p,st,hp,h=>by rw[gluAlt];exact⟨hp,h,Nat.le_refl _,fun _=>by simp[cntL]⟩
 |x::r,p,st,hp,h=>by
  rw[gluAlt];have k1:=glu_ok n x st h;have k2:=gluAlt_ok n r (altPart p (glu n x st).1) (glu n x st).2 (altPart_ok hp k1.1) k1.2.1;refine⟨k2.1,k2.2.1,Nat.le_trans k1.2.2.1 k2.2.2.1,fun hw=>?_⟩;simp only[wfL,Bool.and_eq_true] at hw;have:=k1.2.2.2 hw.1;have:=k2.2.2.2 hw.2;simp only[cntL] at *;omega
theorem gluOne_ok (n:Nat):∀(l:List Nd) (st:RuS),RuOk n st→PartOk n (gluOne n l st).1∧RuOk n (gluOne n l st).2∧st.1.length≤(gluOne n l st).2.1.length∧(wfL l=true→(gluOne n l st).2.1.length≤st.1.length+cntL l)
 | [],st,h=>by rw[gluOne];exact⟨nob_ok n _,h,Nat.le_refl _,fun _=>by simp[cntL]⟩
 |x::r,st,h=>by
  rw[gluOne];have k1:=glu_ok n x st h;refine⟨k1.1,k1.2.1,k1.2.2.1,fun hw=>?_⟩;simp only[wfL,Bool.and_eq_true] at hw;have:=k1.2.2.2 hw.1;simp only[cntL];omega
end
def On (l:List Bool) (i:Nat):Prop:=l[i]? =some true
theorem on_or {a b:List Bool}(h:a.length=b.length) (i:Nat):On (orB a b) i↔On a i∨On b i:=by
 unfold On orB;rw[List.getElem?_zipWith]
 by_cases hi:i<a.length
 · rw[List.getElem?_eq_getElem hi,List.getElem?_eq_getElem (by omega)];simp
 · rw[List.getElem?_eq_none (by omega),List.getElem?_eq_none (by omega)];simp
theorem on_nob (n i:Nat):¬On (nob n) i:=by
 unfold On nob;rw[List.getElem?_replicate];split<;>simp
theorem on_set {n j:Nat}(h:j<n) (i:Nat):On ((nob n).set j true) i↔i=j:=by
 by_cases e:j=i
 · subst e;unfold On;rw[List.getElem?_set_self (by rw[nob_len];exact h)];simp
 · have:On ((nob n).set j true) i↔On (nob n) i:=by unfold On;rw[List.getElem?_set_ne e]
   rw[this];exact⟨fun k=>(on_nob n i k).elim,fun k=>(e k.symm).elim⟩
def Bh (bh:List (List Bool)) (p q:Nat):Prop:=∃b,bh[p]? =some b∧On b q
theorem bh_follow {n:Nat}{l f:List Bool}{S:List Nat}{bh:List (List Bool)}(hl:l.length=n) (hf:f.length=n) (k:RuOk n (S,bh)) (p q:Nat):Bh (followB l f bh) p q↔Bh bh p q∨(On l p∧On f q):=by
 unfold Bh followB;simp only[List.getElem?_zipWith];have hr:=k.rows;simp only at hr
 by_cases hp:p<n
 · obtain⟨b,hb⟩:∃b,bh[p]? =some b:=⟨_,List.getElem?_eq_getElem (by omega)⟩
   obtain⟨c,hc⟩:∃c,l[p]? =some c:=⟨_,List.getElem?_eq_getElem (by omega)⟩
   have hbl:=k.each b (List.mem_of_getElem? hb);rw[hb,hc];cases c with
   |true=>simp[On,hc,show ∀q,((orB b f)[q]? =some true↔b[q]? =some true∨f[q]? =some true) from fun q=>on_or (by omega) q]
   |false=>simp[On,hc]
 · have h1:bh[p]? =none:=List.getElem?_eq_none (by omega);have h2:l[p]? =none:=List.getElem?_eq_none (by omega);simp[h1,h2,On]
section
variable (S:Nat→UInt8→Prop)
inductive PAcc (G:Nat→Nat→Prop) (E:Nat→Prop):Nat→By→Prop where
 |done {p:Nat}:E p→PAcc G E p []
 |go {p q:Nat}{c:UInt8}{w:By}:G p q→S q c→PAcc G E q w→PAcc G E p (c::w)
def Ent (G:Nat→Nat→Prop) (E:Nat→Prop) (F:Nat→Prop) (w:By):Prop:=∃c w',w=c::w'∧∃q,F q∧S q c∧PAcc S G E q w'
def Cont (G:Nat→Nat→Prop) (E:Nat→Prop) (N:Nat→Prop) (e:Prop) (v:By):Prop:=(v=[]∧e)∨Ent S G E N v
structure Glu (lo hi:Nat) (null:Bool) (F L:Nat→Prop) (Fol:Nat→Nat→Prop) (A:By→Prop):Prop where
 fr:∀q,F q→lo≤q∧q<hi
 lr:∀q,L q→lo≤q∧q<hi
 gr:∀p q,Fol p q→(lo≤p∧p<hi)∧lo≤q∧q<hi
 nul:null=true↔A []
 ent:∀(G:Nat→Nat→Prop) (E N:Nat→Prop) (e:Prop),(∀p q,lo≤p→p<hi→(G p q↔Fol p q∨(L p∧N q)))→(∀p,lo≤p→p<hi→(E p↔L p∧e)) →
  ∀w,Ent S G E F w↔∃u v,w=u++v∧u≠[]∧A u∧Cont S G E N e v
end
section
variable {S:Nat→UInt8→Prop}{lo mid hi:Nat}{n1 n2 null:Bool}{F F1 F2 L L1 L2:Nat→Prop}{Fol Fol1 Fol2:Nat→Nat→Prop}{A B:By→Prop}{G:Nat→Nat→Prop}{E N:Nat→Prop}{e:Prop}
theorem Ent.or {w:By}:Ent S G E (fun q=>F1 q∨F2 q) w↔Ent S G E F1 w∨Ent S G E F2 w:=by
 constructor
 · rintro⟨c,w',rfl,q,hq|hq,h⟩
   · exact .inl ⟨c,w',rfl,q,hq,h⟩
   · exact .inr ⟨c,w',rfl,q,hq,h⟩
 · rintro(⟨c,w',rfl,q,hq,h⟩|⟨c,w',rfl,q,hq,h⟩)
   · exact⟨c,w',rfl,q,.inl hq,h⟩
   · exact⟨c,w',rfl,q,.inr hq,h⟩
theorem Ent.and {P:Prop}{w:By}:Ent S G E (fun q=>P∧F q) w↔P∧Ent S G E F w:=by
 constructor
 · rintro⟨c,w',rfl,q,⟨hp,hq⟩,h⟩;exact⟨hp,c,w',rfl,q,hq,h⟩
 · rintro⟨hp,c,w',rfl,q,hq,h⟩;exact⟨c,w',rfl,q,⟨hp,hq⟩,h⟩
theorem Ent.false {w:By}:¬Ent S G E (fun _=>False) w:=by rintro⟨_,_,_,_,h,_⟩;exact h
theorem Glu.congr {F' L':Nat→Prop}{Fol':Nat→Nat→Prop}{A':By→Prop}(k:Glu S lo hi null F L Fol A) (hF:∀q,F' q↔F q) (hL:∀q,L' q↔L q) (hG:∀p q,Fol' p q↔Fol p q) (hA:∀u,A' u↔A u):Glu S lo hi null F' L' Fol' A':=by
 have e1:F'=F:=funext fun q=>propext (hF q)
 have e2:L'=L:=funext fun q=>propext (hL q)
 have e3:Fol'=Fol:=funext fun p=>funext fun q=>propext (hG p q)
 have e4:A'=A:=funext fun u=>propext (hA u)
 rw[e1,e2,e3,e4];exact k
theorem Glu.none_ (A:By→Prop) (hA:∀u,A u→u=[]) (hn:null=true↔A []):Glu S lo lo null (fun _=>False) (fun _=>False) (fun _ _=>False) A:=by
 refine⟨fun _ h=>h.elim,fun _ h=>h.elim,fun _ _ h=>h.elim,hn,fun G E N e _ _ w=>⟨fun h=>(Ent.false h).elim,?_⟩⟩;rintro⟨u,v,_,h0,hu,_⟩;exact absurd (hA u hu) h0
theorem Glu.byte:Glu S lo (lo+1) false (fun q=>q=lo) (fun q=>q=lo) (fun _ _=>False) (fun u=>∃c,u=[c]∧S lo c):=by
 refine⟨fun q h=>by omega,fun q h=>by omega,fun _ _ h=>h.elim,⟨fun h=>(by cases h),fun h=>(by obtain⟨c,h,_⟩:=h;cases h)⟩,fun G E N e hG hE w=>?_⟩;have hG:=fun q=>hG lo q (Nat.le_refl _) (by omega)
 have hE:=hE lo (Nat.le_refl _) (by omega);constructor
 · rintro⟨c,w',rfl,q,rfl,hc,hp⟩;refine⟨[c],w',rfl,by simp,⟨c,rfl,hc⟩,?_⟩;cases hp with
   |done h=>exact .inl ⟨rfl,(hE.1 h).2⟩
   |go hg hs hp =>
    rcases (hG _).1 hg with h|⟨_,h⟩
    · exact h.elim
    · exact .inr ⟨_,_,rfl,_,h,hs,hp⟩
 · rintro⟨u,v,rfl,_,⟨c,rfl,hc⟩,hv⟩;refine⟨c,v,rfl,lo,rfl,hc,?_⟩
   rcases hv with ⟨rfl,he⟩|⟨c',v',rfl,q,hq,hs,hp⟩
   · exact .done (hE.2 ⟨rfl,he⟩)
   · exact .go ((hG q).2 (.inr ⟨rfl,hq⟩)) hs hp
theorem Glu.cat (h1:Glu S lo mid n1 F1 L1 Fol1 A) (h2:Glu S mid hi n2 F2 L2 Fol2 B) (hm1:lo≤mid) (hm2:mid≤hi) :
 Glu S lo hi (n1 && n2) (fun q=>F1 q∨(n1=true∧F2 q)) (fun q=>L2 q∨(n2=true∧L1 q)) (fun p q=>Fol1 p q∨Fol2 p q∨(L1 p∧F2 q)) (fun w=>∃u v,w=u++v∧A u∧B v):=by
 refine⟨fun q h=>?_,fun q h=>?_,fun p q h=>?_,?_,fun G E N e hG hE w=>?_⟩
 · rcases h with h|⟨_,h⟩
   · have:=h1.fr q h;omega
   · have:=h2.fr q h;omega
 · rcases h with h|⟨_,h⟩
   · have:=h2.lr q h;omega
   · have:=h1.lr q h;omega
 · rcases h with h|h|⟨h,h'⟩
   · have:=h1.gr p q h;omega
   · have:=h2.gr p q h;omega
   · have:=h1.lr p h;have:=h2.fr q h';omega
 · rw[Bool.and_eq_true,h1.nul,h2.nul]
   exact⟨fun⟨a,b⟩=>⟨[],[],rfl,a,b⟩,fun⟨u,v,h,a,b⟩=>by
    have:=List.append_eq_nil_iff.1 h.symm;rw[this.1] at a;rw[this.2] at b;exact⟨a,b⟩⟩
 · have e2:=h2.ent G E N e (fun p q hp hp'=>by
    rw[hG p q (by omega) hp'];constructor
    · rintro((h|h|⟨h,_⟩)|⟨h|⟨_,h⟩,hn⟩)
      · have:=h1.gr p q h;omega
      · exact .inl h
      · have:=h1.lr p h;omega
      · exact .inr ⟨h,hn⟩
      · have:=h1.lr p h;omega
    · rintro(h|⟨h,hn⟩)
      · exact .inl (.inr (.inl h))
      · exact .inr ⟨.inl h,hn⟩) (fun p hp hp'=>by
    rw[hE p (by omega) hp'];constructor
    · rintro⟨h|⟨_,h⟩,he⟩
      · exact⟨h,he⟩
      · have:=h1.lr p h;omega
    · rintro⟨h,he⟩;exact⟨.inl h,he⟩)
   have e1:=h1.ent G E (fun q=>F2 q∨(n2=true∧N q)) (n2=true∧e) (fun p q hp hp'=>by
    rw[hG p q hp (by omega)];constructor
    · rintro((h|h|⟨h,h'⟩)|⟨h|⟨h0,h⟩,hn⟩)
      · exact .inl h
      · have:=h2.gr p q h;omega
      · exact .inr ⟨h,.inl h'⟩
      · have:=h2.lr p h;omega
      · exact .inr ⟨h,.inr ⟨h0,hn⟩⟩
    · rintro(h|⟨h,h'|⟨h0,hn⟩⟩)
      · exact .inl (.inl h)
      · exact .inl (.inr (.inr ⟨h,h'⟩))
      · exact .inr ⟨.inr ⟨h0,h⟩,hn⟩) (fun p hp hp'=>by
    rw[hE p hp (by omega)];constructor
    · rintro⟨h|⟨h0,h⟩,he⟩
      · have:=h2.lr p h;omega
      · exact⟨h,h0,he⟩
    · rintro⟨h,h0,he⟩;exact⟨.inr ⟨h0,h⟩,he⟩)
   have c1:∀v,Cont S G E (fun q=>F2 q∨(n2=true∧N q)) (n2=true∧e) v↔∃u' v',v=u'++v'∧B u'∧Cont S G E N e v':=by
    intro v;unfold Cont;rw[Ent.or,Ent.and,e2 v];constructor
    · rintro(⟨rfl,h0,he⟩|⟨u',v',rfl,_,hb,hc⟩|⟨h0,hn⟩)
      · exact⟨[],[],rfl,h2.nul.1 h0,.inl ⟨rfl,he⟩⟩
      · exact⟨u',v',rfl,hb,hc⟩
      · exact⟨[],v,rfl,h2.nul.1 h0,.inr hn⟩
    · rintro⟨u',v',rfl,hb,hc⟩
      by_cases h0:u'=[]
      · subst h0;have h0:=h2.nul.2 hb
        rcases hc with ⟨rfl,he⟩|hc
        · exact .inl ⟨rfl,h0,he⟩
        · exact .inr (.inr ⟨h0,hc⟩)
      · exact .inr (.inl ⟨u',v',rfl,h0,hb,hc⟩)
   rw[Ent.or,Ent.and,e1 w,e2 w];constructor
   · rintro(⟨u,v,rfl,h0,ha,hv⟩|⟨h0,u,v,rfl,h0',hb,hv⟩)
     · obtain⟨u',v',rfl,hb,hc⟩:=(c1 v).1 hv;exact⟨u++u',v',by simp,by simp[h0],⟨u,u',rfl,ha,hb⟩,hc⟩
     · exact⟨u,v,rfl,h0',⟨[],u,rfl,h1.nul.1 h0,hb⟩,hv⟩
   · rintro⟨_,v,rfl,h0,⟨u,u',rfl,ha,hb⟩,hv⟩
     by_cases hu:u=[]
     · subst hu;exact .inr ⟨h1.nul.2 ha,u',v,rfl,by simpa using h0,hb,hv⟩
     · exact .inl ⟨u,u'++v,by simp,hu,ha,(c1 _).2 ⟨u',v,rfl,hb,hv⟩⟩
theorem Glu.alt (h1:Glu S lo mid n1 F1 L1 Fol1 A) (h2:Glu S mid hi n2 F2 L2 Fol2 B) (hm1:lo≤mid) (hm2:mid≤hi) :
 Glu S lo hi (n1 ||n2) (fun q=>F1 q∨F2 q) (fun q=>L1 q∨L2 q) (fun p q=>Fol1 p q∨Fol2 p q) (fun w=>A w∨B w):=by
 refine⟨fun q h=>?_,fun q h=>?_,fun p q h=>?_,?_,fun G E N e hG hE w=>?_⟩
 · rcases h with h|h
   · have:=h1.fr q h;omega
   · have:=h2.fr q h;omega
 · rcases h with h|h
   · have:=h1.lr q h;omega
   · have:=h2.lr q h;omega
 · rcases h with h|h
   · have:=h1.gr p q h;omega
   · have:=h2.gr p q h;omega
 · rw[Bool.or_eq_true,h1.nul,h2.nul]
 · have e2:=h2.ent G E N e (fun p q hp hp'=>by
    rw[hG p q (by omega) hp'];constructor
    · rintro((h|h)|⟨h|h,hn⟩)
      · have:=h1.gr p q h;omega
      · exact .inl h
      · have:=h1.lr p h;omega
      · exact .inr ⟨h,hn⟩
    · rintro(h|⟨h,hn⟩)
      · exact .inl (.inr h)
      · exact .inr ⟨.inr h,hn⟩) (fun p hp hp'=>by
    rw[hE p (by omega) hp'];constructor
    · rintro⟨h|h,he⟩
      · have:=h1.lr p h;omega
      · exact⟨h,he⟩
    · rintro⟨h,he⟩;exact⟨.inr h,he⟩)
   have e1:=h1.ent G E N e (fun p q hp hp'=>by
    rw[hG p q hp (by omega)];constructor
    · rintro((h|h)|⟨h|h,hn⟩)
      · exact .inl h
      · have:=h2.gr p q h;omega
      · exact .inr ⟨h,hn⟩
      · have:=h2.lr p h;omega
    · rintro(h|⟨h,hn⟩)
      · exact .inl (.inl h)
      · exact .inr ⟨.inl h,hn⟩) (fun p hp hp'=>by
    rw[hE p hp (by omega)];constructor
    · rintro⟨h|h,he⟩
      · exact⟨h,he⟩
      · have:=h2.lr p h;omega
    · rintro⟨h,he⟩;exact⟨.inl h,he⟩)
   rw[Ent.or,e1 w,e2 w];constructor
   · rintro(⟨u,v,a,b,c,d⟩|⟨u,v,a,b,c,d⟩)
     · exact⟨u,v,a,b,.inl c,d⟩
     · exact⟨u,v,a,b,.inr c,d⟩
   · rintro⟨u,v,a,b,c|c,d⟩
     · exact .inl ⟨u,v,a,b,c,d⟩
     · exact .inr ⟨u,v,a,b,c,d⟩
theorem StarL.open {A:By→Prop}{u:By}(h:StarL A u) (h0:u≠[]):∃a b,u=a++b∧a≠[]∧A a∧StarL A b:=by
 induction h with
 |nil=>exact absurd rfl h0
 | @cons a b ha hb ih =>
  by_cases e:a=[]
  · subst e;exact ih (by simpa using h0)
  · exact⟨a,b,rfl,e,ha,hb⟩
theorem Glu.starEnt (h:Glu S lo hi null F L Fol A){G:Nat→Nat→Prop}{E N:Nat→Prop}{e:Prop}(hG:∀p q,lo≤p→p<hi→(G p q↔(Fol p q∨(L p∧F q))∨(L p∧N q))) (hE:∀p,lo≤p→p<hi→(E p↔L p∧e)) (w:By) :
 Ent S G E F w↔∃u v,w=u++v∧u≠[]∧StarL A u∧Cont S G E N e v:=by
 have e1:=h.ent G E (fun q=>F q∨N q) e (fun p q hp hp'=>by
  rw[hG p q hp hp'];constructor
  · rintro((h|⟨h,h'⟩)|⟨h,h'⟩)
    · exact .inl h
    · exact .inr ⟨h,.inl h'⟩
    · exact .inr ⟨h,.inr h'⟩
  · rintro(h|⟨h,h'|h'⟩)
    · exact .inl (.inl h)
    · exact .inl (.inr ⟨h,h'⟩)
    · exact .inr ⟨h,h'⟩) hE
 have c1:∀v,Cont S G E (fun q=>F q∨N q) e v↔Cont S G E N e v∨Ent S G E F v:=fun v=>by
  unfold Cont;rw[Ent.or];constructor
  · rintro(h|h|h)
    · exact .inl (.inl h)
    · exact .inr h
    · exact .inl (.inr h)
  · rintro((h|h)|h)
    · exact .inl h
    · exact .inr (.inr h)
    · exact .inr (.inl h)
 generalize hn:w.length=n
 induction n using Nat.strongRecOn generalizing w with
 |_ n ih =>
  constructor
  · intro hw;obtain⟨u,v,rfl,h0,ha,hv⟩:=(e1 w).1 hw;have hul:0<u.length:=List.length_pos_iff.2 h0
    rcases (c1 v).1 hv with hv|hv
    · exact⟨u,v,rfl,h0,by simpa using StarL.cons ha .nil,hv⟩
    · obtain⟨u',v',rfl,_,hs,hc⟩:=(ih v.length (by rw[←hn];simp;omega) v rfl).1 hv;exact⟨u++u',v',by simp,by simp[h0],.cons ha hs,hc⟩
  · rintro⟨u,v,rfl,h0,hs,hc⟩;obtain⟨a,b,rfl,ha0,ha,hb⟩:=hs.open h0;have hal:0<a.length:=List.length_pos_iff.2 ha0;refine(e1 _).2 ⟨a,b++v,by simp,ha0,ha,(c1 _).2 ?_⟩
    by_cases hb0:b=[]
    · subst hb0;exact .inl hc
    · exact .inr ((ih (b++v).length (by rw[←hn];simp;omega) _ rfl).2 ⟨b,v,rfl,hb0,hb,hc⟩)
theorem Glu.star (h:Glu S lo hi null F L Fol A) (null':Bool) (hn:null'=true):Glu S lo hi null' F L (fun p q=>Fol p q∨(L p∧F q)) (StarL A):=by
 refine⟨h.fr,h.lr,fun p q k=>?_,by simp[hn,StarL.nil],fun G E N e hG hE w=>h.starEnt hG hE w⟩
 rcases k with k|⟨k,k'⟩
 · exact h.gr p q k
 · exact⟨h.lr p k,h.fr q k'⟩
theorem plus_star {A:By→Prop}{w:By}(h0:w≠[]):(∃u v,w=u++v∧A u∧StarL A v)↔StarL A w:=by
 constructor
 · rintro⟨u,v,rfl,ha,hs⟩;exact .cons ha hs
 · intro h;obtain⟨a,b,rfl,_,ha,hb⟩:=h.open h0;exact⟨a,b,rfl,ha,hb⟩
theorem plus_nil {A:By→Prop}:(∃u v,([]:By)=u++v∧A u∧StarL A v)↔A []:=by
 constructor
 · rintro⟨u,v,h,ha,_⟩;rw[(List.append_eq_nil_iff.1 h.symm).1] at ha;exact ha
 · intro h;exact⟨[],[],rfl,h,.nil⟩
theorem Glu.plus (h:Glu S lo hi null F L Fol A):Glu S lo hi null F L (fun p q=>Fol p q∨(L p∧F q)) (fun w=>∃u v,w=u++v∧A u∧StarL A v):=by
 have k:=h.star true rfl;refine⟨k.fr,k.lr,k.gr,by rw[h.nul];exact plus_nil.symm,fun G E N e hG hE w=>?_⟩;rw[k.ent G E N e hG hE w];constructor
 · rintro⟨u,v,a,b,c,d⟩;exact⟨u,v,a,b,(plus_star b).2 c,d⟩
 · rintro⟨u,v,a,b,c,d⟩;exact⟨u,v,a,b,(plus_star b).1 c,d⟩
theorem Glu.opt (h:Glu S lo hi null F L Fol A):Glu S lo hi true F L Fol (fun w=>w=[]∨A w):=by
 refine⟨h.fr,h.lr,h.gr,by simp,fun G E N e hG hE w=>?_⟩;rw[h.ent G E N e hG hE w];constructor
 · rintro⟨u,v,a,b,c,d⟩;exact⟨u,v,a,b,.inr c,d⟩
 · rintro⟨u,v,a,b,c|c,d⟩
   · exact absurd c b
   · exact⟨u,v,a,b,c,d⟩
end
end Go.Proofs.YtfegacfjgjaghaaGreatDoor
